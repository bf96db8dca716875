/- The plain mathematics of the off-side rule: line starts, levels, the tokens with layout tokens. No program in sight; conditions: none. -/
namespace Go.Proofs.Lay
abbrev Bs := List UInt8
structure T where
  kind : Int
  at_ : Int
  text : Bs
  look : Int
deriving DecidableEq
/-- the start of the line of an offset -/
def start (s : Bs) : Nat → Nat
  | 0 => 0
  | k + 1 => if s[k]? = some 10 then k + 1 else start s k
theorem start_le (s : Bs) : ∀ k, start s k ≤ k
  | 0 => Nat.le_refl _
  | k + 1 => by
    unfold start; split
    · exact Nat.le_refl _
    · exact Nat.le_succ_of_le (start_le s k)
theorem start_congr {s s' : Bs} : ∀ k, (∀ i, i < k → s'[i]? = s[i]?) → start s' k = start s k
  | 0, _ => rfl
  | k + 1, h => by
    unfold start
    rw [h k (Nat.lt_succ_self _), start_congr k (fun i hi => h i (Nat.lt_succ_of_lt hi))]
theorem start_take (s : Bs) (k : Nat) : start (s.take k) k = start s k := start_congr k fun i hi => by rw [List.getElem?_take, if_pos hi]
theorem start_start (s : Bs) : ∀ k, start s (start s k) = start s k
  | 0 => rfl
  | k + 1 => by
    by_cases h : s[k]? = some 10
    · rw [show start s (k + 1) = k + 1 by unfold start; rw [if_pos h]]
      unfold start; rw [if_pos h]
    · rw [show start s (k + 1) = start s k by rw [start]; rw [if_neg h]]
      exact start_start s k
theorem start_mono (s : Bs) : ∀ k i, i ≤ k → start s i ≤ start s k
  | 0, i, h => by have : i = 0 := by omega
                  subst this; exact Nat.le_refl _
  | k + 1, i, h => by
    by_cases hi : i = k + 1
    · subst hi; exact Nat.le_refl _
    · have h1 := start_mono s k i (by omega)
      have h2 := start_le s i
      rw [show start s (k + 1) = if s[k]? = some 10 then k + 1 else start s k by rw [start]]
      split <;> omega
def top (lv : List Nat) : Nat := lv.headD 0
/-- how many levels a line of depth d closes -/
def pops (d : Nat) : List Nat → Nat
  | [] => 0
  | _ :: lv => if d ≤ top lv then pops d lv + 1 else 0
theorem pops_le (d : Nat) : ∀ lv, pops d lv ≤ lv.length
  | [] => Nat.le_refl _
  | _ :: lv => by
    have := pops_le d lv
    unfold pops; split <;> simp <;> omega
def tok (k : Int) (p : Nat) : T := ⟨k, p, [], 0⟩
def lineT (defs : Int) (p d : Nat) (first : Bool) (lv : List Nat) : List T :=
  if top lv < d then [tok (defs + 1) p] else (if first then [] else [tok defs p]) ++ List.replicate (pops d lv) (tok (defs + 2) p)
def lineL (d : Nat) (lv : List Nat) : List Nat := if top lv < d then d :: lv else lv.drop (pops d lv)
structure S where
  out : List T
  lv : List Nat
  last : Option Nat
def ins (s : Bs) (defs : Int) (r : S) (t : T) : List T :=
  if r.last = some (start s t.at_.toNat) then [] else lineT defs t.at_.toNat (t.at_.toNat - start s t.at_.toNat) r.last.isNone r.lv
def step (s : Bs) (defs : Int) (r : S) (t : T) : S :=
  if r.last = some (start s t.at_.toNat) then ⟨r.out ++ [t], r.lv, r.last⟩
  else ⟨r.out ++ lineT defs t.at_.toNat (t.at_.toNat - start s t.at_.toNat) r.last.isNone r.lv ++ [t], lineL (t.at_.toNat - start s t.at_.toNat) r.lv, some (start s t.at_.toNat)⟩
def run (s : Bs) (defs : Int) (l : List T) : S := l.foldl (step s defs) ⟨[], [], none⟩
def app (l : List T) (s : Bs) (defs : Int) : List T :=
  if l = [] then [] else (run s defs l).out ++ tok defs s.length :: List.replicate (run s defs l).lv.length (tok (defs + 2) s.length)
theorem run_snoc (s : Bs) (defs : Int) (l : List T) (t : T) : run s defs (l ++ [t]) = step s defs (run s defs l) t := by simp [run]
theorem run_nil (s : Bs) (defs : Int) : run s defs [] = ⟨[], [], none⟩ := rfl
theorem run_take (s : Bs) (defs : Int) (l : List T) (i : Nat) (t : T) (h : l[i]? = some t) : run s defs (l.take (i + 1)) = step s defs (run s defs (l.take i)) t := by
  rw [← run_snoc]; congr 1
  rw [List.take_add_one, h]; rfl
theorem step_out (s : Bs) (defs : Int) (r : S) (t : T) : (step s defs r t).out = r.out ++ ins s defs r t ++ [t] := by
  unfold step ins; split <;> simp
theorem step_last (s : Bs) (defs : Int) (r : S) (t : T) : (step s defs r t).last = some (start s t.at_.toNat) := by
  unfold step; split
  · assumption
  · rfl
theorem snoc_ind {P : List T → Prop} (nil : P []) (snoc : ∀ l t, P l → P (l ++ [t])) (l : List T) : P l := by
  have : ∀ n (l : List T), l.length = n → P l := by
    intro n
    induction n with
    | zero => intro l hl; rw [List.eq_nil_of_length_eq_zero hl]; exact nil
    | succ n ih =>
      intro l hl
      have hne : l ≠ [] := fun e => by rw [e] at hl; simp at hl
      rw [← List.dropLast_concat_getLast hne]
      exact snoc _ _ (ih _ (by rw [List.length_dropLast]; omega))
  exact this _ l rfl
theorem run_last (s : Bs) (defs : Int) (l : List T) : (run s defs l).last = l.getLast?.map (fun t => start s t.at_.toNat) := by
  induction l using snoc_ind with
  | nil => rfl
  | snoc l t _ => rw [run_snoc, step_last]; simp
/-- what stands in front of a token of another line than the one before -/
theorem ins_cases (s : Bs) (defs : Int) (r : S) (t : T) : (r.last = some (start s t.at_.toNat) ∧ ins s defs r t = []) ∨
    (r.last ≠ some (start s t.at_.toNat) ∧ ∃ x k, (x.kind = defs ∨ x.kind = defs + 1) ∧ x.at_ = (t.at_.toNat : Int) ∧ (ins s defs r t = x :: List.replicate k (tok (defs + 2) t.at_.toNat) ∨ (r.last = none ∧ ins s defs r t = List.replicate k (tok (defs + 2) t.at_.toNat)))) := by
  by_cases h : r.last = some (start s t.at_.toNat)
  · exact .inl ⟨h, by unfold ins; rw [if_pos h]⟩
  · refine .inr ⟨h, ?_⟩
    unfold ins lineT; rw [if_neg h]
    split
    · exact ⟨tok (defs + 1) t.at_.toNat, 0, .inr rfl, rfl, .inl rfl⟩
    · cases hl : r.last with
      | none => exact ⟨tok defs t.at_.toNat, pops (t.at_.toNat - start s t.at_.toNat) r.lv, .inl rfl, rfl, .inr ⟨rfl, by simp⟩⟩
      | some z => exact ⟨tok defs t.at_.toNat, pops (t.at_.toNat - start s t.at_.toNat) r.lv, .inl rfl, rfl, .inl (by simp)⟩
theorem ins_kind (s : Bs) (defs : Int) (r : S) (t x : T) (h : x ∈ ins s defs r t) : defs ≤ x.kind ∧ x.at_ = (t.at_.toNat : Int) := by
  rcases ins_cases s defs r t with ⟨_, h1⟩ | ⟨_, y, k, h1, h2, h3 | ⟨_, h3⟩⟩
  · rw [h1] at h; cases h
  · rw [h3] at h
    rcases List.mem_cons.1 h with rfl | h
    · exact ⟨by omega, h2⟩
    · rw [(List.mem_replicate.1 h).2]; exact ⟨by simp [tok]; omega, rfl⟩
  · rw [h3] at h
    rw [(List.mem_replicate.1 h).2]; exact ⟨by simp [tok]; omega, rfl⟩
/- stripping -/
def strip (defs : Int) (l : List T) : List T := l.filter fun t => decide (t.kind < defs)
theorem strip_append (defs : Int) (a b : List T) : strip defs (a ++ b) = strip defs a ++ strip defs b := by simp [strip]
theorem strip_none (defs : Int) (l : List T) (h : ∀ x, x ∈ l → defs ≤ x.kind) : strip defs l = [] := by
  unfold strip; rw [List.filter_eq_nil_iff]
  intro x hx; have := h x hx; simp; omega
def Plain (defs : Int) (l : List T) : Prop := ∀ x, x ∈ l → x.kind < defs
theorem strip_run (s : Bs) (defs : Int) (l : List T) : Plain defs l → strip defs (run s defs l).out = l := by
  induction l using snoc_ind with
  | nil => exact fun _ => rfl
  | snoc l t ih =>
  intro h
  rw [run_snoc, step_out, strip_append, strip_append, ih (fun x hx => h x (by simp [hx])), strip_none _ _ (fun x hx => (ins_kind _ _ _ _ _ hx).1)]
  have := h t (by simp)
  simp [strip, this]
theorem strip_app (l : List T) (s : Bs) (defs : Int) (h : Plain defs l) : strip defs (app l s defs) = l := by
  unfold app; split
  · rename_i h0; subst h0; rfl
  · rw [strip_append, strip_run s defs l h, strip_none, List.append_nil]
    intro x hx
    rcases List.mem_cons.1 hx with rfl | hx
    · simp [tok]
    · rw [(List.mem_replicate.1 hx).2]; simp [tok]; omega
/- balance -/
def move (defs : Int) (n : Int) (t : T) : Int := if t.kind = defs + 1 then n + 1 else if t.kind = defs + 2 then n - 1 else n
def bal (defs : Int) : Int → List T → Bool
  | n, [] => decide (n = 0)
  | n, t :: l => if move defs n t < 0 then false else bal defs (move defs n t) l
theorem bal_other (defs : Int) (n : Int) (hn : 0 ≤ n) (l r : List T) (h : ∀ x, x ∈ l → x.kind ≠ defs + 1 ∧ x.kind ≠ defs + 2) : bal defs n (l ++ r) = bal defs n r := by
  induction l with
  | nil => rfl
  | cons x l ih =>
    obtain ⟨h1, h2⟩ := h x (by simp)
    have hm : move defs n x = n := by unfold move; rw [if_neg h1, if_neg h2]
    rw [List.cons_append, bal, hm, if_neg (by omega)]
    exact ih fun y hy => h y (by simp [hy])
theorem bal_in (defs : Int) (n : Int) (hn : 0 ≤ n) (p : Nat) (r : List T) : bal defs n (tok (defs + 1) p :: r) = bal defs (n + 1) r := by
  have hm : move defs n (tok (defs + 1) p) = n + 1 := by unfold move tok; simp
  rw [bal, hm, if_neg (by omega)]
theorem bal_out (defs : Int) (p : Nat) : ∀ (k : Nat) (n : Int) (r : List T), (k : Int) ≤ n → bal defs n (List.replicate k (tok (defs + 2) p) ++ r) = bal defs (n - k) r
  | 0, n, r, _ => by simp
  | k + 1, n, r, h => by
    have hm : move defs n (tok (defs + 2) p) = n - 1 := by unfold move tok; simp only; rw [if_neg (by omega), if_pos trivial]
    rw [List.replicate_succ, List.cons_append, bal, hm, if_neg (by omega), bal_out defs p k (n - 1) r (by omega)]
    congr 1; omega
theorem bal_line (defs : Int) (p d : Nat) (first : Bool) (lv : List Nat) (r : List T) : bal defs lv.length (lineT defs p d first lv ++ r) = bal defs (lineL d lv).length r := by
  unfold lineT lineL
  split
  · rw [List.cons_append, bal_in _ _ (by omega)]; simp
  · rw [List.append_assoc, bal_other _ _ (by omega), bal_out]
    · congr 1; have := pops_le d lv; simp only [List.length_drop]; omega
    · have := pops_le d lv; omega
    · intro x hx
      cases first
      · simp at hx; subst hx; simp [tok]; omega
      · simp at hx
theorem bal_run (s : Bs) (defs : Int) (l : List T) : Plain defs l → ∀ r, bal defs 0 ((run s defs l).out ++ r) = bal defs (run s defs l).lv.length r := by
  induction l using snoc_ind with
  | nil => exact fun _ r => rfl
  | snoc l t ih =>
  intro h r
  have ht := h t (by simp)
  have hone : ∀ n : Nat, bal defs n ([t] ++ r) = bal defs n r := fun n => bal_other _ _ (by omega) _ _ (fun x hx => by simp at hx; subst hx; omega)
  rw [run_snoc]
  unfold step
  split
  · simp only [List.append_assoc]; rw [ih (fun x hx => h x (by simp [hx])), hone]
  · simp only [List.append_assoc]; rw [ih (fun x hx => h x (by simp [hx])), bal_line, hone]
theorem bal_app (l : List T) (s : Bs) (defs : Int) (h : Plain defs l) : bal defs 0 (app l s defs) = true := by
  unfold app; split
  · rfl
  · rw [bal_run s defs l h, show ∀ (x : T) (y : List T), x :: y = [x] ++ y from fun _ _ => rfl, bal_other _ _ (by omega) _ _ (fun x hx => by simp at hx; subst hx; simp [tok]; omega)]
    have := bal_out defs s.length (run s defs l).lv.length (run s defs l).lv.length [] (by omega)
    rw [List.append_nil] at this
    rw [this, bal]; simp
/- prefixes -/
theorem run_prefix (s : Bs) (defs : Int) (l m : List T) : ∃ r, (run s defs (l ++ m)).out = (run s defs l).out ++ r := by
  induction m using snoc_ind with
  | nil => exact ⟨[], by simp⟩
  | snoc m t ih =>
  obtain ⟨r, hr⟩ := ih
  rw [← List.append_assoc, run_snoc, step_out, hr]
  exact ⟨r ++ ins s defs (run s defs (l ++ m)) t ++ [t], by simp⟩
theorem app_prefix (s : Bs) (defs : Int) (l : List T) (i : Nat) : ∃ r, app l s defs = (run s defs (l.take i)).out ++ r := by
  unfold app; split
  · rename_i h; subst h; exact ⟨[], by simp [run]⟩
  · obtain ⟨r, hr⟩ := run_prefix s defs (l.take i) (l.drop i)
    rw [List.take_append_drop] at hr
    exact ⟨_, by rw [hr, List.append_assoc]⟩
/-- where the tokens in front of token i begin -/
def pos (s : Bs) (defs : Int) (l : List T) (i : Nat) : Nat := (run s defs (l.take i)).out.length
/-- token i stands behind its layout tokens -/
theorem app_at (s : Bs) (defs : Int) (l : List T) (i : Nat) (t : T) (h : l[i]? = some t) :
    ∃ r, app l s defs = (run s defs (l.take i)).out ++ (ins s defs (run s defs (l.take i)) t ++ t :: r) ∧ pos s defs l (i + 1) = pos s defs l i + (ins s defs (run s defs (l.take i)) t).length + 1 := by
  obtain ⟨r, hr⟩ := app_prefix s defs l (i + 1)
  rw [run_take s defs l i t h, step_out] at hr
  refine ⟨r, by rw [hr]; simp, ?_⟩
  unfold pos
  rw [run_take s defs l i t h, step_out]; simp; omega
/- an empty line more -/
def up (a k : Nat) : Nat := if a ≤ k then k + 1 else k
theorem up_inj {a i j : Nat} (h : up a i = up a j) : i = j := by unfold up at h; split at h <;> split at h <;> omega
def lined (s : Bs) (a : Nat) : Bs := s.take a ++ 10 :: s.drop a
theorem lined_low {s : Bs} {a i : Nat} (ha : a ≤ s.length) (h : i < a) : (lined s a)[i]? = s[i]? := by
  unfold lined; rw [List.getElem?_append_left (by simp; omega), List.getElem?_take, if_pos h]
theorem lined_mid {s : Bs} {a : Nat} (ha : a ≤ s.length) : (lined s a)[a]? = some 10 := by
  unfold lined; rw [List.getElem?_append_right (by simp; omega)]; simp [Nat.min_eq_left ha]
theorem lined_high {s : Bs} {a i : Nat} (ha : a ≤ s.length) (h : a ≤ i) : (lined s a)[i + 1]? = s[i]? := by
  unfold lined; rw [List.getElem?_append_right (by simp; omega)]
  simp only [List.length_take, Nat.min_eq_left ha]
  rw [show i + 1 - a = (i - a) + 1 by omega, List.getElem?_cons_succ, List.getElem?_drop, show a + (i - a) = i by omega]
theorem start_lined {s : Bs} {a : Nat} (ha : a ≤ s.length) (hs : start s a = a) : ∀ k, start (lined s a) (up a k) = up a (start s k) := by
  intro k
  by_cases h : a ≤ k
  · have hm := start_mono s k a h
    rw [show up a k = k + 1 by unfold up; rw [if_pos h], show up a (start s k) = start s k + 1 by unfold up; rw [if_pos (by omega)]]
    induction k with
    | zero =>
      have : a = 0 := by omega
      subst this
      show start (lined s 0) (0 + 1) = _
      unfold start; rw [if_pos (lined_mid ha)]
    | succ k ih =>
      by_cases hk : a = k + 1
      · subst hk
        rw [start, if_pos (lined_mid ha), hs]
      · have hak : a ≤ k := by omega
        rw [start, lined_high ha hak]
        by_cases hn : s[k]? = some 10
        · rw [if_pos hn, start, if_pos hn]
        · rw [if_neg hn, show start s (k + 1) = start s k by rw [start]; rw [if_neg hn]]
          exact ih hak (by have := start_mono s k a hak; omega)
  · have hl := start_le s k
    rw [show up a k = k by unfold up; rw [if_neg h], show up a (start s k) = start s k by unfold up; rw [if_neg (by omega)]]
    exact start_congr k fun i hi => lined_low ha (by omega)
def moved (a : Nat) (t : T) : T := ⟨t.kind, up a t.at_.toNat, t.text, t.look⟩
def kinds (l : List T) : List Int := l.map (·.kind)
theorem kinds_line (defs : Int) (p p' d : Nat) (f : Bool) (lv : List Nat) : kinds (lineT defs p d f lv) = kinds (lineT defs p' d f lv) := by
  unfold lineT kinds tok; split
  · rfl
  · cases f <;> simp
theorem depth_up {s : Bs} {a : Nat} (hs : start s a = a) (k : Nat) : up a k - up a (start s k) = k - start s k := by
  have hl := start_le s k
  by_cases h : a ≤ k
  · have hm := start_mono s k a h
    unfold up; rw [if_pos h, if_pos (by omega)]; omega
  · unfold up; rw [if_neg h, if_neg (by omega)]
theorem run_lined {s : Bs} {a : Nat} (ha : a ≤ s.length) (hs : start s a = a) (defs : Int) (l : List T) :
    kinds (run (lined s a) defs (l.map (moved a))).out = kinds (run s defs l).out ∧ (run (lined s a) defs (l.map (moved a))).lv = (run s defs l).lv ∧ (run (lined s a) defs (l.map (moved a))).last = (run s defs l).last.map (up a) := by
  induction l using snoc_ind with
  | nil => exact ⟨rfl, rfl, rfl⟩
  | snoc l t ih =>
  obtain ⟨h1, h2, h3⟩ := ih
  have e1 : (moved a t).at_.toNat = up a t.at_.toNat := by simp [moved]
  rw [List.map_append, List.map_cons, List.map_nil, run_snoc, run_snoc]
  refine ⟨?_, ?_, by rw [step_last, step_last, e1, start_lined ha hs]; rfl⟩
  · rw [step_out, step_out]
    unfold kinds at *
    rw [List.map_append, List.map_append, List.map_append, List.map_append, h1]
    have key : ∀ (A B C D E : List Int), B = D → C = E → A ++ B ++ C = A ++ D ++ E := fun A B C D E h1 h2 => by rw [h1, h2]
    refine key _ _ _ _ _ ?_ rfl
    unfold ins
    rw [e1, start_lined ha hs, h2, h3, depth_up hs]
    cases hl : (run s defs l).last with
    | none => simp only [Option.map_none, reduceCtorEq, if_false]; exact kinds_line _ _ _ _ _ _
    | some z =>
      simp only [Option.map_some, Option.some.injEq]
      by_cases hz : z = start s t.at_.toNat
      · rw [if_pos (by rw [hz]), if_pos hz]
      · rw [if_neg (fun h => hz (up_inj h)), if_neg hz]; exact kinds_line _ _ _ _ _ _
  · unfold step
    rw [e1, start_lined ha hs, h2, h3, depth_up hs]
    cases hl : (run s defs l).last with
    | none => simp
    | some z =>
      simp only [Option.map_some, Option.some.injEq]
      by_cases hz : z = start s t.at_.toNat
      · rw [if_pos (by rw [hz]), if_pos hz]
      · rw [if_neg (fun h => hz (up_inj h)), if_neg hz]
theorem app_lined {s : Bs} {a : Nat} (ha : a ≤ s.length) (hs : start s a = a) (defs : Int) (l : List T) : kinds (app (l.map (moved a)) (lined s a) defs) = kinds (app l s defs) := by
  obtain ⟨h1, h2, _⟩ := run_lined ha hs defs l
  unfold app
  by_cases h : l = []
  · subst h; rfl
  · rw [if_neg h, if_neg (by simpa using h)]
    unfold kinds at *
    rw [List.map_append, List.map_append, h1, h2]
    simp [tok]
/- bounds, and what the loops look at -/
theorem line_len (defs : Int) (p d : Nat) (f : Bool) (lv : List Nat) : (lineT defs p d f lv).length + (lineL d lv).length ≤ lv.length + 2 := by
  have h := pops_le d lv
  unfold lineT lineL
  split
  · simp; omega
  · cases f <;> simp <;> omega
theorem run_len (s : Bs) (defs : Int) (l : List T) : (run s defs l).out.length + (run s defs l).lv.length ≤ 3 * l.length := by
  induction l using snoc_ind with
  | nil => simp [run]
  | snoc l t ih =>
    rw [run_snoc]
    unfold step
    split
    · simp; omega
    · have := line_len defs t.at_.toNat (t.at_.toNat - start s t.at_.toNat) (run s defs l).last.isNone (run s defs l).lv
      simp only [List.length_append, List.length_cons, List.length_nil]; omega
theorem run_take_len (s : Bs) (defs : Int) (l : List T) (i : Nat) : (run s defs (l.take i)).out.length + (run s defs (l.take i)).lv.length ≤ 3 * i := by
  have := run_len s defs (l.take i)
  have h2 : (l.take i).length ≤ i := by simp; omega
  omega
theorem app_len (l : List T) (s : Bs) (defs : Int) : (app l s defs).length ≤ 3 * l.length + 1 := by
  have := run_len s defs l
  unfold app; split
  · simp
  · simp; omega
theorem pops_more (d : Nat) : ∀ (lv : List Nat) (q : Nat), q ≤ pops d lv → (q < pops d lv ↔ 0 < (lv.drop q).length ∧ d ≤ top (lv.drop (q + 1)))
  | [], q, h => by simp [pops] at h ⊢
  | x :: lv, 0, _ => by
    simp only [pops, List.drop_zero, List.length_cons, Nat.zero_add, List.drop_succ_cons]
    split <;> simp <;> omega
  | x :: lv, q + 1, h => by
    simp only [pops] at h ⊢
    split at h
    · rename_i hc
      rw [if_pos hc]
      simp only [List.drop_succ_cons]
      have := pops_more d lv q (by omega)
      omega
    · omega
theorem last_top (lv : List Nat) (h : 0 < lv.length) : lv.reverse[lv.reverse.length - 1]? = some (top lv) := by
  cases lv with
  | nil => simp at h
  | cons x lv => simp [top]
theorem last_second (lv : List Nat) (h : 2 ≤ lv.length) : lv.reverse[lv.reverse.length - 2]? = some (top (lv.drop 1)) := by
  match lv, h with
  | x :: y :: lv, _ =>
    simp only [List.reverse_cons, List.append_assoc, List.length_append, List.length_cons, List.length_nil, List.length_reverse, List.drop_succ_cons, List.drop_zero, top, List.headD_cons]
    rw [List.getElem?_append_right (by simp)]
    simp
theorem top_nil : top [] = 0 := rfl
theorem top_short (lv : List Nat) (h : lv.length < 2) : top (lv.drop 1) = 0 := by
  rw [List.drop_of_length_le (by omega)]; rfl
theorem cut_rev (lv : List Nat) : lv.reverse.take (lv.reverse.length - 1) = (lv.drop 1).reverse := by
  cases lv with
  | nil => rfl
  | cons x lv => simp
theorem run_none (s : Bs) (defs : Int) (l : List T) (i : Nat) (hi : i ≤ l.length) : (run s defs (l.take i)).last.isNone = decide (i = 0) := by
  rw [run_last]
  cases i with
  | zero => simp
  | succ i =>
    have : (l.take (i + 1)).getLast? ≠ none := by
      rw [Ne, List.getLast?_eq_none_iff]
      intro e
      have := congrArg List.length e
      rw [List.length_take, List.length_nil] at this; omega
    cases h : (l.take (i + 1)).getLast? with
    | none => exact absurd h this
    | some x => simp
theorem run_prev (s : Bs) (defs : Int) (l : List T) (i : Nat) (t : T) (h : l[i]? = some t) : (run s defs (l.take (i + 1))).last = some (start s t.at_.toNat) := by
  rw [run_take s defs l i t h, step_last]
def lastV : Option Nat → Int
  | none => -1
  | some k => k
theorem lastV_ne (o : Option Nat) (k : Nat) : ((k : Int) ≠ lastV o) ↔ ¬ o = some k := by
  cases o with
  | none => simp only [lastV, reduceCtorEq, not_false_eq_true, iff_true]; omega
  | some j => simp only [lastV, Option.some.injEq]; omega
theorem step_same {s : Bs} {defs : Int} {r : S} {t : T} (h : r.last = some (start s t.at_.toNat)) : step s defs r t = ⟨r.out ++ [t], r.lv, r.last⟩ := by unfold step; rw [if_pos h]
theorem step_other {s : Bs} {defs : Int} {r : S} {t : T} (h : ¬ r.last = some (start s t.at_.toNat)) : step s defs r t = ⟨r.out ++ lineT defs t.at_.toNat (t.at_.toNat - start s t.at_.toNat) r.last.isNone r.lv ++ [t], lineL (t.at_.toNat - start s t.at_.toNat) r.lv, some (start s t.at_.toNat)⟩ := by unfold step; rw [if_neg h]
/- which calls may be made -/
def fair (n : Nat) : Int → List T → Bool
  | _, [] => true
  | lo, t :: l => if t.at_ < lo ∨ (n : Int) < t.at_ then false else fair n t.at_ l
def fairB (l : List T) (s : Bs) (defs : Int) : Bool := if 60 < l.length ∨ 300 < s.length ∨ defs < 0 ∨ 1000 < defs then false else fair s.length 0 l
theorem fair_spec (n : Nat) : ∀ (l : List T) (lo : Int), fair n lo l = true → ∀ t, t ∈ l → lo ≤ t.at_ ∧ t.at_ ≤ n
  | [], _, _, t, h => absurd h List.not_mem_nil
  | x :: l, lo, h, t, ht => by
    unfold fair at h
    split at h
    · cases h
    · rename_i hc
      rcases List.mem_cons.1 ht with rfl | ht
      · omega
      · have := fair_spec n l x.at_ h t ht
        omega
structure Fair (l : List T) (s : Bs) (defs : Int) : Prop where
  len : l.length ≤ 60
  slen : s.length ≤ 300
  d0 : 0 ≤ defs
  d1 : defs ≤ 1000
  at_ : ∀ t, t ∈ l → 0 ≤ t.at_ ∧ t.at_ ≤ s.length
theorem fairB_spec {l : List T} {s : Bs} {defs : Int} (h : fairB l s defs = true) : Fair l s defs := by
  unfold fairB at h
  split at h
  · cases h
  · exact ⟨by omega, by omega, by omega, by omega, fair_spec _ l 0 h⟩
def plainB (defs : Int) (l : List T) : Bool := l.all fun t => decide (t.kind < defs)
theorem plainB_spec {defs : Int} {l : List T} : plainB defs l = true ↔ Plain defs l := by
  unfold plainB Plain; rw [List.all_eq_true]; simp
theorem ins_hi (s : Bs) (defs : Int) (r : S) (t x : T) (h : x ∈ ins s defs r t) : x.kind ≤ defs + 2 := by
  rcases ins_cases s defs r t with ⟨_, h1⟩ | ⟨_, y, k, h1, h2, h3 | ⟨_, h3⟩⟩
  · rw [h1] at h; cases h
  · rw [h3] at h
    rcases List.mem_cons.1 h with rfl | h
    · omega
    · rw [(List.mem_replicate.1 h).2]; simp [tok]
  · rw [h3] at h
    rw [(List.mem_replicate.1 h).2]; simp [tok]
theorem run_kind (s : Bs) (defs : Int) (l : List T) : ∀ x, x ∈ (run s defs l).out → x ∈ l ∨ (defs ≤ x.kind ∧ x.kind ≤ defs + 2) := by
  induction l using snoc_ind with
  | nil => intro x hx; simp [run] at hx
  | snoc l t ih =>
    intro x hx
    rw [run_snoc, step_out] at hx
    simp only [List.mem_append, List.mem_cons, List.not_mem_nil, or_false] at hx ⊢
    rcases hx with (hx | hx) | hx
    · rcases ih x hx with h | h
      · exact .inl (.inl h)
      · exact .inr h
    · exact .inr ⟨(ins_kind _ _ _ _ _ hx).1, ins_hi _ _ _ _ _ hx⟩
    · exact .inl (.inr hx)
theorem app_kind (l : List T) (s : Bs) (defs : Int) : ∀ x, x ∈ app l s defs → x ∈ l ∨ (defs ≤ x.kind ∧ x.kind ≤ defs + 2) := by
  intro x hx
  unfold app at hx
  split at hx
  · cases hx
  · simp only [List.mem_append, List.mem_cons, List.mem_replicate] at hx
    rcases hx with hx | hx | hx
    · exact run_kind s defs l x hx
    · subst hx; exact .inr ⟨by simp [tok], by simp [tok]; omega⟩
    · rw [hx.2]; exact .inr ⟨by simp [tok]; omega, by simp [tok]⟩
/- what stands between two tokens -/
def insAt (s : Bs) (defs : Int) (l : List T) (i : Nat) (t : T) : List T := ins s defs (run s defs (l.take i)) t
theorem app_ins (s : Bs) (defs : Int) (l : List T) (i : Nat) (t : T) (h : l[i]? = some t) (n : Nat) (h1 : pos s defs l i ≤ n) : (n < pos s defs l i + (insAt s defs l i t).length → (app l s defs)[n]? = (insAt s defs l i t)[n - pos s defs l i]?) ∧ (n = pos s defs l i + (insAt s defs l i t).length → (app l s defs)[n]? = some t) := by
  obtain ⟨r, hr, _⟩ := app_at s defs l i t h
  have hl : (run s defs (l.take i)).out.length = pos s defs l i := rfl
  rw [hr]
  refine ⟨fun h2 => ?_, fun h2 => ?_⟩
  · rw [List.getElem?_append_right (by omega), hl, List.getElem?_append_left (by unfold insAt at h2; omega)]; rfl
  · rw [List.getElem?_append_right (by omega), hl, List.getElem?_append_right (by unfold insAt at h2; omega), h2]
    unfold insAt
    rw [show pos s defs l i + (ins s defs (run s defs (l.take i)) t).length - pos s defs l i - (ins s defs (run s defs (l.take i)) t).length = 0 by omega]; rfl
theorem app_lt (s : Bs) (defs : Int) (l : List T) (i : Nat) (t : T) (h : l[i]? = some t) : pos s defs l i + (insAt s defs l i t).length < (app l s defs).length ∧ pos s defs l (i + 1) = pos s defs l i + (insAt s defs l i t).length + 1 := by
  obtain ⟨r, hr, h2⟩ := app_at s defs l i t h
  refine ⟨?_, h2⟩
  rw [hr]; unfold pos insAt
  simp only [List.length_append, List.length_cons]; omega
theorem sep_kind {s : Bs} {defs : Int} {l : List T} (hp : Plain defs l) {i : Nat} {t : T} (h : l[i]? = some t) {n : Nat} {x : T} (h1 : pos s defs l i ≤ n) (h2 : n ≤ pos s defs l i + (insAt s defs l i t).length) (hx : (app l s defs)[n]? = some x) : defs ≤ x.kind ↔ n < pos s defs l i + (insAt s defs l i t).length := by
  obtain ⟨ha, hb⟩ := app_ins s defs l i t h n h1
  by_cases hn : n < pos s defs l i + (insAt s defs l i t).length
  · rw [ha hn] at hx
    have := (ins_kind s defs _ t x (List.mem_of_getElem? hx)).1
    exact ⟨fun _ => hn, fun _ => this⟩
  · rw [hb (by omega)] at hx
    injection hx with hx; subst hx
    have := hp _ (List.mem_of_getElem? h)
    omega
theorem sep_same {s : Bs} {defs : Int} {l : List T} {i : Nat} {t t0 : T} (h0 : l[i]? = some t0) : (insAt s defs l (i + 1) t).length = 0 ↔ start s t0.at_.toNat = start s t.at_.toNat := by
  have hl := run_prev s defs l i t0 h0
  unfold insAt
  rcases ins_cases s defs (run s defs (l.take (i + 1))) t with ⟨h1, h2⟩ | ⟨h1, x, k, _, _, h2 | ⟨h2, _⟩⟩
  · rw [h2]; rw [hl, Option.some.injEq] at h1; simp [h1]
  · rw [h2]; rw [hl] at h1
    exact ⟨fun e => by simp at e, fun e => absurd (congrArg some e) h1⟩
  · rw [hl] at h2; cases h2
theorem sep_mid {s : Bs} {defs : Int} {l : List T} {i : Nat} {t t0 : T} (h0 : l[i]? = some t0) (h : l[i + 1]? = some t) (hat : 0 ≤ t.at_) {n : Nat} {y : T} (h1 : pos s defs l (i + 1) ≤ n) (h2 : n < pos s defs l (i + 1) + (insAt s defs l (i + 1) t).length) (hy : (app l s defs)[n]? = some y) : (y.kind = defs + 2 ↔ pos s defs l (i + 1) < n) ∧ y.at_ = t.at_ := by
  rw [(app_ins s defs l (i + 1) t h n h1).1 h2] at hy
  have hl := run_prev s defs l i t0 h0
  have hm := (ins_kind s defs _ t y (List.mem_of_getElem? hy)).2
  refine ⟨?_, by omega⟩
  unfold insAt at *
  rcases ins_cases s defs (run s defs (l.take (i + 1))) t with ⟨_, h3⟩ | ⟨_, x, k, h4, _, h3 | ⟨h3, _⟩⟩
  · rw [h3] at h2; simp at h2; omega
  · rw [h3] at hy
    by_cases hn : n = pos s defs l (i + 1)
    · subst hn; simp at hy; subst hy; omega
    · obtain ⟨j, hj⟩ : ∃ j, n - pos s defs l (i + 1) = j + 1 := ⟨n - pos s defs l (i + 1) - 1, by omega⟩
      rw [hj, List.getElem?_cons_succ] at hy
      have := (List.mem_replicate.1 (List.mem_of_getElem? hy)).2
      subst this; simp [tok]; omega
  · rw [hl] at h3; cases h3
theorem pos_zero (s : Bs) (defs : Int) (l : List T) : pos s defs l 0 = 0 := by simp [pos, run]
/- prefixes -/
theorem app_same {s : Bs} {defs : Int} {l : List T} {k i : Nat} (hi : i < (run s defs (l.take k)).out.length) : (app l s defs)[i]? = (run s defs (l.take k)).out[i]? ∧ (app (l.take k) s defs)[i]? = (run s defs (l.take k)).out[i]? := by
  obtain ⟨r, hr⟩ := app_prefix s defs l k
  obtain ⟨r2, hr2⟩ := app_prefix s defs (l.take k) k
  rw [List.take_take, Nat.min_self] at hr2
  rw [hr, hr2]
  exact ⟨List.getElem?_append_left hi, List.getElem?_append_left hi⟩
theorem app_long {s : Bs} {defs : Int} {l : List T} {k : Nat} : (run s defs (l.take k)).out.length ≤ (app l s defs).length ∧ (run s defs (l.take k)).out.length ≤ (app (l.take k) s defs).length := by
  obtain ⟨r, hr⟩ := app_prefix s defs l k
  obtain ⟨r2, hr2⟩ := app_prefix s defs (l.take k) k
  rw [List.take_take, Nat.min_self] at hr2
  rw [hr, hr2]; simp
def cnt (defs : Int) (o : List T) (i : Nat) : Nat := (strip defs (o.take i)).length
theorem cnt_le (defs : Int) (o : List T) (i : Nat) : cnt defs o i ≤ (strip defs o).length := by
  unfold cnt strip; exact List.Sublist.length_le ((List.take_sublist i o).filter _)
theorem cnt_full (defs : Int) (o : List T) (i : Nat) (h : o.length ≤ i) : cnt defs o i = (strip defs o).length := by unfold cnt; rw [List.take_of_length_le h]
theorem cnt_run {s : Bs} {defs : Int} {l : List T} {k : Nat} (hp : Plain defs l) (hk : k ≤ l.length) : (strip defs (run s defs (l.take k)).out).length = k := by
  rw [strip_run s defs (l.take k) (fun x hx => hp x (List.mem_of_mem_take hx)), List.length_take, Nat.min_eq_left hk]
theorem cnt_step {defs : Int} {o : List T} {i : Nat} {e : T} (h : o[i]? = some e) : cnt defs o (i + 1) = cnt defs o i + if e.kind < defs then 1 else 0 := by
  unfold cnt; rw [List.take_add_one, h, strip_append, List.length_append]; congr 1
  unfold strip; split <;> rename_i hc <;> simp [hc]
/- the moved tokens -/
theorem moved_tok (a : Nat) (t : T) (n : Nat) (h : t.at_ = n) : moved a t = ⟨t.kind, ((if a ≤ n then n + 1 else n : Nat) : Int), t.text, t.look⟩ := by unfold moved up; rw [h]; simp
theorem moved_kinds (a : Nat) (l : List T) : kinds (l.map (moved a)) = kinds l := by simp [kinds, moved]
end Go.Proofs.Lay
