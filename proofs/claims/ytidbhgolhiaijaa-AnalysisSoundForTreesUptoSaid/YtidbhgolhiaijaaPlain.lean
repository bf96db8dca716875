/- The plain mathematics of properties of nonterminals: least sets, tables and lists. No program in sight; conditions: none. -/
namespace Go.Proofs.Ana
structure Rl where
  head : Int
  body : List Int
  price : Int
structure Gr where
  t : Nat
  n : Nat
  start : Int
  rules : List Rl
structure Ok (g : Gr) : Prop where
  tl : g.t ≤ 6
  n1 : 1 ≤ g.n
  nl : g.n ≤ 8
  rl : g.rules.length ≤ 16
  s0 : 0 ≤ g.start
  s1 : g.start < g.n
  h0 : ∀ r, r ∈ g.rules → 0 ≤ r.head
  h1 : ∀ r, r ∈ g.rules → r.head < g.n
  bl : ∀ r, r ∈ g.rules → r.body.length ≤ 12
  b0 : ∀ r, r ∈ g.rules → ∀ x, x ∈ r.body → -(g.n : Int) ≤ x
  b1 : ∀ r, r ∈ g.rules → ∀ x, x ∈ r.body → x < g.t
def nt (x : Int) : Nat := (-1 - x).toNat
theorem nt_cast {x : Int} (h : x < 0) : ((nt x : Nat) : Int) = -1 - x := by unfold nt; omega
theorem Ok.nt_lt {g : Gr} (h : Ok g) {r : Rl} (hr : r ∈ g.rules) {x : Int} (hx : x ∈ r.body) (h0 : x < 0) : nt x < g.n := by
  have := h.b0 r hr x hx
  unfold nt; omega
theorem Ok.hd {g : Gr} (h : Ok g) {r : Rl} (hr : r ∈ g.rules) : ((r.head.toNat : Nat) : Int) = r.head ∧ r.head.toNat < g.n := by
  have h0 := h.h0 r hr
  have h1 := h.h1 r hr
  omega
theorem decEx (p : Prop) : ∃ b : Bool, b = true ↔ p := ⟨@decide p (Classical.propDecidable p), @decide_eq_true_iff p (Classical.propDecidable p)⟩
noncomputable def dec (p : Prop) : Bool := Classical.choose (decEx p)
theorem dec_iff {p : Prop} : dec p = true ↔ p := Classical.choose_spec (decEx p)
theorem dec_true {p : Prop} (h : p) : dec p = true := dec_iff.2 h
theorem dec_false {p : Prop} (h : ¬ p) : dec p = false := by
  cases hd : dec p
  · rfl
  · exact absurd (dec_iff.1 hd) h
theorem eq_dec {b : Bool} {p : Prop} (h : b = true ↔ p) : b = dec p := by
  cases b
  · exact (dec_false (fun hp => by have := h.2 hp; cases this)).symm
  · exact (dec_true (h.1 rfl)).symm
/-! ## lists from functions -/
def mkl {α : Type} (n : Nat) (f : Nat → α) : List α := (List.range n).map f
def upd {α : Type} (f : Nat → α) (j : Nat) (v : α) : Nat → α := fun k => if k = j then v else f k
theorem mkl_len {α : Type} (n : Nat) (f : Nat → α) : (mkl n f).length = n := by simp [mkl]
theorem mkl_at {α : Type} {n : Nat} {f : Nat → α} {j : Nat} (h : j < n) : (mkl n f)[j]? = some (f j) := by simp [mkl, h]
theorem mkl_ext {α : Type} {n : Nat} {f g : Nat → α} (h : ∀ j, j < n → f j = g j) : mkl n f = mkl n g := by
  apply List.ext_getElem?
  intro j
  by_cases hj : j < n
  · rw [mkl_at hj, mkl_at hj, h j hj]
  · rw [List.getElem?_eq_none (by rw [mkl_len]; omega), List.getElem?_eq_none (by rw [mkl_len]; omega)]
theorem mkl_set {α : Type} {n : Nat} {f : Nat → α} {j : Nat} {v : α} : (mkl n f).set j v = mkl n (upd f j v) := by
  apply List.ext_getElem?
  intro k
  by_cases hk : k < n
  · rw [mkl_at hk, List.getElem?_set, mkl_len]
    unfold upd
    by_cases e : j = k
    · rw [if_pos e, if_pos (by omega), if_pos e.symm]
    · rw [if_neg e, mkl_at hk, if_neg (fun h => e h.symm)]
  · rw [List.getElem?_eq_none (by rw [List.length_set, mkl_len]; omega), List.getElem?_eq_none (by rw [mkl_len]; omega)]
theorem mkl_rep {α : Type} (n : Nat) (v : α) : List.replicate n v = mkl n (fun _ => v) := by
  apply List.ext_getElem?
  intro k
  by_cases hk : k < n
  · rw [mkl_at hk]; simp [hk]
  · rw [List.getElem?_eq_none (by simp; omega), List.getElem?_eq_none (by rw [mkl_len]; omega)]
/-- how many are not yet true -/
def lack (n : Nat) (f : Nat → Bool) : Nat := ((List.range n).filter (fun k => !f k)).length
theorem filter_len {α : Type} {p q : α → Bool} : ∀ {l : List α}, (∀ x, x ∈ l → q x = true → p x = true) → (l.filter q).length ≤ (l.filter p).length
  | [], _ => Nat.le_refl _
  | x :: l, h => by
    have ih := filter_len (l := l) (fun y hy => h y (List.mem_cons_of_mem _ hy))
    have hx := h x (List.mem_cons_self ..)
    rw [List.filter_cons, List.filter_cons]
    by_cases hq : q x = true
    · rw [if_pos hq, if_pos (hx hq)]; simpa using ih
    · rw [if_neg hq]; split
      · simp; omega
      · exact ih
theorem filter_lt {α : Type} {p q : α → Bool} {a : α} : ∀ {l : List α}, (∀ x, x ∈ l → q x = true → p x = true) → a ∈ l → p a = true → q a = false → (l.filter q).length < (l.filter p).length
  | [], _, ha, _, _ => absurd ha List.not_mem_nil
  | x :: l, h, ha, hp, hq => by
    have hh : ∀ y, y ∈ l → q y = true → p y = true := fun y hy => h y (List.mem_cons_of_mem _ hy)
    have hx := h x (List.mem_cons_self ..)
    rw [List.filter_cons, List.filter_cons]
    rcases List.mem_cons.1 ha with rfl | ha
    · rw [if_neg (by rw [hq]; decide), if_pos hp]
      have := filter_len hh
      simp; omega
    · have ih := filter_lt hh ha hp hq
      by_cases hq : q x = true
      · rw [if_pos hq, if_pos (hx hq)]; simpa using ih
      · rw [if_neg hq]; split
        · simp; omega
        · exact ih
theorem lack_upd {n : Nat} {f : Nat → Bool} {j : Nat} (hj : j < n) (h : f j = false) : lack n (upd f j true) < lack n f := by
  refine filter_lt (a := j) (fun x _ hx => ?_) (List.mem_range.2 hj) (by simp [h]) (by simp [upd])
  unfold upd at hx
  split at hx
  · simp at hx
  · exact hx
/-! ## nullable, productive -/
inductive PN (g : Gr) (tm : Bool) : Nat → Prop where
  | mk (r : Rl) : r ∈ g.rules → (∀ x, x ∈ r.body → 0 ≤ x → tm = true) → (∀ x, x ∈ r.body → x < 0 → PN g tm (nt x)) → PN g tm r.head.toNat
/-- the test of a body -/
def good (tm : Bool) (f : Nat → Bool) (x : Int) : Bool := (decide (0 ≤ x) && tm) || (decide (x < 0) && f (nt x))
def allG (tm : Bool) (f : Nat → Bool) (l : List Int) : Bool := l.all (good tm f)
theorem allG_iff {tm : Bool} {f : Nat → Bool} {l : List Int} : allG tm f l = true ↔ (∀ x, x ∈ l → 0 ≤ x → tm = true) ∧ (∀ x, x ∈ l → x < 0 → f (nt x) = true) := by
  unfold allG
  rw [List.all_eq_true]
  unfold good
  refine ⟨fun h => ⟨fun x hx h0 => ?_, fun x hx h0 => ?_⟩, fun h x hx => ?_⟩
  · have := h x hx
    simp [h0, show ¬ x < 0 by omega] at this
    exact this
  · have := h x hx
    simp [h0, show ¬ 0 ≤ x by omega] at this
    exact this
  · by_cases h0 : 0 ≤ x
    · simp [h0, h.1 x hx h0]
    · simp [show x < 0 by omega, h.2 x hx (by omega)]
def Sound (g : Gr) (tm : Bool) (f : Nat → Bool) : Prop := ∀ i, f i = true → PN g tm i
theorem Sound.zero (g : Gr) (tm : Bool) : Sound g tm (fun _ => false) := fun _ h => by cases h
theorem Sound.step {g : Gr} {tm : Bool} {f : Nat → Bool} (h : Sound g tm f) {r : Rl} (hr : r ∈ g.rules) (ha : allG tm f r.body = true) : Sound g tm (upd f r.head.toNat true) := fun i hi => by
  unfold upd at hi
  split at hi
  · rename_i e
    subst e
    obtain ⟨h1, h2⟩ := allG_iff.1 ha
    exact .mk r hr h1 (fun x hx h0 => h _ (h2 x hx h0))
  · exact h i hi
theorem pn_full {g : Gr} {tm : Bool} {f : Nat → Bool} (hs : Sound g tm f) (hc : ∀ r, r ∈ g.rules → allG tm f r.body = true → f r.head.toNat = true) (i : Nat) : f i = dec (PN g tm i) := eq_dec ⟨hs i, fun h => by
  induction h with
  | mk r hr h1 h2 ih => exact hc r hr (allG_iff.2 ⟨h1, ih⟩)⟩
noncomputable def pn (g : Gr) (tm : Bool) (i : Nat) : Bool := dec (PN g tm i)
/-! ## reachable -/
inductive RC (g : Gr) : Nat → Prop where
  | start : RC g g.start.toNat
  | step (r : Rl) (x : Int) : r ∈ g.rules → RC g r.head.toNat → x ∈ r.body → x < 0 → RC g (nt x)
noncomputable def rc (g : Gr) (i : Nat) : Bool := dec (RC g i)
theorem rc_full {g : Gr} {f : Nat → Bool} (hs : ∀ i, f i = true → RC g i) (h0 : f g.start.toNat = true) (hc : ∀ r, r ∈ g.rules → ∀ x, x ∈ r.body → f r.head.toNat = true → x < 0 → f (nt x) = true) (i : Nat) : f i = rc g i := eq_dec ⟨hs i, fun h => by
  induction h with
  | start => exact h0
  | step r x hr _ hx h1 ih => exact hc r hr x hx ih h1⟩
theorem rc_step {g : Gr} {f : Nat → Bool} (hs : ∀ i, f i = true → RC g i) {r : Rl} {x : Int} (hr : r ∈ g.rules) (hx : x ∈ r.body) (h1 : f r.head.toNat = true) (h0 : x < 0) : ∀ i, upd f (nt x) true i = true → RC g i := fun i hi => by
  unfold upd at hi
  split at hi
  · rename_i e
    subst e
    exact .step r x hr (hs _ h1) hx h0
  · exact hs i hi
/-! ## more rules -/
def Sub (g h : Gr) : Prop := (∀ r, r ∈ g.rules → r ∈ h.rules) ∧ h.start = g.start ∧ h.n = g.n
theorem PN.mono {g h : Gr} (hs : Sub g h) {tm : Bool} {i : Nat} (hp : PN g tm i) : PN h tm i := by
  induction hp with
  | mk r hr h1 _ ih => exact .mk r (hs.1 r hr) h1 ih
theorem RC.mono {g h : Gr} (hs : Sub g h) {i : Nat} (hp : RC g i) : RC h i := by
  induction hp with
  | start => rw [← hs.2.1]; exact .start
  | step r x hr _ hx h0 ih => exact .step r x (hs.1 r hr) ih hx h0
/-! ## cyclic -/
/-- head derives nonterminal j alone at place k of rule r -/
def oneAt (nul : Nat → Bool) (r : Rl) (k : Nat) (i j : Nat) : Prop := r.head.toNat = i ∧ ∃ x, r.body[k]? = some x ∧ x < 0 ∧ nt x = j ∧ allG false nul (r.body.take k) = true ∧ allG false nul (r.body.drop (k + 1)) = true
def oneP (g : Gr) (nul : Nat → Bool) (i j : Nat) : Prop := ∃ r, r ∈ g.rules ∧ ∃ k, oneAt nul r k i j
noncomputable def one (g : Gr) (nul : Nat → Bool) (i j : Nat) : Bool := dec (oneP g nul i j)
def wpass (m : Nat) (f : Nat → Nat → Bool) (i j : Nat) : Bool := f i j || (f i m && f m j)
def wars (m : Nat) (f : Nat → Nat → Bool) : Nat → Nat → Bool := match m with
  | 0 => f
  | m + 1 => wpass m (wars m f)
theorem wpass_col (m : Nat) (f : Nat → Nat → Bool) (i : Nat) : wpass m f i m = f i m := by unfold wpass; cases f i m <;> simp
theorem wpass_row (m : Nat) (f : Nat → Nat → Bool) (j : Nat) : wpass m f m j = f m j := by unfold wpass; cases f m j <;> simp
/-- in the midst of a pass: the entries before (i, j) are new -/
def wmid (m : Nat) (f : Nat → Nat → Bool) (i j a b : Nat) : Bool := if a < i ∨ (a = i ∧ b < j) then wpass m f a b else f a b
theorem wmid_col (m : Nat) (f : Nat → Nat → Bool) (i j a : Nat) : wmid m f i j a m = f a m := by unfold wmid; split; (· exact wpass_col m f a); (· rfl)
theorem wmid_row (m : Nat) (f : Nat → Nat → Bool) (i j b : Nat) : wmid m f i j m b = f m b := by unfold wmid; split; (· exact wpass_row m f b); (· rfl)
theorem wmid_at (m : Nat) (f : Nat → Nat → Bool) (i j : Nat) : wmid m f i j i j = f i j := by unfold wmid; rw [if_neg (by omega)]
noncomputable def cyc (g : Gr) (i : Nat) : Bool := wars g.n (one g (pn g false)) i i
theorem wars_mono {f h : Nat → Nat → Bool} (hf : ∀ i j, f i j = true → h i j = true) : ∀ m i j, wars m f i j = true → wars m h i j = true := by
  intro m
  induction m with
  | zero => exact hf
  | succ m ih =>
    intro i j hh
    simp only [wars, wpass, Bool.or_eq_true, Bool.and_eq_true] at hh ⊢
    rcases hh with h1 | ⟨h1, h2⟩
    · exact .inl (ih _ _ h1)
    · exact .inr ⟨ih _ _ h1, ih _ _ h2⟩
theorem cyc_mono {g h : Gr} (hs : Sub g h) (i : Nat) (hc : cyc g i = true) : cyc h i = true := by
  unfold cyc at hc ⊢
  rw [hs.2.2]
  refine wars_mono (fun i j hh => ?_) _ _ _ hc
  obtain ⟨r, hr, k, h1, x, h2, h3, h4, h5, h6⟩ := dec_iff.1 hh
  have up : ∀ l, allG false (pn g false) l = true → allG false (pn h false) l = true := fun l hl => by
    obtain ⟨a, b⟩ := allG_iff.1 hl
    exact allG_iff.2 ⟨a, fun x hx h0 => dec_iff.2 ((dec_iff.1 (b x hx h0)).mono hs)⟩
  exact dec_iff.2 ⟨r, hs.1 r hr, k, h1, x, h2, h3, h4, up _ h5, up _ h6⟩
/-! ## first -/
def Nul (nul : Nat → Bool) (y : Int) : Prop := y < 0 ∧ nul (nt y) = true
/-- with what a list of symbols may begin -/
def BG (nul : Nat → Bool) (F : Nat → Int → Prop) : List Int → Int → Prop
  | [], _ => False
  | x :: l, a => (0 ≤ x ∧ a = x) ∨ (x < 0 ∧ F (nt x) a) ∨ (Nul nul x ∧ BG nul F l a)
theorem BG.mono {nul : Nat → Bool} {F G : Nat → Int → Prop} (h : ∀ i a, F i a → G i a) : ∀ {l : List Int} {a : Int}, BG nul F l a → BG nul G l a
  | [], _, hb => hb
  | _ :: _, _, .inl hb => .inl hb
  | _ :: _, _, .inr (.inl hb) => .inr (.inl ⟨hb.1, h _ _ hb.2⟩)
  | _ :: _, _, .inr (.inr hb) => .inr (.inr ⟨hb.1, BG.mono h hb.2⟩)
/-- the same by places -/
theorem BG_iff {nul : Nat → Bool} {F : Nat → Int → Prop} : ∀ {l : List Int} {a : Int}, BG nul F l a ↔ ∃ k x, l[k]? = some x ∧ (∀ y, y ∈ l.take k → Nul nul y) ∧ ((0 ≤ x ∧ a = x) ∨ (x < 0 ∧ F (nt x) a))
  | [], a => ⟨fun h => h.elim, fun ⟨k, x, h, _⟩ => by simp at h⟩
  | z :: l, a => by
    refine ⟨fun h => ?_, fun ⟨k, x, h1, h2, h3⟩ => ?_⟩
    · rcases h with h | h | ⟨h1, h2⟩
      · exact ⟨0, z, rfl, fun y hy => by simp at hy, .inl h⟩
      · exact ⟨0, z, rfl, fun y hy => by simp at hy, .inr h⟩
      · obtain ⟨k, x, h3, h4, h5⟩ := BG_iff.1 h2
        refine ⟨k + 1, x, by simpa using h3, fun y hy => ?_, h5⟩
        rw [List.take_succ_cons] at hy
        rcases List.mem_cons.1 hy with rfl | hy
        · exact h1
        · exact h4 y hy
    · cases k with
      | zero =>
        simp at h1; subst h1
        exact h3.elim .inl (fun h => .inr (.inl h))
      | succ k =>
        rw [List.take_succ_cons] at h2
        exact .inr (.inr ⟨h2 z (List.mem_cons_self ..), BG_iff.2 ⟨k, x, by simpa using h1, fun y hy => h2 y (List.mem_cons_of_mem _ hy), h3⟩⟩)
inductive FI (g : Gr) (nul : Nat → Bool) : Nat → Int → Prop where
  | term (r : Rl) (k : Nat) (a : Int) : r ∈ g.rules → r.body[k]? = some a → (∀ y, y ∈ r.body.take k → Nul nul y) → 0 ≤ a → FI g nul r.head.toNat a
  | nont (r : Rl) (k : Nat) (x a : Int) : r ∈ g.rules → r.body[k]? = some x → (∀ y, y ∈ r.body.take k → Nul nul y) → x < 0 → FI g nul (nt x) a → FI g nul r.head.toNat a
theorem FI.of_bg {g : Gr} {nul : Nat → Bool} {F : Nat → Int → Prop} (h : ∀ i a, F i a → FI g nul i a) {r : Rl} (hr : r ∈ g.rules) {a : Int} (hb : BG nul F r.body a) : FI g nul r.head.toNat a := by
  obtain ⟨k, x, h1, h2, h3⟩ := BG_iff.1 hb
  rcases h3 with ⟨h3, rfl⟩ | ⟨h3, h4⟩
  · exact .term r k a hr h1 h2 h3
  · exact .nont r k x a hr h1 h2 h3 (h _ _ h4)
theorem fi_full {g : Gr} {nul : Nat → Bool} {F : Nat → Int → Prop} (hs : ∀ i a, F i a → FI g nul i a) (hc : ∀ r, r ∈ g.rules → ∀ a, BG nul F r.body a → F r.head.toNat a) (i : Nat) (a : Int) : F i a ↔ FI g nul i a := ⟨hs i a, fun h => by
  induction h with
  | term r k a hr h1 h2 h3 => exact hc r hr a (BG_iff.2 ⟨k, a, h1, h2, .inl ⟨h3, rfl⟩⟩)
  | nont r k x a hr h1 h2 h3 _ ih => exact hc r hr a (BG_iff.2 ⟨k, x, h1, h2, .inr ⟨h3, ih⟩⟩)⟩
theorem FI.range {g : Gr} (ok : Ok g) {nul : Nat → Bool} {i : Nat} {a : Int} (h : FI g nul i a) : 0 ≤ a ∧ a < g.t := by
  induction h with
  | term r k a hr h1 _ h3 => exact ⟨h3, ok.b1 r hr a (List.mem_of_getElem? h1)⟩
  | nont _ _ _ _ _ _ _ _ _ ih => exact ih
/-! ## follow -/
inductive FO (g : Gr) (nul : Nat → Bool) (F : Nat → Int → Prop) : Nat → Int → Prop where
  | start : FO g nul F g.start.toNat (-1)
  | first (r : Rl) (k : Nat) (x a : Int) : r ∈ g.rules → r.body[k]? = some x → x < 0 → BG nul F (r.body.drop (k + 1)) a → FO g nul F (nt x) a
  | inh (r : Rl) (k : Nat) (x a : Int) : r ∈ g.rules → r.body[k]? = some x → x < 0 → allG false nul (r.body.drop (k + 1)) = true → FO g nul F r.head.toNat a → FO g nul F (nt x) a
theorem fo_full {g : Gr} {nul : Nat → Bool} {F : Nat → Int → Prop} {G : Nat → Int → Prop} (hs : ∀ i a, G i a → FO g nul F i a) (h0 : G g.start.toNat (-1)) (h1 : ∀ r, r ∈ g.rules → ∀ (k : Nat) x, r.body[k]? = some x → x < 0 → ∀ a, BG nul F (r.body.drop (k + 1)) a → G (nt x) a)
    (h2 : ∀ r, r ∈ g.rules → ∀ (k : Nat) x, r.body[k]? = some x → x < 0 → allG false nul (r.body.drop (k + 1)) = true → ∀ a, G r.head.toNat a → G (nt x) a) (i : Nat) (a : Int) : G i a ↔ FO g nul F i a := ⟨hs i a, fun h => by
  induction h with
  | start => exact h0
  | first r k x a hr hk hx hb => exact h1 r hr k x hk hx a hb
  | inh r k x a hr hk hx hn _ ih => exact h2 r hr k x hk hx hn a ih⟩
theorem FO.range {g : Gr} (ok : Ok g) {nul : Nat → Bool} {F : Nat → Int → Prop} (hF : ∀ i a, F i a → 0 ≤ a ∧ a < g.t) {i : Nat} {a : Int} (h : FO g nul F i a) : -1 ≤ a ∧ a < g.t := by
  induction h with
  | start => have := ok.tl; omega
  | first r k x a hr _ _ hb =>
    obtain ⟨j, y, h1, _, h3⟩ := BG_iff.1 hb
    rcases h3 with ⟨h3, rfl⟩ | ⟨_, h4⟩
    · have hm := List.mem_of_mem_drop (List.mem_of_getElem? h1)
      have := ok.b1 r hr a hm
      omega
    · have := hF _ _ h4; omega
  | inh _ _ _ _ _ _ _ _ _ ih => exact ih
noncomputable def fi (g : Gr) (i : Nat) (a : Int) : Bool := dec (FI g (pn g false) i a)
noncomputable def fo (g : Gr) (i : Nat) (a : Int) : Bool := dec (FO g (pn g false) (FI g (pn g false)) i a)
/-- the increasing lists of a table: w columns from 'least' on -/
def rowOf (p : Int → Bool) (least : Int) (w : Nat) : List Int := ((List.range w).map (fun k : Nat => least + (k : Int))).filter p
def rowsOf (n : Nat) (p : Nat → Int → Bool) (least : Int) (w : Nat) : List (List Int) := mkl n (fun i => rowOf (p i) least w)
theorem rowOf_succ (p : Int → Bool) (least : Int) (w : Nat) : rowOf p least (w + 1) = rowOf p least w ++ (if p (least + (w : Int)) = true then [least + (w : Int)] else []) := by
  unfold rowOf
  rw [List.range_succ, List.map_append, List.filter_append]
  congr 1
  rw [List.map_cons, List.map_nil, List.filter_cons, List.filter_nil]
theorem rowOf_len (p : Int → Bool) (least : Int) (w : Nat) : (rowOf p least w).length ≤ w := by
  have h := List.length_filter_le p ((List.range w).map (fun k : Nat => least + (k : Int)))
  simp only [List.length_map, List.length_range] at h
  exact h
theorem mem_rowOf {p : Int → Bool} {least : Int} {w : Nat} {a : Int} : a ∈ rowOf p least w ↔ least ≤ a ∧ a < least + w ∧ p a = true := by
  unfold rowOf
  rw [List.mem_filter, List.mem_map]
  refine ⟨fun ⟨⟨k, hk, e⟩, h⟩ => ?_, fun ⟨h1, h2, h3⟩ => ⟨⟨(a - least).toNat, List.mem_range.2 (by omega), by omega⟩, h3⟩⟩
  have := List.mem_range.1 hk
  exact ⟨by omega, by omega, h⟩
end Go.Proofs.Ana
