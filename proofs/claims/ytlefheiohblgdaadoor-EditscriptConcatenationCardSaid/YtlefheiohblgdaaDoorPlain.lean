/- The plain mathematics of edit scripts over columns: running a script, the least cost, the smallest script of least cost. No program in sight; conditions: none. -/
namespace Go.Proofs.Ed
structure Col where
  kind : Int
  read : List Int
  del : Int
deriving DecidableEq
structure In where
  cols : List Col
  ins : List Int
  swap : Int
structure Op where
  kind : Int
  term : Int
deriving DecidableEq
def inf : Int := 1099511627776
def plus (a b : Int) : Int := min (a + b) inf
/-- entry of a list at an integer -/
def at_ (l : List Int) (t : Int) : Option Int := if t < 0 then none else l[t.toNat]?
theorem at_some {l : List Int} {t x : Int} (h : at_ l t = some x) : 0 ≤ t ∧ t < l.length ∧ l[t.toNat]? = some x := by
  unfold at_ at h; split at h
  · cases h
  · have := (List.getElem?_eq_some_iff.1 h).1
    exact ⟨by omega, by omega, h⟩
structure Okc (terms : Nat) (c : Col) : Prop where
  lo : -1 ≤ c.kind
  hi : c.kind < terms
  len : c.read.length = terms
  d1 : 1 ≤ c.del
  d2 : c.del ≤ 60000 ∨ c.del = inf
  r : ∀ t : Nat, t < terms → ∃ x, c.read[t]? = some x ∧ (if (t : Int) = c.kind then x = 0 else (x = -1 ∨ (1 ≤ x ∧ x ≤ 60000)))
structure Okin (i : In) : Prop where
  cols : ∀ c, c ∈ i.cols → Okc i.ins.length c
  ins : ∀ x, x ∈ i.ins → 1 ≤ x ∧ x ≤ 60000
  s0 : 0 ≤ i.swap
  s1 : i.swap ≤ 60000
/-- the price of a swap before token i, with the kinds of the two tokens -/
def swp (I : In) (i : Nat) : Option (Int × Int) :=
  match I.cols[i]?, I.cols[i + 1]? with
  | some a, some b => if 0 < I.swap ∧ 0 ≤ a.kind ∧ 0 ≤ b.kind then some (a.kind, b.kind) else none
  | _, _ => none
structure St where
  at_ : Nat
  out : List Int
  cost : Int
deriving DecidableEq
/-- an operation is performed -/
def exec (I : In) (s : St) (o : Op) : Option St :=
  if o.kind = 1 then
    match I.cols[s.at_]? with
    | some c => match at_ c.read o.term with
      | some x => if 0 ≤ x then some ⟨s.at_ + 1, s.out ++ [o.term], plus s.cost x⟩ else none
      | none => none
    | none => none
  else if o.kind = 2 then
    match I.cols[s.at_]? with
    | some c => if o.term = 0 ∧ c.del < inf then some ⟨s.at_ + 1, s.out, plus s.cost c.del⟩ else none
    | none => none
  else if o.kind = 3 then
    match at_ I.ins o.term with
    | some x => some ⟨s.at_, s.out ++ [o.term], plus s.cost x⟩
    | none => none
  else if o.kind = 4 then
    match swp I s.at_ with
    | some (a, b) => if o.term = 0 then some ⟨s.at_ + 2, s.out ++ [b, a], plus s.cost I.swap⟩ else none
    | none => none
  else none
def execs (I : In) : St → List Op → Option St
  | s, [] => some s
  | s, o :: l => match exec I s o with
    | some s' => execs I s' l
    | none => none
/-- a whole script -/
def run (I : In) (l : List Op) : Option St := match execs I ⟨0, [], 0⟩ l with
  | some s => if s.at_ = I.cols.length then some s else none
  | none => none
theorem execs_snoc (I : In) : ∀ (l : List Op) (s : St) (o : Op), execs I s (l ++ [o]) = (execs I s l).bind fun s' => exec I s' o
  | [], s, o => by simp only [List.nil_append, execs, Option.bind_some]; cases exec I s o <;> rfl
  | p :: l, s, o => by
    simp only [List.cons_append, execs]
    cases exec I s p with
    | none => rfl
    | some s' => exact execs_snoc I l s' o
theorem execs_append (I : In) : ∀ (l m : List Op) (s : St), execs I s (l ++ m) = (execs I s l).bind fun s' => execs I s' m
  | [], m, s => rfl
  | p :: l, m, s => by
    simp only [List.cons_append, execs]
    cases exec I s p with
    | none => rfl
    | some s' => exact execs_append I l m s'
/- steps -/
structure Stp where
  op : Op
  cost : Int
  tok : Nat
  emi : Nat
def st1 (I : In) (i : Nat) (ys : List Int) : List Stp := match I.cols[i]?, ys with
  | some c, y :: _ => match at_ c.read y with
    | some x => if 0 ≤ x then [⟨⟨1, y⟩, x, 1, 1⟩] else []
    | none => []
  | _, _ => []
def st2 (I : In) (i : Nat) : List Stp := match I.cols[i]? with
  | some c => if c.del < inf then [⟨⟨2, 0⟩, c.del, 1, 0⟩] else []
  | none => []
def st3 (I : In) (ys : List Int) : List Stp := match ys with
  | y :: _ => match at_ I.ins y with
    | some x => [⟨⟨3, y⟩, x, 0, 1⟩]
    | none => []
  | [] => []
def st4 (I : In) (i : Nat) (ys : List Int) : List Stp := match swp I i, ys with
  | some (a, b), y :: z :: _ => if b = y ∧ a = z then [⟨⟨4, 0⟩, I.swap, 2, 2⟩] else []
  | _, _ => []
/-- the possible operations, in increasing order -/
def steps (I : In) (i : Nat) (ys : List Int) : List Stp := st1 I i ys ++ (st2 I i ++ (st3 I ys ++ st4 I i ys))
/-- an operation with its price: what it reads, what it emits -/
inductive One (I : In) : Nat → Op → Int → Nat → List Int → Prop
  | read {i : Nat} {c : Col} {t x : Int} : I.cols[i]? = some c → at_ c.read t = some x → 0 ≤ x → One I i ⟨1, t⟩ x 1 [t]
  | del {i : Nat} {c : Col} : I.cols[i]? = some c → c.del < inf → One I i ⟨2, 0⟩ c.del 1 []
  | ins {i : Nat} {t x : Int} : at_ I.ins t = some x → One I i ⟨3, t⟩ x 0 [t]
  | swap {i : Nat} {a b : Int} : swp I i = some (a, b) → One I i ⟨4, 0⟩ I.swap 2 [b, a]
theorem exec_one {I : In} {s s' : St} {o : Op} (h : exec I s o = some s') : ∃ x k e, One I s.at_ o x k e ∧ s' = ⟨s.at_ + k, s.out ++ e, plus s.cost x⟩ := by
  obtain ⟨k, t⟩ := o
  unfold exec at h
  simp only at h
  split at h
  · rename_i hk; subst hk
    split at h
    · rename_i c hc
      split at h
      · rename_i x hx
        split at h
        · rename_i h0; injection h with h; exact ⟨x, 1, [t], .read hc hx h0, h.symm⟩
        · cases h
      · cases h
    · cases h
  · split at h
    · rename_i hk; subst hk
      split at h
      · rename_i c hc
        split at h
        · rename_i h0; obtain ⟨rfl, h0⟩ := h0
          injection h with h; exact ⟨c.del, 1, [], .del hc h0, by rw [List.append_nil]; exact h.symm⟩
        · cases h
      · cases h
    · split at h
      · rename_i hk; subst hk
        split at h
        · rename_i x hx; injection h with h; exact ⟨x, 0, [t], .ins hx, h.symm⟩
        · cases h
      · split at h
        · rename_i hk; subst hk
          split at h
          · rename_i a b hab
            split at h
            · rename_i h0; subst h0; injection h with h; exact ⟨I.swap, 2, [b, a], .swap hab, h.symm⟩
            · cases h
          · cases h
        · cases h
theorem one_exec {I : In} {s : St} {o : Op} {x : Int} {k : Nat} {e : List Int} (h : One I s.at_ o x k e) : exec I s o = some ⟨s.at_ + k, s.out ++ e, plus s.cost x⟩ := by
  cases h with
  | read hc hx h0 => simp [exec, hc, hx, h0]
  | del hc hd => simp [exec, hc, hd]
  | ins hx => simp [exec, hx]
  | swap hab => simp [exec, hab]
theorem one_steps {I : In} {i : Nat} {o : Op} {x : Int} {k : Nat} {e r : List Int} (h : One I i o x k e) : ⟨o, x, k, e.length⟩ ∈ steps I i (e ++ r) := by
  unfold steps
  simp only [List.mem_append]
  cases h with
  | read hc hx h0 => exact .inl (by simp [st1, hc, hx, h0])
  | del hc hd => exact .inr (.inl (by simp [st2, hc, hd]))
  | ins hx => exact .inr (.inr (.inl (by simp [st3, hx])))
  | swap hab => exact .inr (.inr (.inr (by simp [st4, hab])))
theorem steps_one {I : In} {i : Nat} {ys : List Int} {s : Stp} (h : s ∈ steps I i ys) : ∃ e r, ys = e ++ r ∧ s.emi = e.length ∧ One I i s.op s.cost s.tok e := by
  unfold steps at h
  simp only [List.mem_append] at h
  rcases h with h | h | h | h
  · unfold st1 at h
    split at h
    · rename_i c y ys' hc
      split at h
      · rename_i x hx
        split at h
        · rename_i h0
          simp only [List.mem_cons, List.not_mem_nil, or_false] at h; subst h
          exact ⟨[y], ys', rfl, rfl, .read hc hx h0⟩
        · cases h
      · cases h
    · cases h
  · unfold st2 at h
    split at h
    · rename_i c hc
      split at h
      · rename_i h0
        simp only [List.mem_cons, List.not_mem_nil, or_false] at h; subst h
        exact ⟨[], ys, rfl, rfl, .del hc h0⟩
      · cases h
    · cases h
  · unfold st3 at h
    split at h
    · rename_i y ys'
      split at h
      · rename_i x hx
        simp only [List.mem_cons, List.not_mem_nil, or_false] at h; subst h
        exact ⟨[y], ys', rfl, rfl, .ins hx⟩
      · cases h
    · cases h
  · unfold st4 at h
    split at h
    · rename_i a b y z ys' hab
      split at h
      · rename_i h0; obtain ⟨rfl, rfl⟩ := h0
        simp only [List.mem_cons, List.not_mem_nil, or_false] at h; subst h
        exact ⟨[b, a], ys', rfl, rfl, .swap hab⟩
      · cases h
    · cases h
theorem one_size {I : In} {i : Nat} {o : Op} {x : Int} {k : Nat} {e : List Int} (h : One I i o x k e) : i + k ≤ max i I.cols.length ∧ 0 < k + e.length := by
  cases h with
  | read hc _ _ => have := (List.getElem?_eq_some_iff.1 hc).1; simp; omega
  | del hc _ => have := (List.getElem?_eq_some_iff.1 hc).1; simp; omega
  | ins _ => simp; omega
  | swap hab =>
    unfold swp at hab
    split at hab
    · rename_i a' b' h1 h2
      have := (List.getElem?_eq_some_iff.1 h2).1; simp; omega
    · cases hab
theorem one_cost {I : In} (hI : Okin I) {i : Nat} {o : Op} {x : Int} {k : Nat} {e : List Int} (h : One I i o x k e) : 0 ≤ x ∧ x ≤ 60000 := by
  cases h with
  | @read c _ _ hc hx h0 =>
    obtain ⟨h1, h2, h3⟩ := at_some hx
    have hk := hI.cols c (List.mem_of_getElem? hc)
    obtain ⟨z, hz, hz2⟩ := hk.r _ (show ‹Int›.toNat < I.ins.length by have := hk.len; omega)
    rw [hz] at h3; injection h3 with h3; subst h3
    refine ⟨h0, ?_⟩
    split at hz2 <;> omega
  | @del c hc hd =>
    have hk := hI.cols c (List.mem_of_getElem? hc)
    have := hk.d1
    rcases hk.d2 with h | h
    · omega
    · rw [h] at hd; omega
  | ins hx => have := hI.ins _ (List.mem_of_getElem? (at_some hx).2.2); omega
  | swap _ => exact ⟨hI.s0, hI.s1⟩
theorem one_terms {I : In} (hI : Okin I) {i : Nat} {o : Op} {x : Int} {k : Nat} {e : List Int} (h : One I i o x k e) : ∀ t, t ∈ e → 0 ≤ t ∧ t < I.ins.length := by
  cases h with
  | @read c _ _ hc hx h0 =>
    obtain ⟨h1, h2, h3⟩ := at_some hx
    have hk := hI.cols c (List.mem_of_getElem? hc)
    intro t ht; simp at ht; subst ht
    have := hk.len; omega
  | del _ _ => intro t ht; cases ht
  | ins hx => obtain ⟨h1, h2, _⟩ := at_some hx; intro t ht; simp at ht; subst ht; exact ⟨h1, h2⟩
  | swap hab =>
    unfold swp at hab
    split at hab
    · rename_i a' b' h1 h2
      split at hab
      · rename_i h0
        injection hab with hab
        injection hab with e1 e2
        have k1 := hI.cols a' (List.mem_of_getElem? h1)
        have k2 := hI.cols b' (List.mem_of_getElem? h2)
        intro t ht
        simp only [List.mem_cons, List.not_mem_nil, or_false] at ht
        rcases ht with rfl | rfl
        · have := k2.hi; omega
        · have := k1.hi; omega
      · cases hab
    · cases hab
/- the least cost of what remains -/
def least (l : List Int) : Int := l.foldl min inf
def CF (I : In) : Nat → Nat → List Int → Int
  | 0, _, _ => inf
  | f + 1, i, ys => if i = I.cols.length ∧ ys = [] then 0 else least ((steps I i ys).map fun s => plus s.cost (CF I f (i + s.tok) (ys.drop s.emi)))
def fuel (I : In) (i : Nat) (ys : List Int) : Nat := (I.cols.length - i) + ys.length + 1
def C (I : In) (i : Nat) (ys : List Int) : Int := CF I (fuel I i ys) i ys
theorem fuel_step {I : In} {i : Nat} {ys : List Int} (hi : i ≤ I.cols.length) {s : Stp} (hs : s ∈ steps I i ys) : fuel I (i + s.tok) (ys.drop s.emi) < fuel I i ys ∧ i + s.tok ≤ I.cols.length := by
  obtain ⟨e, r, rfl, h1, h2⟩ := steps_one hs
  have := one_size h2
  unfold fuel
  simp only [h1, List.drop_left, List.length_append]
  omega
theorem CF_any (I : In) : ∀ f g i ys, i ≤ I.cols.length → fuel I i ys ≤ f → fuel I i ys ≤ g → CF I f i ys = CF I g i ys
  | 0, _, i, ys, _, h, _ => by unfold fuel at h; omega
  | _ + 1, 0, i, ys, _, _, h => by unfold fuel at h; omega
  | f + 1, g + 1, i, ys, hi, h1, h2 => by
    unfold CF
    congr 2
    refine List.map_congr_left fun s hs => ?_
    obtain ⟨h3, h4⟩ := fuel_step hi hs
    rw [CF_any I f g _ _ h4 (by omega) (by omega)]
theorem C_eq (I : In) (i : Nat) (ys : List Int) (hi : i ≤ I.cols.length) : C I i ys = if i = I.cols.length ∧ ys = [] then 0 else least ((steps I i ys).map fun s => plus s.cost (C I (i + s.tok) (ys.drop s.emi))) := by
  have h0 : fuel I i ys = (I.cols.length - i) + ys.length + 1 := rfl
  rw [C, h0, CF]
  congr 2
  refine List.map_congr_left fun s hs => ?_
  obtain ⟨h3, h4⟩ := fuel_step hi hs
  rw [C, CF_any I _ (fuel I (i + s.tok) (ys.drop s.emi)) _ _ h4 (by omega) (Nat.le_refl _)]
theorem foldl_min_le (l : List Int) : ∀ a : Int, l.foldl min a ≤ a ∧ ∀ x, x ∈ l → l.foldl min a ≤ x := by
  induction l with
  | nil => intro a; exact ⟨Int.le_refl _, fun x hx => absurd hx List.not_mem_nil⟩
  | cons y l ih =>
    intro a
    obtain ⟨h1, h2⟩ := ih (min a y)
    refine ⟨by rw [List.foldl_cons]; omega, fun x hx => ?_⟩
    rw [List.foldl_cons]
    rcases List.mem_cons.1 hx with rfl | hx
    · omega
    · exact h2 x hx
theorem foldl_min_mem (l : List Int) : ∀ a : Int, l.foldl min a = a ∨ l.foldl min a ∈ l := by
  induction l with
  | nil => intro a; exact .inl rfl
  | cons y l ih =>
    intro a
    rw [List.foldl_cons]
    rcases ih (min a y) with h | h
    · rw [h]
      by_cases hay : a ≤ y
      · exact .inl (by omega)
      · exact .inr (by rw [show min a y = y by omega]; simp)
    · exact .inr (by simp [h])
theorem least_le {l : List Int} {x : Int} (h : x ∈ l) : least l ≤ x := (foldl_min_le l inf).2 x h
theorem least_inf (l : List Int) : least l ≤ inf := (foldl_min_le l inf).1
theorem least_mem (l : List Int) : least l = inf ∨ least l ∈ l := foldl_min_mem l inf
theorem C_le_inf (I : In) (i : Nat) (ys : List Int) (hi : i ≤ I.cols.length) : C I i ys ≤ inf := by
  rw [C_eq I i ys hi]; split
  · decide
  · exact least_inf _
theorem C_nonneg {I : In} (hI : Okin I) : ∀ n i ys, fuel I i ys ≤ n → i ≤ I.cols.length → 0 ≤ C I i ys
  | 0, i, ys, h, _ => by unfold fuel at h; omega
  | n + 1, i, ys, h, hi => by
    rw [C_eq I i ys hi]; split
    · decide
    · rcases least_mem ((steps I i ys).map fun s => plus s.cost (C I (i + s.tok) (ys.drop s.emi))) with h1 | h1
      · rw [h1]; decide
      · obtain ⟨s, hs, he⟩ := List.mem_map.1 h1
        rw [← he]
        obtain ⟨h3, h4⟩ := fuel_step hi hs
        have h5 := C_nonneg hI n (i + s.tok) (ys.drop s.emi) (by omega) h4
        obtain ⟨e, r, rfl, _, h2⟩ := steps_one hs
        have h6 := (one_cost hI h2).1
        unfold plus inf; omega
theorem C_step {I : In} {i : Nat} {o : Op} {x : Int} {k : Nat} {e r : List Int} (hi : i ≤ I.cols.length) (h : One I i o x k e) : C I i (e ++ r) ≤ plus x (C I (i + k) r) := by
  have hs := one_steps (r := r) h
  have hsz := one_size h
  rw [C_eq I i _ hi]
  rw [if_neg (fun hh => by
    have h1 : e = [] := by have := hh.2; simp at this; exact this.1
    subst h1; simp at hsz; omega)]
  refine least_le (List.mem_map.2 ⟨_, hs, ?_⟩)
  simp
/- scripts -/
theorem plus_assoc {a b c : Int} (ha : 0 ≤ a) (hc : 0 ≤ c) : plus (plus a b) c = plus a (plus b c) := by unfold plus inf; omega
theorem execs_low {I : In} (hI : Okin I) : ∀ (l : List Op) (s s' : St), execs I s l = some s' → s'.at_ = I.cols.length → s.at_ ≤ I.cols.length → 0 ≤ s.cost → s.cost ≤ inf → ∃ e, s'.out = s.out ++ e ∧ plus s.cost (C I s.at_ e) ≤ s'.cost ∧ (∀ t, t ∈ e → 0 ≤ t ∧ t < I.ins.length)
  | [], s, s', h, hn, _, h0, h1 => by
    simp only [execs, Option.some.injEq] at h; subst h
    refine ⟨[], by simp, ?_, fun t ht => absurd ht List.not_mem_nil⟩
    rw [C_eq I _ _ (by omega), if_pos ⟨hn, rfl⟩]; unfold plus; omega
  | o :: l, s, s', h, hn, hs, h0, h1 => by
    simp only [execs] at h
    cases he : exec I s o with
    | none => simp [he] at h
    | some s1 =>
      simp only [he] at h
      obtain ⟨x, k, e1, h2, rfl⟩ := exec_one he
      have hsz := one_size h2
      have hx := one_cost hI h2
      obtain ⟨e2, h3, h4, h5⟩ := execs_low hI l _ s' h hn (by simp only; omega) (by simp only [plus, inf]; omega) (by simp only [plus, inf]; omega)
      refine ⟨e1 ++ e2, by rw [h3]; simp, ?_, fun t ht => ?_⟩
      · have h6 := C_step (r := e2) hs h2
        have h7 := C_nonneg hI _ (s.at_ + k) e2 (Nat.le_refl _) (by omega)
        simp only at h4
        unfold plus inf at *; omega
      · rcases List.mem_append.1 ht with ht | ht
        · exact one_terms hI h2 t ht
        · exact h5 t ht
theorem run_low {I : In} (hI : Okin I) {l : List Op} {s : St} (h : run I l = some s) : C I 0 s.out ≤ s.cost ∧ (∀ t, t ∈ s.out → 0 ≤ t ∧ t < I.ins.length) := by
  unfold run at h
  split at h
  · rename_i s' hs'
    split at h
    · rename_i hn
      injection h with h; subst h
      obtain ⟨e, h1, h2, h3⟩ := execs_low hI l _ _ hs' hn (Nat.zero_le _) (by decide) (by decide)
      simp only [List.nil_append] at h1
      rw [h1]
      have := C_le_inf I 0 e (Nat.zero_le _)
      simp only at h2
      refine ⟨?_, h3⟩
      unfold plus at h2; omega
    · cases h
  · cases h
def good (I : In) (i : Nat) (ys : List Int) (s : Stp) : Bool := decide (plus s.cost (C I (i + s.tok) (ys.drop s.emi)) = C I i ys)
def alignF (I : In) : Nat → Nat → List Int → List Op
  | 0, _, _ => []
  | f + 1, i, ys => if i = I.cols.length ∧ ys = [] then [] else match (steps I i ys).find? (good I i ys) with
    | some s => s.op :: alignF I f (i + s.tok) (ys.drop s.emi)
    | none => []
def align (I : In) (i : Nat) (ys : List Int) : List Op := alignF I (fuel I i ys) i ys
theorem alignF_any (I : In) : ∀ f g i ys, i ≤ I.cols.length → fuel I i ys ≤ f → fuel I i ys ≤ g → alignF I f i ys = alignF I g i ys
  | 0, _, i, ys, _, h, _ => by unfold fuel at h; omega
  | _ + 1, 0, i, ys, _, _, h => by unfold fuel at h; omega
  | f + 1, g + 1, i, ys, hi, h1, h2 => by
    unfold alignF
    split
    · rfl
    · split
      · rename_i s hs
        obtain ⟨h3, h4⟩ := fuel_step hi (List.mem_of_find?_eq_some hs)
        rw [alignF_any I f g _ _ h4 (by omega) (by omega)]
      · rfl
theorem align_end (I : In) : align I I.cols.length [] = [] := by
  unfold align fuel; simp [alignF]
theorem align_eq {I : In} {i : Nat} {ys : List Int} (hi : i ≤ I.cols.length) (h0 : ¬ (i = I.cols.length ∧ ys = [])) {s : Stp} (hs : (steps I i ys).find? (good I i ys) = some s) : align I i ys = s.op :: align I (i + s.tok) (ys.drop s.emi) := by
  have hf : fuel I i ys = (I.cols.length - i) + ys.length + 1 := rfl
  obtain ⟨h3, h4⟩ := fuel_step hi (List.mem_of_find?_eq_some hs)
  rw [align, hf, alignF, if_neg h0, hs]
  simp only
  rw [align, alignF_any I _ (fuel I (i + s.tok) (ys.drop s.emi)) _ _ h4 (by omega) (Nat.le_refl _)]
theorem found {I : In} {i : Nat} {ys : List Int} (hi : i ≤ I.cols.length) (h0 : ¬ (i = I.cols.length ∧ ys = [])) (hc : C I i ys < inf) : ∃ s, (steps I i ys).find? (good I i ys) = some s := by
  have h := C_eq I i ys hi
  rw [if_neg h0] at h
  rcases least_mem ((steps I i ys).map fun s => plus s.cost (C I (i + s.tok) (ys.drop s.emi))) with h1 | h1
  · omega
  · obtain ⟨s, hs, he⟩ := List.mem_map.1 h1
    cases hf : (steps I i ys).find? (good I i ys) with
    | some s => exact ⟨s, rfl⟩
    | none =>
      have := List.find?_eq_none.1 hf s hs
      simp only [good, decide_eq_true_eq] at this
      exact absurd (by rw [he, h]) this
theorem good_low {I : In} (hI : Okin I) {i : Nat} {ys : List Int} (hi : i ≤ I.cols.length) (hc : C I i ys < inf) {s : Stp} (hs : s ∈ steps I i ys) (hg : good I i ys s = true) : C I i ys = s.cost + C I (i + s.tok) (ys.drop s.emi) ∧ C I (i + s.tok) (ys.drop s.emi) < inf := by
  obtain ⟨_, h4⟩ := fuel_step hi hs
  simp only [good, decide_eq_true_eq] at hg
  obtain ⟨e, r, _, _, h2⟩ := steps_one hs
  have h6 := (one_cost hI h2)
  have h7 := C_nonneg hI _ (i + s.tok) (ys.drop s.emi) (Nat.le_refl _) h4
  have h8 := C_le_inf I (i + s.tok) (ys.drop s.emi) h4
  unfold plus inf at *; omega
theorem align_run {I : In} (hI : Okin I) : ∀ n i ys out (c : Int), fuel I i ys ≤ n → i ≤ I.cols.length → C I i ys < inf → 0 ≤ c → execs I ⟨i, out, c⟩ (align I i ys) = some ⟨I.cols.length, out ++ ys, if align I i ys = [] then c else plus c (C I i ys)⟩
  | 0, i, ys, _, _, h, _, _, _ => by unfold fuel at h; omega
  | n + 1, i, ys, out, c, h, hi, hc, h0 => by
    by_cases he : i = I.cols.length ∧ ys = []
    · obtain ⟨rfl, rfl⟩ := he
      rw [align_end]; simp [execs]
    · obtain ⟨s, hs⟩ := found hi he hc
      have hm := List.mem_of_find?_eq_some hs
      have hg := List.find?_some hs
      obtain ⟨h3, h4⟩ := fuel_step hi hm
      obtain ⟨h5, h6⟩ := good_low hI hi hc hm hg
      obtain ⟨e, r, hys, hemi, h2⟩ := steps_one hm
      have hx := one_cost hI h2
      rw [align_eq hi he hs]
      simp only [execs]
      have hex := one_exec (s := ⟨i, out, c⟩) h2
      rw [hex]
      have hd : ys.drop s.emi = r := by rw [hys, hemi, List.drop_left]
      show execs I ⟨i + s.tok, out ++ e, plus c s.cost⟩ (align I (i + s.tok) (ys.drop s.emi)) = _
      rw [align_run hI n (i + s.tok) (ys.drop s.emi) _ _ (by omega) h4 h6 (by unfold plus inf; omega)]
      rw [hd] at h5 h6 ⊢
      have hn0 := C_nonneg hI _ (i + s.tok) r (Nat.le_refl _) h4
      rw [hys]
      simp only [List.append_assoc, Option.some.injEq, St.mk.injEq, true_and, reduceCtorEq, if_false]
      rw [← hys, h5]
      split
      · rename_i hnil
        have hz : C I (i + s.tok) r = 0 := by
          by_cases he2 : i + s.tok = I.cols.length ∧ r = []
          · rw [C_eq I _ _ h4, if_pos he2]
          · obtain ⟨s2, hs2⟩ := found h4 he2 h6
            rw [align_eq h4 he2 hs2] at hnil; cases hnil
        rw [hz]; simp
      · unfold plus inf at *; omega
theorem align_ok {I : In} (hI : Okin I) (ys : List Int) (hc : C I 0 ys < inf) : run I (align I 0 ys) = some ⟨I.cols.length, ys, C I 0 ys⟩ := by
  unfold run
  rw [align_run hI _ 0 ys [] 0 (Nat.le_refl _) (Nat.zero_le _) hc (by decide)]
  simp only [if_true, List.nil_append, Option.some.injEq, St.mk.injEq, true_and]
  have h0 := C_nonneg hI _ 0 ys (Nat.le_refl _) (Nat.zero_le _)
  split
  · rename_i hnil
    by_cases he : 0 = I.cols.length ∧ ys = []
    · rw [C_eq I _ _ (Nat.zero_le _), if_pos he]
    · obtain ⟨s, hs⟩ := found (Nat.zero_le _) he hc
      rw [align_eq (Nat.zero_le _) he hs] at hnil; cases hnil
  · unfold plus; omega
/- the order of scripts -/
def less : List Op → List Op → Bool
  | [], b => !b.isEmpty
  | _ :: _, [] => false
  | a :: l, b :: m => if a = b then less l m else decide (a.kind < b.kind ∨ (a.kind = b.kind ∧ a.term < b.term))
theorem one_of {l : List Stp} (h : l.length ≤ 1) : l.Pairwise (fun a b => a.op.kind < b.op.kind) := by
  match l, h with
  | [], _ => exact .nil
  | [x], _ => exact List.pairwise_singleton _ _
theorem st1_shape (I : In) (i : Nat) (ys : List Int) : (st1 I i ys).length ≤ 1 ∧ ∀ s, s ∈ st1 I i ys → s.op.kind = 1 := by
  unfold st1; split
  · split
    · split <;> simp
    · simp
  · simp
theorem st2_shape (I : In) (i : Nat) : (st2 I i).length ≤ 1 ∧ ∀ s, s ∈ st2 I i → s.op.kind = 2 := by
  unfold st2; split
  · split <;> simp
  · simp
theorem st3_shape (I : In) (ys : List Int) : (st3 I ys).length ≤ 1 ∧ ∀ s, s ∈ st3 I ys → s.op.kind = 3 := by
  unfold st3; split
  · split <;> simp
  · simp
theorem st4_shape (I : In) (i : Nat) (ys : List Int) : (st4 I i ys).length ≤ 1 ∧ ∀ s, s ∈ st4 I i ys → s.op.kind = 4 := by
  unfold st4; split
  · split <;> simp
  · simp
theorem steps_sorted (I : In) (i : Nat) (ys : List Int) : (steps I i ys).Pairwise (fun a b => a.op.kind < b.op.kind) := by
  obtain ⟨a1, a2⟩ := st1_shape I i ys
  obtain ⟨b1, b2⟩ := st2_shape I i
  obtain ⟨c1, c2⟩ := st3_shape I ys
  obtain ⟨d1, d2⟩ := st4_shape I i ys
  unfold steps
  refine List.pairwise_append.2 ⟨one_of a1, List.pairwise_append.2 ⟨one_of b1, List.pairwise_append.2 ⟨one_of c1, one_of d1, ?_⟩, ?_⟩, ?_⟩
  · intro a ha b hb; rw [c2 a ha, d2 b hb]; decide
  · intro a ha b hb; rw [b2 a ha]
    rcases List.mem_append.1 hb with hb | hb
    · rw [c2 b hb]; decide
    · rw [d2 b hb]; decide
  · intro a ha b hb; rw [a2 a ha]
    rcases List.mem_append.1 hb with hb | hb
    · rw [b2 b hb]; decide
    · rcases List.mem_append.1 hb with hb | hb
      · rw [c2 b hb]; decide
      · rw [d2 b hb]; decide
theorem one_inj {I : In} {i : Nat} {o : Op} {x x' : Int} {k k' : Nat} {e e' : List Int} (h : One I i o x k e) (h' : One I i o x' k' e') : x = x' ∧ k = k' ∧ e = e' := by
  cases h with
  | read hc hx h0 => cases h' with
    | read hc' hx' h0' => rw [hc] at hc'; injection hc' with hc'; subst hc'; rw [hx] at hx'; injection hx' with hx'; exact ⟨hx', rfl, rfl⟩
  | del hc hd => cases h' with
    | del hc' hd' => rw [hc] at hc'; injection hc' with hc'; subst hc'; exact ⟨rfl, rfl, rfl⟩
  | ins hx => cases h' with
    | ins hx' => rw [hx] at hx'; injection hx' with hx'; exact ⟨hx', rfl, rfl⟩
  | swap hab => cases h' with
    | swap hab' => rw [hab] at hab'; injection hab' with hab'; injection hab' with h1 h2; subst h1; subst h2; exact ⟨rfl, rfl, rfl⟩
theorem align_least {I : In} (hI : Okin I) : ∀ (l : List Op) (i : Nat) (ys out : List Int) (c : Int) (s' : St), i ≤ I.cols.length → 0 ≤ c → execs I ⟨i, out, c⟩ l = some s' → s'.at_ = I.cols.length → s'.out = out ++ ys → s'.cost < inf → s'.cost = c + C I i ys → less l (align I i ys) = false
  | [], i, ys, out, c, s', hi, _, h, hn, ho, _, _ => by
    simp only [execs, Option.some.injEq] at h; subst h
    simp only at hn ho
    have hy : ys = [] := by simpa using ho
    subst hy; subst hn
    rw [align_end]; rfl
  | o :: l, i, ys, out, c, s', hi, h0, h, hn, ho, hlt, hcost => by
    simp only [execs] at h
    cases he : exec I ⟨i, out, c⟩ o with
    | none => simp [he] at h
    | some s1 =>
      simp only [he] at h
      obtain ⟨x, k, e1, h2, rfl⟩ := exec_one he
      have hsz := one_size h2
      have hx := one_cost hI h2
      simp only at h2 hsz h
      have hc1 := C_nonneg hI _ i ys (Nat.le_refl _) hi
      obtain ⟨e2, h3, h4, _⟩ := execs_low hI l _ s' h hn (by simp only; omega) (by simp only [plus, inf]; omega) (by simp only [plus, inf]; omega)
      simp only at h3 h4
      have hys : ys = e1 ++ e2 := by rw [ho, List.append_assoc] at h3; exact List.append_cancel_left h3
      subst hys
      have h6 := C_step (r := e2) hi h2
      have h7 := C_nonneg hI _ (i + k) e2 (Nat.le_refl _) (by omega)
      have h8 : C I i (e1 ++ e2) = x + C I (i + k) e2 ∧ plus c x = c + x := by unfold plus inf at *; omega
      have hm := one_steps (r := e2) h2
      have hne : ¬ (i = I.cols.length ∧ e1 ++ e2 = []) := fun hh => by
        have h1 : e1 = [] := by have := hh.2; simp at this; exact this.1
        subst h1; simp at hsz; omega
      obtain ⟨s, hs⟩ := found hi hne (by omega)
      have hgood : good I i (e1 ++ e2) ⟨o, x, k, e1.length⟩ = true := by
        simp only [good, List.drop_left, decide_eq_true_eq]
        unfold plus inf at *; omega
      rw [align_eq hi hne hs]
      obtain ⟨hp, as, bs, hsplit, hbefore⟩ := List.find?_eq_some_iff_append.1 hs
      have hmem : (⟨o, x, k, e1.length⟩ : Stp) = s ∨ (⟨o, x, k, e1.length⟩ : Stp) ∈ bs := by
        rw [hsplit] at hm
        rcases List.mem_append.1 hm with h9 | h9
        · have := hbefore _ h9; rw [hgood] at this; cases this
        · exact List.mem_cons.1 h9
      rcases hmem with rfl | hmem
      · simp only [less, if_true]
        have hd : (e1 ++ e2).drop e1.length = e2 := List.drop_left
        simp only [hd]
        exact align_least hI l (i + k) e2 (out ++ e1) (plus c x) s' (by omega) (by omega) h hn h3 hlt (by omega)
      · have hsorted := steps_sorted I i (e1 ++ e2)
        rw [hsplit] at hsorted
        have := (List.pairwise_append.1 hsorted).2.1
        have h9 := (List.pairwise_cons.1 this).1 _ hmem
        simp only at h9
        simp only [less]
        rw [if_neg (fun e => by rw [e] at h9; omega)]
        simp; omega
theorem align_small {I : In} (hI : Okin I) {l : List Op} {s : St} (h : run I l = some s) (hc : s.cost = C I 0 s.out) (hlt : s.cost < inf) : less l (align I 0 s.out) = false := by
  unfold run at h
  split at h
  · rename_i s' hs'
    split at h
    · rename_i hn
      injection h with h; subst h
      exact align_least hI l 0 _ [] 0 _ (Nat.zero_le _) (by decide) hs' hn (by simp) hlt (by omega)
    · cases h
  · cases h
/- more of it -/
theorem C_lift {I J : In} (hI : Okin I) {d : Nat} {zs : List Int} {z : Int} (hone : ∀ i o x k e, One I i o x k e → One J (i + d) o x k e) (hlen : I.cols.length + d ≤ J.cols.length) (hz : 0 ≤ z) (hbase : C J (I.cols.length + d) zs ≤ z) : ∀ n i ys, fuel I i ys ≤ n → i ≤ I.cols.length → C J (i + d) (ys ++ zs) ≤ C I i ys + z
  | 0, i, ys, h, _ => by unfold fuel at h; omega
  | n + 1, i, ys, h, hi => by
    have hj := C_le_inf J (i + d) (ys ++ zs) (by omega)
    rw [C_eq I i ys hi]
    split
    · rename_i he; obtain ⟨rfl, rfl⟩ := he
      simpa using hbase
    · rcases least_mem ((steps I i ys).map fun s => plus s.cost (C I (i + s.tok) (ys.drop s.emi))) with h1 | h1
      · omega
      · obtain ⟨s, hs, he⟩ := List.mem_map.1 h1
        rw [← he]
        obtain ⟨h3, h4⟩ := fuel_step hi hs
        obtain ⟨e, r, rfl, hemi, h2⟩ := steps_one hs
        have hd : (e ++ r).drop s.emi = r := by rw [hemi, List.drop_left]
        rw [hd] at h3 ⊢
        have ih := C_lift hI hone hlen hz hbase n (i + s.tok) r (by omega) h4
        have h5 := C_step (r := r ++ zs) (by omega) (hone _ _ _ _ _ h2)
        rw [show i + d + s.tok = i + s.tok + d by omega, ← List.append_assoc] at h5
        unfold plus at *; omega
theorem C_one_more {I : In} (hI : Okin I) (ys : List Int) {t x : Int} (hx : at_ I.ins t = some x) : C I 0 (ys ++ [t]) ≤ C I 0 ys + x := by
  have hx0 := one_cost hI (One.ins (i := I.cols.length) hx)
  refine C_lift hI (d := 0) (fun _ _ _ _ _ h => h) (by omega) hx0.1 ?_ _ 0 ys (Nat.le_refl _) (Nat.zero_le _)
  have := C_step (r := []) (Nat.le_refl _) (One.ins (i := I.cols.length) hx)
  rw [C_eq I (I.cols.length + 0) [] (by omega), if_pos ⟨rfl, rfl⟩] at this
  simp only [List.append_nil, Nat.add_zero] at this ⊢
  unfold plus at this; omega
theorem one_cols {I J : In} {d : Nat} (hc : ∀ i c, I.cols[i]? = some c → J.cols[i + d]? = some c) (hi : J.ins = I.ins) (hs : J.swap = I.swap) {i : Nat} {o : Op} {x : Int} {k : Nat} {e : List Int} (h : One I i o x k e) : One J (i + d) o x k e := by
  cases h with
  | read h1 h2 h3 => exact .read (hc _ _ h1) h2 h3
  | del h1 h2 => exact .del (hc _ _ h1) h2
  | ins h1 => exact .ins (by rw [hi]; exact h1)
  | swap h1 =>
    rw [← hs]
    refine .swap ?_
    unfold swp at h1 ⊢
    split at h1
    · rename_i a b ha hb
      have hb' := hc _ _ hb
      rw [show i + 1 + d = i + d + 1 by omega] at hb'
      rw [hc _ _ ha, hb', hs]; exact h1
    · cases h1
theorem C_cat {A B J : In} (hA : Okin A) (hB : Okin B) (hj : J.cols = A.cols ++ B.cols) (h1 : J.ins = A.ins) (h2 : J.ins = B.ins) (h3 : J.swap = A.swap) (h4 : J.swap = B.swap) (ys zs : List Int) : C J 0 (ys ++ zs) ≤ C A 0 ys + C B 0 zs := by
  have hlen : J.cols.length = A.cols.length + B.cols.length := by rw [hj, List.length_append]
  have hb : C J (A.cols.length + 0) zs ≤ C B 0 zs := by
    have := C_lift (J := J) hB (d := A.cols.length) (zs := []) (z := 0) (fun _ _ _ _ _ h => one_cols (fun i c hc => by
      rw [hj, List.getElem?_append_right (by omega), show i + A.cols.length - A.cols.length = i by omega]; exact hc) h2 h4 h) (by omega) (by decide) (by
      rw [C_eq J _ _ (by omega), if_pos ⟨by omega, rfl⟩]; decide) _ 0 zs (Nat.le_refl _) (Nat.zero_le _)
    rw [List.append_nil, show 0 + A.cols.length = A.cols.length + 0 by omega] at this
    omega
  exact C_lift hA (d := 0) (fun _ _ _ _ _ h => one_cols (fun i c hc => by
      rw [hj, Nat.add_zero, List.getElem?_append_left (List.getElem?_eq_some_iff.1 hc).1]; exact hc) h1 h3 h) (by omega) (C_nonneg hB _ 0 zs (Nat.le_refl _) (Nat.zero_le _)) hb _ 0 ys (Nat.le_refl _) (Nat.zero_le _)
theorem C_front {I F : In} (hF : Okin F) {c : Col} (hc : I.cols = F.cols ++ [c]) (h1 : I.ins = F.ins) (h3 : I.swap = F.swap) (hd : 0 ≤ c.del) (ys : List Int) : C I 0 ys ≤ C F 0 ys + c.del := by
  have hlen : I.cols.length = F.cols.length + 1 := by rw [hc]; simp
  have hat : I.cols[F.cols.length]? = some c := by rw [hc]; simp
  have := C_lift (J := I) hF (d := 0) (zs := []) (z := c.del) (fun _ _ _ _ _ h => one_cols (fun i c' h' => by
      rw [hc, Nat.add_zero, List.getElem?_append_left (List.getElem?_eq_some_iff.1 h').1]; exact h') h1 h3 h) (by omega) hd (by
      by_cases h : c.del < inf
      · have := C_step (r := []) (show F.cols.length ≤ I.cols.length by omega) (One.del hat h)
        rw [C_eq I (F.cols.length + 1) [] (by omega), if_pos ⟨by omega, rfl⟩] at this
        simp only [List.append_nil, Nat.add_zero] at this ⊢
        unfold plus at this; omega
      · have := C_le_inf I (F.cols.length + 0) [] (by omega)
        omega) _ 0 ys (Nat.le_refl _) (Nat.zero_le _)
  simpa using this
theorem own_kinds {I : In} (hI : Okin I) (hk : ∀ c, c ∈ I.cols → 0 ≤ c.kind) : ∀ n i, I.cols.length - i ≤ n → i ≤ I.cols.length → C I i ((I.cols.drop i).map (·.kind)) = 0 ∧ align I i ((I.cols.drop i).map (·.kind)) = (I.cols.drop i).map fun c => ⟨1, c.kind⟩
  | 0, i, h, hi => by
    have : i = I.cols.length := by omega
    subst this
    simp only [List.drop_length, List.map_nil]
    exact ⟨by rw [C_eq I _ _ (Nat.le_refl _), if_pos ⟨rfl, rfl⟩], align_end I⟩
  | n + 1, i, h, hi => by
    by_cases hn : i = I.cols.length
    · subst hn
      simp only [List.drop_length, List.map_nil]
      exact ⟨by rw [C_eq I _ _ (Nat.le_refl _), if_pos ⟨rfl, rfl⟩], align_end I⟩
    · have hlt : i < I.cols.length := by omega
      obtain ⟨ih1, ih2⟩ := own_kinds hI hk n (i + 1) (by omega) (by omega)
      have hc : I.cols[i]? = some I.cols[i] := List.getElem?_eq_getElem hlt
      have hmem : I.cols[i] ∈ I.cols := List.getElem_mem hlt
      have hok := hI.cols _ hmem
      have hk0 := hk _ hmem
      have hread : at_ I.cols[i].read I.cols[i].kind = some 0 := by
        obtain ⟨x, hx, hx2⟩ := hok.r I.cols[i].kind.toNat (by have := hok.hi; omega)
        rw [if_pos (by omega)] at hx2; subst hx2
        unfold at_; rw [if_neg (by omega)]; exact hx
      rw [List.drop_eq_getElem_cons hlt, List.map_cons, List.map_cons]
      have hone : One I i ⟨1, I.cols[i].kind⟩ 0 1 [I.cols[i].kind] := .read hc hread (Int.le_refl _)
      have h1 := C_step (r := (I.cols.drop (i + 1)).map (·.kind)) hi hone
      have h2 := C_nonneg hI _ i (I.cols[i].kind :: (I.cols.drop (i + 1)).map (·.kind)) (Nat.le_refl _) hi
      rw [ih1] at h1
      have hC : C I i (I.cols[i].kind :: (I.cols.drop (i + 1)).map (·.kind)) = 0 := by
        simp only [List.cons_append, List.nil_append] at h1
        unfold plus at h1; omega
      refine ⟨hC, ?_⟩
      have hfind : (steps I i (I.cols[i].kind :: (I.cols.drop (i + 1)).map (·.kind))).find? (good I i (I.cols[i].kind :: (I.cols.drop (i + 1)).map (·.kind))) = some ⟨⟨1, I.cols[i].kind⟩, 0, 1, 1⟩ := by
        have : st1 I i (I.cols[i].kind :: (I.cols.drop (i + 1)).map (·.kind)) = [⟨⟨1, I.cols[i].kind⟩, 0, 1, 1⟩] := by simp [st1, hc, hread]
        unfold steps
        rw [this, List.cons_append, List.find?_cons_of_pos]
        simp only [good, List.drop_succ_cons, List.drop_zero, ih1, hC, decide_eq_true_eq]
        decide
      rw [align_eq hi (fun hh => by cases hh.2) hfind]
      simp only [List.drop_succ_cons, List.drop_zero]
      rw [ih2]
end Go.Proofs.Ed
