/- The table of distances as a list that is filled point by point; conditions: none. -/
import Derived.Test.YtnkmemoagimddaaPlain
namespace Go.Proofs.Td
/-- what is written at a point, from the row as it is -/
def val (a b : Bs) (F : List Nat) (x : Nat × Nat) : Nat :=
  if x.1 = a.length then b.length - x.2
  else if x.2 = b.length then a.length - x.1
  else if a[x.1]? = b[x.2]? then (F[(x.1 + 1) * (b.length + 1) + (x.2 + 1)]?).getD 0
  else 1 + min ((F[(x.1 + 1) * (b.length + 1) + x.2]?).getD 0) ((F[x.1 * (b.length + 1) + (x.2 + 1)]?).getD 0)
def step (a b : Bs) (F : List Nat) (x : Nat × Nat) : List Nat := F.set (x.1 * (b.length + 1) + x.2) (val a b F x)
def tab (a b : Bs) (xs : List (Nat × Nat)) : List Nat := xs.foldl (step a b) (List.replicate ((a.length + 1) * (b.length + 1)) 0)
theorem length_step (a b : Bs) (F : List Nat) (x : Nat × Nat) : (step a b F x).length = F.length := by simp [step]
theorem tab_snoc (a b : Bs) (xs : List (Nat × Nat)) (x : Nat × Nat) : tab a b (xs ++ [x]) = step a b (tab a b xs) x := by simp [tab]
theorem length_foldl (a b : Bs) : ∀ (xs : List (Nat × Nat)) (F : List Nat), (xs.foldl (step a b) F).length = F.length
  | [], _ => rfl
  | x :: xs, F => by rw [List.foldl_cons, length_foldl a b xs, length_step]
theorem length_tab (a b : Bs) (xs : List (Nat × Nat)) : (tab a b xs).length = (a.length + 1) * (b.length + 1) := by rw [tab, length_foldl, List.length_replicate]
/-- no entry is greater than the lengths and the number of points -/
theorem val_le (a b : Bs) (F : List Nat) (x : Nat × Nat) (M : Nat) (hF : ∀ y, y ∈ F → y ≤ M) (hM : a.length + b.length ≤ M) : val a b F x ≤ M + 1 := by
  have h0 : ∀ k : Nat, (F[k]?).getD 0 ≤ M := fun k => by
    cases h : F[k]? with
    | none => simp
    | some y => exact hF y (List.mem_of_getElem? h)
  unfold val
  have h1 := h0 ((x.1 + 1) * (b.length + 1) + (x.2 + 1))
  have h2 := h0 ((x.1 + 1) * (b.length + 1) + x.2)
  split
  · omega
  · split
    · omega
    · split <;> omega
theorem foldl_le (a b : Bs) : ∀ (xs : List (Nat × Nat)) (F : List Nat) (M : Nat), (∀ y, y ∈ F → y ≤ M) → a.length + b.length ≤ M → ∀ y, y ∈ xs.foldl (step a b) F → y ≤ M + xs.length
  | [], F, M, hF, _, y, hy => by simpa using hF y hy
  | x :: xs, F, M, hF, hM, y, hy => by
    have h1 : ∀ z, z ∈ step a b F x → z ≤ M + 1 := fun z hz => by
      rcases List.mem_or_eq_of_mem_set hz with h | h
      · have := hF z h; omega
      · rw [h]; exact val_le a b F x M hF hM
    have := foldl_le a b xs (step a b F x) (M + 1) h1 (by omega) y hy
    simp only [List.length_cons]; omega
theorem tab_le (a b : Bs) (xs : List (Nat × Nat)) : ∀ y, y ∈ tab a b xs → y ≤ a.length + b.length + xs.length :=
  foldl_le a b xs _ _ (fun y hy => by have := (List.mem_replicate.1 hy).2; omega) (Nat.le_refl _)
/-- the points in the order in which the table is filled: from the end on -/
def pnt (n m k : Nat) : Nat × Nat := (n - k / (m + 1), m - k % (m + 1))
theorem pnt_index {n m k : Nat} (hk : k < (n + 1) * (m + 1)) : (pnt n m k).1 * (m + 1) + (pnt n m k).2 = (n + 1) * (m + 1) - 1 - k ∧ (pnt n m k).1 ≤ n ∧ (pnt n m k).2 ≤ m := by
  have h1 : k / (m + 1) ≤ n := by
    have := (Nat.div_lt_iff_lt_mul (show 0 < m + 1 by omega)).2 hk
    omega
  have h2 : k % (m + 1) < m + 1 := Nat.mod_lt _ (by omega)
  have h3 := Nat.div_add_mod k (m + 1)
  obtain ⟨d, hd⟩ : ∃ d, n = k / (m + 1) + d := ⟨n - k / (m + 1), by omega⟩
  refine ⟨?_, Nat.sub_le _ _, Nat.sub_le _ _⟩
  show (n - k / (m + 1)) * (m + 1) + (m - k % (m + 1)) = _
  rw [show n - k / (m + 1) = d by omega]
  have h4 : (n + 1) * (m + 1) = (m + 1) * (k / (m + 1)) + d * (m + 1) + (m + 1) := by
    rw [hd, Nat.mul_comm (m + 1)]; simp only [Nat.add_mul, Nat.one_mul]
  omega
/-- the whole table -/
def full (a b : Bs) : List Nat := tab a b ((List.range ((a.length + 1) * (b.length + 1))).map (pnt a.length b.length))
theorem drop_nil {a : Bs} {i : Nat} (h : i = a.length) : a.drop i = [] := List.drop_of_length_le (by omega)
theorem drop_cons {a : Bs} {i : Nat} (h : i < a.length) : ∃ x, a[i]? = some x ∧ a.drop i = x :: a.drop (i + 1) := ⟨a[i], List.getElem?_eq_getElem h, (List.drop_eq_getElem_cons h)⟩
/-- a row is right from p on -/
def Right (a b : Bs) (F : List Nat) (p : Nat) : Prop := ∀ i j, i ≤ a.length → j ≤ b.length → p ≤ i * (b.length + 1) + j → F[i * (b.length + 1) + j]? = some (D (a.drop i) (b.drop j))
theorem index_inj {m i j i' j' : Nat} (hj : j ≤ m) (hj' : j' ≤ m) (h : i * (m + 1) + j = i' * (m + 1) + j') : i = i' ∧ j = j' := by
  have h1 : (i * (m + 1) + j) / (m + 1) = i := by rw [Nat.mul_comm, Nat.mul_add_div (by omega), Nat.div_eq_of_lt (by omega)]; rfl
  have h2 : (i' * (m + 1) + j') / (m + 1) = i' := by rw [Nat.mul_comm, Nat.mul_add_div (by omega), Nat.div_eq_of_lt (by omega)]; rfl
  have h3 : i = i' := by rw [← h1, ← h2, h]
  subst h3
  exact ⟨rfl, by omega⟩
theorem val_right (a b : Bs) (F : List Nat) (i j : Nat) (hi : i ≤ a.length) (hj : j ≤ b.length) (hF : Right a b F (i * (b.length + 1) + j + 1)) : val a b F (i, j) = D (a.drop i) (b.drop j) := by
  unfold val
  simp only
  by_cases h1 : i = a.length
  · rw [if_pos h1, drop_nil h1, D_nil, List.length_drop]
  rw [if_neg h1]
  by_cases h2 : j = b.length
  · rw [if_pos h2, drop_nil h2, D_nil_r, List.length_drop]
  rw [if_neg h2]
  obtain ⟨x, hx, hax⟩ := drop_cons (a := a) (i := i) (by omega)
  obtain ⟨y, hy, hby⟩ := drop_cons (a := b) (i := j) (by omega)
  have hm : (i + 1) * (b.length + 1) = i * (b.length + 1) + (b.length + 1) := by rw [Nat.add_mul]; omega
  rw [hx, hy]
  by_cases h3 : x = y
  · subst h3
    rw [if_pos rfl, hF (i + 1) (j + 1) (by omega) (by omega) (by omega), hax, hby, D_same]; rfl
  · rw [if_neg (fun h => h3 (Option.some.inj h)), hF (i + 1) j (by omega) (by omega) (by omega), hF i (j + 1) (by omega) (by omega) (by omega), hax, hby, D_diff h3]
    simp only [Option.getD_some, hax, hby]
theorem step_right (a b : Bs) (F : List Nat) (hl : F.length = (a.length + 1) * (b.length + 1)) (i j : Nat) (hi : i ≤ a.length) (hj : j ≤ b.length) (hF : Right a b F (i * (b.length + 1) + j + 1)) : Right a b (step a b F (i, j)) (i * (b.length + 1) + j) := fun i' j' hi' hj' hp => by
  have hlt : i * (b.length + 1) + j < F.length := by
    rw [hl, Nat.add_mul]
    have := Nat.mul_le_mul_right (b.length + 1) hi
    omega
  unfold step
  by_cases h : i * (b.length + 1) + j = i' * (b.length + 1) + j'
  · obtain ⟨rfl, rfl⟩ := index_inj hj hj' h
    simp only
    rw [List.getElem?_set_self hlt, val_right a b F i j hi hj hF]
  · simp only
    rw [List.getElem?_set_ne h]
    exact hF i' j' hi' hj' (by omega)
theorem tab_right (a b : Bs) : ∀ k, k ≤ (a.length + 1) * (b.length + 1) → Right a b (tab a b ((List.range k).map (pnt a.length b.length))) ((a.length + 1) * (b.length + 1) - k)
  | 0, _ => fun i j hi hj hp => by
    exfalso
    have := Nat.mul_le_mul_right (b.length + 1) hi
    rw [Nat.add_mul] at hp
    omega
  | k + 1, hk => by
    have ih := tab_right a b k (by omega)
    obtain ⟨h1, h2, h3⟩ := pnt_index (n := a.length) (m := b.length) (k := k) (by omega)
    rw [List.range_succ, List.map_append, List.map_cons, List.map_nil, tab_snoc]
    have := step_right a b (tab a b ((List.range k).map (pnt a.length b.length))) (length_tab ..) (pnt a.length b.length k).1 (pnt a.length b.length k).2 h2 h3 (by rw [h1, show (a.length + 1) * (b.length + 1) - 1 - k + 1 = (a.length + 1) * (b.length + 1) - k by omega]; exact ih)
    rw [h1] at this
    rw [show (a.length + 1) * (b.length + 1) - (k + 1) = (a.length + 1) * (b.length + 1) - 1 - k by omega]
    exact this
theorem full_at (a b : Bs) (i j : Nat) (hi : i ≤ a.length) (hj : j ≤ b.length) : (full a b)[i * (b.length + 1) + j]? = some (D (a.drop i) (b.drop j)) := by
  have := tab_right a b _ (Nat.le_refl _)
  exact this i j hi hj (by omega)
theorem length_full (a b : Bs) : (full a b).length = (a.length + 1) * (b.length + 1) := length_tab _ _ _
end Go.Proofs.Td
