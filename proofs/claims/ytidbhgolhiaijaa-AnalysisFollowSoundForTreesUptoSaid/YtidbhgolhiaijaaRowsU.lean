/- Opening a tree whose reading is of bounded bulk; conditions: that bound. -/
import Derived.Test.YtidbhgolhiaijaaRowsH
import Derived.Test.YtidbhgolhiaijaaWalksO
namespace Go.Proofs.Ytidbhgolhiaijaa
open Go Go.Fx Go.Proofs Go.ChangeShapes Go.WideShapes Go.ChangeAt Go.RowKit

theorem rd_36 : Try.prog.readableRec 36 = true := by kernel_rfl
theorem rw_36 : 36 < Try.prog.types.size := of_decide_eq_true (by kernel_rfl)
theorem cells_36 : Try.prog.cellsOf 36 = 3 := by kernel_rfl
theorem cells_34 : Try.prog.cellsOf 34 = 1 := by kernel_rfl
theorem bulk_part {H : Type} {d : DataW H} {l : List (DataW H)} (h : d ∈ l) : Rows.uptoBulk d ≤ Rows.uptoBulkAll l := by
  induction l with
  | nil => cases h
  | cons x r ih =>
    simp only [Rows.uptoBulkAll]
    rcases List.mem_cons.1 h with e | e
    · subst e; omega
    · have := ih e; omega
theorem bulk_app {H : Type} (l r : List (DataW H)) : Rows.uptoBulkAll (l ++ r) = Rows.uptoBulkAll l + Rows.uptoBulkAll r := by
  induction l with
  | nil => simp [Rows.uptoBulkAll]
  | cons x l ih => simp only [List.cons_append, Rows.uptoBulkAll, ih]; omega
theorem open_tree {H : Type} {enc : TypeId × Value → H} {W : World} : ∀ (b : Nat) {fuel : Nat} {cs : List Value} {x : DataW H × List MemPlace}, Rows.uptoBulk x.1 ≤ b → DataW.trod enc Try.prog W 0 (fun _ => true) true fuel 36 cs = some x → ∃ a : XT, cs = treF a ∧ XT.In W a ∧ a.size ≤ Rows.uptoBulk x.1
  | 0, fuel, cs, x, hb, hx => by
    obtain ⟨xs, n, _, rfl, _⟩ := DataW.trod_struct Try.underlying36 hx
    simp only [Rows.uptoBulk] at hb
    omega
  | b + 1, fuel, cs, x, hb, hx => by
    obtain ⟨xs, n, _, rfl, hl, hlen, hf⟩ := DataW.trod_struct Try.underlying36 hx
    rw [cells_36] at hl
    match cs, hl, xs, hlen with
    | [c0, c1, c2], _, [x0, x1, x2], _ =>
      have g0 : DataW.trod enc Try.prog W 0 (fun _ => true) true n 3 (([c0, c1, c2].drop 0).take (Try.prog.cellsOf 3)) = some x0 := hf 0 _ rfl
      rw [cells_3] at g0
      have g1 : DataW.trod enc Try.prog W 0 (fun _ => true) true n 3 (([c0, c1, c2].drop 1).take (Try.prog.cellsOf 3)) = some x1 := hf 1 _ rfl
      rw [cells_3] at g1
      have g2 : DataW.trod enc Try.prog W 0 (fun _ => true) true n 34 (([c0, c1, c2].drop 2).take (Try.prog.cellsOf 34)) = some x2 := hf 2 _ rfl
      rw [cells_34] at g2
      replace g0 : DataW.trod enc Try.prog W 0 (fun _ => true) true n 3 [c0] = some x0 := g0
      replace g1 : DataW.trod enc Try.prog W 0 (fun _ => true) true n 3 [c1] = some x1 := g1
      replace g2 : DataW.trod enc Try.prog W 0 (fun _ => true) true n 34 [c2] = some x2 := g2
      obtain ⟨r, e0, _, _⟩ := DataW.trod_int Try.underlying3 g0
      obtain ⟨t, e1, _, _⟩ := DataW.trod_int Try.underlying3 g1
      injection e0 with e0; injection e1 with e1
      subst e0; subst e1
      rcases Go.Deep.open_slice Try.underlying34 g2 with ⟨e2, rfl⟩ | ⟨a, len, cap, m, k, D, Pl, e2, _, hle, hm, hmm, rfl, hi⟩
      · injection e2 with e2; subst e2
        refine ⟨.mk r t none 0 [], rfl, .mk _ (Sl.nil _ _ _ _) (fun _ h => absurd h List.not_mem_nil), ?_⟩
        rw [XT.size_eq]
        simp only [XT.kids, sizes_nil, Rows.uptoBulk]
        omega
      · injection e2 with e2; subst e2
        simp only [if_true] at hmm
        subst hmm
        rw [cells_36] at hi
        simp only [List.map_cons, List.map_nil, Rows.uptoBulk, Rows.uptoBulkAll] at hb
        have hel : ∀ i, i < len → ∃ z : XT, (XT.In W z ∧ z.size ≤ Rows.uptoBulk (D i)) ∧ ∀ j u, (treF z)[j]? = some u → W.cell? ((a.add (i * 3)).add j) = some u := fun i hi' => by
          obtain ⟨cs', h1, h2⟩ := hi i (by omega)
          obtain ⟨_, _, h5⟩ := World.cells?_some h1
          have hp : Rows.uptoBulk (D i) ≤ Rows.uptoBulkAll ((List.range len).map D) := bulk_part (List.mem_map.2 ⟨i, List.mem_range.2 hi', rfl⟩)
          obtain ⟨z, rfl, hz⟩ := open_tree b (by show Rows.uptoBulk (D i) ≤ b; omega) h2
          refine ⟨z, hz, fun j u hj => ?_⟩
          rw [h5 j (by have := (List.getElem?_eq_some_iff.1 hj).1; exact this)]; exact hj
        have hlist : ∀ k, k ≤ len → ∃ l : List XT, l.length = k ∧ (∀ z, z ∈ l → XT.In W z) ∧ XT.sizes l ≤ Rows.uptoBulkAll ((List.range k).map D) ∧ ∀ i z, l[i]? = some z → ∀ j u, (treF z)[j]? = some u → W.cell? ((a.add (i * 3)).add j) = some u := fun k => by
          induction k with
          | zero => exact fun _ => ⟨[], rfl, fun z hz => absurd hz List.not_mem_nil, by rw [sizes_nil]; exact Nat.zero_le _, fun i z hz => by simp at hz⟩
          | succ k ih =>
            intro hk
            obtain ⟨l, h1, h2, h7, h3⟩ := ih (by omega)
            obtain ⟨z, ⟨h4, h8⟩, h6⟩ := hel k (by omega)
            refine ⟨l ++ [z], by simp [h1], fun z' hz' => ?_, ?_, fun i z' hz' => ?_⟩
            · rcases List.mem_append.1 hz' with hz' | hz'
              · exact h2 z' hz'
              · rw [List.mem_singleton.1 hz']; exact h4
            · rw [sizes_app, sizes_cons, sizes_nil, List.range_succ, List.map_append, bulk_app]
              simp only [List.map_cons, List.map_nil, Rows.uptoBulkAll]
              omega
            · by_cases hik : i < k
              · rw [List.getElem?_append_left (by omega)] at hz'; exact h3 i z' hz'
              · rw [List.getElem?_append_right (by omega)] at hz'
                have : i = k := by
                  have := (List.getElem?_eq_some_iff.1 hz').1
                  simp at this; omega
                subst this
                simp [h1] at hz'; subst hz'; exact h6
        obtain ⟨l, h1, h2, h7, h3⟩ := hlist len (Nat.le_refl _)
        refine ⟨.mk r t (some a) m l, by simp [treF, XT.rule, XT.term, XT.A, XT.kids, XT.c, h1], .mk _ (fun i z hz => ⟨rfl, ?_⟩) h2, ?_⟩
        · replace hz : l[i]? = some z := hz
          have h5 := h3 i z hz
          obtain ⟨b0, off, spot⟩ := a
          cases spot with
          | some s =>
            exfalso
            obtain ⟨b1, hb1⟩ : ∃ b1, l[0]? = some b1 := ⟨_, List.getElem?_eq_getElem (by have := (List.getElem?_eq_some_iff.1 hz).1; omega)⟩
            have := h3 0 b1 hb1 0 _ rfl
            simp only [World.cell?, Addr.add, Nat.zero_mul, if_true] at this
            split at this <;> simp at this
          | none =>
            refine ⟨b0, off, rfl, fun j u hj => ?_⟩
            have := h5 j u hj
            rw [off_add, off_add] at this
            rw [← Nat.add_assoc]; exact this
        · rw [XT.size_eq]
          simp only [XT.kids, List.map_cons, List.map_nil, Rows.uptoBulk, Rows.uptoBulkAll]
          omega
/-- a parameter that is a tree -/
theorem arg_tree {H : Type} {enc : TypeId × Value → H} {W : World} {r : Reach} {b0 : Nat} {v : Value} {d : DataW H} {ps : List MemPlace} (hval : Value.okWide Try.prog W r b0 36 v) (hd : DataW.Trod enc Try.prog W 0 (fun _ => true) true 36 v d ps) (hk : Rows.uptoBulk d ≤ 1048576) :
    ∃ x : XT, v = .agg #[.int .i64 x.rule, .int .i64 x.term, .slice x.A x.kids.length x.c] ∧ XT.In W x ∧ x.size ≤ 1048576 := by
  obtain ⟨cs, rfl, _⟩ := okWide_struct Try.underlying36 hval
  obtain ⟨fuel, hf⟩ := hd
  obtain ⟨x, e, h1, h2⟩ := open_tree _ (Nat.le_refl _) hf
  refine ⟨x, ?_, h1, Nat.le_trans h2 hk⟩
  replace e : cs.toList = treF x := by simpa [Value.cells] using e
  rw [show cs = (treF x).toArray by rw [← e]]
  rfl
end Go.Proofs.Ytidbhgolhiaijaa
