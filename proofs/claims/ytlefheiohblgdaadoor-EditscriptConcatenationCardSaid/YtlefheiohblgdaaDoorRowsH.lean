/- Closed facts on the program of edit scripts, for its rows; conditions: none. -/
import Derived.Test.YtlefheiohblgdaaDoorRows
import Derived.Test.YtlefheiohblgdaaDoorFxO
import Derived.Test.YtlefheiohblgdaaDoorWalksS
import Derived.LaidMore
import Derived.ProofKit
import Derived.Stop.Joined
namespace Go.Proofs.YtlefheiohblgdaaDoor
open Go Go.Fx Go.Proofs Go.ChangeShapes Go.WideShapes Go.ChangeAt Go.RowKit
theorem Tryd.own : ownKnob Tryd.prog.godebug = none := by kernel_rfl
theorem Tryd.laidOut : laidOutB Tryd.prog = true := by kernel_rfl
theorem rd_3 : Tryd.prog.readableRec 3 = true := by kernel_rfl
theorem rw_3 : 3 < Tryd.prog.types.size := of_decide_eq_true (by kernel_rfl)
theorem rd_4 : Tryd.prog.readableRec 4 = true := by kernel_rfl
theorem rw_4 : 4 < Tryd.prog.types.size := of_decide_eq_true (by kernel_rfl)
theorem rd_5 : Tryd.prog.readableRec 5 = true := by kernel_rfl
theorem rw_5 : 5 < Tryd.prog.types.size := of_decide_eq_true (by kernel_rfl)
theorem rd_23 : Tryd.prog.readableRec 23 = true := by kernel_rfl
theorem rw_23 : 23 < Tryd.prog.types.size := of_decide_eq_true (by kernel_rfl)
theorem rd_25 : Tryd.prog.readableRec 25 = true := by kernel_rfl
theorem rw_25 : 25 < Tryd.prog.types.size := of_decide_eq_true (by kernel_rfl)
theorem rd_26 : Tryd.prog.readableRec 26 = true := by kernel_rfl
theorem rw_26 : 26 < Tryd.prog.types.size := of_decide_eq_true (by kernel_rfl)
theorem cells_3 : Tryd.prog.cellsOf 3 = 1 := by kernel_rfl
theorem bytes_3 : Tryd.prog.bytesOf 3 = 8 := by kernel_rfl
theorem cells_4 : Tryd.prog.cellsOf 4 = 1 := by kernel_rfl
theorem bytes_4 : Tryd.prog.bytesOf 4 = 1 := by kernel_rfl
theorem cells_5 : Tryd.prog.cellsOf 5 = 1 := by kernel_rfl
theorem bytes_5 : Tryd.prog.bytesOf 5 = 1 := by kernel_rfl
theorem cells_22 : Tryd.prog.cellsOf 22 = 1 := by kernel_rfl
theorem bytes_22 : Tryd.prog.bytesOf 22 = 24 := by kernel_rfl
theorem cells_23 : Tryd.prog.cellsOf 23 = 1 := by kernel_rfl
theorem bytes_23 : Tryd.prog.bytesOf 23 = 24 := by kernel_rfl
theorem cells_25 : Tryd.prog.cellsOf 25 = 3 := by kernel_rfl
theorem bytes_25 : Tryd.prog.bytesOf 25 = 56 := by kernel_rfl
theorem cells_26 : Tryd.prog.cellsOf 26 = 1 := by kernel_rfl
theorem bytes_26 : Tryd.prog.bytesOf 26 = 24 := by kernel_rfl
theorem cells_44 : Tryd.prog.cellsOf 44 = 3 := by kernel_rfl
theorem bytes_44 : Tryd.prog.bytesOf 44 = 40 := by kernel_rfl
theorem cells_46 : Tryd.prog.cellsOf 46 = 2 := by kernel_rfl
theorem bytes_46 : Tryd.prog.bytesOf 46 = 16 := by kernel_rfl

section
variable {H : Type} {enc : TypeId × Value → H} {P : Program} {w : World} {base : Nat} {spare : Nat → Bool} {held : Bool}
theorem trod_array5 {t e : TypeId} {fuel : Nat} {cs : List Value} {x : DataW H × List MemPlace} (ht : P.underlying t = some (.array 5 e)) (hce : P.cellsOf e = 1) (hct : P.cellsOf t = 5)
    (h : DataW.trod enc P w base spare held fuel t cs = some x) : ∃ (c0 c1 c2 c3 c4 : Value) (y0 y1 y2 y3 y4 : DataW H × List MemPlace) (n : Nat), cs = [c0, c1, c2, c3, c4] ∧ x.1 = .agg [y0.1, y1.1, y2.1, y3.1, y4.1] ∧ DataW.trod enc P w base spare held n e [c1] = some y1 ∧ DataW.trod enc P w base spare held n e [c2] = some y2 ∧ DataW.trod enc P w base spare held n e [c3] = some y3 ∧ DataW.trod enc P w base spare held n e [c4] = some y4 := by
  cases fuel with
  | zero => simp [DataW.trod] at h
  | succ n =>
    unfold DataW.trod at h
    rw [ht] at h
    have r3 : List.range 5 = [0, 1, 2, 3, 4] := rfl
    simp [r3, hce] at h
    obtain ⟨hl, h⟩ := h
    rw [hct] at hl
    match cs, hl with
    | [c0, c1, c2, c3, c4], _ =>
      simp at h
      cases h0 : DataW.trod enc P w base spare held n e [c0] with
      | none => simp [h0] at h
      | some y0 =>
        cases h1 : DataW.trod enc P w base spare held n e [c1] with
        | none => simp [h0, h1] at h
        | some y1 =>
          cases h2 : DataW.trod enc P w base spare held n e [c2] with
          | none => simp [h0, h1, h2] at h
          | some y2 =>
            cases h3 : DataW.trod enc P w base spare held n e [c3] with
            | none => simp [h0, h1, h2, h3] at h
            | some y3 =>
              cases h4 : DataW.trod enc P w base spare held n e [c4] with
              | none => simp [h0, h1, h2, h3, h4] at h
              | some y4 =>
                simp [h0, h1, h2, h3, h4] at h
                exact ⟨c0, c1, c2, c3, c4, y0, y1, y2, y3, y4, n, rfl, by rw [← h], h1, h2, h3, h4⟩
end
theorem gAct : Tryd.prog.globalNamed "emendate/editscript.actions" = some 0 := by kernel_rfl
theorem tAct : (Tryd.prog.globals[0]?).map (·.type) = some 68 := by kernel_rfl
theorem cellsA : Tryd.prog.cellsOf 68 = 5 := by kernel_rfl
theorem cellsE : Tryd.prog.cellsOf 67 = 1 := by kernel_rfl
def laid1 : List (String × DataW Unit) := [("emendate/editscript.actions", Rows.laid_emendate_editscript_actions)]
theorem door_met (os : Os) (args : Array Value) : laidMetH Tryd.prog laid1 ((World.doorLaid Tryd.prog 600 os).forCall (fun _ _ => 0) ⟨#[], args, []⟩).memory :=
  laidMetH_of_parts3 (fuel := 8) (laidMet_of_run' 8 (by kernel_rfl) (by kernel_rfl)) (by kernel_rfl) (by kernel_rfl)
theorem of_laid {W : World} (h : laidMetH Tryd.prog laid1 W) : ActF W := by
  obtain ⟨g, t, cs, fuel, p, hg, ht, hv, hd⟩ := h.funcs (List.mem_singleton.2 rfl)
  obtain rfl := Option.some.inj (gAct.symm.trans hg)
  obtain rfl := Option.some.inj (tAct.symm.trans ht)
  obtain ⟨c0, c1, c2, c3, c4, y0, y1, y2, y3, y4, n, hcs, hx, h1, h2, h3, h4⟩ := trod_array5 Tryd.underlying68 cellsE cellsA hd
  simp only [DataW.funcsOut, DataW.funcsOutAll, DataW.agg.injEq, List.cons.injEq, and_true] at hx
  obtain ⟨_, e1, e2, e3, e4⟩ := hx
  obtain ⟨z1, q1⟩ := y1; obtain ⟨z2, q2⟩ := y2; obtain ⟨z3, q3⟩ := y3; obtain ⟨z4, q4⟩ := y4
  simp only at e1 e2 e3 e4
  subst e1; subst e2; subst e3; subst e4
  obtain rfl := func_of_trod (f0 := 58) Tryd.underlying67 (by kernel_rfl) h1
  obtain rfl := func_of_trod (f0 := 59) Tryd.underlying67 (by kernel_rfl) h2
  obtain rfl := func_of_trod (f0 := 60) Tryd.underlying67 (by kernel_rfl) h3
  obtain rfl := func_of_trod (f0 := 61) Tryd.underlying67 (by kernel_rfl) h4
  have hc : cs = #[c0, .func (.func 58) #[] #[], .func (.func 59) #[] #[], .func (.func 60) #[] #[], .func (.func 61) #[] #[]] := by
    rw [← Array.toArray_toList (xs := cs), hcs]
  intro k hk1 hk4
  rw [World.var?_cell hg hv k, hc]
  match k, hk1, hk4 with
  | 1, _, _ => rfl
  | 2, _, _ => rfl
  | 3, _, _ => rfl
  | 4, _, _ => rfl
end Go.Proofs.YtlefheiohblgdaaDoor
