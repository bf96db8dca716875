/- The law EditscriptAlignIsOptimal of edit scripts returns true for every input; conditions: none but the form of the row. -/
import Derived.Test.YtlefheiohblgdaaDoorRowsH
import Derived.Test.YtlefheiohblgdaaDoorTie
import Derived.Test.YtlefheiohblgdaaDoorCards
import Derived.SevenTiedAt
namespace Go.Proofs.YtlefheiohblgdaaDoor
open Go Go.Fx Go.Proofs Go.ChangeShapes Go.WideShapes Go.ChangeAt Go.RowKit
theorem editscriptAlignIsOptimal_lifted (os : Os) (started : os.Started) (H : Type) (enc : TypeId × Value → H) :
    ReturnsInHanded {} Tryd.checked os 6 .any (fun w args => (Rows.editscriptAlignIsOptimalSpec.pre enc Tryd.prog Tryd.f6 [] false w args ∧ laidMetH Tryd.prog laid1 w) ∧ sizedMet enc Tryd.prog Tryd.f6 (OpenSpec.ofChange Rows.editscriptAlignIsOptimalSpec) false w args) (Rows.editscriptAlignIsOptimalSpec.post enc Tryd.prog Tryd.f6 false true false false) := by
  refine returnsInHanded_of_change_and (C := Tryd.checked) (X := fun w _ => laidMetH Tryd.prog laid1 w) (fun _ _ _ hh h => h.of_heap hh) Tryd.own started (by kernel_rfl) Tryd.func6
    (ChangeSpec.witness_shaped (enc := enc) (C := Tryd.checked) (os := os) (X := fun w _ => laidMetH Tryd.prog laid1 w) false (World.doorLaid Tryd.prog 600 os) #[.agg #[.slice none 0 0, .slice none 0 0, .int .i64 0], .slice none 0 0] 8 rfl (World.shaped_of_RefB (by kernel_rfl) (by kernel_rfl)) (by kernel_rfl) (by kernel_rfl) (by kernel_rfl) (door_met os _)) ?_
  intro W base args ds gs before hval0 hW _ hsz0 hL _
  have hsz : (DataW.weightsEach Tryd.prog (Tryd.f6.params.toList ++ Rows.editscriptAlignIsOptimalSpec.plain.varTypes Tryd.prog) (ds ++ gs)).all (· ≤ reachBytes) = true := hsz0
  clear hsz0
  have hval : ∀ (j : Nat) t v, Tryd.f6.params[j]? = some t → args[j]? = some v → Value.okWide Tryd.prog W .any base t v := hval0
  have hW' := hW
  obtain ⟨p, q, hA0, hV, rfl, _, _⟩ := hW
  have hA : DataW.TrodAll enc Tryd.prog W 0 (fun _ => true) true Tryd.f6.params.toList args.toList ds p := hA0
  rw [Tryd.params6] at hA hval hsz
  obtain ⟨v0, v1, d0, d1, p0, p1, rfl, rfl, rfl, h0, h1⟩ := trodAll_two hA
  obtain ⟨rfl, rfl⟩ := trodVars_none hV
  clear hA0 hval0
  simp only [List.append_nil] at hW'
  have hlt := fun x hx => hW'.lt x hx
  obtain ⟨⟨⟨A0, c0, l0⟩, ⟨B0, d0, i0⟩, s0, _⟩, rfl, ⟨g1, g2, g3, g4⟩, ⟨k1, k2, k3, k4⟩, gs0, _⟩ := (Opn.struct Tryd.underlying25 (by intro _; exact cells_25.symm) (OpnF.cons (Opn.slice Tryd.underlying22 cells_22 ((Opn.struct Tryd.underlying44 (by intro _; exact cells_44.symm) (OpnF.cons (Opn.i64 Tryd.underlying3 cells_3) (rfl) (OpnF.cons (Opn.slice Tryd.underlying23 cells_23 (Opn.i64 Tryd.underlying3 cells_3) (by rw [cells_3]; decide)) (by simp only [cells_3]) (OpnF.cons (Opn.i64 Tryd.underlying3 cells_3) (by simp only [cells_23, cells_3]) (OpnF.nil (by simp only [cells_44, cells_23, cells_3])))))).iso colF (fun x => (⟨x.2.1.1, x.2.1.2.1, ⟨x.1, x.2.1.2.2, x.2.2.1⟩⟩ : XCol)) (fun _ => rfl) (by intro _; exact cells_44.symm)) (by rw [cells_44]; decide)) (rfl) (OpnF.cons (Opn.slice Tryd.underlying23 cells_23 (Opn.i64 Tryd.underlying3 cells_3) (by rw [cells_3]; decide)) (by simp only [cells_22]) (OpnF.cons (Opn.i64 Tryd.underlying3 cells_3) (by simp only [cells_22, cells_23]) (OpnF.nil (by simp only [cells_25, cells_22, cells_23, cells_3])))))).parg Tryd.underlying25 (hval 0 25 v0 rfl rfl) h0 (weight_of hsz (j := 0) (t := 25) (d := d0) rfl rfl)
  obtain ⟨⟨C1, c1, l1⟩, hv1, m1, m2, m3, m4⟩ := (Opn.slice Tryd.underlying23 cells_23 (Opn.i64 Tryd.underlying3 cells_3) (by rw [cells_3]; decide)).pslice Tryd.underlying23 (hval 1 23 v1 rfl rfl) h1 (weight_of hsz (j := 1) (t := 23) (d := d1) rfl rfl)
  injection hv1 with hv1; subst hv1
  have hact := of_laid hL
  rw [cells_44] at g4
  rw [bytes_44] at g2
  rw [bytes_3] at k2
  rw [cells_3] at k4
  have hxl : l0.length ≤ 140737488355328 := by have g2 : l0.length * _ ≤ wtop := g2; unfold wtop at g2; omega
  have hil : i0.length ≤ 140737488355328 := by have k2 : i0.length * _ ≤ wtop := k2; unfold wtop at k2; omega
  have hM : (⟨A0, c0, l0, B0, d0, i0, s0⟩ : Inp).mem W := ⟨g4, k4, fun k x hx => by
    obtain ⟨a, rfl, ga⟩ := g3 x (List.mem_of_getElem? hx)
    have := ga.2.1.2.2.2
    rw [cells_3] at this
    exact this⟩
  refine (optimal_law ⟨A0, c0, l0, B0, d0, i0, s0⟩ ⟨hxl, hil⟩ W hM hact C1 c1 l1 (by rw [cells_3] at m4; exact m4)).mono fun e W' he => ?_
  obtain ⟨rfl, hb⟩ := ret_true he
  exact ⟨_, rfl, row_below (pa := p0 ++ p1) (pv := []) hW' (fun _ _ _ => trodAll_mk1 (shut_bool Tryd.underlying4 true)) (fun sp hs => trodAll_mk2 (again Tryd.laidOut rd_25 rw_25 hb h0 hlt (fun x hx => by simp [hx]) hs) (again Tryd.laidOut rd_23 rw_23 hb h1 hlt (fun x hx => by simp [hx]) hs)) (fun _ _ => rfl) (by simp) hb
    (ok_one (by kernel_rfl) rfl (okWide_bool_mk Tryd.underlying4 true))⟩
theorem editscriptAlignIsOptimal_holds : Rows.EditscriptAlignIsOptimalSaid :=
  OpenClaim.holds_of_wide 6 Tryd.f6 rfl rfl rfl rfl rfl rfl rfl ⟨rfl, rfl, rfl, rfl, rfl⟩ rfl rfl rfl rfl rfl (by kernel_rfl) Tryd.func6 (by kernel_rfl)
    (of_decide_eq_true (by kernel_rfl)) (by unfold Func.isWrapper; rw [if_neg (of_decide_eq_false (by kernel_rfl))]; exact ⟨rfl, rfl⟩)
    (fun os started H enc _ => editscriptAlignIsOptimal_lifted os started H enc)
theorem editscriptAlignIsOptimalCard_holds : Rows.EditscriptAlignIsOptimalCardSaid :=
  Claim7.holds_tied_plain_at .later [] [.funcs] true (true, "7bd5c5ecda92266dfc461737ce209e9d5cba87df88b2681df4c73668f036458e") false
    editscriptAlignIsOptimal_holds (fun _ h => by cases h) (by kernel_rfl) (fun _ h => by cases h) editscriptAlignIsOptimal_row_tie rfl ⟨rfl, rfl⟩ (by kernel_rfl) rfl
    (fun f fn hf hfn => by
      obtain rfl : f = 6 := Option.some.inj ((show Tryd.prog.funcNamed "emendate/emendatelaw36.EditscriptAlignIsOptimal" = some 6 by kernel_rfl).symm.trans hf) |>.symm
      obtain rfl : fn = Tryd.f6 := (Option.some.inj (Tryd.func6.symm.trans hfn)).symm
      exact ⟨by kernel_rfl, fun j t ht => by
        rw [Tryd.params6] at ht
        have hm : t ∈ [25, 23] := by simpa using Array.mem_of_getElem? ht
        have hall : ([25, 23].all fun u => !Tryd.prog.wantsStandIn u) = true := by kernel_rfl
        exact (show Tryd.prog.wantsStandIn t = false by simpa using List.all_eq_true.1 hall t hm)⟩)
    (by kernel_rfl)
end Go.Proofs.YtlefheiohblgdaaDoor
