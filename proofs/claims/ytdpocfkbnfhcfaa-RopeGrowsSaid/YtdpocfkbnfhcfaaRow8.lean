/- The law RopeGrows of ropes returns true for every input; conditions: none but the form of the row. -/
import Derived.Test.YtdpocfkbnfhcfaaRowsH
import Derived.Test.YtdpocfkbnfhcfaaWalksH
namespace Go.Proofs.Ytdpocfkbnfhcfaa
open Go Go.Fx Go.Proofs Go.ChangeShapes Go.WideShapes Go.ChangeAt Go.RowKit
theorem ropeGrows_lifted (os : Os) (started : os.Started) (H : Type) (enc : TypeId × Value → H) :
    ReturnsInHanded {} Try.checked os 8 .any (Rows.ropeGrowsSpec.pre6 enc Try.prog Try.f8 Rows.ropeGrowsRow.domain false) (Rows.ropeGrowsSpec.post enc Try.prog Try.f8 false true false false) := by
  refine returnsInHanded_of_change_sized (C := Try.checked) Try.own started (by kernel_rfl) Try.func8
    (ChangeSpec.witness6 (enc := enc) (C := Try.checked) false ⟨#[], #[.slice none 0 0, .bool false], []⟩ 8 (by kernel_rfl) (by kernel_rfl) (by kernel_rfl) (by kernel_rfl)) ?_
  intro W base args ds gs before hval0 hW _ hsz0 _
  have hsz : (DataW.weightsEach Try.prog (Try.f8.params.toList ++ Rows.ropeGrowsSpec.plain.varTypes Try.prog) (ds ++ gs)).all (· ≤ reachBytes) = true := hsz0
  clear hsz0
  have hval : ∀ (j : Nat) t v, Try.f8.params[j]? = some t → args[j]? = some v → Value.okWide Try.prog W .any base t v := hval0
  have hW' := hW
  obtain ⟨p, q, hA0, hV, rfl, _, _⟩ := hW
  have hA : DataW.TrodAll enc Try.prog W 0 (fun _ => true) true Try.f8.params.toList args.toList ds p := hA0
  rw [Try.params8] at hA hval hsz
  obtain ⟨v0, v1, d0, d1, p0, p1, rfl, rfl, rfl, h0, h1⟩ := trodAll_two hA
  obtain ⟨rfl, rfl⟩ := trodVars_none hV
  clear hA0 hval0
  simp only [List.append_nil] at hW'
  have hlt := fun x hx => hW'.lt x hx
  obtain ⟨⟨A0, c0, l0⟩, hv0, g1, g2, g3, g4⟩ := (Opn.slice Try.underlying47 cells_47 (Opn.str Try.underlying9 cells_9) (by rw [cells_9]; decide)).pslice Try.underlying47 (hval 0 47 v0 rfl rfl) h0 (weight_of hsz (j := 0) (t := 47) (d := d0) rfl rfl)
  injection hv0 with hv0; subst hv0
  obtain ⟨b1, rfl, _⟩ := open_bool Try.underlying4 (hval 1 4 v1 rfl rfl) h1
  refine (grows_law A0 c0 l0 b1 W (by rw [cells_9] at g4; exact g4)).mono fun e W' he => ?_
  obtain ⟨rfl, hb⟩ := ret_true he
  exact ⟨_, rfl, row_below (pa := p0 ++ p1) (pv := []) hW' (fun _ _ _ => trodAll_mk1 (shut_bool Try.underlying4 true)) (fun sp hs => trodAll_mk2 (again Try.laidOut rd_47 rw_47 hb h0 hlt (fun x hx => by simp [hx]) hs) (again Try.laidOut rd_4 rw_4 hb h1 hlt (fun x hx => by simp [hx]) hs)) (fun _ _ => rfl) (by simp) hb
    (ok_one (by kernel_rfl) rfl (okWide_bool_mk Try.underlying4 true))⟩
theorem ropeGrows_holds : Rows.RopeGrowsSaid :=
  OpenClaim.holds_of_wide 8 Try.f8 rfl rfl rfl rfl rfl rfl rfl ⟨rfl, rfl, rfl, rfl, rfl⟩ rfl rfl rfl rfl rfl (by kernel_rfl) Try.func8 (by kernel_rfl)
    (of_decide_eq_true (by kernel_rfl)) (by unfold Func.isWrapper; rw [if_neg (of_decide_eq_false (by kernel_rfl))]; exact ⟨rfl, rfl⟩)
    (fun os started H enc _ => ropeGrows_lifted os started H enc)
end Go.Proofs.Ytdpocfkbnfhcfaa
