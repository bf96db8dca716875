/- The law RopeHistory of ropes returns true for every input; conditions: none but the form of the row. -/
import Derived.Test.YtdpocfkbnfhcfaaRowsH
import Derived.Test.YtdpocfkbnfhcfaaWalksJ
namespace Go.Proofs.Ytdpocfkbnfhcfaa
open Go Go.Fx Go.Proofs Go.ChangeShapes Go.WideShapes Go.ChangeAt Go.RowKit
theorem ropeHistory_lifted (os : Os) (started : os.Started) (H : Type) (enc : TypeId × Value → H) :
    ReturnsInHanded {} Try.checked os 9 .any (Rows.ropeHistorySpec.pre6 enc Try.prog Try.f9 Rows.ropeHistoryRow.domain false) (Rows.ropeHistorySpec.post enc Try.prog Try.f9 false true false false) := by
  refine returnsInHanded_of_change_sized (C := Try.checked) Try.own started (by kernel_rfl) Try.func9
    (ChangeSpec.witness6 (enc := enc) (C := Try.checked) false ⟨#[], #[.string ⟨#[]⟩, .slice none 0 0], []⟩ 8 (by kernel_rfl) (by kernel_rfl) (by kernel_rfl) (by kernel_rfl)) ?_
  intro W base args ds gs before hval0 hW _ hsz0 _
  have hsz : (DataW.weightsEach Try.prog (Try.f9.params.toList ++ Rows.ropeHistorySpec.plain.varTypes Try.prog) (ds ++ gs)).all (· ≤ reachBytes) = true := hsz0
  clear hsz0
  have hval : ∀ (j : Nat) t v, Try.f9.params[j]? = some t → args[j]? = some v → Value.okWide Try.prog W .any base t v := hval0
  have hW' := hW
  obtain ⟨p, q, hA0, hV, rfl, _, _⟩ := hW
  have hA : DataW.TrodAll enc Try.prog W 0 (fun _ => true) true Try.f9.params.toList args.toList ds p := hA0
  rw [Try.params9] at hA hval hsz
  obtain ⟨v0, v1, d0, d1, p0, p1, rfl, rfl, rfl, h0, h1⟩ := trodAll_two hA
  obtain ⟨rfl, rfl⟩ := trodVars_none hV
  clear hA0 hval0
  simp only [List.append_nil] at hW'
  have hlt := fun x hx => hW'.lt x hx
  obtain ⟨l0, rfl, ll0⟩ := open_str Try.underlying9 (hval 0 9 v0 rfl rfl) h0 (weight_of hsz (j := 0) (t := 9) (d := d0) rfl rfl)
  obtain ⟨⟨A1, c1, l1⟩, hv1, m1, m2, m3, m4⟩ := (Opn.slice Try.underlying51 cells_51 ((Opn.struct Try.underlying32 (by intro _; exact cells_32.symm) (OpnF.cons (Opn.i64 Try.underlying3 cells_3) (rfl) (OpnF.cons (Opn.i64 Try.underlying3 cells_3) (by simp only [cells_3]) (OpnF.cons (Opn.str Try.underlying9 cells_9) (by simp only [cells_3]) (OpnF.nil (by simp only [cells_32, cells_3, cells_9])))))).iso edF (fun x => (x.1, x.2.1, x.2.2.1)) (fun _ => rfl) (by intro _; exact cells_32.symm)) (by rw [cells_32]; decide)).pslice Try.underlying51 (hval 1 51 v1 rfl rfl) h1 (weight_of hsz (j := 1) (t := 51) (d := d1) rfl rfl)
  injection hv1 with hv1; subst hv1
  refine (history_law l0 A1 c1 l1 (fun e he => by
    obtain ⟨a, rfl, ga⟩ := m3 e he
    exact ga.2.2.1) W (by rw [cells_32] at m4; exact m4)).mono fun e W' he => ?_
  obtain ⟨rfl, hb⟩ := ret_true he
  exact ⟨_, rfl, row_below (pa := p0 ++ p1) (pv := []) hW' (fun _ _ _ => trodAll_mk1 (shut_bool Try.underlying4 true)) (fun sp hs => trodAll_mk2 (again Try.laidOut rd_9 rw_9 hb h0 hlt (fun x hx => by simp [hx]) hs) (again Try.laidOut rd_51 rw_51 hb h1 hlt (fun x hx => by simp [hx]) hs)) (fun _ _ => rfl) (by simp) hb
    (ok_one (by kernel_rfl) rfl (okWide_bool_mk Try.underlying4 true))⟩
theorem ropeHistory_holds : Rows.RopeHistorySaid :=
  OpenClaim.holds_of_wide 9 Try.f9 rfl rfl rfl rfl rfl rfl rfl ⟨rfl, rfl, rfl, rfl, rfl⟩ rfl rfl rfl rfl rfl (by kernel_rfl) Try.func9 (by kernel_rfl)
    (of_decide_eq_true (by kernel_rfl)) (by unfold Func.isWrapper; rw [if_neg (of_decide_eq_false (by kernel_rfl))]; exact ⟨rfl, rfl⟩)
    (fun os started H enc _ => ropeHistory_lifted os started H enc)
end Go.Proofs.Ytdpocfkbnfhcfaa
