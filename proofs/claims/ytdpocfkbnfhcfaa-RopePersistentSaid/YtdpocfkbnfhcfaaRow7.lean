/- The law RopePersistent of ropes returns true for every input; conditions: none but the form of the row. -/
import Derived.Test.YtdpocfkbnfhcfaaRowsH
import Derived.Test.YtdpocfkbnfhcfaaWalksH
namespace Go.Proofs.Ytdpocfkbnfhcfaa
open Go Go.Fx Go.Proofs Go.ChangeShapes Go.WideShapes Go.ChangeAt Go.RowKit
theorem ropePersistent_lifted (os : Os) (started : os.Started) (H : Type) (enc : TypeId × Value → H) :
    ReturnsInHanded {} Try.checked os 7 .any (Rows.ropePersistentSpec.pre6 enc Try.prog Try.f7 Rows.ropePersistentRow.domain false) (Rows.ropePersistentSpec.post enc Try.prog Try.f7 false true false false) := by
  refine returnsInHanded_of_change_sized (C := Try.checked) Try.own started (by kernel_rfl) Try.func7
    (ChangeSpec.witness6 (enc := enc) (C := Try.checked) false ⟨#[], #[.string ⟨#[]⟩, .agg #[.int .i64 0, .int .i64 0, .string ⟨#[]⟩]], []⟩ 8 (by kernel_rfl) (by kernel_rfl) (by kernel_rfl) (by kernel_rfl)) ?_
  intro W base args ds gs before hval0 hW _ hsz0 _
  have hsz : (DataW.weightsEach Try.prog (Try.f7.params.toList ++ Rows.ropePersistentSpec.plain.varTypes Try.prog) (ds ++ gs)).all (· ≤ reachBytes) = true := hsz0
  clear hsz0
  have hval : ∀ (j : Nat) t v, Try.f7.params[j]? = some t → args[j]? = some v → Value.okWide Try.prog W .any base t v := hval0
  have hW' := hW
  obtain ⟨p, q, hA0, hV, rfl, _, _⟩ := hW
  have hA : DataW.TrodAll enc Try.prog W 0 (fun _ => true) true Try.f7.params.toList args.toList ds p := hA0
  rw [Try.params7] at hA hval hsz
  obtain ⟨v0, v1, d0, d1, p0, p1, rfl, rfl, rfl, h0, h1⟩ := trodAll_two hA
  obtain ⟨rfl, rfl⟩ := trodVars_none hV
  clear hA0 hval0
  simp only [List.append_nil] at hW'
  have hlt := fun x hx => hW'.lt x hx
  obtain ⟨l0, rfl, ll0⟩ := open_str Try.underlying9 (hval 0 9 v0 rfl rfl) h0 (weight_of hsz (j := 0) (t := 9) (d := d0) rfl rfl)
  obtain ⟨⟨x1, y1, r1, _⟩, rfl, gx1, gy1, gr1, _⟩ := (Opn.struct Try.underlying32 (by intro _; exact cells_32.symm) (OpnF.cons (Opn.i64 Try.underlying3 cells_3) (rfl) (OpnF.cons (Opn.i64 Try.underlying3 cells_3) (by simp only [cells_3]) (OpnF.cons (Opn.str Try.underlying9 cells_9) (by simp only [cells_3]) (OpnF.nil (by simp only [cells_32, cells_3, cells_9])))))).parg Try.underlying32 (hval 1 32 v1 rfl rfl) h1 (weight_of hsz (j := 1) (t := 32) (d := d1) rfl rfl)
  refine (persist_law l0 x1 y1 r1 W).mono fun e W' he => ?_
  obtain ⟨rfl, hb⟩ := ret_true he
  exact ⟨_, rfl, row_below (pa := p0 ++ p1) (pv := []) hW' (fun _ _ _ => trodAll_mk1 (shut_bool Try.underlying4 true)) (fun sp hs => trodAll_mk2 (again Try.laidOut rd_9 rw_9 hb h0 hlt (fun x hx => by simp [hx]) hs) (again Try.laidOut rd_32 rw_32 hb h1 hlt (fun x hx => by simp [hx]) hs)) (fun _ _ => rfl) (by simp) hb
    (ok_one (by kernel_rfl) rfl (okWide_bool_mk Try.underlying4 true))⟩
theorem ropePersistent_holds : Rows.RopePersistentSaid :=
  OpenClaim.holds_of_wide 7 Try.f7 rfl rfl rfl rfl rfl rfl rfl ⟨rfl, rfl, rfl, rfl, rfl⟩ rfl rfl rfl rfl rfl (by kernel_rfl) Try.func7 (by kernel_rfl)
    (of_decide_eq_true (by kernel_rfl)) (by unfold Func.isWrapper; rw [if_neg (of_decide_eq_false (by kernel_rfl))]; exact ⟨rfl, rfl⟩)
    (fun os started H enc _ => ropePersistent_lifted os started H enc)
end Go.Proofs.Ytdpocfkbnfhcfaa
