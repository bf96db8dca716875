/- The law RopeChunks of ropes returns true for every input; conditions: none but the form of the row. -/
import Derived.Test.YtdpocfkbnfhcfaaRowsH
import Derived.Test.YtdpocfkbnfhcfaaWalksJ
namespace Go.Proofs.Ytdpocfkbnfhcfaa
open Go Go.Fx Go.Proofs Go.ChangeShapes Go.WideShapes Go.ChangeAt Go.RowKit
theorem ropeChunks_lifted (os : Os) (started : os.Started) (H : Type) (enc : TypeId × Value → H) :
    ReturnsInHanded {} Try.checked os 10 .any (Rows.ropeChunksSpec.pre6 enc Try.prog Try.f10 Rows.ropeChunksRow.domain false) (Rows.ropeChunksSpec.post enc Try.prog Try.f10 false true false false) := by
  refine returnsInHanded_of_change_sized (C := Try.checked) Try.own started (by kernel_rfl) Try.func10
    (ChangeSpec.witness6 (enc := enc) (C := Try.checked) false ⟨#[], #[.string ⟨#[]⟩, .string ⟨#[]⟩, .int .u8 0], []⟩ 8 (by kernel_rfl) (by kernel_rfl) (by kernel_rfl) (by kernel_rfl)) ?_
  intro W base args ds gs before hval0 hW _ hsz0 _
  have hsz : (DataW.weightsEach Try.prog (Try.f10.params.toList ++ Rows.ropeChunksSpec.plain.varTypes Try.prog) (ds ++ gs)).all (· ≤ reachBytes) = true := hsz0
  clear hsz0
  have hval : ∀ (j : Nat) t v, Try.f10.params[j]? = some t → args[j]? = some v → Value.okWide Try.prog W .any base t v := hval0
  have hW' := hW
  obtain ⟨p, q, hA0, hV, rfl, _, _⟩ := hW
  have hA : DataW.TrodAll enc Try.prog W 0 (fun _ => true) true Try.f10.params.toList args.toList ds p := hA0
  rw [Try.params10] at hA hval hsz
  obtain ⟨v0, v1, v2, d0, d1, d2, p0, p1, p2, rfl, rfl, rfl, h0, h1, h2⟩ := trodAll_three hA
  obtain ⟨rfl, rfl⟩ := trodVars_none hV
  clear hA0 hval0
  simp only [List.append_nil] at hW'
  have hlt := fun x hx => hW'.lt x hx
  obtain ⟨l0, rfl, ll0⟩ := open_str Try.underlying9 (hval 0 9 v0 rfl rfl) h0 (weight_of hsz (j := 0) (t := 9) (d := d0) rfl rfl)
  obtain ⟨l1, rfl, ll1⟩ := open_str Try.underlying9 (hval 1 9 v1 rfl rfl) h1 (weight_of hsz (j := 1) (t := 9) (d := d1) rfl rfl)
  obtain ⟨u2, rfl⟩ := open_u8 Try.underlying5 (hval 2 5 v2 rfl rfl) h2
  refine (chunks_law l0 l1 u2 W).mono fun e W' he => ?_
  obtain ⟨rfl, hb⟩ := ret_true he
  exact ⟨_, rfl, row_below (pa := p0 ++ (p1 ++ p2)) (pv := []) hW' (fun _ _ _ => trodAll_mk1 (shut_bool Try.underlying4 true)) (fun sp hs => trodAll_mk3 (again Try.laidOut rd_9 rw_9 hb h0 hlt (fun x hx => by simp [hx]) hs) (again Try.laidOut rd_9 rw_9 hb h1 hlt (fun x hx => by simp [hx]) hs) (again Try.laidOut rd_5 rw_5 hb h2 hlt (fun x hx => by simp [hx]) hs)) (fun _ _ => rfl) (by simp) hb
    (ok_one (by kernel_rfl) rfl (okWide_bool_mk Try.underlying4 true))⟩
theorem ropeChunks_holds : Rows.RopeChunksSaid :=
  OpenClaim.holds_of_wide 10 Try.f10 rfl rfl rfl rfl rfl rfl rfl ⟨rfl, rfl, rfl, rfl, rfl⟩ rfl rfl rfl rfl rfl (by kernel_rfl) Try.func10 (by kernel_rfl)
    (of_decide_eq_true (by kernel_rfl)) (by unfold Func.isWrapper; rw [if_neg (of_decide_eq_false (by kernel_rfl))]; exact ⟨rfl, rfl⟩)
    (fun os started H enc _ => ropeChunks_lifted os started H enc)
end Go.Proofs.Ytdpocfkbnfhcfaa
