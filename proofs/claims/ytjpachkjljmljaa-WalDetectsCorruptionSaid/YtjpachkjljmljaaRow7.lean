/- The law WalDetectsCorruption of the write-ahead log returns true for every input; conditions: none but the form of the row. -/
import Derived.Test.YtjpachkjljmljaaRowsH
namespace Go.Proofs.Ytjpachkjljmljaa
open Go Go.Fx Go.Proofs Go.ChangeShapes Go.WideShapes Go.ChangeAt Go.RowKit
theorem walDetectsCorruption_lifted (os : Os) (started : os.Started) (H : Type) (enc : TypeId × Value → H) :
    ReturnsInHanded {} Try.checked os 7 .any (Rows.walDetectsCorruptionSpec.pre6 enc Try.prog Try.f7 Rows.walDetectsCorruptionRow.domain false) (Rows.walDetectsCorruptionSpec.post enc Try.prog Try.f7 false true false false) := by
  refine returnsInHanded_of_change_sized (C := Try.checked) Try.own started (by kernel_rfl) Try.func7
    (ChangeSpec.witness6 (enc := enc) (C := Try.checked) false ⟨#[], #[.slice none 0 0, .int .u16 0, .int .u8 0], []⟩ 8 (by kernel_rfl) (by kernel_rfl) (by kernel_rfl) (by kernel_rfl)) ?_
  intro W base args ds gs before hval0 hW _ hsz0 _
  have hsz : (DataW.weightsEach Try.prog (Try.f7.params.toList ++ Rows.walDetectsCorruptionSpec.plain.varTypes Try.prog) (ds ++ gs)).all (· ≤ reachBytes) = true := hsz0
  clear hsz0
  have hval : ∀ (j : Nat) t v, Try.f7.params[j]? = some t → args[j]? = some v → Value.okWide Try.prog W .any base t v := hval0
  have hW' := hW
  obtain ⟨p, q, hA0, hV, rfl, _, _⟩ := hW
  have hA : DataW.TrodAll enc Try.prog W 0 (fun _ => true) true Try.f7.params.toList args.toList ds p := hA0
  rw [Try.params7] at hA hval hsz
  obtain ⟨v0, v1, v2, d0, d1, d2, p0, p1, p2, rfl, rfl, rfl, h0, h1, h2⟩ := trodAll_three hA
  obtain ⟨rfl, rfl⟩ := trodVars_none hV
  clear hA0 hval0
  simp only [List.append_nil] at hW'
  have hlt := fun x hx => hW'.lt x hx
  obtain ⟨A0, l0, c0, rfl, lc0, ll0, ls0, hq0⟩ := open_strs Try.underlying22 Try.underlying9 cells_9 bytes_9 (hval 0 22 v0 rfl rfl) h0 (weight_of hsz (j := 0) (t := 22) (d := d0) rfl rfl)
  obtain ⟨n1, rfl, ln1⟩ := open_u16 Try.underlying32 (hval 1 32 v1 rfl rfl) h1
  obtain ⟨u2, rfl⟩ := open_u8 Try.underlying5 (hval 2 5 v2 rfl rfl) h2
  refine (law7_ok A0 c0 l0 (by omega) (fun r hr => by have := ls0 r hr; omega) lc0 n1 ln1 u2 W hq0).mono fun e W' he => ?_
  obtain ⟨rfl, hb⟩ := ret_true he
  exact ⟨_, rfl, row_below (pa := p0 ++ (p1 ++ p2)) (pv := []) hW' (fun _ _ _ => trodAll_mk1 (shut_bool Try.underlying4 true)) (fun sp hs => trodAll_mk3 (again Try.laidOut rd_22 rw_22 hb h0 hlt (fun x hx => by simp [hx]) hs) (again Try.laidOut rd_32 rw_32 hb h1 hlt (fun x hx => by simp [hx]) hs) (again Try.laidOut rd_5 rw_5 hb h2 hlt (fun x hx => by simp [hx]) hs)) (fun _ _ => rfl) (by simp) hb
    (ok_one (by kernel_rfl) rfl (okWide_bool_mk Try.underlying4 true))⟩
theorem walDetectsCorruption_holds : Rows.WalDetectsCorruptionSaid :=
  OpenClaim.holds_of_wide 7 Try.f7 rfl rfl rfl rfl rfl rfl rfl ⟨rfl, rfl, rfl, rfl, rfl⟩ rfl rfl rfl rfl rfl (by kernel_rfl) Try.func7 (by kernel_rfl)
    (of_decide_eq_true (by kernel_rfl)) (by unfold Func.isWrapper; rw [if_neg (of_decide_eq_false (by kernel_rfl))]; exact ⟨rfl, rfl⟩)
    (fun os started H enc _ => walDetectsCorruption_lifted os started H enc)
end Go.Proofs.Ytjpachkjljmljaa
