/- The rows of the write-ahead log: each law returns true for every input; conditions: none but the form of the rows. -/
import Derived.Test.YtjpachkjljmljaaRows
import Derived.Test.YtjpachkjljmljaaFxR
import Derived.Test.YtjpachkjljmljaaLawsA
namespace Go.Proofs.Ytjpachkjljmljaa
open Go Go.Fx Go.Proofs Go.ChangeShapes Go.WideShapes Go.ChangeAt Go.RowKit
theorem Try.own : ownKnob Try.prog.godebug = none := by kernel_rfl
theorem Try.laidOut : laidOutB Try.prog = true := by kernel_rfl
theorem rd_5 : Try.prog.readableRec 5 = true := by kernel_rfl
theorem rw_5 : 5 < Try.prog.types.size := of_decide_eq_true (by kernel_rfl)
theorem rd_9 : Try.prog.readableRec 9 = true := by kernel_rfl
theorem rw_9 : 9 < Try.prog.types.size := of_decide_eq_true (by kernel_rfl)
theorem rd_22 : Try.prog.readableRec 22 = true := by kernel_rfl
theorem rw_22 : 22 < Try.prog.types.size := of_decide_eq_true (by kernel_rfl)
theorem rd_32 : Try.prog.readableRec 32 = true := by kernel_rfl
theorem rw_32 : 32 < Try.prog.types.size := of_decide_eq_true (by kernel_rfl)
theorem cells_9 : Try.prog.cellsOf 9 = 1 := by kernel_rfl
theorem bytes_9 : Try.prog.bytesOf 9 = 16 := by kernel_rfl
theorem walEncodeMatchesReference_lifted (os : Os) (started : os.Started) (H : Type) (enc : TypeId × Value → H) :
    ReturnsInHanded {} Try.checked os 3 .any (Rows.walEncodeMatchesReferenceSpec.pre6 enc Try.prog Try.f3 Rows.walEncodeMatchesReferenceRow.domain false) (Rows.walEncodeMatchesReferenceSpec.post enc Try.prog Try.f3 false true false false) := by
  refine returnsInHanded_of_change_sized (C := Try.checked) Try.own started (by kernel_rfl) Try.func3
    (ChangeSpec.witness6 (enc := enc) (C := Try.checked) false ⟨#[], #[.slice none 0 0, .string ⟨#[]⟩], []⟩ 8 (by kernel_rfl) (by kernel_rfl) (by kernel_rfl) (by kernel_rfl)) ?_
  intro W base args ds gs before hval0 hW _ hsz0 _
  have hsz : (DataW.weightsEach Try.prog (Try.f3.params.toList ++ Rows.walEncodeMatchesReferenceSpec.plain.varTypes Try.prog) (ds ++ gs)).all (· ≤ reachBytes) = true := hsz0
  clear hsz0
  have hval : ∀ (j : Nat) t v, Try.f3.params[j]? = some t → args[j]? = some v → Value.okWide Try.prog W .any base t v := hval0
  have hW' := hW
  obtain ⟨p, q, hA0, hV, rfl, _, _⟩ := hW
  have hA : DataW.TrodAll enc Try.prog W 0 (fun _ => true) true Try.f3.params.toList args.toList ds p := hA0
  rw [Try.params3] at hA hval hsz
  obtain ⟨v0, v1, d0, d1, p0, p1, rfl, rfl, rfl, h0, h1⟩ := trodAll_two hA
  obtain ⟨rfl, rfl⟩ := trodVars_none hV
  clear hA0 hval0
  simp only [List.append_nil] at hW'
  have hlt := fun x hx => hW'.lt x hx
  obtain ⟨A0, l0, c0, rfl, lc0, ll0, ls0, hq0⟩ := open_strs Try.underlying22 Try.underlying9 cells_9 bytes_9 (hval 0 22 v0 rfl rfl) h0 (weight_of hsz (j := 0) (t := 22) (d := d0) rfl rfl)
  obtain ⟨l1, rfl, ll1⟩ := open_str Try.underlying9 (hval 1 9 v1 rfl rfl) h1 (weight_of hsz (j := 1) (t := 9) (d := d1) rfl rfl)
  refine (law3_ok A0 c0 l0 (by omega) (fun r hr => by have := ls0 r hr; omega) l1 (by omega) W hq0).mono fun e W' he => ?_
  obtain ⟨rfl, hb⟩ := ret_true he
  exact ⟨_, rfl, row_below (pa := p0 ++ p1) (pv := []) hW' (fun _ _ _ => trodAll_mk1 (shut_bool Try.underlying4 true)) (fun sp hs => trodAll_mk2 (again Try.laidOut rd_22 rw_22 hb h0 hlt (fun x hx => by simp [hx]) hs) (again Try.laidOut rd_9 rw_9 hb h1 hlt (fun x hx => by simp [hx]) hs)) (fun _ _ => rfl) (by simp) hb
    (ok_one (by kernel_rfl) rfl (okWide_bool_mk Try.underlying4 true))⟩
theorem walEncodeMatchesReference_holds : Rows.WalEncodeMatchesReferenceSaid :=
  OpenClaim.holds_of_wide 3 Try.f3 rfl rfl rfl rfl rfl rfl rfl ⟨rfl, rfl, rfl, rfl, rfl⟩ rfl rfl rfl rfl rfl (by kernel_rfl) Try.func3 (by kernel_rfl)
    (of_decide_eq_true (by kernel_rfl)) (by unfold Func.isWrapper; rw [if_neg (of_decide_eq_false (by kernel_rfl))]; exact ⟨rfl, rfl⟩)
    (fun os started H enc _ => walEncodeMatchesReference_lifted os started H enc)
theorem walDecodeMatchesReference_lifted (os : Os) (started : os.Started) (H : Type) (enc : TypeId × Value → H) :
    ReturnsInHanded {} Try.checked os 4 .any (Rows.walDecodeMatchesReferenceSpec.pre6 enc Try.prog Try.f4 Rows.walDecodeMatchesReferenceRow.domain false) (Rows.walDecodeMatchesReferenceSpec.post enc Try.prog Try.f4 false true false false) := by
  refine returnsInHanded_of_change_sized (C := Try.checked) Try.own started (by kernel_rfl) Try.func4
    (ChangeSpec.witness6 (enc := enc) (C := Try.checked) false ⟨#[], #[.string ⟨#[]⟩], []⟩ 8 (by kernel_rfl) (by kernel_rfl) (by kernel_rfl) (by kernel_rfl)) ?_
  intro W base args ds gs before hval0 hW _ hsz0 _
  have hsz : (DataW.weightsEach Try.prog (Try.f4.params.toList ++ Rows.walDecodeMatchesReferenceSpec.plain.varTypes Try.prog) (ds ++ gs)).all (· ≤ reachBytes) = true := hsz0
  clear hsz0
  have hval : ∀ (j : Nat) t v, Try.f4.params[j]? = some t → args[j]? = some v → Value.okWide Try.prog W .any base t v := hval0
  have hW' := hW
  obtain ⟨p, q, hA0, hV, rfl, _, _⟩ := hW
  have hA : DataW.TrodAll enc Try.prog W 0 (fun _ => true) true Try.f4.params.toList args.toList ds p := hA0
  rw [Try.params4] at hA hval hsz
  obtain ⟨v0, d0, rfl, rfl, h0⟩ := trodAll_one hA
  obtain ⟨rfl, rfl⟩ := trodVars_none hV
  clear hA0 hval0
  simp only [List.append_nil] at hW'
  have hlt := fun x hx => hW'.lt x hx
  obtain ⟨l0, rfl, ll0⟩ := open_str Try.underlying9 (hval 0 9 v0 rfl rfl) h0 (weight_of hsz (j := 0) (t := 9) (d := d0) rfl rfl)
  refine (law4_ok l0 (by omega) W).mono fun e W' he => ?_
  obtain ⟨rfl, hb⟩ := ret_true he
  exact ⟨_, rfl, row_below (pa := p) (pv := []) hW' (fun _ _ _ => trodAll_mk1 (shut_bool Try.underlying4 true)) (fun sp hs => trodAll_mk1 (again Try.laidOut rd_9 rw_9 hb h0 hlt (fun x hx => by simp [hx]) hs)) (fun _ _ => rfl) (by simp) hb
    (ok_one (by kernel_rfl) rfl (okWide_bool_mk Try.underlying4 true))⟩
theorem walDecodeMatchesReference_holds : Rows.WalDecodeMatchesReferenceSaid :=
  OpenClaim.holds_of_wide 4 Try.f4 rfl rfl rfl rfl rfl rfl rfl ⟨rfl, rfl, rfl, rfl, rfl⟩ rfl rfl rfl rfl rfl (by kernel_rfl) Try.func4 (by kernel_rfl)
    (of_decide_eq_true (by kernel_rfl)) (by unfold Func.isWrapper; rw [if_neg (of_decide_eq_false (by kernel_rfl))]; exact ⟨rfl, rfl⟩)
    (fun os started H enc _ => walDecodeMatchesReference_lifted os started H enc)
theorem walRoundTrip_lifted (os : Os) (started : os.Started) (H : Type) (enc : TypeId × Value → H) :
    ReturnsInHanded {} Try.checked os 5 .any (Rows.walRoundTripSpec.pre6 enc Try.prog Try.f5 Rows.walRoundTripRow.domain false) (Rows.walRoundTripSpec.post enc Try.prog Try.f5 false true false false) := by
  refine returnsInHanded_of_change_sized (C := Try.checked) Try.own started (by kernel_rfl) Try.func5
    (ChangeSpec.witness6 (enc := enc) (C := Try.checked) false ⟨#[], #[.slice none 0 0], []⟩ 8 (by kernel_rfl) (by kernel_rfl) (by kernel_rfl) (by kernel_rfl)) ?_
  intro W base args ds gs before hval0 hW _ hsz0 _
  have hsz : (DataW.weightsEach Try.prog (Try.f5.params.toList ++ Rows.walRoundTripSpec.plain.varTypes Try.prog) (ds ++ gs)).all (· ≤ reachBytes) = true := hsz0
  clear hsz0
  have hval : ∀ (j : Nat) t v, Try.f5.params[j]? = some t → args[j]? = some v → Value.okWide Try.prog W .any base t v := hval0
  have hW' := hW
  obtain ⟨p, q, hA0, hV, rfl, _, _⟩ := hW
  have hA : DataW.TrodAll enc Try.prog W 0 (fun _ => true) true Try.f5.params.toList args.toList ds p := hA0
  rw [Try.params5] at hA hval hsz
  obtain ⟨v0, d0, rfl, rfl, h0⟩ := trodAll_one hA
  obtain ⟨rfl, rfl⟩ := trodVars_none hV
  clear hA0 hval0
  simp only [List.append_nil] at hW'
  have hlt := fun x hx => hW'.lt x hx
  obtain ⟨A0, l0, c0, rfl, lc0, ll0, ls0, hq0⟩ := open_strs Try.underlying22 Try.underlying9 cells_9 bytes_9 (hval 0 22 v0 rfl rfl) h0 (weight_of hsz (j := 0) (t := 22) (d := d0) rfl rfl)
  refine (law5_ok A0 c0 l0 (by omega) (fun r hr => by have := ls0 r hr; omega) W hq0).mono fun e W' he => ?_
  obtain ⟨rfl, hb⟩ := ret_true he
  exact ⟨_, rfl, row_below (pa := p) (pv := []) hW' (fun _ _ _ => trodAll_mk1 (shut_bool Try.underlying4 true)) (fun sp hs => trodAll_mk1 (again Try.laidOut rd_22 rw_22 hb h0 hlt (fun x hx => by simp [hx]) hs)) (fun _ _ => rfl) (by simp) hb
    (ok_one (by kernel_rfl) rfl (okWide_bool_mk Try.underlying4 true))⟩
theorem walRoundTrip_holds : Rows.WalRoundTripSaid :=
  OpenClaim.holds_of_wide 5 Try.f5 rfl rfl rfl rfl rfl rfl rfl ⟨rfl, rfl, rfl, rfl, rfl⟩ rfl rfl rfl rfl rfl (by kernel_rfl) Try.func5 (by kernel_rfl)
    (of_decide_eq_true (by kernel_rfl)) (by unfold Func.isWrapper; rw [if_neg (of_decide_eq_false (by kernel_rfl))]; exact ⟨rfl, rfl⟩)
    (fun os started H enc _ => walRoundTrip_lifted os started H enc)
theorem walTruncation_lifted (os : Os) (started : os.Started) (H : Type) (enc : TypeId × Value → H) :
    ReturnsInHanded {} Try.checked os 6 .any (Rows.walTruncationSpec.pre6 enc Try.prog Try.f6 Rows.walTruncationRow.domain false) (Rows.walTruncationSpec.post enc Try.prog Try.f6 false true false false) := by
  refine returnsInHanded_of_change_sized (C := Try.checked) Try.own started (by kernel_rfl) Try.func6
    (ChangeSpec.witness6 (enc := enc) (C := Try.checked) false ⟨#[], #[.slice none 0 0, .int .u16 0], []⟩ 8 (by kernel_rfl) (by kernel_rfl) (by kernel_rfl) (by kernel_rfl)) ?_
  intro W base args ds gs before hval0 hW _ hsz0 _
  have hsz : (DataW.weightsEach Try.prog (Try.f6.params.toList ++ Rows.walTruncationSpec.plain.varTypes Try.prog) (ds ++ gs)).all (· ≤ reachBytes) = true := hsz0
  clear hsz0
  have hval : ∀ (j : Nat) t v, Try.f6.params[j]? = some t → args[j]? = some v → Value.okWide Try.prog W .any base t v := hval0
  have hW' := hW
  obtain ⟨p, q, hA0, hV, rfl, _, _⟩ := hW
  have hA : DataW.TrodAll enc Try.prog W 0 (fun _ => true) true Try.f6.params.toList args.toList ds p := hA0
  rw [Try.params6] at hA hval hsz
  obtain ⟨v0, v1, d0, d1, p0, p1, rfl, rfl, rfl, h0, h1⟩ := trodAll_two hA
  obtain ⟨rfl, rfl⟩ := trodVars_none hV
  clear hA0 hval0
  simp only [List.append_nil] at hW'
  have hlt := fun x hx => hW'.lt x hx
  obtain ⟨A0, l0, c0, rfl, lc0, ll0, ls0, hq0⟩ := open_strs Try.underlying22 Try.underlying9 cells_9 bytes_9 (hval 0 22 v0 rfl rfl) h0 (weight_of hsz (j := 0) (t := 22) (d := d0) rfl rfl)
  obtain ⟨n1, rfl, ln1⟩ := open_u16 Try.underlying32 (hval 1 32 v1 rfl rfl) h1
  refine (law6_ok A0 c0 l0 (by omega) (fun r hr => by have := ls0 r hr; omega) lc0 n1 ln1 W hq0).mono fun e W' he => ?_
  obtain ⟨rfl, hb⟩ := ret_true he
  exact ⟨_, rfl, row_below (pa := p0 ++ p1) (pv := []) hW' (fun _ _ _ => trodAll_mk1 (shut_bool Try.underlying4 true)) (fun sp hs => trodAll_mk2 (again Try.laidOut rd_22 rw_22 hb h0 hlt (fun x hx => by simp [hx]) hs) (again Try.laidOut rd_32 rw_32 hb h1 hlt (fun x hx => by simp [hx]) hs)) (fun _ _ => rfl) (by simp) hb
    (ok_one (by kernel_rfl) rfl (okWide_bool_mk Try.underlying4 true))⟩
theorem walTruncation_holds : Rows.WalTruncationSaid :=
  OpenClaim.holds_of_wide 6 Try.f6 rfl rfl rfl rfl rfl rfl rfl ⟨rfl, rfl, rfl, rfl, rfl⟩ rfl rfl rfl rfl rfl (by kernel_rfl) Try.func6 (by kernel_rfl)
    (of_decide_eq_true (by kernel_rfl)) (by unfold Func.isWrapper; rw [if_neg (of_decide_eq_false (by kernel_rfl))]; exact ⟨rfl, rfl⟩)
    (fun os started H enc _ => walTruncation_lifted os started H enc)
theorem walDetectsCorruption_lifted (os : Os) (started : os.Started) (H : Type) (enc : TypeId × Value → H) :
    ReturnsInHanded {} Try.checked os 7 .any (Rows.walDetectsCorruptionSpec.pre6 enc Try.prog Try.f7 Rows.walDetectsCorruptionRow.domain false) (Rows.walDetectsCorruptionSpec.post enc Try.prog Try.f7 false true false false) := by
  refine returnsInHanded_of_change_sized (C := Try.checked) Try.own started (by kernel_rfl) Try.func7
    (ChangeSpec.witness6 (enc := enc) (C := Try.checked) false ⟨#[], #[.slice none 0 0, .int .u16 0, .int .u8 0], []⟩ 8 (by kernel_rfl) (by kernel_rfl) (by kernel_rfl) (by kernel_rfl)) ?_
  intro W base args ds gs before hval0 hW _ hsz0 _
  have hsz : (DataW.weightsEach Try.prog (Try.f7.params.toList ++ Rows.walDetectsCorruptionSpec.plain.varTypes Try.prog) (ds ++ gs)).all (· ≤ reachBytes) = true := hsz0
  clear hsz0
  have hval : ∀ (j : Nat) t v, Try.f7.params[j]? = some t → args[j]? = some v → Value.okWide Try.prog W .any base t v := hval0
  have hW' := hW
  obtain ⟨p, q, hA0, hV, rfl, _, _⟩ := hW
  have hA : DataW.TrodAll enc Try.prog W 0 (fun _ => true) true Try.f7.params.toList args.toList ds p := hA0
  rw [Try.params7] at hA hval hsz
  obtain ⟨v0, v1, v2, d0, d1, d2, p0, p1, p2, rfl, rfl, rfl, h0, h1, h2⟩ := trodAll_three hA
  obtain ⟨rfl, rfl⟩ := trodVars_none hV
  clear hA0 hval0
  simp only [List.append_nil] at hW'
  have hlt := fun x hx => hW'.lt x hx
  obtain ⟨A0, l0, c0, rfl, lc0, ll0, ls0, hq0⟩ := open_strs Try.underlying22 Try.underlying9 cells_9 bytes_9 (hval 0 22 v0 rfl rfl) h0 (weight_of hsz (j := 0) (t := 22) (d := d0) rfl rfl)
  obtain ⟨n1, rfl, ln1⟩ := open_u16 Try.underlying32 (hval 1 32 v1 rfl rfl) h1
  obtain ⟨u2, rfl⟩ := open_u8 Try.underlying5 (hval 2 5 v2 rfl rfl) h2
  refine (law7_ok A0 c0 l0 (by omega) (fun r hr => by have := ls0 r hr; omega) lc0 n1 ln1 u2 W hq0).mono fun e W' he => ?_
  obtain ⟨rfl, hb⟩ := ret_true he
  exact ⟨_, rfl, row_below (pa := p0 ++ (p1 ++ p2)) (pv := []) hW' (fun _ _ _ => trodAll_mk1 (shut_bool Try.underlying4 true)) (fun sp hs => trodAll_mk3 (again Try.laidOut rd_22 rw_22 hb h0 hlt (fun x hx => by simp [hx]) hs) (again Try.laidOut rd_32 rw_32 hb h1 hlt (fun x hx => by simp [hx]) hs) (again Try.laidOut rd_5 rw_5 hb h2 hlt (fun x hx => by simp [hx]) hs)) (fun _ _ => rfl) (by simp) hb
    (ok_one (by kernel_rfl) rfl (okWide_bool_mk Try.underlying4 true))⟩
theorem walDetectsCorruption_holds : Rows.WalDetectsCorruptionSaid :=
  OpenClaim.holds_of_wide 7 Try.f7 rfl rfl rfl rfl rfl rfl rfl ⟨rfl, rfl, rfl, rfl, rfl⟩ rfl rfl rfl rfl rfl (by kernel_rfl) Try.func7 (by kernel_rfl)
    (of_decide_eq_true (by kernel_rfl)) (by unfold Func.isWrapper; rw [if_neg (of_decide_eq_false (by kernel_rfl))]; exact ⟨rfl, rfl⟩)
    (fun os started H enc _ => walDetectsCorruption_lifted os started H enc)
theorem walDecodePrefix_lifted (os : Os) (started : os.Started) (H : Type) (enc : TypeId × Value → H) :
    ReturnsInHanded {} Try.checked os 8 .any (Rows.walDecodePrefixSpec.pre6 enc Try.prog Try.f8 Rows.walDecodePrefixRow.domain false) (Rows.walDecodePrefixSpec.post enc Try.prog Try.f8 false true false false) := by
  refine returnsInHanded_of_change_sized (C := Try.checked) Try.own started (by kernel_rfl) Try.func8
    (ChangeSpec.witness6 (enc := enc) (C := Try.checked) false ⟨#[], #[.string ⟨#[]⟩], []⟩ 8 (by kernel_rfl) (by kernel_rfl) (by kernel_rfl) (by kernel_rfl)) ?_
  intro W base args ds gs before hval0 hW _ hsz0 _
  have hsz : (DataW.weightsEach Try.prog (Try.f8.params.toList ++ Rows.walDecodePrefixSpec.plain.varTypes Try.prog) (ds ++ gs)).all (· ≤ reachBytes) = true := hsz0
  clear hsz0
  have hval : ∀ (j : Nat) t v, Try.f8.params[j]? = some t → args[j]? = some v → Value.okWide Try.prog W .any base t v := hval0
  have hW' := hW
  obtain ⟨p, q, hA0, hV, rfl, _, _⟩ := hW
  have hA : DataW.TrodAll enc Try.prog W 0 (fun _ => true) true Try.f8.params.toList args.toList ds p := hA0
  rw [Try.params8] at hA hval hsz
  obtain ⟨v0, d0, rfl, rfl, h0⟩ := trodAll_one hA
  obtain ⟨rfl, rfl⟩ := trodVars_none hV
  clear hA0 hval0
  simp only [List.append_nil] at hW'
  have hlt := fun x hx => hW'.lt x hx
  obtain ⟨l0, rfl, ll0⟩ := open_str Try.underlying9 (hval 0 9 v0 rfl rfl) h0 (weight_of hsz (j := 0) (t := 9) (d := d0) rfl rfl)
  refine (law8_ok l0 (by omega) W).mono fun e W' he => ?_
  obtain ⟨rfl, hb⟩ := ret_true he
  exact ⟨_, rfl, row_below (pa := p) (pv := []) hW' (fun _ _ _ => trodAll_mk1 (shut_bool Try.underlying4 true)) (fun sp hs => trodAll_mk1 (again Try.laidOut rd_9 rw_9 hb h0 hlt (fun x hx => by simp [hx]) hs)) (fun _ _ => rfl) (by simp) hb
    (ok_one (by kernel_rfl) rfl (okWide_bool_mk Try.underlying4 true))⟩
theorem walDecodePrefix_holds : Rows.WalDecodePrefixSaid :=
  OpenClaim.holds_of_wide 8 Try.f8 rfl rfl rfl rfl rfl rfl rfl ⟨rfl, rfl, rfl, rfl, rfl⟩ rfl rfl rfl rfl rfl (by kernel_rfl) Try.func8 (by kernel_rfl)
    (of_decide_eq_true (by kernel_rfl)) (by unfold Func.isWrapper; rw [if_neg (of_decide_eq_false (by kernel_rfl))]; exact ⟨rfl, rfl⟩)
    (fun os started H enc _ => walDecodePrefix_lifted os started H enc)
theorem walConcatenation_lifted (os : Os) (started : os.Started) (H : Type) (enc : TypeId × Value → H) :
    ReturnsInHanded {} Try.checked os 9 .any (Rows.walConcatenationSpec.pre6 enc Try.prog Try.f9 Rows.walConcatenationRow.domain false) (Rows.walConcatenationSpec.post enc Try.prog Try.f9 false true false false) := by
  refine returnsInHanded_of_change_sized (C := Try.checked) Try.own started (by kernel_rfl) Try.func9
    (ChangeSpec.witness6 (enc := enc) (C := Try.checked) false ⟨#[], #[.slice none 0 0, .slice none 0 0], []⟩ 8 (by kernel_rfl) (by kernel_rfl) (by kernel_rfl) (by kernel_rfl)) ?_
  intro W base args ds gs before hval0 hW _ hsz0 _
  have hsz : (DataW.weightsEach Try.prog (Try.f9.params.toList ++ Rows.walConcatenationSpec.plain.varTypes Try.prog) (ds ++ gs)).all (· ≤ reachBytes) = true := hsz0
  clear hsz0
  have hval : ∀ (j : Nat) t v, Try.f9.params[j]? = some t → args[j]? = some v → Value.okWide Try.prog W .any base t v := hval0
  have hW' := hW
  obtain ⟨p, q, hA0, hV, rfl, _, _⟩ := hW
  have hA : DataW.TrodAll enc Try.prog W 0 (fun _ => true) true Try.f9.params.toList args.toList ds p := hA0
  rw [Try.params9] at hA hval hsz
  obtain ⟨v0, v1, d0, d1, p0, p1, rfl, rfl, rfl, h0, h1⟩ := trodAll_two hA
  obtain ⟨rfl, rfl⟩ := trodVars_none hV
  clear hA0 hval0
  simp only [List.append_nil] at hW'
  have hlt := fun x hx => hW'.lt x hx
  obtain ⟨A0, l0, c0, rfl, lc0, ll0, ls0, hq0⟩ := open_strs Try.underlying22 Try.underlying9 cells_9 bytes_9 (hval 0 22 v0 rfl rfl) h0 (weight_of hsz (j := 0) (t := 22) (d := d0) rfl rfl)
  obtain ⟨A1, l1, c1, rfl, lc1, ll1, ls1, hq1⟩ := open_strs Try.underlying22 Try.underlying9 cells_9 bytes_9 (hval 1 22 v1 rfl rfl) h1 (weight_of hsz (j := 1) (t := 22) (d := d1) rfl rfl)
  refine (law9_ok A0 A1 c0 c1 l0 l1 (by omega) (fun r hr => by have := ls0 r hr; omega) (by omega) (fun r hr => by have := ls1 r hr; omega) W hq0 hq1).mono fun e W' he => ?_
  obtain ⟨rfl, hb⟩ := ret_true he
  exact ⟨_, rfl, row_below (pa := p0 ++ p1) (pv := []) hW' (fun _ _ _ => trodAll_mk1 (shut_bool Try.underlying4 true)) (fun sp hs => trodAll_mk2 (again Try.laidOut rd_22 rw_22 hb h0 hlt (fun x hx => by simp [hx]) hs) (again Try.laidOut rd_22 rw_22 hb h1 hlt (fun x hx => by simp [hx]) hs)) (fun _ _ => rfl) (by simp) hb
    (ok_one (by kernel_rfl) rfl (okWide_bool_mk Try.underlying4 true))⟩
theorem walConcatenation_holds : Rows.WalConcatenationSaid :=
  OpenClaim.holds_of_wide 9 Try.f9 rfl rfl rfl rfl rfl rfl rfl ⟨rfl, rfl, rfl, rfl, rfl⟩ rfl rfl rfl rfl rfl (by kernel_rfl) Try.func9 (by kernel_rfl)
    (of_decide_eq_true (by kernel_rfl)) (by unfold Func.isWrapper; rw [if_neg (of_decide_eq_false (by kernel_rfl))]; exact ⟨rfl, rfl⟩)
    (fun os started H enc _ => walConcatenation_lifted os started H enc)
end Go.Proofs.Ytjpachkjljmljaa
