/- The law LayoutPrefix of the off-side rule returns true for every input; conditions: none but the form of the row. -/
import Derived.Test.YtejhgbnpmelgcaaRowsH
namespace Go.Proofs.Ytejhgbnpmelgcaa
open Go Go.Fx Go.Proofs Go.ChangeShapes Go.WideShapes Go.ChangeAt Go.RowKit
theorem layoutPrefix_lifted (os : Os) (started : os.Started) (H : Type) (enc : TypeId × Value → H) :
    ReturnsInHanded {} Try.checked os 9 .any (Rows.layoutPrefixSpec.pre6 enc Try.prog Try.f9 Rows.layoutPrefixRow.domain false) (Rows.layoutPrefixSpec.post enc Try.prog Try.f9 false true false false) := by
  refine returnsInHanded_of_change_sized (C := Try.checked) Try.own started (by kernel_rfl) Try.func9
    (ChangeSpec.witness6 (enc := enc) (C := Try.checked) false ⟨#[], #[.agg #[.slice none 0 0, .string ⟨#[]⟩, .int .i64 0], .int .u8 0], []⟩ 8 (by kernel_rfl) (by kernel_rfl) (by kernel_rfl) (by kernel_rfl)) ?_
  intro W base args ds gs before hval0 hW _ hsz0 _
  have hsz : (DataW.weightsEach Try.prog (Try.f9.params.toList ++ Rows.layoutPrefixSpec.plain.varTypes Try.prog) (ds ++ gs)).all (· ≤ reachBytes) = true := hsz0
  clear hsz0
  have hval : ∀ (j : Nat) t v, Try.f9.params[j]? = some t → args[j]? = some v → Value.okWide Try.prog W .any base t v := hval0
  have hW' := hW
  obtain ⟨p, q, hA0, hV, rfl, _, _⟩ := hW
  have hA : DataW.TrodAll enc Try.prog W 0 (fun _ => true) true Try.f9.params.toList args.toList ds p := hA0
  rw [Try.params9] at hA hval hsz
  obtain ⟨v0, v1, d0, d1, p0, p1, rfl, rfl, rfl, h0, h1⟩ := trodAll_two hA
  obtain ⟨rfl, rfl⟩ := trodVars_none hV
  clear hA0 hval0
  simp only [List.append_nil] at hW'
  have hlt := fun x hx => hW'.lt x hx
  obtain ⟨⟨⟨A0, c0, l0⟩, s0, x0, _⟩, rfl, ⟨g1, g2, g3, g4⟩, gs0, gx0, _⟩ := (Opn.struct Try.underlying24 (by intro _; exact cells_24.symm) (OpnF.cons (Opn.slice Try.underlying22 cells_22 ((Opn.struct Try.underlying33 (by intro _; exact cells_33.symm) (OpnF.cons (Opn.i64 Try.underlying3 cells_3) (rfl) (OpnF.cons (Opn.i64 Try.underlying3 cells_3) (by simp only [cells_3, cells_9]) (OpnF.cons (Opn.str Try.underlying9 cells_9) (by simp only [cells_3, cells_9]) (OpnF.cons (Opn.i64 Try.underlying3 cells_3) (by simp only [cells_3, cells_9]) (OpnF.nil (by simp only [cells_33, cells_3, cells_9]))))))).iso tokF (fun x => (⟨x.1, x.2.1, x.2.2.1, x.2.2.2.1⟩ : Lay.T)) (fun _ => rfl) (by intro _; exact cells_33.symm)) (by rw [cells_33]; decide)) (rfl) (OpnF.cons (Opn.str Try.underlying9 cells_9) (by simp only [cells_22, cells_3, cells_9]) (OpnF.cons (Opn.i64 Try.underlying3 cells_3) (by simp only [cells_22, cells_3, cells_9]) (OpnF.nil (by simp only [cells_24, cells_22, cells_3, cells_9])))))).parg Try.underlying24 (hval 0 24 v0 rfl rfl) h0 (weight_of hsz (j := 0) (t := 24) (d := d0) rfl rfl)
  obtain ⟨u1, rfl⟩ := open_u8 Try.underlying5 (hval 1 5 v1 rfl rfl) h1
  rw [cells_33] at g4
  rw [bytes_33] at g2
  have hk0 : ∀ t, t ∈ l0 → -9223372036854775808 ≤ t.kind ∧ t.kind ≤ 9223372036854775807 := fun t ht => by
    obtain ⟨a, rfl, ga⟩ := g3 t ht
    exact ⟨ga.1.1, ga.1.2⟩
  refine (prefix_law A0 c0 l0 s0 x0 g1 u1 (by have g2 : l0.length * _ ≤ wtop := g2; unfold wtop at g2; omega) (by have gs0 : s0.length ≤ wtop := gs0; unfold wtop at gs0; omega) hk0 W g4).mono fun e W' he => ?_
  obtain ⟨rfl, hb⟩ := ret_true he
  exact ⟨_, rfl, row_below (pa := p0 ++ p1) (pv := []) hW' (fun _ _ _ => trodAll_mk1 (shut_bool Try.underlying4 true)) (fun sp hs => trodAll_mk2 (again Try.laidOut rd_24 rw_24 hb h0 hlt (fun x hx => by simp [hx]) hs) (again Try.laidOut rd_5 rw_5 hb h1 hlt (fun x hx => by simp [hx]) hs)) (fun _ _ => rfl) (by simp) hb
    (ok_one (by kernel_rfl) rfl (okWide_bool_mk Try.underlying4 true))⟩
theorem layoutPrefix_holds : Rows.LayoutPrefixSaid :=
  OpenClaim.holds_of_wide 9 Try.f9 rfl rfl rfl rfl rfl rfl rfl ⟨rfl, rfl, rfl, rfl, rfl⟩ rfl rfl rfl rfl rfl (by kernel_rfl) Try.func9 (by kernel_rfl)
    (of_decide_eq_true (by kernel_rfl)) (by unfold Func.isWrapper; rw [if_neg (of_decide_eq_false (by kernel_rfl))]; exact ⟨rfl, rfl⟩)
    (fun os started H enc _ => layoutPrefix_lifted os started H enc)
end Go.Proofs.Ytejhgbnpmelgcaa
