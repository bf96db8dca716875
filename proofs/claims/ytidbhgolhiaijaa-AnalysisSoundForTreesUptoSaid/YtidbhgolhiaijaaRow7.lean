/- The law AnalysisSoundForTrees of the properties of nonterminals returns true for every input whose reading is of bulk at most 1048576; conditions: none but the form of the row. -/
import Derived.Test.YtidbhgolhiaijaaRowsU
import Derived.Test.YtidbhgolhiaijaaWalksR
import Derived.OpenShut
import Derived.JoinedCond
import Derived.Deep.CondSized
namespace Go.Proofs.Ytidbhgolhiaijaa
open Go Go.Fx Go.Proofs Go.ChangeShapes Go.WideShapes Go.ChangeAt Go.RowKit
set_option maxRecDepth 100000 in
theorem analysisSoundForTreesUpto_lifted (os : Os) (started : os.Started) (H : Type) (enc : TypeId × Value → H) (F : Stop.Interp) :
    ReturnsInHanded {} Try.checked os 7 .any ((Rows.OpenSpec.upto Rows.analysisSoundForTreesSpec).pre6 enc Try.prog Try.f7 Rows.analysisSoundForTreesUptoRow.domain false) (((Rows.OpenSpec.upto Rows.analysisSoundForTreesSpec).at F).post enc Try.prog Try.f7 false true false false) := by
  refine returnsInHanded_of_cond_sized (C := Try.checked) (s := (Rows.OpenSpec.upto Rows.analysisSoundForTreesSpec)) (k := Rows.uptoSmall) rfl Try.own started (by kernel_rfl) Try.func7
    (OpenSpec.witness (enc := enc) (C := Try.checked) (s := (Rows.OpenSpec.upto Rows.analysisSoundForTreesSpec)) (k := Rows.uptoSmall) rfl false ⟨#[], #[.agg #[.slice none 0 0, .slice none 0 0, .int .i64 0, .slice none 0 0], .agg #[.int .i64 0, .int .i64 0, .slice none 0 0]], []⟩ 8 (by kernel_rfl) (by kernel_rfl) (by kernel_rfl)
      (x := ([.agg [.nil, .nil, .lit (.int .i64 0), .nil], .agg [.lit (.int .i64 0), .lit (.int .i64 0), .nil]], [], [])) (by kernel_rfl) rfl (by kernel_rfl)) ?_
  show ∀ (W : World) (base : Nat) (args : Array Value) (ds gs : List (DataW H)) (before : List MemPlace), _ → DataW.Whole enc Try.prog Try.f7.params.toList Rows.analysisSoundForTreesSpec.vars false W args.toList ds gs before → _ → Rows.uptoSmall H (ds ++ gs) = true → (DataW.weightsEach Try.prog (Try.f7.params.toList ++ Rows.analysisSoundForTreesSpec.plain.varTypes Try.prog) (ds ++ gs)).all (· ≤ reachBytes) = true → _ → Calls Try.prog 7 args W fun e W' => ∃ v, e = .returned v ∧ Rows.analysisSoundForTreesSpec.post enc Try.prog Try.f7 false true false false W args v W'
  intro W base args ds gs before hval0 hW _ hk hsz0 _
  have hsz : (DataW.weightsEach Try.prog (Try.f7.params.toList ++ Rows.analysisSoundForTreesSpec.plain.varTypes Try.prog) (ds ++ gs)).all (· ≤ reachBytes) = true := hsz0
  clear hsz0
  have hval : ∀ (j : Nat) t v, Try.f7.params[j]? = some t → args[j]? = some v → Value.okWide Try.prog W .any base t v := hval0
  have hW' := hW
  obtain ⟨p, q, hA0, hV, rfl, _, _⟩ := hW
  have hA : DataW.TrodAll enc Try.prog W 0 (fun _ => true) true Try.f7.params.toList args.toList ds p := hA0
  rw [Try.params7] at hA hval hsz
  obtain ⟨v0, v1, d0, d1, p0, p1, rfl, rfl, rfl, h0, h1⟩ := trodAll_two hA
  obtain ⟨rfl, rfl⟩ := trodVars_none hV
  clear hA0 hval0
  simp only [List.append_nil] at hW' hk
  have hlt := fun x hx => hW'.lt x hx
  obtain ⟨⟨⟨A0, c0, l0⟩, ⟨A1, c1, l1⟩, s0, ⟨A3, c3, l3⟩, _⟩, rfl, ⟨t1, t2, t3, t4⟩, ⟨n1, n2, n3, n4⟩, gs, ⟨r1, r2, r3, r4⟩, _⟩ := (Opn.struct Try.underlying25 (by intro _; exact cells_25.symm) (OpnF.cons (Opn.slice Try.underlying22 cells_22 (Opn.str Try.underlying9 cells_9) (by rw [cells_9]; decide)) (rfl) (OpnF.cons (Opn.slice Try.underlying22 cells_22 (Opn.str Try.underlying9 cells_9) (by rw [cells_9]; decide)) (by simp only [cells_22]) (OpnF.cons (Opn.i64 Try.underlying3 cells_3) (by simp only [cells_22]) (OpnF.cons (Opn.slice Try.underlying23 cells_23 ((Opn.struct Try.underlying41 (by intro _; exact cells_41.symm) (OpnF.cons (Opn.i64 Try.underlying3 cells_3) (rfl) (OpnF.cons (Opn.slice Try.underlying39 cells_39 (Opn.i64 Try.underlying3 cells_3) (by rw [cells_3]; decide)) (by simp only [cells_3]) (OpnF.cons (Opn.i64 Try.underlying3 cells_3) (by simp only [cells_3, cells_39]) (OpnF.nil (by simp only [cells_41, cells_3, cells_39])))))).iso ruF (fun x => (⟨⟨x.1, x.2.1.2.2, x.2.2.1⟩, x.2.1.1, x.2.1.2.1⟩ : XR)) (fun _ => rfl) (by intro _; exact cells_41.symm)) (by rw [cells_41]; decide)) (by simp only [cells_22, cells_3]) (OpnF.nil (by simp only [cells_25, cells_22, cells_23, cells_3]))))))).parg Try.underlying25 (hval 0 25 v0 rfl rfl) h0 (weight_of hsz (j := 0) (t := 25) (d := d0) rfl rfl)
  have hbk : Rows.uptoBulkAll [d0, d1] ≤ 1048576 := of_decide_eq_true hk
  simp only [Rows.uptoBulkAll] at hbk
  obtain ⟨x, rfl, hI, hsx⟩ := arg_tree (hval 1 36 v1 rfl rfl) h1 (by omega)
  rw [cells_9] at t4 n4
  rw [cells_41] at r4
  rw [bytes_9] at t2 n2
  rw [bytes_41] at r2
  have t2 : l0.length * 16 ≤ wtop := t2
  have n2 : l1.length * 16 ≤ wtop := n2
  have r2 : l3.length * 40 ≤ wtop := r2
  unfold wtop at t2 n2 r2
  have hb0 : ∀ x, x ∈ l3 → Sl 1 intF x.A x.r.body W ∧ x.r.body.length ≤ 140737488355328 ∧ x.r.body.length ≤ x.c := fun x hx => by
    obtain ⟨a, rfl, g1, ⟨q1, q2, q3, q4⟩, _⟩ := r3 x hx
    rw [cells_3] at q4
    rw [bytes_3] at q2
    have q2 : a.2.1.2.2.length * 8 ≤ wtop := q2
    unfold wtop at q2
    exact ⟨q4, by show a.2.1.2.2.length ≤ _; omega, q1⟩
  have hX : GI.small ({ At := A0, ct := c0, terms := l0, An := A1, cn := c1, nts := l1, start := s0, Ar := A3, cr := c3, xs := l3 } : GI) := ⟨by show l0.length ≤ _; omega, by show l1.length ≤ _; omega, by show l3.length ≤ _; omega, fun x hx => (hb0 x hx).2⟩
  have hM : GI.mem ({ At := A0, ct := c0, terms := l0, An := A1, cn := c1, nts := l1, start := s0, Ar := A3, cr := c3, xs := l3 } : GI) W := ⟨t4, n4, r4, fun k x hx => (hb0 x (List.mem_of_getElem? hx)).1⟩
  have hx9 : l3.length * 40 + 40 ≤ 140737488355328 := by omega
  refine (law_trees ({ At := A0, ct := c0, terms := l0, An := A1, cn := c1, nts := l1, start := s0, Ar := A3, cr := c3, xs := l3 } : GI) hX x hsx W hM hI).mono fun e W' he => ?_
  obtain ⟨rfl, hb⟩ := ret_true he
  exact ⟨_, rfl, row_below (pa := p0 ++ p1) (pv := []) hW' (fun _ _ _ => trodAll_mk1 (shut_bool Try.underlying4 true)) (fun sp hs => trodAll_mk2 (again Try.laidOut rd_25 rw_25 hb h0 hlt (fun x hx => by simp [hx]) hs) (again Try.laidOut rd_36 rw_36 hb h1 hlt (fun x hx => by simp [hx]) hs)) (fun _ _ => rfl) (by simp) hb
    (ok_one (by kernel_rfl) rfl (okWide_bool_mk Try.underlying4 true))⟩
theorem analysisSoundForTreesUpto_holds : Rows.AnalysisSoundForTreesUptoSaid :=
  OpenClaim.holds_of_cond 7 Try.f7 rfl rfl rfl rfl rfl rfl rfl ⟨rfl, rfl, rfl, rfl, rfl⟩ rfl rfl rfl rfl rfl (by kernel_rfl) Try.func7 (by kernel_rfl)
    (of_decide_eq_true (by kernel_rfl)) (by unfold Func.isWrapper; rw [if_neg (of_decide_eq_false (by kernel_rfl))]; exact ⟨rfl, rfl⟩)
    (fun os started H enc _ F => analysisSoundForTreesUpto_lifted os started H enc F)
end Go.Proofs.Ytidbhgolhiaijaa
