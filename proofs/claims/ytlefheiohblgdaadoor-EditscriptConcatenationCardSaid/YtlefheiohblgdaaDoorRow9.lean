/- The law EditscriptConcatenation of edit scripts returns true for every input; conditions: none but the form of the row. -/
import Derived.Test.YtlefheiohblgdaaDoorRowsH
import Derived.Test.YtlefheiohblgdaaDoorWalksU
import Derived.Test.YtlefheiohblgdaaDoorTie
import Derived.Test.YtlefheiohblgdaaDoorCards
import Derived.SevenTiedAt
namespace Go.Proofs.YtlefheiohblgdaaDoor
open Go Go.Fx Go.Proofs Go.ChangeShapes Go.WideShapes Go.ChangeAt Go.RowKit

theorem trod_array2 {H : Type} {enc : TypeId × Value → H} {P : Program} {w : World} {base : Nat} {spare : Nat → Bool} {held : Bool} {t e : TypeId} {fuel : Nat} {cs : List Value} {x : DataW H × List MemPlace} (ht : P.underlying t = some (.array 2 e)) (hce : P.cellsOf e = 1) (hct : P.cellsOf t = 2)
    (h : DataW.trod enc P w base spare held fuel t cs = some x) : ∃ (c0 c1 : Value) (y0 y1 : DataW H × List MemPlace) (n : Nat), cs = [c0, c1] ∧ x.1 = .agg [y0.1, y1.1] ∧ DataW.trod enc P w base spare held n e [c0] = some y0 ∧ DataW.trod enc P w base spare held n e [c1] = some y1 := by
  cases fuel with
  | zero => simp [DataW.trod] at h
  | succ n =>
    unfold DataW.trod at h
    rw [ht] at h
    have r2 : List.range 2 = [0, 1] := rfl
    simp [r2, hce] at h
    obtain ⟨hl, h⟩ := h
    rw [hct] at hl
    match cs, hl with
    | [c0, c1], _ =>
      simp at h
      cases h0 : DataW.trod enc P w base spare held n e [c0] with
      | none => simp [h0] at h
      | some y0 =>
        cases h1 : DataW.trod enc P w base spare held n e [c1] with
        | none => simp [h0, h1] at h
        | some y1 =>
          simp [h0, h1] at h
          exact ⟨c0, c1, y0, y1, n, rfl, by rw [← h], h0, h1⟩
theorem Opn.arr2 {H : Type} {enc : TypeId × Value → H} {P : Program} {W : World} {t e : TypeId} {α : Type} {f0 : α → List Value} {G0 : α → Prop} (ht : P.underlying t = some (.array 2 e)) (hce : P.cellsOf e = 1) (hct : P.cellsOf t = 2) (h0 : Opn enc P W e α f0 G0) :
    Opn enc P W t (α × α) (fun a => f0 a.1 ++ f0 a.2) (fun a => G0 a.1 ∧ G0 a.2) :=
  ⟨fun a => by rw [List.length_append, h0.size, h0.size, hce, hct], fun {fuel cs x} hx hw => by
    obtain ⟨c0, c1, y0, y1, n, rfl, hx1, h1, h2⟩ := trod_array2 ht hce hct hx
    have hw' : ∀ n ∈ y0.1.weights P e ++ (y1.1.weights P e ++ []), n ≤ wtop := by rw [hx1] at hw; simpa only [DataW.weights, ht, DataW.weightsAll] using hw
    obtain ⟨a, ha, ga⟩ := h0.get h1 (fun n hn => hw' n (List.mem_append_left _ hn))
    obtain ⟨b, hb, gb⟩ := h0.get h2 (fun n hn => hw' n (List.mem_append_right _ (List.mem_append_left _ hn)))
    exact ⟨(a, b), by rw [← ha, ← hb]; rfl, ga, gb⟩⟩

theorem Opn.parr {H : Type} {enc : TypeId × Value → H} {P : Program} {W : World} {r : Reach} {b0 : Nat} {t e : TypeId} {m : Nat} {α : Type} {f : α → List Value} {G : α → Prop} {v : Value} {d : DataW H} {ps : List MemPlace} (h : Opn enc P W t α f G) (ht : P.underlying t = some (.array m e)) (hval : Value.okWide P W r b0 t v)
    (hd : DataW.Trod enc P W 0 (fun _ => true) true t v d ps) (hw : ∀ n ∈ d.weights P t, n ≤ wtop) : ∃ a, v = .agg (f a).toArray ∧ G a := by
  obtain ⟨cs, rfl, _⟩ : ∃ cs, v = .agg cs ∧ cs.size = P.cellsOf t := by
    simp only [Value.okWide, ht] at hval
    obtain ⟨cs, h1, h2, _⟩ := hval
    exact ⟨cs, h1, h2⟩
  obtain ⟨fuel, hf⟩ := hd
  obtain ⟨a, ha, hG⟩ := h.get hf hw
  refine ⟨a, ?_, hG⟩
  rw [← ha]; simp [Value.cells]
theorem rd_47 : Tryd.prog.readableRec 47 = true := by kernel_rfl
theorem rw_47 : 47 < Tryd.prog.types.size := of_decide_eq_true (by kernel_rfl)
theorem cells_47 : Tryd.prog.cellsOf 47 = 2 := by kernel_rfl
theorem editscriptConcatenation_lifted (os : Os) (started : os.Started) (H : Type) (enc : TypeId × Value → H) :
    ReturnsInHanded {} Tryd.checked os 9 .any (fun w args => (Rows.editscriptConcatenationSpec.pre enc Tryd.prog Tryd.f9 [] false w args ∧ laidMetH Tryd.prog laid1 w) ∧ sizedMet enc Tryd.prog Tryd.f9 (OpenSpec.ofChange Rows.editscriptConcatenationSpec) false w args) (Rows.editscriptConcatenationSpec.post enc Tryd.prog Tryd.f9 false true false false) := by
  refine returnsInHanded_of_change_and (C := Tryd.checked) (X := fun w _ => laidMetH Tryd.prog laid1 w) (fun _ _ _ hh h => h.of_heap hh) Tryd.own started (by kernel_rfl) Tryd.func9
    (ChangeSpec.witness_shaped (enc := enc) (C := Tryd.checked) (os := os) (X := fun w _ => laidMetH Tryd.prog laid1 w) false (World.doorLaid Tryd.prog 600 os) #[.agg #[.slice none 0 0, .slice none 0 0, .int .i64 0], .agg #[.slice none 0 0, .slice none 0 0, .int .i64 0], .agg #[.slice none 0 0, .slice none 0 0]] 8 rfl (World.shaped_of_RefB (by kernel_rfl) (by kernel_rfl)) (by kernel_rfl) (by kernel_rfl) (by kernel_rfl) (door_met os _)) ?_
  intro W base args ds gs before hval0 hW _ hsz0 hL _
  have hsz : (DataW.weightsEach Tryd.prog (Tryd.f9.params.toList ++ Rows.editscriptConcatenationSpec.plain.varTypes Tryd.prog) (ds ++ gs)).all (· ≤ reachBytes) = true := hsz0
  clear hsz0
  have hval : ∀ (j : Nat) t v, Tryd.f9.params[j]? = some t → args[j]? = some v → Value.okWide Tryd.prog W .any base t v := hval0
  have hW' := hW
  obtain ⟨p, q, hA0, hV, rfl, _, _⟩ := hW
  have hA : DataW.TrodAll enc Tryd.prog W 0 (fun _ => true) true Tryd.f9.params.toList args.toList ds p := hA0
  rw [Tryd.params9] at hA hval hsz
  obtain ⟨v0, v1, v2, d0, d1, d2, p0, p1, p2, rfl, rfl, rfl, h0, h1, h2⟩ := trodAll_three hA
  obtain ⟨rfl, rfl⟩ := trodVars_none hV
  clear hA0 hval0
  simp only [List.append_nil] at hW'
  have hlt := fun x hx => hW'.lt x hx
  obtain ⟨⟨⟨A0, c0, l0⟩, ⟨B0, d0, i0⟩, s0, _⟩, rfl, ⟨g1, g2, g3, g4⟩, ⟨k1, k2, k3, k4⟩, gs0, _⟩ := (Opn.struct Tryd.underlying25 (by intro _; exact cells_25.symm) (OpnF.cons (Opn.slice Tryd.underlying22 cells_22 ((Opn.struct Tryd.underlying44 (by intro _; exact cells_44.symm) (OpnF.cons (Opn.i64 Tryd.underlying3 cells_3) (rfl) (OpnF.cons (Opn.slice Tryd.underlying23 cells_23 (Opn.i64 Tryd.underlying3 cells_3) (by rw [cells_3]; decide)) (by simp only [cells_3]) (OpnF.cons (Opn.i64 Tryd.underlying3 cells_3) (by simp only [cells_23, cells_3]) (OpnF.nil (by simp only [cells_44, cells_23, cells_3])))))).iso colF (fun x => (⟨x.2.1.1, x.2.1.2.1, ⟨x.1, x.2.1.2.2, x.2.2.1⟩⟩ : XCol)) (fun _ => rfl) (by intro _; exact cells_44.symm)) (by rw [cells_44]; decide)) (rfl) (OpnF.cons (Opn.slice Tryd.underlying23 cells_23 (Opn.i64 Tryd.underlying3 cells_3) (by rw [cells_3]; decide)) (by simp only [cells_22]) (OpnF.cons (Opn.i64 Tryd.underlying3 cells_3) (by simp only [cells_22, cells_23]) (OpnF.nil (by simp only [cells_25, cells_22, cells_23, cells_3])))))).parg Tryd.underlying25 (hval 0 25 v0 rfl rfl) h0 (weight_of hsz (j := 0) (t := 25) (d := d0) rfl rfl)
  obtain ⟨⟨⟨A9, c9, l9⟩, ⟨B9, d9, i9⟩, s9, _⟩, rfl, ⟨pp1, pp2, pp3, pp4⟩, ⟨qq1, qq2, qq3, qq4⟩, gs2, _⟩ := (Opn.struct Tryd.underlying25 (by intro _; exact cells_25.symm) (OpnF.cons (Opn.slice Tryd.underlying22 cells_22 ((Opn.struct Tryd.underlying44 (by intro _; exact cells_44.symm) (OpnF.cons (Opn.i64 Tryd.underlying3 cells_3) (rfl) (OpnF.cons (Opn.slice Tryd.underlying23 cells_23 (Opn.i64 Tryd.underlying3 cells_3) (by rw [cells_3]; decide)) (by simp only [cells_3]) (OpnF.cons (Opn.i64 Tryd.underlying3 cells_3) (by simp only [cells_23, cells_3]) (OpnF.nil (by simp only [cells_44, cells_23, cells_3])))))).iso colF (fun x => (⟨x.2.1.1, x.2.1.2.1, ⟨x.1, x.2.1.2.2, x.2.2.1⟩⟩ : XCol)) (fun _ => rfl) (by intro _; exact cells_44.symm)) (by rw [cells_44]; decide)) (rfl) (OpnF.cons (Opn.slice Tryd.underlying23 cells_23 (Opn.i64 Tryd.underlying3 cells_3) (by rw [cells_3]; decide)) (by simp only [cells_22]) (OpnF.cons (Opn.i64 Tryd.underlying3 cells_3) (by simp only [cells_22, cells_23]) (OpnF.nil (by simp only [cells_25, cells_22, cells_23, cells_3])))))).parg Tryd.underlying25 (hval 1 25 v1 rfl rfl) h1 (weight_of hsz (j := 1) (t := 25) (d := d1) rfl rfl)
  obtain ⟨⟨⟨C1, e1, y1⟩, ⟨C2, e2, y2⟩⟩, rfl, ⟨r1, r2, r3, r4⟩, t1, t2, t3, t4⟩ := Opn.parr (Opn.arr2 Tryd.underlying47 cells_23 cells_47 (Opn.slice Tryd.underlying23 cells_23 (Opn.i64 Tryd.underlying3 cells_3) (by rw [cells_3]; decide))) Tryd.underlying47 (hval 2 47 v2 rfl rfl) h2 (weight_of hsz (j := 2) (t := 47) (d := d2) rfl rfl)
  have hact := of_laid hL
  rw [cells_44] at g4
  rw [bytes_44] at g2
  rw [bytes_3] at k2
  rw [cells_3] at k4
  have hxl : l0.length ≤ 140737488355328 := by have g2 : l0.length * _ ≤ wtop := g2; unfold wtop at g2; omega
  have hil : i0.length ≤ 140737488355328 := by have k2 : i0.length * _ ≤ wtop := k2; unfold wtop at k2; omega
  have hM : (⟨A0, c0, l0, B0, d0, i0, s0⟩ : Inp).mem W := ⟨g4, k4, fun k x hx => by
    obtain ⟨a, rfl, ga⟩ := g3 x (List.mem_of_getElem? hx)
    have := ga.2.1.2.2.2
    rw [cells_3] at this
    exact this⟩
  rw [cells_44] at pp4
  rw [bytes_44] at pp2
  rw [bytes_3] at qq2
  rw [cells_3] at qq4
  have hxl2 : l9.length ≤ 140737488355328 := by have pp2 : l9.length * _ ≤ wtop := pp2; unfold wtop at pp2; omega
  have hil2 : i9.length ≤ 140737488355328 := by have qq2 : i9.length * _ ≤ wtop := qq2; unfold wtop at qq2; omega
  have hM2 : (⟨A9, c9, l9, B9, d9, i9, s9⟩ : Inp).mem W := ⟨pp4, qq4, fun k x hx => by
    obtain ⟨a, rfl, ga⟩ := pp3 x (List.mem_of_getElem? hx)
    have := ga.2.1.2.2.2
    rw [cells_3] at this
    exact this⟩
  refine (cat_law ⟨A0, c0, l0, B0, d0, i0, s0⟩ ⟨hxl, hil⟩ ⟨A9, c9, l9, B9, d9, i9, s9⟩ ⟨hxl2, hil2⟩ W hM hM2 hact C1 e1 y1 (by rw [cells_3] at r4; exact r4) C2 e2 y2 (by rw [cells_3] at t4; exact t4)).mono fun e W' he => ?_
  obtain ⟨rfl, hb⟩ := ret_true he
  exact ⟨_, rfl, row_below (pa := p0 ++ (p1 ++ p2)) (pv := []) hW' (fun _ _ _ => trodAll_mk1 (shut_bool Tryd.underlying4 true)) (fun sp hs => trodAll_mk3 (again Tryd.laidOut rd_25 rw_25 hb h0 hlt (fun x hx => by simp [hx]) hs) (again Tryd.laidOut rd_25 rw_25 hb h1 hlt (fun x hx => by simp [hx]) hs) (again Tryd.laidOut rd_47 rw_47 hb h2 hlt (fun x hx => by simp [hx]) hs)) (fun _ _ => rfl) (by simp) hb
    (ok_one (by kernel_rfl) rfl (okWide_bool_mk Tryd.underlying4 true))⟩
theorem editscriptConcatenation_holds : Rows.EditscriptConcatenationSaid :=
  OpenClaim.holds_of_wide 9 Tryd.f9 rfl rfl rfl rfl rfl rfl rfl ⟨rfl, rfl, rfl, rfl, rfl⟩ rfl rfl rfl rfl rfl (by kernel_rfl) Tryd.func9 (by kernel_rfl)
    (of_decide_eq_true (by kernel_rfl)) (by unfold Func.isWrapper; rw [if_neg (of_decide_eq_false (by kernel_rfl))]; exact ⟨rfl, rfl⟩)
    (fun os started H enc _ => editscriptConcatenation_lifted os started H enc)
theorem editscriptConcatenationCard_holds : Rows.EditscriptConcatenationCardSaid :=
  Claim7.holds_tied_plain_at .later [] [.funcs] true (true, "7bd5c5ecda92266dfc461737ce209e9d5cba87df88b2681df4c73668f036458e") false
    editscriptConcatenation_holds (fun _ h => by cases h) (by kernel_rfl) (fun _ h => by cases h) editscriptConcatenation_row_tie rfl ⟨rfl, rfl⟩ (by kernel_rfl) rfl
    (fun f fn hf hfn => by
      obtain rfl : f = 9 := Option.some.inj ((show Tryd.prog.funcNamed "emendate/emendatelaw36.EditscriptConcatenation" = some 9 by kernel_rfl).symm.trans hf) |>.symm
      obtain rfl : fn = Tryd.f9 := (Option.some.inj (Tryd.func9.symm.trans hfn)).symm
      exact ⟨by kernel_rfl, fun j t ht => by
        rw [Tryd.params9] at ht
        have hm : t ∈ [25, 25, 47] := by simpa using Array.mem_of_getElem? ht
        have hall : ([25, 25, 47].all fun u => !Tryd.prog.wantsStandIn u) = true := by kernel_rfl
        exact (show Tryd.prog.wantsStandIn t = false by simpa using List.all_eq_true.1 hall t hm)⟩)
    (by kernel_rfl)
end Go.Proofs.YtlefheiohblgdaaDoor
