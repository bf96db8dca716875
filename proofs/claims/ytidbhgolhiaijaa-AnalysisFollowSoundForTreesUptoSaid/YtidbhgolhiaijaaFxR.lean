/- From the arguments of a row to the facts of a walk, and from a walk back to the row. No program in sight; conditions: none. -/
import Derived.Test.YtidbhgolhiaijaaFxB
import Derived.ProofKit
import Derived.SizedLaws
import Derived.SliceStrings
import Derived.ChangeMaps5
import Derived.ChangeSame
import Derived.Below
namespace Go.Fx
open Go Go.RowKit Go.WideShapes Go.ChangeShapes
section
variable {H : Type} {enc : TypeId × Value → H} {P : Program}
theorem row_below {f : Func} {s : ChangeSpec} {apart fresh handsOn again : Bool} {W W' : World} {args : Array Value} {v : Value} {ds gs : List (DataW H)} {before pa pv : List MemPlace}
    (hW : DataW.Whole enc P f.params.toList s.vars apart W args.toList ds gs before)
    (hres : ∀ (b : Nat) (sp : Nat → Bool) (hd : Bool), DataW.TrodAll enc P W' b sp hd f.resultTypes.toList (v.resultList f.resultTypes.size) (s.fn H (ds ++ gs)).results [])
    (hargs : ∀ sp : Nat → Bool, (∀ p ∈ before, sp p.block = true) → DataW.TrodAll enc P W' 0 sp true f.params.toList args.toList (s.fn H (ds ++ gs)).args pa)
    (hvars : ∀ sp : Nat → Bool, (∀ p ∈ before, sp p.block = true) → DataW.TrodVars enc P W' sp s.vars (s.fn H (ds ++ gs)).vars pv)
    (hps : before = pa ++ pv) (hb : Below W.heap.size W W')
    (hok : ∀ (j : Nat) (t : TypeId) (r : Value), f.resultTypes[j]? = some t → (v.resultList f.resultTypes.size)[j]? = some r → Value.okWide P W' .any 0 t r) :
    s.post enc P f apart fresh handsOn again W args v W' := by
  have hlt : ∀ p ∈ before, p.block < W.heap.size := fun p hp => hW.lt p hp
  have hold : ∀ p ∈ before, (fun b => decide (b < W.heap.size)) p.block = true := fun p hp => by simpa using hlt p hp
  refine ⟨ds, gs, before, [], pa, pv, hW, hres _ _ _, hargs _ hold, hvars _ hold, World.keptBut_mono (fun p hp => ⟨hp, ?_⟩) (hb.frame (· ∈ before)), fun _ => ?_⟩
  · rw [hps, List.mem_append] at hp
    exact Or.inr hp
  · obtain ⟨_, _, _, _, _, hz, hn⟩ := hW
    refine ⟨hok, _, _, ([] ++ pa) ++ pv, ⟨[] ++ pa, pv, trodAll_append (hargs _ (fun _ _ => rfl)) (hres _ _ _), hvars _ (fun _ _ => rfl), rfl, ?_, ?_⟩, ?_⟩
    · intro b off hp
      have hin : MemPlace.cell b off ∈ before := by rw [hps]; simpa using hp
      rw [hb.frozen (hlt _ hin)]
      exact hz b off hin
    · intro ha
      have := hn ha
      rw [hps] at this
      simpa using this
    · intro p hp _
      rw [hps]
      simpa using hp
theorem weight_of {ts : List TypeId} {ds : List (DataW H)} (h : (DataW.weightsEach P ts ds).all (· ≤ reachBytes) = true) {j : Nat} {t : TypeId} {d : DataW H} (ht : ts[j]? = some t) (hd : ds[j]? = some d) : ∀ n ∈ d.weights P t, n ≤ 140737488351232 := fun n hn => by
  have := List.all_eq_true.1 h n (DataW.weights_mem_each ht hd n hn)
  exact of_decide_eq_true this
theorem str_of (s : ByteArray) : str s.data.toList = .string s := by simp [str]
theorem open_str {W : World} {r : Reach} {b0 : Nat} {t : TypeId} {v : Value} {d : DataW H} {ps : List MemPlace} {sp : Nat → Bool} {held : Bool} {base : Nat} (ht : P.underlying t = some .string) (hval : Value.okWide P W r b0 t v) (hd : DataW.Trod enc P W base sp held t v d ps) (hw : ∀ n ∈ d.weights P t, n ≤ 140737488351232) :
    ∃ l : List UInt8, v = str l ∧ l.length ≤ 140737488351232 := by
  obtain ⟨s, rfl, rfl, rfl, _⟩ := Go.ChangeMaps.open_string ht hval hd
  refine ⟨s.data.toList, (str_of s).symm, hw _ ?_⟩
  simp [DataW.weights]
theorem weights_all {e : TypeId} : ∀ {l : List (DataW H)} {d : DataW H}, d ∈ l → ∀ n ∈ d.weights P e, n ∈ DataW.weightsAll P e l
  | x :: l, d, hd, n, hn => by
    simp only [DataW.weightsAll, List.mem_append]
    rcases List.mem_cons.1 hd with rfl | hd
    · exact .inl hn
    · exact .inr (weights_all hd n hn)
theorem open_strs {W : World} {r : Reach} {b0 : Nat} {t e : TypeId} {v : Value} {d : DataW H} {ps : List MemPlace} {held : Bool} (ht : P.underlying t = some (.slice e)) (he : P.underlying e = some .string) (hc : P.cellsOf e = 1) (hby : P.bytesOf e = 16)
    (hval : Value.okWide P W r b0 t v) (hd : DataW.Trod enc P W 0 (fun _ => true) held t v d ps) (hw : ∀ n ∈ d.weights P t, n ≤ 140737488351232) :
    ∃ (A : Option Addr) (l : List (List UInt8)) (c : Nat), v = .slice A l.length c ∧ l.length ≤ c ∧ l.length ≤ 8796093022000 ∧ (∀ r, r ∈ l → r.length ≤ 140737488351232) ∧ Sl 1 strF A l W := by
  obtain ⟨a0, len, cap, rfl⟩ := okWide_slice ht hval
  obtain ⟨fuel, hf⟩ := hd
  rcases open_strings ht he hc hf with ⟨hcs, hx⟩ | ⟨a, len', cap', ss, hcs, _, hl, hm, hz, hx, hcell, hsz⟩
  · simp only [Value.cells, List.cons.injEq, Value.slice.injEq, and_true] at hcs
    obtain ⟨rfl, rfl, rfl⟩ := hcs
    exact ⟨none, [], 0, rfl, Nat.le_refl _, by simp, fun r hr => absurd hr List.not_mem_nil, Sl.nil _ _ _ _⟩
  · simp only [Value.cells, List.cons.injEq, Value.slice.injEq, and_true] at hcs
    obtain ⟨rfl, rfl, rfl⟩ := hcs
    simp only [Prod.mk.injEq] at hx
    obtain ⟨rfl, _⟩ := hx
    simp only [if_true] at hz
    have hlen : ((ss.take len).map (fun s => s.data.toList)).length = len := by simp; omega
    refine ⟨some a, (ss.take len).map (fun s => s.data.toList), cap, by rw [hlen], by rw [hlen]; exact hl, ?_, fun r hr => ?_, fun i x hx => ⟨rfl, ?_⟩⟩
    · rw [hlen]
      have := hw ((strs (H := H) (ss.take len)).length + (strs (H := H) (ss.drop len)).length |> (· * P.bytesOf e)) (by simp [DataW.weights, ht])
      simp only [strs, List.length_map, List.length_take, List.length_drop, hby] at this
      omega
    · obtain ⟨s, hs, rfl⟩ := List.mem_map.1 hr
      refine hw _ ?_
      simp only [DataW.weights, ht]
      refine List.mem_cons_of_mem _ (List.mem_append_left _ (weights_all (d := .lit (.string s.data.toList)) ?_ _ (by simp [DataW.weights])))
      exact List.mem_map.2 ⟨s, hs, rfl⟩
    · have hi : i < len := by have := (List.getElem?_eq_some_iff.1 hx).1; omega
      have hi2 : i < ss.length := by omega
      have hxs : x = (ss.getD i ByteArray.empty).data.toList := by
        simp only [List.getElem?_map, List.getElem?_take, if_pos hi, List.getElem?_eq_getElem hi2, Option.map_some, Option.some.injEq] at hx
        rw [← hx]; simp [List.getD, List.getElem?_eq_getElem hi2]
      have h0 := hcell i hi2
      obtain ⟨b, off, spot⟩ := a
      cases spot with
      | some k =>
        have h1 := hcell 0 (by omega)
        simp only [World.cell?, Addr.add, if_true] at h1
        split at h1 <;> simp at h1
      | none =>
        refine ⟨b, off, rfl, fun j u hj => ?_⟩
        cases j with
        | succ j => simp [strF] at hj
        | zero =>
          simp only [strF, List.getElem?_cons_zero, Option.some.injEq] at hj
          subst hj
          rw [hxs, str_of]
          have e1 : (Addr.add ⟨b, off, none⟩ i) = ⟨b, off + (i * 1 + 0), none⟩ := by
            unfold Addr.add; split
            · rename_i h; simp [h]
            · simp
          rw [← e1]; exact h0
theorem open_num {W : World} {r : Reach} {b0 : Nat} {t : TypeId} {k : IntKind} {v : Value} {d : DataW H} {ps : List MemPlace} {sp : Nat → Bool} {held : Bool} {base : Nat} (ht : P.underlying t = some (.int k)) (hval : Value.okWide P W r b0 t v) (hd : DataW.Trod enc P W base sp held t v d ps) :
    ∃ n : Int, v = .int k n ∧ k.min ≤ n ∧ n ≤ k.max := by
  obtain ⟨n, rfl, _, _, h⟩ := open_int ht hval hd
  refine ⟨n, rfl, ?_⟩
  simp only [Lit.wf, Bool.and_eq_true, decide_eq_true_eq] at h
  exact h
theorem open_u16 {W : World} {r : Reach} {b0 : Nat} {t : TypeId} {v : Value} {d : DataW H} {ps : List MemPlace} {sp : Nat → Bool} {held : Bool} {base : Nat} (ht : P.underlying t = some (.int .u16)) (hval : Value.okWide P W r b0 t v) (hd : DataW.Trod enc P W base sp held t v d ps) :
    ∃ n : Nat, v = .int .u16 (n : Int) ∧ n < 65536 := by
  obtain ⟨n, rfl, h1, h2⟩ := open_num ht hval hd
  have h1 : (0 : Int) ≤ n := h1
  have h2 : n ≤ (65535 : Int) := h2
  exact ⟨n.toNat, by rw [Int.toNat_of_nonneg h1], by omega⟩
theorem open_u8 {W : World} {r : Reach} {b0 : Nat} {t : TypeId} {v : Value} {d : DataW H} {ps : List MemPlace} {sp : Nat → Bool} {held : Bool} {base : Nat} (ht : P.underlying t = some (.int .u8)) (hval : Value.okWide P W r b0 t v) (hd : DataW.Trod enc P W base sp held t v d ps) :
    ∃ u : UInt8, v = .int .u8 (u.toNat : Int) := by
  obtain ⟨n, rfl, h1, h2⟩ := open_num ht hval hd
  have h1 : (0 : Int) ≤ n := h1
  have h2 : n ≤ (255 : Int) := h2
  refine ⟨UInt8.ofNat n.toNat, ?_⟩
  rw [UInt8.toNat_ofNat_of_lt' (by simp; omega), Int.toNat_of_nonneg h1]
/-- the arguments read again behind the call -/
theorem again {t : TypeId} (hl : laidOutB P = true) (hr : P.readableRec t = true) (hrow : t < P.types.size) {W W' : World} {sp' : Nat → Bool} {v : Value} {d : DataW H} {ps ps0 : List MemPlace} (hb : Below W.heap.size W W')
    (h : DataW.Trod enc P W 0 (fun _ => true) true t v d ps) (hlt : ∀ p ∈ ps0, p.block < W.heap.size) (hin : ∀ p ∈ ps, p ∈ ps0) (hs : ∀ p ∈ ps0, sp' p.block = true) : DataW.Trod enc P W' 0 sp' true t v d ps :=
  WideElems.Trod_stays hl hr hrow h (fun x hx => hb.same (hlt x (hin x hx))) (fun x hx => hs x (hin x hx))
theorem ret_true {W : World} {e : Ending} {W' : World} (h : Ret (fun v w' => v = .bool true ∧ Ext [] W w') e W') : e = .returned (.bool true) ∧ Below W.heap.size W W' := by
  cases e with
  | returned v => exact ⟨by rw [h.1], h.2.below⟩
  | _ => exact h.elim
end
end Go.Fx
