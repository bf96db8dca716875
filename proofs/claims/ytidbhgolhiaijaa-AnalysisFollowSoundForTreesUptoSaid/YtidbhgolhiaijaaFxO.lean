/- Openers: from an argument of a row to its parts, for types of any depth. No program in sight; conditions: none. -/
import Derived.Test.YtidbhgolhiaijaaFxR
import Derived.Deep.Slices
namespace Go.Fx
open Go Go.RowKit Go.WideShapes Go.ChangeShapes
section
variable {H : Type} (enc : TypeId × Value → H) (P : Program) (W : World)
abbrev wtop : Nat := 140737488351232
/-- what a cell row of type t holds: f of something with G -/
structure Opn (t : TypeId) (α : Type) (f : α → List Value) (G : α → Prop) : Prop where
  size : ∀ a, (f a).length = P.cellsOf t
  get : ∀ {fuel : Nat} {cs : List Value} {x : DataW H × List MemPlace}, DataW.trod enc P W 0 (fun _ => true) true fuel t cs = some x → (∀ n ∈ x.1.weights P t, n ≤ wtop) → ∃ a, cs = f a ∧ G a
/-- the same of the fields of a structure from cell k on; m cells in all -/
def OpnF (m : Nat) (fs : List Field) (k : Nat) (α : Type) (f : α → List Value) (G : α → Prop) : Prop :=
  ∀ {n : Nat} {cs : List Value} {xs : List (DataW H × List MemPlace)}, cs.length = m → xs.length = fs.length → (∀ (i : Nat) (fl : Field), fs[i]? = some fl → DataW.trod enc P W 0 (fun _ => true) true n fl.type ((cs.drop fl.offset).take (P.cellsOf fl.type)) = xs[i]?) →
    (∀ (i : Nat) (fl : Field) y, fs[i]? = some fl → xs[i]? = some y → ∀ n ∈ y.1.weights P fl.type, n ≤ wtop) → ∃ a, cs.drop k = f a ∧ G a
end
section
variable {H : Type} {enc : TypeId × Value → H} {P : Program} {W : World}
theorem Opn.int {t : TypeId} {k : IntKind} (ht : P.underlying t = some (.int k)) (hc : P.cellsOf t = 1) : Opn enc P W t Int (fun n => [.int k n]) (fun n => k.min ≤ n ∧ n ≤ k.max) :=
  ⟨fun _ => hc.symm, fun h _ => by
    obtain ⟨n, rfl, _, hw⟩ := DataW.trod_int ht h
    simp only [Lit.wf, Bool.and_eq_true, decide_eq_true_eq] at hw
    exact ⟨n, rfl, hw⟩⟩
theorem Opn.i64 {t : TypeId} (ht : P.underlying t = some (.int .i64)) (hc : P.cellsOf t = 1) : Opn enc P W t Int (fun n => [.int .i64 n]) (fun n => -9223372036854775808 ≤ n ∧ n ≤ 9223372036854775807) :=
  ⟨fun _ => hc.symm, fun h hw => by
    obtain ⟨n, e, h1, h2⟩ := (Opn.int (W := W) ht hc).get h hw
    exact ⟨n, e, h1, h2⟩⟩
theorem Opn.str {t : TypeId} (ht : P.underlying t = some .string) (hc : P.cellsOf t = 1) : Opn enc P W t (List UInt8) (fun l => [str l]) (fun l => l.length ≤ wtop) :=
  ⟨fun _ => hc.symm, fun h hw => by
    obtain ⟨s, rfl, rfl, _⟩ := DataW.trod_string ht h
    exact ⟨s.data.toList, by rw [str_of], hw _ (by simp [DataW.weights])⟩⟩
theorem OpnF.nil {m k : Nat} (hk : m = k) : OpnF enc P W m [] k Unit (fun _ => []) (fun _ => True) := fun hc _ _ _ => ⟨(), by rw [List.drop_of_length_le (by omega)], trivial⟩
theorem OpnF.cons {m k : Nat} {fl : Field} {fs : List Field} {α β : Type} {f0 : α → List Value} {f : β → List Value} {G0 : α → Prop} {G : β → Prop} (h0 : Opn enc P W fl.type α f0 G0) (ho : fl.offset = k) (h : OpnF enc P W m fs (k + P.cellsOf fl.type) β f G) :
    OpnF enc P W m (fl :: fs) k (α × β) (fun a => f0 a.1 ++ f a.2) (fun a => G0 a.1 ∧ G a.2) := fun {n cs xs} hc hx hf hw => by
  cases xs with
  | nil => simp at hx
  | cons y xs =>
    obtain ⟨b, hb, hG⟩ := h hc (by simpa using hx) (fun i fl' hi => by simpa using hf (i + 1) fl' (by simpa using hi)) (fun i fl' z hi hz => hw (i + 1) fl' z (by simpa using hi) (by simpa using hz))
    have h1 := hf 0 fl rfl
    simp only [List.getElem?_cons_zero] at h1
    rw [ho] at h1
    obtain ⟨a, ha, hG0⟩ := h0.get h1 (hw 0 fl y rfl rfl)
    refine ⟨(a, b), ?_, hG0, hG⟩
    show List.drop k cs = f0 a ++ f b
    rw [← ha, ← hb, ← List.drop_drop, List.take_append_drop]
theorem Opn.struct {t : TypeId} {fs : Array Field} {α : Type} {f : α → List Value} {G : α → Prop} (ht : P.underlying t = some (.struct fs)) (hs : ∀ a, (f a).length = P.cellsOf t) (h : OpnF enc P W (P.cellsOf t) fs.toList 0 α f G) : Opn enc P W t α f G :=
  ⟨hs, fun {fuel cs x} hx hw => by
    obtain ⟨xs, n, _, rfl, hl, hlen, hf⟩ := DataW.trod_struct ht hx
    have hwt : ∀ n ∈ DataW.weightsEach P (fs.toList.map (·.type)) (xs.map (·.1)), n ≤ wtop := by simpa only [DataW.weights, ht] using hw
    obtain ⟨a, ha, hG⟩ := h hl (by simpa using hlen) (fun i fl hi => hf i fl (by simpa using hi)) (fun i fl y hi hy n hn => hwt n (DataW.weights_mem_each (j := i) (by simp [List.getElem?_map, hi]) (by simp [List.getElem?_map, hy]) n hn))
    exact ⟨a, by simpa using ha, hG⟩⟩
/-- a slice of such elements -/
theorem Opn.slice {t e : TypeId} {β : Type} {fe : β → List Value} {Ge : β → Prop} (ht : P.underlying t = some (.slice e)) (hc : P.cellsOf t = 1) (he : Opn enc P W e β fe Ge) (h0 : 0 < P.cellsOf e) :
    Opn enc P W t (Option Addr × Nat × List β) (fun a => [.slice a.1 a.2.2.length a.2.1]) (fun a => a.2.2.length ≤ a.2.1 ∧ a.2.2.length * P.bytesOf e ≤ wtop ∧ (∀ b, b ∈ a.2.2 → Ge b) ∧ Sl (P.cellsOf e) fe a.1 a.2.2 W) :=
  ⟨fun _ => hc.symm, fun {fuel cs x} hx hw => by
    rcases Go.Deep.open_slice ht hx with ⟨rfl, rfl⟩ | ⟨a, len, cap, m, n, D, Pl, rfl, _, hl, hm, hmm, rfl, hi⟩
    · exact ⟨(none, 0, []), rfl, Nat.le_refl _, by simp, fun b hb => absurd hb List.not_mem_nil, Sl.nil _ _ _ _⟩
    · simp only [if_true] at hmm
      subst hmm
      simp only [DataW.weights, ht] at hw
      have hel : ∀ i, i < len → ∃ b : β, Ge b ∧ (fe b).length = P.cellsOf e ∧ ∀ j u, (fe b)[j]? = some u → W.cell? ((a.add (i * P.cellsOf e)).add j) = some u := fun i hi' => by
        obtain ⟨cs', h1, h2⟩ := hi i (by omega)
        obtain ⟨_, h4, h5⟩ := World.cells?_some h1
        obtain ⟨b, rfl, hG⟩ := he.get h2 (fun n hn => hw n (List.mem_cons_of_mem _ (List.mem_append_left _ (weights_all (d := D i) (List.mem_map.2 ⟨i, List.mem_range.2 hi', rfl⟩) n hn))))
        refine ⟨b, hG, h4, fun j u hj => ?_⟩
        rw [h5 j (by have := (List.getElem?_eq_some_iff.1 hj).1; omega)]; exact hj
      have hlist : ∀ k, k ≤ len → ∃ l : List β, l.length = k ∧ (∀ b, b ∈ l → Ge b) ∧ ∀ i b, l[i]? = some b → (fe b).length = P.cellsOf e ∧ ∀ j u, (fe b)[j]? = some u → W.cell? ((a.add (i * P.cellsOf e)).add j) = some u := fun k => by
        induction k with
        | zero => exact fun _ => ⟨[], rfl, fun b hb => absurd hb List.not_mem_nil, fun i b hb => by simp at hb⟩
        | succ k ih =>
          intro hk
          obtain ⟨l, h1, h2, h3⟩ := ih (by omega)
          obtain ⟨b, h4, h5, h6⟩ := hel k (by omega)
          refine ⟨l ++ [b], by simp [h1], fun b' hb' => ?_, fun i b' hb' => ?_⟩
          · rcases List.mem_append.1 hb' with hb' | hb'
            · exact h2 b' hb'
            · simp at hb'; subst hb'; exact h4
          · by_cases hik : i < k
            · rw [List.getElem?_append_left (by omega)] at hb'; exact h3 i b' hb'
            · rw [List.getElem?_append_right (by omega)] at hb'
              have : i = k := by
                have := (List.getElem?_eq_some_iff.1 hb').1
                simp at this; omega
              subst this
              simp [h1] at hb'; subst hb'; exact ⟨h5, h6⟩
      obtain ⟨l, h1, h2, h3⟩ := hlist len (Nat.le_refl _)
      refine ⟨(some a, m, l), by simp [h1], by simp only [h1]; exact hl, ?_, h2, fun i b hb => ⟨(h3 i b hb).1, ?_⟩⟩
      · have := hw _ (List.mem_cons_self ..)
        simp only [List.length_map, List.length_range] at this
        refine Nat.le_trans (Nat.mul_le_mul_right _ ?_) this
        rw [h1]; omega
      · obtain ⟨h4, h5⟩ := h3 i b hb
        obtain ⟨b0, off, spot⟩ := a
        cases spot with
        | some s =>
          exfalso
          have hil : i < l.length := (List.getElem?_eq_some_iff.1 hb).1
          obtain ⟨b1, hb1⟩ : ∃ b1, l[0]? = some b1 := ⟨_, List.getElem?_eq_getElem (by omega)⟩
          obtain ⟨u, hu⟩ : ∃ u, (fe b1)[0]? = some u := ⟨_, List.getElem?_eq_getElem (by rw [(h3 0 b1 hb1).1]; exact h0)⟩
          have := (h3 0 b1 hb1).2 0 u hu
          simp only [World.cell?, Addr.add, Nat.zero_mul, if_true] at this
          split at this <;> simp at this
        | none =>
          refine ⟨b0, off, rfl, fun j u hj => ?_⟩
          have := h5 j u hj
          rw [off_add, off_add] at this
          rw [← Nat.add_assoc]; exact this⟩
/-- the same in another form -/
theorem Opn.iso {t : TypeId} {α β : Type} {f : α → List Value} {G : α → Prop} (h : Opn enc P W t α f G) (g : β → List Value) (k : α → β) (hk : ∀ a, f a = g (k a)) (hs : ∀ b, (g b).length = P.cellsOf t) : Opn enc P W t β g (fun b => ∃ a, b = k a ∧ G a) :=
  ⟨hs, fun hx hw => by
    obtain ⟨a, ha, hG⟩ := h.get hx hw
    exact ⟨k a, by rw [ha, hk], a, rfl, hG⟩⟩
/-- a parameter that is a structure -/
theorem Opn.parg {r : Reach} {b0 : Nat} {t : TypeId} {fs : Array Field} {α : Type} {f : α → List Value} {G : α → Prop} {v : Value} {d : DataW H} {ps : List MemPlace} (h : Opn enc P W t α f G) (ht : P.underlying t = some (.struct fs)) (hval : Value.okWide P W r b0 t v)
    (hd : DataW.Trod enc P W 0 (fun _ => true) true t v d ps) (hw : ∀ n ∈ d.weights P t, n ≤ wtop) : ∃ a, v = .agg (f a).toArray ∧ G a := by
  obtain ⟨cs, rfl, _⟩ := okWide_struct ht hval
  obtain ⟨fuel, hf⟩ := hd
  obtain ⟨a, ha, hG⟩ := h.get hf hw
  refine ⟨a, ?_, hG⟩
  rw [← ha]; simp [Value.cells]
/-- a parameter that is a slice -/
theorem Opn.pslice {r : Reach} {b0 : Nat} {t e : TypeId} {α : Type} {f : α → List Value} {G : α → Prop} {v : Value} {d : DataW H} {ps : List MemPlace} (h : Opn enc P W t α f G) (ht : P.underlying t = some (.slice e)) (hval : Value.okWide P W r b0 t v)
    (hd : DataW.Trod enc P W 0 (fun _ => true) true t v d ps) (hw : ∀ n ∈ d.weights P t, n ≤ wtop) : ∃ a, [v] = f a ∧ G a := by
  obtain ⟨a0, len, cap, rfl⟩ := okWide_slice ht hval
  obtain ⟨fuel, hf⟩ := hd
  obtain ⟨a, ha, hG⟩ := h.get hf hw
  exact ⟨a, by rw [← ha]; simp [Value.cells], hG⟩
theorem Opn.pint {r : Reach} {b0 : Nat} {t : TypeId} {v : Value} {d : DataW H} {ps : List MemPlace} (ht : P.underlying t = some (.int .i64)) (hval : Value.okWide P W r b0 t v)
    (hd : DataW.Trod enc P W 0 (fun _ => true) true t v d ps) : ∃ n : Int, v = .int .i64 n ∧ -9223372036854775808 ≤ n ∧ n ≤ 9223372036854775807 := by
  obtain ⟨n, h1, h2, h3⟩ := open_num ht hval hd
  exact ⟨n, h1, h2, h3⟩
end
end Go.Fx
