/- Rules for maps whose values are all true (sets of keys), for ranges over them, and for scopes. No program in sight; conditions: none. -/
import Derived.Test.YtidbhgolhiaijaaFxT
import Derived.Maps.RangeRun
import Derived.Scope
namespace Go.Fx
open Go Go.RowKit Go.MapKept Go.ChangeMaps
section
variable {P : Program} {w0 : World} {K : List Nat} {n : Sz} {N : Act → World → Prop} {E : Nat → Act → World → Prop} {R : Act → World → Prop} {L : Slots} {σ : Own} {ρ : Facts} {ops : Array Oper} {rest : List Oper} {ty : TypeId}
theorem c_scope {c : Code} (h : Cont w0 K n (W none P c N E R) L σ ρ) : Cont w0 K n (W none P (.scope c) N E R) L σ ρ := fun a w hf hs => by
  refine wpIn_wide.2 (wp_scope_straight (wp_mono (wpIn_wide.1 (h a w hf hs)) fun e a w q => ?_))
  cases e <;> exact q
end
/-! ## keys -/
/-- what the keys of a map must be like -/
structure KeyOk {α : Type} (P : Program) (kt : TypeId) (kf : α → Value) : Prop where
  inj : ∀ a b, kf a = kf b → a = b
  check : ∀ (e : Bool) (a : α) (w : World), (Instr.checkKey e 10000 kt (kf a)).run P w = .ok () w
  find : ∀ (a : α) (es : List MapEntry) (w : World), (∀ x ∈ es, ∃ b, x.key = kf b) → ((Instr.findKey kt (kf a) es).run P w = .ok none w ∧ ∀ x ∈ es, x.key ≠ kf a) ∨ ∃ j e, (Instr.findKey kt (kf a) es).run P w = .ok (some (j, e.val)) w ∧ es[j]? = some e ∧ e.key = kf a
  stays : ∀ (a : α) (w : World), (Instr.keyThatStays (kf a) (kf a)).run P w = .ok (kf a) w
def intK (x : Int) : Value := .int .i64 x
theorem keyOk_int {P : Program} {kt : TypeId} (h : P.underlying kt = some (.int .i64)) : KeyOk P kt intK :=
  ⟨fun a b e => by injection e, fun e a w => run_checkKey (n := 9999) h (by simp [IsKey, intK]) e, fun a es w hk => by
    rcases findNow_spec (d := .int .i64) (k := intK a) (by simp [IsKey, intK]) es 0 (fun x hx => by obtain ⟨b, hb⟩ := hk x hx; rw [hb]; simp [IsKey, intK]) with ⟨h1, h2⟩ | ⟨j, e, h1, h2, h3⟩
    · exact .inl ⟨run_findKey h h1, h2⟩
    · exact .inr ⟨j, e, by rw [run_findKey h h1, Nat.zero_add], h2, h3⟩, fun a w => run_keyThatStays (d := .int .i64) (by simp [IsKey, intK])⟩
/-! ## sets of keys -/
def ins {α : Type} [DecidableEq α] (ks : List α) (k : α) : List α := if k ∈ ks then ks else ks ++ [k]
theorem mem_ins {α : Type} [DecidableEq α] {ks : List α} {k a : α} : a ∈ ins ks k ↔ a ∈ ks ∨ a = k := by
  unfold ins; split
  · rename_i h; exact ⟨.inl, fun h2 => h2.elim id (fun e => e ▸ h)⟩
  · simp
/-- these entries under this clock are the keys ks -/
structure EntsOf {α : Type} (kf : α → Value) (es : Array MapEntry) (clock : Nat) (ks : List α) : Prop where
  st : Stamped es clock
  eq : es.toList.map (fun e => (e.key, e.val)) = ks.map (fun k => (kf k, Value.bool true))
section
variable {α : Type} {kf : α → Value} {es : Array MapEntry} {clock : Nat} {ks : List α}
theorem EntsOf.len (h : EntsOf kf es clock ks) : es.size = ks.length := by
  have := congrArg List.length h.eq
  simpa using this
theorem EntsOf.key (h : EntsOf kf es clock ks) {x : MapEntry} (hx : x ∈ es.toList) : ∃ k, k ∈ ks ∧ x.key = kf k ∧ x.val = .bool true := by
  have : (x.key, x.val) ∈ ks.map (fun k => (kf k, Value.bool true)) := h.eq ▸ List.mem_map.2 ⟨x, hx, rfl⟩
  obtain ⟨k, hk, e⟩ := List.mem_map.1 this
  injection e with e1 e2
  exact ⟨k, hk, e1.symm, e2.symm⟩
theorem EntsOf.ent (h : EntsOf kf es clock ks) {k : α} (hk : k ∈ ks) : ∃ x, x ∈ es.toList ∧ x.key = kf k := by
  have : (kf k, Value.bool true) ∈ es.toList.map (fun e => (e.key, e.val)) := h.eq ▸ List.mem_map.2 ⟨k, hk, rfl⟩
  obtain ⟨x, hx, e⟩ := List.mem_map.1 this
  injection e with e1 _
  exact ⟨x, hx, e1⟩
theorem EntsOf.nodup (h : EntsOf kf es clock ks) : ks.Nodup := by
  have h1 := h.st.2.2
  have h2 : es.toList.map (·.key) = ks.map kf := by
    have := congrArg (List.map Prod.fst) h.eq
    rw [List.map_map, List.map_map] at this
    exact this
  rw [h2] at h1
  exact (List.pairwise_map.1 h1).imp fun hne e => hne (by rw [e])
theorem EntsOf.empty (kf : α → Value) : EntsOf kf #[] 0 ([] : List α) := ⟨stamped_empty 0, rfl⟩
variable [DecidableEq α] {P : Program} {kt et mty : TypeId} {w : World} {b : Nat}
theorem EntsOf.lookup (h : EntsOf kf es clock ks) (ko : KeyOk P kt kf) (hm : P.underlying mty = some (.map kt et)) (hz : ∀ w, (zeroValue et).run P w = .ok (.bool false) w) (hb : w.heap[b]? = some (.map es clock)) (k : α) :
    (Instr.lookup mty (.map (some b)) (kf k) false).run P w = .ok (.bool (decide (k ∈ ks))) w := by
  rcases ko.find k es.toList w (fun x hx => by obtain ⟨a, _, e, _⟩ := h.key hx; exact ⟨a, e⟩) with ⟨h1, h2⟩ | ⟨j, e, h1, h2, h3⟩
  · have hn : k ∉ ks := fun hk => by obtain ⟨x, hx, e⟩ := h.ent hk; exact h2 x hx e
    simp [Instr.lookup, run_underlying hm, MapKept.run_getObj_map hb, ko.check, h1, hz, hn, Result.andThen]
  · obtain ⟨a, ha, e1, e2⟩ := h.key (List.mem_of_getElem? h2)
    have hk : k ∈ ks := by rw [e1] at h3; rw [← ko.inj _ _ h3]; exact ha
    simp [Instr.lookup, run_underlying hm, MapKept.run_getObj_map hb, ko.check, h1, e2, hk, Result.andThen]
theorem EntsOf.update (h : EntsOf kf es clock ks) (ko : KeyOk P kt kf) (hm : P.underlying mty = some (.map kt et)) (hb : w.heap[b]? = some (.map es clock)) (k : α) :
    ∃ es' clock', (Instr.mapUpdate mty (.map (some b)) (kf k) (.bool true)).run P w = .ok () (setBlock w b (.map es' clock')) ∧ EntsOf kf es' clock' (ins ks k) ∧ (k ∈ ks → es' = es ∧ clock' = clock) := by
  rcases ko.find k es.toList w (fun x hx => by obtain ⟨a, _, e, _⟩ := h.key hx; exact ⟨a, e⟩) with ⟨h1, h2⟩ | ⟨j, e, h1, h2, h3⟩
  · have hn : k ∉ ks := fun hk => by obtain ⟨x, hx, e⟩ := h.ent hk; exact h2 x hx e
    refine ⟨es.push { key := kf k, val := .bool true, born := clock }, clock + 1, ?_, ⟨stamped_push h.st h2, ?_⟩, fun hk => absurd hk hn⟩
    · simp [Instr.mapUpdate, run_underlying hm, MapKept.run_getObj_map hb, ko.check, h1, MapKept.run_setObj_map _ hb, Result.andThen, setBlock]
    · rw [ins, if_neg hn]; simp [h.eq]
  · have hj : es[j]? = some e := by simpa using h2
    obtain ⟨a, ha, e1, e2⟩ := h.key (List.mem_of_getElem? h2)
    have hk : k ∈ ks := by rw [e1] at h3; rw [← ko.inj _ _ h3]; exact ha
    have hsame : es.modify j (fun e => { e with key := kf k, val := .bool true }) = es := by
      apply Array.ext_getElem?
      intro i
      rw [Array.getElem?_modify]
      split
      · rename_i hi; subst hi; rw [hj]; simp only [Option.map_some]; rw [← h3, ← e2]
      · rfl
    refine ⟨es, clock, ?_, ⟨h.st, by rw [ins, if_pos hk]; exact h.eq⟩, fun _ => ⟨rfl, rfl⟩⟩
    simp [Instr.mapUpdate, run_underlying hm, MapKept.run_getObj_map hb, ko.check, h1, hj, h3, ko.stays, hsame, MapKept.run_setObj_map _ hb, Result.andThen, setBlock]
end
/-- block b holds just this map -/
def MEx (b : Nat) (es : Array MapEntry) (clock : Nat) : World → Prop := fun w => w.heap[b]? = some (.map es clock)
def MIs {α : Type} (kf : α → Value) (b : Nat) (ks : List α) : World → Prop := fun w => ∃ es clock, MEx b es clock w ∧ EntsOf kf es clock ks
def iMEx (b : Nat) (es : Array MapEntry) (clock : Nat) : Item := ⟨[b], MEx b es clock⟩
def iMap {α : Type} (kf : α → Value) (b : Nat) (ks : List α) : Item := ⟨[b], MIs kf b ks⟩
theorem iMEx_dep (b : Nat) (es : Array MapEntry) (clock : Nat) : (iMEx b es clock).dep := fun w1 w2 h hw => (h b (by simp [iMEx])).trans hw
theorem iMap_dep {α : Type} (kf : α → Value) (b : Nat) (ks : List α) : (iMap kf b ks).dep := fun w1 w2 h ⟨es, c, h1, h2⟩ => ⟨es, c, (h b (by simp [iMap])).trans h1, h2⟩
/-- the block of a range over a map -/
def iIter (r b since : Nat) (seen : Array Nat) (c0 : Nat) : Item := ⟨[r], fun w => w.heap[r]? = some (.mapIter (some b) since seen c0)⟩
theorem iIter_dep (r b since : Nat) (seen : Array Nat) (c0 : Nat) : (iIter r b since seen c0).dep := fun w1 w2 h hw => (h r (by simp [iIter])).trans hw
section
variable {P : Program} {w0 : World} {K : List Nat} {n : Sz} {N : Act → World → Prop} {E : Nat → Act → World → Prop} {R : Act → World → Prop} {L : Slots} {σ : Own} {ρ : Facts} {ops : Array Oper} {rest : List Oper} {ty : TypeId} {α : Type} {kf : α → Value}
theorem St.map_ex {w : World} {b : Nat} {ks : List α} (h : St w0 K w (iMap kf b ks :: σ) ρ) : ∃ es clock, EntsOf kf es clock ks ∧ St w0 K w (iMEx b es clock :: σ) ρ := by
  obtain ⟨⟨es, clock, h1, h2⟩, _, h3⟩ := h.own _ (List.mem_cons_self ..)
  refine ⟨es, clock, h2, h.ext, h.nodup, fun x hx => ?_, h.facts⟩
  rcases List.mem_cons.1 hx with rfl | hx
  · exact ⟨h1, iMEx_dep _ _ _, h3⟩
  · exact h.own x (List.mem_cons_of_mem _ hx)
theorem St.ex_map {w : World} {b : Nat} {es : Array MapEntry} {clock : Nat} {ks : List α} (h : St w0 K w (iMEx b es clock :: σ) ρ) (he : EntsOf kf es clock ks) : St w0 K w (iMap kf b ks :: σ) ρ := by
  obtain ⟨h1, _, h3⟩ := h.own _ (List.mem_cons_self ..)
  refine ⟨h.ext, h.nodup, fun x hx => ?_, h.facts⟩
  rcases List.mem_cons.1 hx with rfl | hx
  · exact ⟨⟨es, clock, h1, he⟩, iMap_dep _ _ _, h3⟩
  · exact h.own x (List.mem_cons_of_mem _ hx)
theorem c_mapex {b : Nat} {ks : List α} (k : ∀ es clock, EntsOf kf es clock ks → Cont w0 K n N L (iMEx b es clock :: σ) ρ) : Cont w0 K n N L (iMap kf b ks :: σ) ρ := fun a w hf hs => by
  obtain ⟨es, clock, he, hs'⟩ := hs.map_ex
  exact k es clock he a w hf hs'
theorem c_exmap {b : Nat} {es : Array MapEntry} {clock : Nat} {ks : List α} (he : EntsOf kf es clock ks) (k : Cont w0 K n N L (iMap kf b ks :: σ) ρ) : Cont w0 K n N L (iMEx b es clock :: σ) ρ := fun a w hf hs => k a w hf (hs.ex_map he)
theorem key_in' {S : Nat → Prop} {q : World → Prop} {w : World} {k : Nat} (hd : DepS S q) (hq : q w) (h : ∀ w, q w → ∃ o, w.heap[k]? = some o ∧ o ≠ .deferred none) : S k := by
  apply Classical.byContradiction
  intro hn
  obtain ⟨o, hk, _⟩ := h w hq
  have hlt := (Array.getElem?_eq_some_iff.1 hk).1
  obtain ⟨o', hk', hne⟩ := h _ (hd w { w with heap := w.heap.setIfInBounds k (.deferred none) } (fun j hj => by
    have : k ≠ j := fun e => hn (e ▸ hj)
    simp [Array.getElem?_setIfInBounds_ne this]) hq)
  simp [hlt] at hk'
  exact hne hk'.symm
/-- a map that is known is known exactly -/
theorem St.fact_ex {w : World} {q : World → Prop} {b : Nat} {ks : List α} (h : St w0 K w σ ρ) (hq : q ∈ ρ) (hi : ∀ w, q w → MIs kf b ks w) : ∃ es clock, EntsOf kf es clock ks ∧ St w0 K w σ (MEx b es clock :: ρ) := by
  obtain ⟨h1, S, h2, h3, h4⟩ := h.facts q hq
  obtain ⟨es, clock, h5, h6⟩ := hi w h1
  have hS : S b := key_in' h3 h1 (fun w hw => by obtain ⟨es, clock, h7, _⟩ := hi w hw; exact ⟨_, h7, fun e => by cases e⟩)
  refine ⟨es, clock, h6, h.ext, h.nodup, h.own, fun p hp => ?_⟩
  rcases List.mem_cons.1 hp with rfl | hp
  · exact ⟨h5, fun k => k = b, fun k hk => hk ▸ h2 b hS, fun w1 w2 hb hw => (hb b rfl).trans hw, fun k hk e => h4 k hk (e ▸ hS)⟩
  · exact h.facts p hp
theorem c_factex {q : World → Prop} {b : Nat} {ks : List α} (hq : q ∈ ρ) (hi : ∀ w, q w → MIs kf b ks w) (k : ∀ es clock, EntsOf kf es clock ks → Cont w0 K n N L σ (MEx b es clock :: ρ)) : Cont w0 K n N L σ ρ := fun a w hf hs => by
  obtain ⟨es, clock, he, hs'⟩ := hs.fact_ex hq hi
  exact k es clock he a w hf hs'
theorem l_factex {q : World → Prop} {b : Nat} {ks : List α} (hq : q ∈ ρ) (hi : ∀ w, q w → MIs kf b ks w) (k : ∀ es clock, EntsOf kf es clock ks → WL P w0 K n ops rest N L σ (MEx b es clock :: ρ)) : WL P w0 K n ops rest N L σ ρ := fun a w hf hs => by
  obtain ⟨es, clock, he, hs'⟩ := hs.fact_ex hq hi
  exact k es clock he a w hf hs'
/-- memory as said holds this map exactly -/
def ExIn (w0 : World) (K : List Nat) (σ : Own) (ρ : Facts) (b : Nat) (es : Array MapEntry) (clock : Nat) : Prop := ∀ w, St w0 K w σ ρ → MEx b es clock w
theorem ExIn.fact {b : Nat} {es : Array MapEntry} {clock : Nat} (h : MEx b es clock ∈ ρ) : ExIn w0 K σ ρ b es clock := fun _ hs => (hs.facts _ h).1
theorem ExIn.own {b : Nat} {es : Array MapEntry} {clock : Nat} (h : iMEx b es clock ∈ σ) : ExIn w0 K σ ρ b es clock := fun _ hs => (hs.own _ h).1
/-- memory as said holds this set -/
def MpIn (w0 : World) (K : List Nat) (σ : Own) (ρ : Facts) (kf : α → Value) (b : Nat) (ks : List α) : Prop := ∀ w, St w0 K w σ ρ → MIs kf b ks w
theorem MpIn.fact {b : Nat} {ks : List α} (h : MIs kf b ks ∈ ρ) : MpIn w0 K σ ρ kf b ks := fun _ hs => (hs.facts _ h).1
theorem MpIn.own {b : Nat} {ks : List α} (h : iMap kf b ks ∈ σ) : MpIn w0 K σ ρ kf b ks := fun _ hs => (hs.own _ h).1
theorem MpIn.ex {b : Nat} {es : Array MapEntry} {clock : Nat} {ks : List α} (h : ExIn w0 K σ ρ b es clock) (he : EntsOf kf es clock ks) : MpIn w0 K σ ρ kf b ks := fun w hs => ⟨es, clock, h w hs, he⟩
theorem l_makeMap {d : Nat} {pos : String} {aft : Array Edge} {t : TypeId} (kf : α → Value) (hd : d < n) (h : ∀ b, WL P w0 K n ops rest N ((d, .map (some b)) :: L) (iMap kf b [] :: σ) ρ) :
    WL P w0 K n ops (⟨some d, .makeMap t none, ty, pos, aft, none⟩ :: rest) N L σ ρ :=
  l_step hd fun a w hf hs => ⟨_, w.alloc (.map #[] 0), _, _, by simp [execOp, Instr.makeMap, newObj, Result.andThen]; rfl
    , hs.alloc _ (iMap kf w.heap.size []) rfl (iMap_dep _ _ _) ⟨#[], 0, heap_alloc_new w _, EntsOf.empty kf⟩, h _⟩
theorem r_lookup [DecidableEq α] {m x : Operand} {t kt et : TypeId} {b : Nat} {ks : List α} {k : α} {v : Value} (ko : KeyOk P kt kf) (hm : P.underlying t = some (.map kt et)) (hz : InfoIs P et 1 1 (.bool false)) (hx : ev L m = some (.map (some b))) (hk : ev L x = some v) (hv : v = kf k) (hq : MpIn w0 K σ ρ kf b ks) :
    Reads P w0 K (.lookup t m x false) ty L σ ρ (.bool (decide (k ∈ ks))) := fun e o w ho _ he hs => by
  subst hv
  obtain ⟨es, clock, h1, h2⟩ := hq w hs
  simp [execOp, ho, he m _ hx, he x _ hk, h2.lookup ko hm (run_zeroValue' hz) h1 k, Result.andThen]
theorem r_maplen {m : Operand} {t kt et : TypeId} {b : Nat} {ks : List α} (hm : P.underlying t = some (.map kt et)) (hx : ev L m = some (.map (some b))) (hq : MpIn w0 K σ ρ kf b ks) :
    Reads P w0 K (.call { callee := .builtin .len, args := #[m], argTypes := #[t] }) ty L σ ρ (.int .i64 ((ks.length : Nat) : Int)) := fun e o w ho _ he hs => by
  obtain ⟨es, clock, h1, h2⟩ := hq w hs
  have h1 : w.heap[b]? = some (.map es clock) := h1
  simp [execOp, ho, resolve, invoke, builtin, Builtin.len_, he m _ hx, run_underlying hm, MapKept.run_getObj_map h1, h2.len, goInt, Result.andThen]
theorem ext_setBlock (w : World) (b : Nat) (o : Obj) : Ext [b] w (setBlock w b o) :=
  ⟨rfl, rfl, rfl, by simp [setBlock], fun i _ hi => by
    have : b ≠ i := fun e => hi (by simp [e])
    simp [setBlock, Array.getElem?_setIfInBounds_ne this]⟩
theorem setBlock_at {w : World} {b : Nat} {o o' : Obj} (h : w.heap[b]? = some o) : (setBlock w b o').heap[b]? = some o' := by
  have := (Array.getElem?_eq_some_iff.1 h).1
  simp [setBlock, this]
theorem l_mapUpd [DecidableEq α] {pos : String} {aft : Array Edge} {m x y : Operand} {t kt et : TypeId} {b : Nat} {ks : List α} {k : α} {v : Value} (ko : KeyOk P kt kf) (hm : P.underlying t = some (.map kt et)) (hx : ev L m = some (.map (some b))) (hk : ev L x = some v) (hv : v = kf k) (hy : ev L y = some (.bool true))
    (h : WL P w0 K n ops rest N L (iMap kf b (ins ks k) :: σ) ρ) : WL P w0 K n ops (⟨none, .mapUpdate t m x y, ty, pos, aft, none⟩ :: rest) N L (iMap kf b ks :: σ) ρ :=
  l_stepu fun a w hf hs => by
    subst hv
    obtain ⟨es, clock, h1, h2⟩ := (hs.own _ (List.mem_cons_self ..)).1
    obtain ⟨es', clock', h3, h4, _⟩ := h2.update (P := P) ko hm h1 k
    refine ⟨setBlock w b (.map es' clock'), _, _, ?_, hs.turn (y := iMap kf b (ins ks k)) (ext_setBlock w b _) ⟨es', clock', setBlock_at h1, h4⟩ (iMap_dep _ _ _) (fun i hi => .inl hi) (by simp [iMap]), h⟩
    simp [execOp, hf.ev hx, hf.ev hk, hf.ev hy, h3, Result.andThen]
/-- a key that is there is laid once more: nothing turns -/
theorem l_mapUpd0 [DecidableEq α] {pos : String} {aft : Array Edge} {m x y : Operand} {t kt et : TypeId} {b : Nat} {es : Array MapEntry} {clock : Nat} {ks : List α} {k : α} {v : Value} (ko : KeyOk P kt kf) (hm : P.underlying t = some (.map kt et)) (hx : ev L m = some (.map (some b))) (hk : ev L x = some v) (hv : v = kf k) (hy : ev L y = some (.bool true))
    (he : EntsOf kf es clock ks) (hin : k ∈ ks) (h : WL P w0 K n ops rest N L (iMEx b es clock :: σ) ρ) : WL P w0 K n ops (⟨none, .mapUpdate t m x y, ty, pos, aft, none⟩ :: rest) N L (iMEx b es clock :: σ) ρ :=
  l_stepu fun a w hf hs => by
    subst hv
    have h1 : w.heap[b]? = some (.map es clock) := (hs.own _ (List.mem_cons_self ..)).1
    obtain ⟨es', clock', h3, _, h5⟩ := he.update (P := P) ko hm h1 k
    obtain ⟨rfl, rfl⟩ := h5 hin
    refine ⟨setBlock w b (.map es' clock'), _, _, ?_, hs.turn (y := iMEx b es' clock') (ext_setBlock w b _) (setBlock_at h1) (iMEx_dep _ _ _) (fun i hi => .inl hi) (by simp [iMEx]), h⟩
    simp [execOp, hf.ev hx, hf.ev hk, hf.ev hy, h3, Result.andThen]
theorem l_range {d : Nat} {pos : String} {aft : Array Edge} {m : Operand} {t kt et : TypeId} {b : Nat} {es : Array MapEntry} {clock : Nat} (hd : d < n) (hm : P.underlying t = some (.map kt et)) (hx : ev L m = some (.map (some b))) (hq : ExIn w0 K σ ρ b es clock)
    (h : ∀ r, WL P w0 K n ops rest N ((d, .pointer (some ⟨r, 0, none⟩)) :: L) (iIter r b clock #[] clock :: σ) ρ) : WL P w0 K n ops (⟨some d, .range t m, ty, pos, aft, none⟩ :: rest) N L σ ρ :=
  l_step hd fun a w hf hs => ⟨_, w.alloc (.mapIter (some b) clock #[] clock), _, _, by
    simp [execOp, hf.ev hx, run_range_map w t kt et b es clock hm (hq w hs), Result.andThen]
    , hs.alloc _ (iIter w.heap.size b clock #[] clock) rfl (iIter_dep _ _ _ _ _) (heap_alloc_new w _), h _⟩
/-- the next entry -/
theorem l_next {d : Nat} {pos : String} {aft : Array Edge} {it : Operand} {r b since c0 : Nat} {seen : Array Nat} {es : Array MapEntry} {clock : Nat} {ks : List α} (hd : d < n) (hx : ev L it = some (.pointer (some ⟨r, 0, none⟩))) (he : EntsOf kf es clock ks) (hsince : since = clock) (hc0 : since ≤ c0)
    (hq : ExIn w0 K (iIter r b since seen c0 :: σ) ρ b es clock)
    (h0 : (leftOf es seen).size = 0 → WL P w0 K n ops rest N ((d, .tuple #[.bool false]) :: L) (iIter r b since seen c0 :: σ) ρ)
    (h1 : ∀ (e : MapEntry) (k : α), e ∈ (leftOf es seen).toList → e ∈ es.toList → k ∈ ks → e.key = kf k → WL P w0 K n ops rest N ((d, .tuple #[.bool true, kf k, .bool true]) :: L) (iIter r b since (seen.push e.born) clock :: σ) ρ) :
    WL P w0 K n ops (⟨some d, .next it false, ty, pos, aft, none⟩ :: rest) N L (iIter r b since seen c0 :: σ) ρ :=
  l_step hd fun a w hf hs => by
    have hr : w.heap[r]? = some (.mapIter (some b) since seen c0) := (hs.own _ (List.mem_cons_self ..)).1
    have hb : w.heap[b]? = some (.map es clock) := hq w hs
    rcases run_next_at (P := P) w ty r b since c0 seen es clock hr hb (fun x hx => by rw [hsince]; exact he.st.1 x hx) hc0 with ⟨h2, h3⟩ | ⟨e, h2, w1, h3, h4⟩
    · exact ⟨_, w, _, _, by simp [execOp, hf.ev hx, h3, Result.andThen], hs, h0 h2⟩
    · have hmem : e ∈ es.toList := by
        have h2 := h2
        unfold leftOf at h2
        simp only [Array.mem_toList_iff, Array.mem_filter] at h2
        simpa using h2.1
      obtain ⟨k, hk, e1, e2⟩ := he.key hmem
      have hs1 : St w0 K w1 (iIter r b since seen c0 :: σ) ρ := by
        rcases h3 with rfl | rfl
        · exact hs
        · exact hs.move ⟨rfl, rfl, rfl, Nat.le_refl _, fun _ _ _ => rfl⟩
      have hr1 : w1.heap[r]? = some (.mapIter (some b) since seen c0) := (hs1.own _ (List.mem_cons_self ..)).1
      rw [e1, e2] at h4
      exact ⟨_, setBlock w1 r (.mapIter (some b) since (seen.push e.born) clock), _, _, by simp [execOp, hf.ev hx, h4, Result.andThen],
        hs1.turn (y := iIter r b since (seen.push e.born) clock) (ext_setBlock w1 r _) (setBlock_at hr1) (iIter_dep _ _ _ _ _) (fun i hi => .inl hi) (by simp [iIter]), h1 e k h2 hmem hk e1⟩
theorem r_entry {it : Operand} {r b since : Nat} {seen : Array Nat} {es : Array MapEntry} {clock : Nat} {ks : List α} {e : MapEntry} {k : α} (hx : ev L it = some (.pointer (some ⟨r, 0, none⟩))) (he : EntsOf kf es clock ks) (hm : e ∈ es.toList) (hk : e.key = kf k) (hi : iIter r b since (seen.push e.born) clock ∈ σ) (hq : ExIn w0 K σ ρ b es clock) :
    Reads P w0 K (.entry it) ty L σ ρ (.tuple #[kf k, .bool true]) := fun ee o w ho _ hev hs => by
  obtain ⟨_, _, _, e2⟩ := he.key hm
  have h1 := run_entry_at (P := P) w r b since seen es clock e (hs.own _ hi).1 (hq w hs) hm he.st.2.1
  rw [hk, e2] at h1
  simp [execOp, ho, hev it _ hx, h1, Result.andThen]
/-- what has been seen -/
theorem left_push {es : Array MapEntry} {seen : Array Nat} {e : MapEntry} (h : e ∈ (leftOf es seen).toList) : (leftOf es (seen.push e.born)).size < (leftOf es seen).size := by
  have e1 : ∀ s : Array Nat, (leftOf es s).toList = es.toList.filter fun x => !s.contains x.born := fun s => by unfold leftOf; rw [Array.toList_filter]
  rw [e1] at h
  rw [← Array.length_toList, ← Array.length_toList, e1, e1]
  have hm := List.mem_filter.1 h
  have key : ∀ l : List MapEntry, e ∈ l → (l.filter fun x => !(seen.push e.born).contains x.born).length < (l.filter fun x => !seen.contains x.born).length := fun l => by
    have hle : ∀ l : List MapEntry, (l.filter fun x => !(seen.push e.born).contains x.born).length ≤ (l.filter fun x => !seen.contains x.born).length := fun l => by
      induction l with
      | nil => exact Nat.le_refl _
      | cons x l ih =>
        rw [List.filter_cons, List.filter_cons]
        by_cases h1 : seen.contains x.born = true
        · have h2 : (seen.push e.born).contains x.born = true := by
            simp only [Array.contains_iff_mem, Array.mem_push] at h1 ⊢; exact .inl h1
          simp only [h1, h2, Bool.not_true, Bool.false_eq_true, if_false]; exact ih
        · simp only [Bool.not_eq_true] at h1
          simp only [h1, Bool.not_false, if_true, List.length_cons]
          split
          · simp only [List.length_cons]; omega
          · omega
    induction l with
    | nil => exact fun h => absurd h List.not_mem_nil
    | cons x l ih =>
      intro hx
      rw [List.filter_cons, List.filter_cons]
      by_cases h1 : seen.contains x.born = true
      · have h2 : (seen.push e.born).contains x.born = true := by
          simp only [Array.contains_iff_mem, Array.mem_push] at h1 ⊢; exact .inl h1
        have hne : e ≠ x := fun he => by subst he; rw [h1] at hm; simp at hm
        simp only [h1, h2, Bool.not_true, Bool.false_eq_true, if_false]
        exact ih ((List.mem_cons.1 hx).resolve_left hne)
      · simp only [Bool.not_eq_true] at h1
        have := hle l
        by_cases h2 : (seen.push e.born).contains x.born = true
        · simp only [h1, h2, Bool.not_true, Bool.not_false, Bool.false_eq_true, if_false, if_true, List.length_cons]; omega
        · have hne : e ≠ x := fun he => h2 (by subst he; simp [Array.contains_iff_mem])
          simp only [Bool.not_eq_true] at h2
          simp only [h1, h2, Bool.not_false, if_true, List.length_cons]
          have := ih ((List.mem_cons.1 hx).resolve_left hne); omega
  exact key _ hm.1
/-- the keys that have been seen -/
def Seen (kf : α → Value) (es : Array MapEntry) (seen : Array Nat) (k : α) : Prop := ∃ e, e ∈ es.toList ∧ e.key = kf k ∧ e.born ∈ seen
theorem seen_none (es : Array MapEntry) (k : α) : ¬ Seen kf es #[] k := fun ⟨_, _, _, h⟩ => by simp at h
theorem seen_push {es : Array MapEntry} {clock : Nat} {ks : List α} {seen : Array Nat} (he : EntsOf kf es clock ks) (hinj : ∀ a b, kf a = kf b → a = b) {e : MapEntry} (hm : e ∈ es.toList) {k : α} (hk : e.key = kf k) (a : α) : Seen kf es (seen.push e.born) a ↔ Seen kf es seen a ∨ a = k := by
  refine ⟨fun ⟨x, h1, h2, h3⟩ => ?_, fun h => ?_⟩
  · rcases Array.mem_push.1 h3 with h3 | h3
    · exact .inl ⟨x, h1, h2, h3⟩
    · right
      have hx : x = e := by
        have hn := he.st.2.1
        have : ∀ l : List MapEntry, (l.map (·.born)).Nodup → x ∈ l → e ∈ l → x = e := fun l => by
          induction l with
          | nil => exact fun _ h => absurd h List.not_mem_nil
          | cons y l ih =>
            intro hn h1 h2
            have hn := List.nodup_cons.1 hn
            rcases List.mem_cons.1 h1 with e1 | e1
            · rcases List.mem_cons.1 h2 with e2 | e2
              · rw [e1, e2]
              · exact absurd (List.mem_map.2 ⟨e, e2, by rw [← e1]; exact h3.symm⟩) hn.1
            · rcases List.mem_cons.1 h2 with e2 | e2
              · exact absurd (List.mem_map.2 ⟨x, e1, by rw [← e2]; exact h3⟩) hn.1
              · exact ih hn.2 e1 e2
        exact this _ hn h1 hm
      subst hx
      exact hinj _ _ (h2.symm.trans hk)
  · rcases h with ⟨x, h1, h2, h3⟩ | rfl
    · exact ⟨x, h1, h2, Array.mem_push.2 (.inl h3)⟩
    · exact ⟨e, hm, hk, Array.mem_push.2 (.inr rfl)⟩
theorem seen_all {es : Array MapEntry} {clock : Nat} {ks : List α} {seen : Array Nat} (he : EntsOf kf es clock ks) (h0 : (leftOf es seen).size = 0) {k : α} (hk : k ∈ ks) : Seen kf es seen k := by
  obtain ⟨x, hx, e⟩ := he.ent hk
  refine ⟨x, hx, e, ?_⟩
  apply Classical.byContradiction
  intro hn
  have hm : x ∈ leftOf es seen := by
    unfold leftOf
    rw [Array.mem_filter]
    exact ⟨by simpa using hx, by simp [hn]⟩
  have := Array.size_pos_of_mem hm
  omega
theorem seen_key {es : Array MapEntry} {clock : Nat} {ks : List α} {seen : Array Nat} (he : EntsOf kf es clock ks) (hinj : ∀ a b, kf a = kf b → a = b) {k : α} (h : Seen kf es seen k) : k ∈ ks := by
  obtain ⟨x, hx, e, _⟩ := h
  obtain ⟨a, ha, e1, _⟩ := he.key hx
  rw [e] at e1
  rw [hinj _ _ e1]; exact ha
end
end Go.Fx
