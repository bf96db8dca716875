/- Structures: building, comparing, storing them; addresses in own rows: rules of walks. No program in sight; conditions: none. -/
import Derived.Test.YtidbhgolhiaijaaFxC
import Derived.Laws.Tables
import Derived.Laws.StructEq
namespace Go.Fx
open Go Go.RowKit
section
variable {P : Program} {r : Option Nat} {w0 : World} {K : List Nat} {n : Sz} {N : Act → World → Prop} {L : Slots} {σ : Own} {ρ : Facts} {ops : Array Oper} {rest : List Oper} {ty : TypeId}
/-- where a structure's fields lie -/
def PlacesIs (P : Program) (t : TypeId) (places : List (Nat × Nat)) : Prop := ∃ fs, P.underlying t = some (.struct fs) ∧ fs.toList.mapM (fun f => (P.info? f.type).map fun i => (f.offset, i.size)) = some places
theorem evs_any {e : Operand → Value} (he : ∀ x u, ev L x = some u → e x = u) : ∀ (ps : List (Nat × Operand)) (us : List (Nat × Value)), evs L ps = some us → ps.map (fun p => (p.1, e p.2)) = us
  | [], us, h => by simp [evs] at h; subst h; rfl
  | p :: ps, us, h => by
    simp only [evs] at h
    cases h1 : ev L p.2 with
    | none => simp [h1] at h
    | some v =>
      cases h2 : evs L ps with
      | none => simp [h1, h2] at h
      | some vs =>
        simp [h1, h2] at h
        subst h
        simp [he _ _ h1, evs_any he ps vs h2]
theorem p_build {t : TypeId} {size bytes : Nat} {z : Value} {places : List (Nat × Nat)} {parts : List (Nat × Operand)} {us : List (Nat × Value)} {cells : Array Value} (hi : InfoIs P t size bytes z) (hpl : PlacesIs P t places) (hp : evs L parts = some us)
    (hf : Instr.fill (places.toArray[·]?) z.cells us = some cells) : Pure P (.build t parts.toArray) ty L (.agg cells) := fun e o w ho _ he => by
  obtain ⟨fs, hu, hm⟩ := hpl
  obtain ⟨j, hj, _, _, hz⟩ := hi.get
  have key := evs_any he parts us hp
  have hb : P.built t us = some cells := by simp only [Program.built, hj, hu, hz, hm]; exact hf
  have := run_build w t us.toArray cells (by simpa using hb)
  simp [execOp, ho, key, this]
theorem p_indexo {x i : Operand} {t e : TypeId} {size bytes : Nat} {z : Value} {b m c j : Nat} {k : IntKind} {a : Int} (hu : P.underlying t = some (.slice e)) (hi : InfoIs P e size bytes z) (hx : ev L x = some (.slice (some ⟨b, 0, none⟩) m c)) (hix : ev L i = some (.int k a)) (ha : a = (j : Int)) (hj : j < m) :
    Pure P (.indexAddr t x i) ty L (.pointer (some ⟨b, j * size, none⟩)) := fun ee o w ho _ he => by
  subst ha
  have h3 : (⟨b, 0, none⟩ : Addr).add (j * size) = ⟨b, j * size, none⟩ := by
    simp only [Addr.add]; split
    · rename_i h0; rw [h0]
    · simp
  simp [execOp, ho, Instr.indexAt, asIntOf, he x _ hx, he i _ hix, run_underlying hu, hj, run_sizeOf' hi, h3]
theorem p_eqst {x y : Operand} {t t2 : TypeId} {xs ys : Array Value} {b : Bool} (hm : P.eqGuardType P.depth t = false) (hx : ev L x = some (.agg xs)) (hy : ev L y = some (.agg ys)) (he : ∀ w, (Op.equalIn 10000 t (.agg xs) (.agg ys)).run P w = .ok b w) :
    Pure P (.binOp .eql t x y t2) ty L (.bool b) := fun e o w ho _ hev => by
  have h1 := run_eqGuard_agg (P := P) w .eql t x y xs ys hm
  have h2 := run_eql_struct (P := P) w t xs ys
  rw [he w] at h2
  simp [execOp, ho, hev x _ hx, hev y _ hy, h1, h2, Result.andThen]
theorem p_neqst {x y : Operand} {t t2 : TypeId} {xs ys : Array Value} {b : Bool} (hm : P.eqGuardType P.depth t = false) (hx : ev L x = some (.agg xs)) (hy : ev L y = some (.agg ys)) (he : ∀ w, (Op.equalIn 10000 t (.agg xs) (.agg ys)).run P w = .ok b w) :
    Pure P (.binOp .neq t x y t2) ty L (.bool (!b)) := fun e o w ho _ hev => by
  have h1 := run_eqGuard_agg (P := P) w .neq t x y xs ys hm
  have h2 := run_neq_struct (P := P) w t xs ys
  rw [he w] at h2
  simp [execOp, ho, hev x _ hx, hev y _ hy, h1, h2, Result.andThen]
theorem p_faddro {x : Operand} {t : TypeId} {fs : Array Field} {i : Nat} {fl : Field} {size bytes : Nat} {z : Value} {b k : Nat} (o : Nat) (hu : P.underlying t = some (.struct fs)) (hf : fs[i]? = some fl) (hi : InfoIs P fl.type size bytes z) (hs : size ≠ 0) (ho : fl.offset = o)
    (hx : ev L x = some (.pointer (some ⟨b, k, none⟩))) : Pure P (.fieldAddr t x i) ty L (.pointer (some ⟨b, k + o, none⟩)) := by
  have := p_fieldAddro (P := P) (ty := ty) hu hf hi hs hx
  rwa [ho] at this
theorem p_faddr {x : Operand} {t : TypeId} {fs : Array Field} {i : Nat} {fl : Field} {size bytes : Nat} {z : Value} {A : Option Addr} {k : Nat} (o : Nat) (hu : P.underlying t = some (.struct fs)) (hf : fs[i]? = some fl) (hi : InfoIs P fl.type size bytes z) (hs : size ≠ 0) (ho : fl.offset = o)
    (hx : ev L x = some (.pointer (some (adr A k)))) : Pure P (.fieldAddr t x i) ty L (.pointer (some (adr A (k + o)))) := by
  have := p_fieldAddr (P := P) (ty := ty) hu hf hi hs hx
  rwa [ho] at this
/-- a structure is stored whole -/
theorem l_storea {pos : String} {aft : Array Edge} {p x : Operand} {t e : TypeId} {size bytes : Nat} {z : Value} {b k : Nat} {vs : List Value} {us : List Value} (hi : InfoIs P t size bytes z) (hp : ev L p = some (.pointer (some ⟨b, k, none⟩))) (hx : ev L x = some (.agg us.toArray))
    (hn : us.length = size) (hv : us.all (·.oneCell') = true) (hk : k + us.length ≤ vs.length) (h : WL P w0 K n ops rest N L (iCells b e (vs.take k ++ us ++ vs.drop (k + us.length)) :: σ) ρ) : WL P w0 K n ops (⟨none, .store t p x, ty, pos, aft, none⟩ :: rest) N L (iCells b e vs :: σ) ρ :=
  l_stepu fun a w hf hs => by
    have hh : w.heap[b]? = some (.cells vs.toArray e (0, 0)) := (hs.own _ (List.mem_cons_self ..)).1
    have h1 := run_storeCells_at (P := P) b k e us 0 vs.toArray w hh (by simpa using hk) (fun v hvm => List.all_eq_true.1 hv v hvm)
    refine ⟨w.setRow b (vs.take k ++ us ++ vs.drop (k + us.length)).toArray, _, _, ?_, hs.turn (y := iCells b e (vs.take k ++ us ++ vs.drop (k + us.length))) ?_ (setRow_heap w b vs.toArray _ e _ hh) (iCells_dep _ _ _) (fun i hi => .inl hi) (by simp [iCells]), h⟩
    · simp only [Nat.add_zero] at h1
      simp [execOp, Instr.storeAt, Instr.sureAddr, hf.ev hp, hf.ev hx, storeVar, run_sizeOf' hi, hn, Value.cells, h1]
    · exact ⟨rfl, rfl, rfl, by simp, fun j _ hne => setRow_other _ _ _ _ (fun e => hne (by simp [iCells, e]))⟩
theorem l_storew {pos : String} {aft : Array Edge} {p x : Operand} {t e : TypeId} {size bytes : Nat} {z : Value} {b : Nat} {vs : List Value} {us : List Value} (hi : InfoIs P t size bytes z) (hp : ev L p = some (.pointer (some ⟨b, 0, none⟩))) (hx : ev L x = some (.agg us.toArray))
    (hn : us.length = size) (hv : us.all (·.oneCell') = true) (hk : vs.length = size) (h : WL P w0 K n ops rest N L (iCells b e us :: σ) ρ) : WL P w0 K n ops (⟨none, .store t p x, ty, pos, aft, none⟩ :: rest) N L (iCells b e vs :: σ) ρ :=
  l_storea hi hp hx hn hv (by omega) (by rw [List.take_zero, List.nil_append, List.drop_of_length_le (by omega), List.append_nil]; exact h)
theorem r_loadow {p : Operand} {t e : TypeId} {d : TypeDesc} {b size bytes : Nat} {z : Value} {vs : List Value} (hd : P.underlying t = some d) (ha : isAggD d = true) (hi : InfoIs P t size bytes z) (hp : ev L p = some (.pointer (some ⟨b, 0, none⟩)))
    (hq : iCells b e vs ∈ σ) (hu : vs.length = size) : Reads P w0 K (.load t p) ty L σ ρ (.agg vs.toArray) := r_loadoa hd ha hi hp hq hu (fun j u h => by rw [Nat.zero_add]; exact h)
theorem p_subw {x y : Operand} {t t2 : TypeId} {k : IntKind} {a b : Int} (hx : ev L x = some (.int k a)) (hy : ev L y = some (.int k b)) : Pure P (.binOp .sub t x y t2) ty L (.int k (k.wrap (a - b))) := p_int hx hy fun w => by simp [binOp, Op.intArith]
theorem p_addw {x y : Operand} {t t2 : TypeId} {k : IntKind} {a b : Int} (hx : ev L x = some (.int k a)) (hy : ev L y = some (.int k b)) : Pure P (.binOp .add t x y t2) ty L (.int k (k.wrap (a + b))) := p_int hx hy fun w => by simp [binOp, Op.intArith]
/-- a cell that is only read -/
theorem dep_cell {w : World} {b k : Nat} {v : Value} (h : w.cell? ⟨b, k, none⟩ = some v) : Dep 0 w.heap.size (fun w => w.cell? ⟨b, k, none⟩ = some v) := fun w1 w2 hb hq => by
  have hlt : b < w.heap.size := by
    apply Classical.byContradiction
    intro hn
    simp [World.cell?, Array.getElem?_eq_none (show w.heap.size ≤ b by omega)] at h
  have : w2.cell? ⟨b, k, none⟩ = w1.cell? ⟨b, k, none⟩ := by simp only [World.cell?, hb b (Nat.zero_le _) hlt]
  exact this.trans hq
/-- an own row is not longer than its capacity -/
theorem l_rowcap {α : Type} {e size c : Nat} {A : Option Addr} {f : α → List Value} {es : List α} (hq : iSl e size f A c es ∈ σ) (h : es.length ≤ c → WL P w0 K n ops rest N L σ ρ) : WL P w0 K n ops rest N L σ ρ := fun a w hf hs => by
  have h0 : w.ownsRow 0 e size (.slice A es.length c) es.length (es.flatMap f) := (hs.own _ hq).1
  refine h ?_ a w hf hs
  rcases h0.2 with ⟨hv, _⟩ | ⟨g, cap, cur, hv, _, _, hnc, _⟩
  · simp only [Value.slice.injEq] at hv; omega
  · simp only [Value.slice.injEq] at hv; omega
theorem c_rowcap {α : Type} {e size c : Nat} {A : Option Addr} {f : α → List Value} {es : List α} (hq : iSl e size f A c es ∈ σ) (h : es.length ≤ c → Cont w0 K n N L σ ρ) : Cont w0 K n N L σ ρ := fun a w hf hs => by
  have h0 : w.ownsRow 0 e size (.slice A es.length c) es.length (es.flatMap f) := (hs.own _ hq).1
  refine h ?_ a w hf hs
  rcases h0.2 with ⟨hv, _⟩ | ⟨g, cap, cur, hv, _, _, hnc, _⟩
  · simp only [Value.slice.injEq] at hv; omega
  · simp only [Value.slice.injEq] at hv; omega
theorem St.cap {α : Type} {w : World} {e size c : Nat} {A : Option Addr} {f : α → List Value} {es : List α} (hs : St w0 K w σ ρ) (hq : iSl e size f A c es ∈ σ) : es.length ≤ c := by
  have h0 : w.ownsRow 0 e size (.slice A es.length c) es.length (es.flatMap f) := (hs.own _ hq).1
  rcases h0.2 with ⟨hv, _⟩ | ⟨g, cap, cur, hv, _, _, hnc, _⟩
  · simp only [Value.slice.injEq] at hv; omega
  · simp only [Value.slice.injEq] at hv; omega
/-- a call of a function value -/
theorem q_callv {k : FuncId} {x : Operand} {fs cs : Array Value} {xs : List Operand} {us : List Value} {at_ : Array TypeId} {V : Value} (hk : Callable P k) (hx : ev L x = some (.func (.func k) fs cs)) (ha : evl L xs = some us) (hc : ∀ w, St w0 K w σ ρ → Calls P k (fs ++ us.toArray ++ cs) w (Ret fun v w' => v = V ∧ Ext [] w w')) :
    Qui P w0 K n (.call { callee := .value x, args := xs.toArray, argTypes := at_ }) ty L σ ρ V := fun a o w ho _ hf hs => by
  unfold Oper.quietAt
  rw [run_call hk (first := fs) (cap := cs) (w := w) ho (hf.ev hx) (args_evl (fun x u hx => hf.ev hx) _ _ ha)]
  refine ⟨rfl, ?_⟩
  refine (hc w hs).mono fun e w' h => ?_
  cases e with
  | returned v => exact ⟨by rw [h.1], hs.move h.2⟩
  | _ => exact h.elim
/-- an own row is cut: its first elements -/
theorem row_cut {α : Type} {w : World} {e size c m : Nat} {A : Option Addr} {f : α → List Value} {es : List α} (hf : ∀ x, (f x).length = size) (h : w.ownsRow 0 e size (.slice A es.length c) es.length (es.flatMap f)) (hm : m ≤ es.length) :
    w.ownsRow 0 e size (.slice (subA A c 0 size) m c) m ((es.take m).flatMap f) := by
  have hlen : ∀ l : List α, (l.flatMap f).length = l.length * size := fun l => by
    induction l with
    | nil => simp
    | cons x l ih => simp only [List.flatMap_cons, List.length_append, ih, hf, List.length_cons, Nat.add_mul]; omega
  have hl2 : ((es.take m).flatMap f).length = m * size := by rw [hlen, List.length_take, Nat.min_eq_left hm]
  have hsp : es.flatMap f = (es.take m).flatMap f ++ (es.drop m).flatMap f := by rw [← List.flatMap_append, List.take_append_drop]
  have htk : (es.take m).flatMap f = (es.flatMap f).take (m * size) := by
    rw [hsp, List.take_append_of_le_length (l₁ := (es.take m).flatMap f) (i := m * size) (by omega), List.take_of_length_le (l := (es.take m).flatMap f) (by omega)]
  rcases h.2 with ⟨hv, hz⟩ | ⟨g, cap, cur, hv, hbg, hg, hnc, hcm, hcs, htake⟩
  · simp only [Value.slice.injEq] at hv
    obtain ⟨rfl, h0, rfl⟩ := hv
    have hm0 : m = 0 := by omega
    subst hm0
    exact ⟨hl2, .inl ⟨by simp [subA], by simp⟩⟩
  · simp only [Value.slice.injEq] at hv
    obtain ⟨rfl, _, rfl⟩ := hv
    have hA : subA (some ⟨g, 0, none⟩) c 0 size = some ⟨g, 0, none⟩ := by
      unfold subA; split
      · rfl
      · simp [Addr.add]
    refine ⟨hl2, .inr ⟨g, c, cur, by rw [hA], hbg, hg, by omega, hcm, hcs, ?_⟩⟩
    rw [htk, ← htake, List.take_take]; congr 1
    exact (Nat.min_eq_left (Nat.mul_le_mul_right _ hm)).symm
theorem l_cut {α : Type} {e size c : Nat} {A : Option Addr} {f : α → List Value} {es : List α} (m : Nat) (hf : ∀ x, (f x).length = size) (hm : m ≤ es.length) (h : WL P w0 K n ops rest N L (iSl e size f (subA A c 0 size) c (es.take m) :: σ) ρ) : WL P w0 K n ops rest N L (iSl e size f A c es :: σ) ρ := fun a w hfr hs => by
  have h0 := hs.own _ (List.mem_cons_self ..)
  have hA : (subA A c 0 size).map (·.block) = A.map (·.block) := by
    unfold subA; split
    · rfl
    · cases A with
      | none => rfl
      | some g => simp only [Option.map_some]; congr 1; unfold Addr.add; split <;> rfl
  have hk : (iSl e size f (subA A c 0 size) c (es.take m)).keys = (iSl e size f A c es).keys := by
    have : ∀ B : Option Addr, ∀ p q, (Value.slice B p q).ownBlock = B.map (·.block) := fun B p q => by cases B <;> rfl
    simp only [iSl, iRow, this, hA]
  refine h a w hfr ⟨hs.ext, ?_, fun x hx => ?_, fun q hq => ?_⟩
  · have := hs.nodup; simp only [keysOf, hk] at this ⊢; exact this
  · rcases List.mem_cons.1 hx with rfl | hx
    · refine ⟨?_, iRow_dep _ _ _ _ _, fun k hkk => h0.2.2 k (hk ▸ hkk)⟩
      have := row_cut hf h0.1 hm
      show w.ownsRow 0 e size (.slice _ (es.take m).length c) (es.take m).length _
      rw [List.length_take, Nat.min_eq_left hm]; exact this
    · exact hs.own x (List.mem_cons_of_mem _ hx)
  · obtain ⟨h1, S, h2, h3, h4⟩ := hs.facts q hq
    exact ⟨h1, S, h2, h3, fun k hkk => h4 k (by simp only [keysOf, hk] at hkk ⊢; exact hkk)⟩
/-- a function whose result is a structure of its own block -/
theorem c_retcw {m : Nat} {fn : Func} {T : Value → World → Prop} {t : Nat} {ty e : TypeId} {d : TypeDesc} {b size bytes : Nat} {z : Value} {vs : List Value} (hr : fn.results = #[.cell t ty]) (hv : look L t = some (.pointer (some ⟨b, 0, none⟩))) (hd : P.underlying ty = some d) (ha : isAggD d = true) (hi : InfoIs P ty size bytes z)
    (hq : iCells b e vs ∈ σ) (hu : vs.length = size) (h : ∀ w, St w0 K w σ ρ → T (.agg vs.toArray) w) : Cont w0 K ⟨m, []⟩ (RetP P fn T) L σ ρ := fun a w hf hs => by
  refine ⟨hf.dfr, _, ?_, h w hs⟩
  have hc := cells_cell (hs.own _ hq).1
  have h1 := run_loadCells_of (P := P) w b 0 vs (fun j u hj => by rw [hc, Nat.zero_add]; exact hj)
  rw [hu] at h1
  have h2 := hf.at_ t _ hv
  simp [results, hr, Array.getD_eq_getD_getElem?, h2, asAddr, loadVar, run_isAgg hd, ha, run_sizeOf' hi, h1]
theorem p_makeFn {fn : Fn} {fl cl : List Operand} {fs cs : List Value} (hf : evl L fl = some fs) (hc : evl L cl = some cs) : Pure P (.makeFunc fn fl.toArray cl.toArray) ty L (.func fn fs.toArray cs.toArray) := fun e o w ho _ he => by
  simp [execOp, ho, args_evl he fl fs hf, args_evl he cl cs hc, Instr.makeFunc]
theorem r_loadq {q : World → Prop} {p : Operand} {t : TypeId} {d : TypeDesc} {b k : Nat} {v : Value} (hd : P.underlying t = some d) (ha : isAggD d = false) (hp : ev L p = some (.pointer (some ⟨b, k, none⟩))) (hq : q ∈ ρ) (hv : ∀ w, q w → w.cell? ⟨b, k, none⟩ = some v) : Reads P w0 K (.load t p) ty L σ ρ v := fun ee o w ho _ hev hs => by
  have hc := hv w (hs.facts _ hq).1
  simp [execOp, ho, Instr.loadAt, Instr.sureAddr, hev p _ hp, loadVar, run_isAgg hd, ha, hc]
end
/-! ## equality of structures, field by field -/
section
variable {P : Program}
theorem run_part {t : TypeId} {d : TypeDesc} (hd : P.underlying t = some d) (ha : isAggD d = false) {cs : Array Value} {off : Nat} {v : Value} (hv : cs[off]? = some v) (w : World) : (part t cs off).run P w = .ok v w := by
  simp [part, run_isAgg hd, ha, hv]
theorem eqf_one {f : Field} {fs : List Field} {d : Nat} {D : TypeDesc} {xs ys : Array Value} {a b : Value} {p : Prop} [Decidable p] (hn : f.name ≠ "_") (hd : P.underlying f.type = some D) (ha : isAggD D = false) (hx : xs[f.offset]? = some a) (hy : ys[f.offset]? = some b) (w : World)
    (he : (Op.equalIn d f.type a b).run P w = .ok (decide p) w) : (Op.eqFields d xs ys (f :: fs)).run P w = if p then (Op.eqFields d xs ys fs).run P w else .ok false w := by
  rw [Op.eqFields, if_pos hn]
  simp only [Sem.run_bind, run_part hd ha hx, run_part hd ha hy, Result.andThen_ok, he]
  by_cases h : p <;> simp [h]
theorem eqv_int {d : Nat} {t : TypeId} {k k' : IntKind} {a b : Int} (h : P.underlying t = some (.int k')) (w : World) : (Op.equalIn (d + 1) t (.int k a) (.int k b)).run P w = .ok (decide (a = b)) w := by
  rw [run_equalIn_int w d t k k' a b h]; congr 1
theorem eqv_str {d : Nat} {t : TypeId} {l m : List UInt8} (h : P.underlying t = some .string) (w : World) : (Op.equalIn (d + 1) t (str l) (str m)).run P w = .ok (decide (l = m)) w := by
  rw [str, str, run_equalIn_string w d t _ _ h, toList_mk, toList_mk]; congr 1
  rw [Bool.eq_iff_iff]; simp
theorem eqv_bool {d : Nat} {t : TypeId} {a b : Bool} (h : P.underlying t = some .bool) (w : World) : (Op.equalIn (d + 1) t (.bool a) (.bool b)).run P w = .ok (decide (a = b)) w := by
  rw [run_equalIn_bool w d t a b h]; congr 1
theorem eqf_nil {d : Nat} {xs ys : Array Value} (w : World) : (Op.eqFields d xs ys []).run P w = .ok true w := by simp [Op.eqFields]
theorem eqf_struct {t : TypeId} {fs : Array Field} {xs ys : Array Value} (hu : P.underlying t = some (.struct fs)) (hp : P.stoodInHeld t = false) (w : World) : (Op.equalIn 10000 t (.agg xs) (.agg ys)).run P w = (Op.eqFields 9999 xs ys fs.toList).run P w := by
  have h1 : P.fieldsOf t = fs := by simp [Program.fieldsOf, hu]
  rw [show (10000 : Nat) = 9999 + 1 from rfl, run_equalIn_agg w 9999 t xs ys (by rw [h1]; exact hu) hp, h1]
/-- two facts on what lay there before -/
theorem Holds.two {q p : World → Prop} {w : World} (h1 : q w) (d1 : Dep 0 w.heap.size q) (h2 : p w) (d2 : Dep 0 w.heap.size p) : St w [] w [] [q, p] := (St.start w |>.old h2 d2).old h1 d1
end
end Go.Fx
