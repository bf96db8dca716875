/- More rules of walks: parts of slices, own rows from built slices, regions whose order is drawn and that make memory. No program in sight; conditions: none. -/
import Derived.Test.YtidbhgolhiaijaaFx
import Derived.OrdersHeld
import Derived.Laws.Slices
namespace Go.Fx
open Go Go.RowKit
section
variable {P : Program} {w0 : World} {K : List Nat} {n : Sz} {N : Act → World → Prop} {E : Nat → Act → World → Prop} {R : Act → World → Prop} {L : Slots} {σ : Own} {ρ : Facts} {ops : Array Oper} {rest : List Oper} {ty : TypeId}
/-- an operation whose guard holds -/
theorem l_strip {d : Option Nat} {j dj : Nat} {b : Bool} {op : Op} {pos : String} {aft : Array Edge} (hj : (ops[j]?).bind (·.dst) = some dj) (hv : look L dj = some (.bool b))
    (h : WL P w0 K n ops (⟨d, op, ty, pos, aft, none⟩ :: rest) N L σ ρ) : WL P w0 K n ops (⟨d, op, ty, pos, aft, some (j, b)⟩ :: rest) N L σ ρ := fun a w hf hs => by
  have h1 := h a w hf hs
  have hw : Region.wanted ⟨d, op, ty, pos, aft, some (j, b)⟩ (yielded ops a.tmps) = true := by simp [Region.wanted, hf.yielded hj hv]
  unfold wpList at h1 ⊢
  rw [if_pos (show Region.wanted ⟨d, op, ty, pos, aft, none⟩ (yielded ops a.tmps) = true from rfl)] at h1
  rw [if_pos hw]
  exact h1
/-! parts of slices -/
theorem elem_of {t e : TypeId} (hu : P.underlying t = some (.slice e)) : P.elem t = e := by simp [Program.elem, hu]
theorem p_slices_lh {x lo hi : Operand} {t e : TypeId} {size bytes : Nat} {z : Value} {A : Option Addr} {m c : Nat} {a b : Int} {k1 k2 : IntKind} {i j : Nat} (hu : P.underlying t = some (.slice e)) (hi_ : InfoIs P e size bytes z) (hx : ev L x = some (.slice A m c))
    (hlo : ev L lo = some (.int k1 a)) (hhi : ev L hi = some (.int k2 b)) (ha : a = (i : Int)) (hb : b = (j : Int)) (hij : i ≤ j) (hj : j ≤ c) : Pure P (.slice t x (some lo) (some hi) none) ty L (.slice (subA A c i size) (j - i) (c - i)) := fun e' o w ho _ he => by
  subst ha; subst hb
  have hu' : P.underlying t = some (.slice (P.elem t)) := by rw [elem_of hu]; exact hu
  have h0 : (i : Int) ≤ (j : Int) := by omega
  have h1 : (j : Int) ≤ (c : Int) := by omega
  have hs : (sizeOf (P.elem t)).run P w = .ok size w := by rw [elem_of hu]; exact run_sizeOf' hi_ w
  simp [execOp, ho, run_sliceAt_slice, hu', he x _ hx, he lo _ hlo, he hi _ hhi, run_slice_lh, h0, h1, hs, Result.andThen, sliced, subA]
theorem p_slices_h {x hi : Operand} {t e : TypeId} {size bytes : Nat} {z : Value} {A : Option Addr} {m c : Nat} {b : Int} {k2 : IntKind} {j : Nat} (hu : P.underlying t = some (.slice e)) (hi_ : InfoIs P e size bytes z) (hx : ev L x = some (.slice A m c))
    (hhi : ev L hi = some (.int k2 b)) (hb : b = (j : Int)) (hj : j ≤ c) : Pure P (.slice t x none (some hi) none) ty L (.slice (subA A c 0 size) j c) := fun e' o w ho _ he => by
  subst hb
  have hu' : P.underlying t = some (.slice (P.elem t)) := by rw [elem_of hu]; exact hu
  have h1 : (j : Int) ≤ (c : Int) := by omega
  have hs : (sizeOf (P.elem t)).run P w = .ok size w := by rw [elem_of hu]; exact run_sizeOf' hi_ w
  simp [execOp, ho, run_sliceAt_slice, hu', he x _ hx, he hi _ hhi, run_slice_h, h1, hs, Result.andThen, sliced, subA]
theorem p_slices_l {x lo : Operand} {t e : TypeId} {size bytes : Nat} {z : Value} {A : Option Addr} {m c : Nat} {a : Int} {k1 : IntKind} {i : Nat} (hu : P.underlying t = some (.slice e)) (hi_ : InfoIs P e size bytes z) (hx : ev L x = some (.slice A m c))
    (hlo : ev L lo = some (.int k1 a)) (ha : a = (i : Int)) (hi' : i ≤ m) : Pure P (.slice t x (some lo) none none) ty L (.slice (subA A c i size) (m - i) (c - i)) := fun e' o w ho _ he => by
  subst ha
  have hu' : P.underlying t = some (.slice (P.elem t)) := by rw [elem_of hu]; exact hu
  have h1 : (i : Int) ≤ (m : Int) := by omega
  have hs : (sizeOf (P.elem t)).run P w = .ok size w := by rw [elem_of hu]; exact run_sizeOf' hi_ w
  simp [execOp, ho, run_sliceAt_slice, hu', he x _ hx, he lo _ hlo, run_slice_l, h1, hs, Result.andThen, sliced, subA]
theorem p_slices_all {x : Operand} {t e : TypeId} {size bytes : Nat} {z : Value} {A : Option Addr} {m c : Nat} (hu : P.underlying t = some (.slice e)) (hi_ : InfoIs P e size bytes z) (hx : ev L x = some (.slice A m c)) :
    Pure P (.slice t x none none none) ty L (.slice (subA A c 0 size) m c) := fun e' o w ho _ he => by
  have hu' : P.underlying t = some (.slice (P.elem t)) := by rw [elem_of hu]; exact hu
  have hs : (sizeOf (P.elem t)).run P w = .ok size w := by rw [elem_of hu]; exact run_sizeOf' hi_ w
  simp [execOp, ho, run_sliceAt_slice, hu', he x _ hx, run_slice_all, hs, Result.andThen, sliced, subA]
/-! the same value in another form -/
theorem Pure.to {op : Op} {v u : Value} (h : Pure P op ty L v) (e : v = u) : Pure P op ty L u := e ▸ h
theorem Reads.to {op : Op} {v u : Value} (h : Reads P w0 K op ty L σ ρ v) (e : v = u) : Reads P w0 K op ty L σ ρ u := e ▸ h
theorem Pure.r {op : Op} {v : Value} (h : Pure P op ty L v) : Reads P w0 K op ty L σ ρ v := fun e o w h1 h2 h3 _ => h e o w h1 h2 h3
theorem Reads.r {op : Op} {v : Value} (h : Reads P w0 K op ty L σ ρ v) : Reads P w0 K op ty L σ ρ v := h
/-! parts of a list -/
theorem p_part_h {α : Type} {x hi : Operand} {t e : TypeId} {size bytes : Nat} {z : Value} {A : Option Addr} {c : Nat} {b : Int} {k2 : IntKind} {j : Nat} {es : List α} (hu : P.underlying t = some (.slice e)) (hi_ : InfoIs P e size bytes z) (hx : ev L x = some (.slice A es.length c))
    (hhi : ev L hi = some (.int k2 b)) (hb : b = (j : Int)) (hc : es.length ≤ c) (hj : j ≤ es.length) : Pure P (.slice t x none (some hi) none) ty L (.slice (subA A c 0 size) (es.take j).length c) :=
  (p_slices_h hu hi_ hx hhi hb (by omega)).to (by rw [List.length_take, Nat.min_eq_left hj])
theorem p_part_l {α : Type} {x lo : Operand} {t e : TypeId} {size bytes : Nat} {z : Value} {A : Option Addr} {c : Nat} {a : Int} {k1 : IntKind} {i : Nat} {es : List α} (hu : P.underlying t = some (.slice e)) (hi_ : InfoIs P e size bytes z) (hx : ev L x = some (.slice A es.length c))
    (hlo : ev L lo = some (.int k1 a)) (ha : a = (i : Int)) (hi' : i ≤ es.length) : Pure P (.slice t x (some lo) none none) ty L (.slice (subA A c i size) (es.drop i).length (c - i)) :=
  (p_slices_l hu hi_ hx hlo ha hi').to (by rw [List.length_drop])
theorem p_part_lh {α : Type} {x lo hi : Operand} {t e : TypeId} {size bytes : Nat} {z : Value} {A : Option Addr} {c : Nat} {a b : Int} {k1 k2 : IntKind} {i j : Nat} {es : List α} (hu : P.underlying t = some (.slice e)) (hi_ : InfoIs P e size bytes z) (hx : ev L x = some (.slice A es.length c))
    (hlo : ev L lo = some (.int k1 a)) (hhi : ev L hi = some (.int k2 b)) (ha : a = (i : Int)) (hb : b = (j : Int)) (hij : i ≤ j) (hc : es.length ≤ c) (hj : j ≤ es.length) :
    Pure P (.slice t x (some lo) (some hi) none) ty L (.slice (subA A c i size) ((es.drop i).take (j - i)).length (c - i)) :=
  (p_slices_lh hu hi_ hx hlo hhi ha hb hij (by omega)).to (by rw [List.length_take, List.length_drop, Nat.min_eq_left (by omega)])
/-- the part of a slice that memory holds is held too -/
theorem l_part {α : Type} {size : Nat} {f : α → List Value} {A : Option Addr} {es : List α} (c lo m : Nat) (hq : Sl size f A es ∈ ρ) (hc : es.length ≤ c) (hs : 0 < size) (h : WL P w0 K n ops rest N L σ (Sl size f (subA A c lo size) ((es.drop lo).take m) :: ρ)) : WL P w0 K n ops rest N L σ ρ := fun a w hf hst => by
  refine h a w hf ⟨hst.ext, hst.nodup, hst.own, fun p hp => ?_⟩
  rcases List.mem_cons.1 hp with rfl | hp
  · obtain ⟨h0, S, h1, h2, h3⟩ := hst.facts _ hq
    refine ⟨h0.sub c lo m hc, ?_⟩
    by_cases hne : (es.drop lo).take m = []
    · rw [hne]; exact ⟨fun _ => False, fun _ h => h.elim, fun _ w2 _ _ => Sl.nil _ _ _ w2, fun _ _ h => h⟩
    · obtain ⟨b, off, hA, hlt⟩ := h0.lt hs (fun e => hne (by simp [e]))
      by_cases hb : S b
      · refine ⟨S, h1, fun w1 w2 hbb hw => ?_, h3⟩
        refine (Sl.dep (lo := b) (hi := b + 1) fun a ha => ?_) w1 w2 (fun k hk1 hk2 => by rw [show k = b by omega]; exact hbb b hb) hw
        unfold subA at ha
        split at ha
        · rw [hA] at ha; injection ha with ha; subst ha; exact ⟨Nat.le_refl _, Nat.lt_succ_self _⟩
        · rw [hA] at ha; simp only [Option.map_some] at ha; injection ha with ha; subst ha
          show b ≤ (Addr.add _ _).block ∧ _
          unfold Addr.add; split <;> exact ⟨Nat.le_refl _, Nat.lt_succ_self _⟩
      · -- the fact hangs on no block: then it holds whatever the blocks
        exfalso
        have h4 := h2 w { w with heap := w.heap.extract 0 0 ++ (Array.range w.heap.size).map (fun k => if k = b then .cells #[] 0 (0, 0) else (w.heap[k]?).getD (.cells #[] 0 (0, 0))) } (fun k hk1 => by
          have hkb : k ≠ b := fun e => hb (e ▸ hk1)
          have hks : k < w.heap.size := h1 k hk1
          simp [hks, hkb]) h0
        obtain ⟨e0, he0⟩ : ∃ e0, es[0]? = some e0 := by
          cases es with
          | nil => simp at hne
          | cons x xs => exact ⟨x, rfl⟩
        obtain ⟨g1, b', off', g2, g3⟩ := h4 0 e0 he0
        rw [hA] at g2; injection g2 with g2; injection g2 with g4 g5; subst g4
        obtain ⟨u0, hu0⟩ : ∃ u0, (f e0)[0]? = some u0 := ⟨_, List.getElem?_eq_getElem (by omega)⟩
        have g6 := g3 0 u0 hu0
        simp [World.cell?, hlt] at g6
  · exact hst.facts p hp
/-! own memory that is never written again -/
theorem dep_of_key {α : Type} {size : Nat} {f : α → List Value} {b off : Nat} {es : List α} : Dep b (b + 1) (Sl size f (some ⟨b, off, none⟩) es) := Sl.dep fun a ha => by injection ha with ha; subst ha; exact ⟨Nat.le_refl _, Nat.lt_succ_self _⟩
theorem St.sealc {α : Type} {w : World} {b e size : Nat} {vs : List Value} (f : α → List Value) (es : List α) (hv : vs = es.flatMap f) (hf : ∀ x, (f x).length = size) (h : St w0 K w (iCells b e vs :: σ) ρ) : St w0 K w σ (Sl size f (some ⟨b, 0, none⟩) es :: ρ) := by
  subst hv
  have h' := h.drop
  refine ⟨h'.ext, h'.nodup, h'.own, fun q hq => ?_⟩
  rcases List.mem_cons.1 hq with rfl | hq
  · obtain ⟨h1, h2, h3⟩ := h.own _ (List.mem_cons_self ..)
    refine ⟨cells_sl hf h1, _, fun k hk => by have := (h3 b (by simp [iCells])).1; omega, dep_of_key.s, fun k hk hs => ?_⟩
    have hnd := h.nodup
    simp only [keysOf, iCells, List.cons_append, List.nil_append] at hnd
    have : k ≠ b := fun e => (List.nodup_cons.1 hnd).1 (e ▸ hk)
    omega
  · exact h'.facts q hq
theorem St.sealr {α : Type} {w : World} {e size c : Nat} {A : Option Addr} {f : α → List Value} {es : List α} (hs : 0 < size) (hf : ∀ x, (f x).length = size) (h : St w0 K w (iSl e size f A c es :: σ) ρ) : St w0 K w σ (Sl size f A es :: ρ) := by
  have h' := h.drop
  refine ⟨h'.ext, h'.nodup, h'.own, fun q hq => ?_⟩
  rcases List.mem_cons.1 hq with rfl | hq
  · obtain ⟨h1, h2, h3⟩ := h.own _ (List.mem_cons_self ..)
    have hsl : Sl size f A es w := row_sl hf h1 hs
    refine ⟨hsl, ?_⟩
    by_cases hne : es = []
    · subst hne; exact ⟨fun _ => False, fun _ h => h.elim, fun _ w2 _ _ => Sl.nil _ _ _ w2, fun _ _ h => h⟩
    · obtain ⟨b, off, rfl, hlt⟩ := hsl.lt hs hne
      refine ⟨_, fun k hk => by omega, dep_of_key.s, fun k hk hs => ?_⟩
      have hnd := h.nodup
      simp only [keysOf, iSl, iRow, Value.ownBlock, Option.toList, List.cons_append, List.nil_append] at hnd
      have : k ≠ b := fun e => (List.nodup_cons.1 hnd).1 (e ▸ hk)
      omega
  · exact h'.facts q hq
theorem l_sealc {α : Type} {b e size : Nat} {vs : List Value} (f : α → List Value) (es : List α) (hv : vs = es.flatMap f) (hf : ∀ x, (f x).length = size) (h : WL P w0 K n ops rest N L σ (Sl size f (some ⟨b, 0, none⟩) es :: ρ)) : WL P w0 K n ops rest N L (iCells b e vs :: σ) ρ :=
  fun a w hfr hs => h a w hfr (hs.sealc f es hv hf)
theorem l_sealr {α : Type} {e size c : Nat} {A : Option Addr} {f : α → List Value} {es : List α} (hs : 0 < size) (hf : ∀ x, (f x).length = size) (h : WL P w0 K n ops rest N L σ (Sl size f A es :: ρ)) : WL P w0 K n ops rest N L (iSl e size f A c es :: σ) ρ :=
  fun a w hfr hst => h a w hfr (hst.sealr hs hf)
/-- a slice that has just been built is an own row -/
theorem l_rowc {α : Type} {b e size : Nat} {vs : List Value} (f : α → List Value) (es : List α) (hv : vs = es.flatMap f) (hl : vs.length = es.length * size) (hm : es.length ≤ maxLen) (h : WL P w0 K n ops rest N L (iSl e size f (some ⟨b, 0, none⟩) es.length es :: σ) ρ) : WL P w0 K n ops rest N L (iCells b e vs :: σ) ρ := fun a w hfr hs => by
  subst hv
  refine h a w hfr ⟨hs.ext, hs.nodup, fun x hx => ?_, hs.facts⟩
  rcases List.mem_cons.1 hx with rfl | hx
  · have := hs.own _ (List.mem_cons_self ..)
    refine ⟨⟨hl, .inr ⟨b, es.length, (es.flatMap f).toArray, rfl, Nat.zero_le _, this.1, Nat.le_refl _, hm, by simpa using hl, ?_⟩⟩, iRow_dep _ _ _ _ _, this.2.2⟩
    rw [← hl, show (es.flatMap f).toArray.toList = es.flatMap f from rfl, List.take_length]
  · exact hs.own x (List.mem_cons_of_mem _ hx)
/-- append(own, other...) -/
theorem l_appendsl {α : Type} {d : Nat} {pos : String} {aft : Array Edge} {s x : Operand} {t e : TypeId} {size bytes : Nat} {z : Value} {A B : Option Addr} {m c p q : Nat} {f : α → List Value} {xs : List α} (es : List α) (hd : d < n) (hu : P.underlying t = some (.slice e)) (hi : InfoIs P e size bytes z) (hzs : z.cells.size = size) (hsz : 0 < size)
    (hsv : ev L s = some (.slice A m c)) (hm : m = xs.length) (hx : ev L x = some (.slice B p q)) (hp : p = es.length) (hq : Sl size f B es ∈ ρ) (h1 : ∀ e u, u ∈ f e → u.oneCell' = true) (h63 : xs.length + es.length ≤ 9223372036854775807) (hby : (xs.length + es.length) * bytes ≤ 140737488355328)
    (h : ∀ A' c', WL P w0 K n ops rest N ((d, .slice A' (xs ++ es).length c') :: L) (iSl e size f A' c' (xs ++ es) :: σ) ρ) :
    WL P w0 K n ops (⟨some d, .call { callee := .builtin .append, args := #[s, x], argTypes := #[t, t] }, ty, pos, aft, none⟩ :: rest) N L (iSl e size f A c xs :: σ) ρ := fun a w hf hs => by
  subst hm
  refine l_appends (α := α) (es := es) hd hu hi hzs hsz hsv hx hp hq (fun hB => ?_) h1 h63 hby (fun A' c' _ => ?_) a w hf hs
  · by_cases hne : es = []
    · exact hne
    · obtain ⟨b, off, hA, _⟩ := (hs.facts _ hq).1.lt hsz hne
      rw [hB] at hA; cases hA
  · have := h A' c'
    simp only [iSl, List.length_append, List.flatMap_append] at this ⊢
    exact this
/-! ## regions whose order is drawn and that make memory -/
/-- a statement whose ways meet again, whatever follows -/
theorem c_meetn {S : Type} {r : Option Nat} {x : Code} (inv : S → Prop) (Lf : S → Slots) (σf : S → Own) (ρf : S → Facts) (hx : Cont w0 K n (W r P x (J w0 K n inv Lf σf ρf) E R) L σ ρ)
    (hy : ∀ s, inv s → Cont w0 K n N (Lf s) (σf s) (ρf s)) : Cont w0 K n (W r P x N E R) L σ ρ := fun a w hf hs =>
  W_mono (hx a w hf hs) (fun a w ⟨s, h1, h2, h3⟩ => hy s h1 a w h2 h3) (fun _ _ _ h => h) (fun _ _ h => h)
/-- whatever order is picked from here on -/
def AH (P : Program) (w0 : World) (K : List Nat) (ops : Array Oper) (σ0 : Own) (ρ0 : Facts) (N : Act → World → Prop) (fuel : Nat) (listed : Array Bool) : Act → World → Prop :=
  fun a w => wpAnyH P .any ops (post N noE noR) (fun w => St w0 K w σ0 ρ0) fuel listed a w
theorem h_draw {r : Option Nat} {id : Nat} {l : List Oper} (hm : P.follows .mixedOrders = true) (h : Cont w0 K n (AH P w0 K l.toArray σ ρ N l.toArray.size (Array.replicate l.toArray.size false)) L σ ρ) (hc : l.all calm = true := by rfl) :
    Cont w0 K n (W r P (.region id l.toArray true) N E R) L σ ρ := fun a _ hf hs => by
  refine wpIn_mono (wpIn_region_any hm (any_in (Q := post N noE noR) post_out hc _ _ _ _ (wpAny_of_held _ _ _ _ (h a _ hf hs.drewN)))) fun e a w q => ?_
  cases e with
  | normal => exact q
  | _ => exact q.elim
/-- the first own item is left out of what every order keeps -/
theorem h_draw1 {x : Item} {r : Option Nat} {id : Nat} {l : List Oper} (hm : P.follows .mixedOrders = true) (h : Cont w0 K n (AH P w0 K l.toArray σ ρ N l.toArray.size (Array.replicate l.toArray.size false)) L (x :: σ) ρ) (hc : l.all calm = true := by rfl) :
    Cont w0 K n (W r P (.region id l.toArray true) N E R) L (x :: σ) ρ := fun a _ hf hs => by
  refine wpIn_mono (wpIn_region_any hm (any_in (Q := post N noE noR) post_out hc _ _ _ _ (wpAny_of_held _ _ _ _ (h a _ hf hs.drewN)))) fun e a w q => ?_
  cases e with
  | normal => exact q
  | _ => exact q.elim
variable {σ0 : Own} {ρ0 : Facts} {fuel : Nat} {listed : Array Bool}
/-- the start's memory is still as said -/
theorem St.back {w : World} {τ : Own} (h : St w0 K w σ ρ) (hp : σ.Perm (τ ++ σ0)) (hr : ∀ q, q ∈ ρ0 → q ∈ ρ) : St w0 K w σ0 ρ0 := by
  have h1 := h.perm hp
  clear h hp
  induction τ with
  | nil => exact h1.weak hr
  | cons x τ ih => exact ih h1.drop
theorem h_take (i : Nat) {d : Nat} {op : Op} {pos : String} {aft : Array Edge} {v : Value} {τ : Own} (hi : ops[i]? = some ⟨some d, op, ty, pos, aft, none⟩) (hs : Region.noSelect ops = true) (hf : Region.free .any ops listed i = true) (hr : (Region.ready .any ops listed).contains i = true)
    (hd : d < n) (hp : σ.Perm (τ ++ σ0)) (hρ : ∀ q, q ∈ ρ0 → q ∈ ρ) (hq : Reads P w0 K op ty L σ0 ρ0 v) (h : Cont w0 K n (AH P w0 K ops σ0 ρ0 N fuel (listed.setIfInBounds i true)) ((d, v) :: L) σ ρ) :
    Cont w0 K n (AH P w0 K ops σ0 ρ0 N (fuel + 1) listed) L σ ρ := fun a _ hfr hst =>
  wpAnyH_take hi hs hf hr (fun _ _ _ q => q) (.inl ⟨rfl, fun w1 hw => hq a.eval _ w1 rfl rfl (fun _ _ hx => hfr.ev hx) hw⟩) (hst.back hp hρ) (h _ _ (hfr.put hd v) hst)
theorem h_takeg (i : Nat) {d j dj : Nat} {b : Bool} {op : Op} {pos : String} {aft : Array Edge} {v : Value} {τ : Own} (hi : ops[i]? = some ⟨some d, op, ty, pos, aft, some (j, b)⟩) (hs : Region.noSelect ops = true) (hf : Region.free .any ops listed i = true) (hr : (Region.ready .any ops listed).contains i = true)
    (hj : (ops[j]?).bind (·.dst) = some dj) (hv : look L dj = some (.bool b))
    (hd : d < n) (hp : σ.Perm (τ ++ σ0)) (hρ : ∀ q, q ∈ ρ0 → q ∈ ρ) (hq : Reads P w0 K op ty L σ0 ρ0 v) (h : Cont w0 K n (AH P w0 K ops σ0 ρ0 N fuel (listed.setIfInBounds i true)) ((d, v) :: L) σ ρ) :
    Cont w0 K n (AH P w0 K ops σ0 ρ0 N (fuel + 1) listed) L σ ρ := fun a _ hfr hst =>
  wpAnyH_take hi hs hf hr (fun _ _ _ q => q) (.inl ⟨by simp [Region.wanted, hfr.yielded hj hv], fun w1 hw => hq a.eval _ w1 rfl rfl (fun _ _ hx => hfr.ev hx) hw⟩) (hst.back hp hρ) (h _ _ (hfr.put hd v) hst)
theorem h_off (i : Nat) {d j dj : Nat} {b : Bool} {op : Op} {pos : String} {aft : Array Edge} {u : Value} {τ : Own} (hi : ops[i]? = some ⟨some d, op, ty, pos, aft, some (j, b)⟩) (hs : Region.noSelect ops = true) (hf : Region.free .any ops listed i = true) (hr : (Region.ready .any ops listed).contains i = true)
    (hj : (ops[j]?).bind (·.dst) = some dj) (hv : look L dj = some u) (hu : u ≠ .bool b)
    (hd : d < n) (hp : σ.Perm (τ ++ σ0)) (hρ : ∀ q, q ∈ ρ0 → q ∈ ρ) (h : Cont w0 K n (AH P w0 K ops σ0 ρ0 N fuel (listed.setIfInBounds i true)) ((d, undef) :: L) σ ρ) :
    Cont w0 K n (AH P w0 K ops σ0 ρ0 N (fuel + 1) listed) L σ ρ := fun a _ hfr hst =>
  wpAnyH_take hi hs hf hr (fun _ _ _ q => q) (.inr ⟨by simp only [Region.wanted, hfr.yielded hj hv]; cases u <;> simp_all, rfl⟩) (hst.back hp hρ) (h _ _ (hfr.put hd _) hst)
theorem lets_post {N1 N2 : Act → World → Prop} (h : LetsOut (post N1 noE noR)) : LetsOut (post N2 noE noR) := h
theorem wp_post {N1 N2 K' : Act → World → Prop} {o : Oper} {a : Act} {w : World} (h : o.wp P a w K' (post N1 noE noR)) : o.wp P a w K' (post N2 noE noR) := by
  unfold Oper.wp at *
  generalize (execOp a.eval o).run P w = r at *
  cases r with
  | ok m w' =>
    cases m <;> simp only [Oper.upon] at h ⊢ <;> first | exact h | exact h.mono (fun e w'' he => by cases e <;> first | exact he | exact lets_post he)
  | halt x w' => cases x <;> simp only [Oper.upon] at h ⊢ <;> exact h
/-- the only operation that may come up now -/
theorem h_run (i : Nat) {o : Oper} (hi : ops[i]? = some o) (hr : Region.ready .any ops listed = [i])
    (h : WL P w0 K n ops [o] (fun a w => St w0 K w σ0 ρ0 ∧ AH P w0 K ops σ0 ρ0 N fuel (listed.setIfInBounds i true) a w) L σ ρ) :
    Cont w0 K n (AH P w0 K ops σ0 ρ0 N (fuel + 1) listed) L σ ρ := fun a w hfr hst => by
  refine wpAnyH_all hr (by simp) (fun k hk => ?_)
  simp only [List.mem_cons, List.not_mem_nil, or_false] at hk
  subst hk
  have h1 := h a w hfr hst
  unfold wpOp
  simp only [hi]
  unfold wpList at h1
  split
  · rename_i hw
    rw [if_pos hw] at h1
    rcases h1 with h1 | h1
    · exact .inl (wp_post h1)
    · exact .inr ⟨h1.1, lets_post h1.2⟩
  · rename_i hw
    rw [if_neg hw] at h1
    exact h1
theorem run_in {i : Nat} {o : Oper} {l' : Array Bool} (hi : ops[i]? = some o)
    (h : WL P w0 K n ops [o] (fun a w => St w0 K w σ0 ρ0 ∧ AH P w0 K ops σ0 ρ0 N fuel l' a w) L σ ρ) {a : Act} {w : World} (hfr : Fr a n L) (hst : St w0 K w σ ρ) :
    wpOp P ops (post N noE noR) i (fun a w => St w0 K w σ0 ρ0 ∧ AH P w0 K ops σ0 ρ0 N fuel l' a w) a w := by
  have h1 := h a w hfr hst
  unfold wpOp
  simp only [hi]
  unfold wpList at h1
  split
  · rename_i hw
    rw [if_pos hw] at h1
    rcases h1 with h1 | h1
    · exact .inl (wp_post h1)
    · exact .inr ⟨h1.1, lets_post h1.2⟩
  · rename_i hw
    rw [if_neg hw] at h1
    exact h1
/-- one of two operations comes up now -/
theorem h_two (i j : Nat) {o1 o2 : Oper} (hi : ops[i]? = some o1) (hj : ops[j]? = some o2) (hr : Region.ready .any ops listed = [i, j])
    (h1 : WL P w0 K n ops [o1] (fun a w => St w0 K w σ0 ρ0 ∧ AH P w0 K ops σ0 ρ0 N fuel (listed.setIfInBounds i true) a w) L σ ρ)
    (h2 : WL P w0 K n ops [o2] (fun a w => St w0 K w σ0 ρ0 ∧ AH P w0 K ops σ0 ρ0 N fuel (listed.setIfInBounds j true) a w) L σ ρ) :
    Cont w0 K n (AH P w0 K ops σ0 ρ0 N (fuel + 1) listed) L σ ρ := fun a w hfr hst => by
  refine wpAnyH_all hr (by simp) (fun k hk => ?_)
  simp only [List.mem_cons, List.not_mem_nil, or_false] at hk
  rcases hk with rfl | rfl
  · exact run_in hi h1 hfr hst
  · exact run_in hj h2 hfr hst
theorem h_next {N' : Act → World → Prop} (τ : Own) (hp : σ.Perm (τ ++ σ0)) (hρ : ∀ q, q ∈ ρ0 → q ∈ ρ) (h : Cont w0 K n N' L σ ρ) : Cont w0 K n (fun a w => St w0 K w σ0 ρ0 ∧ N' a w) L σ ρ := fun a w hf hs => ⟨hs.back hp hρ, h a w hf hs⟩
theorem h_done (hr : Region.ready .any ops listed = []) (h : Cont w0 K n N L σ ρ) : Cont w0 K n (AH P w0 K ops σ0 ρ0 N fuel listed) L σ ρ := fun a w hf hs => wpAnyH_done hr (h a w hf hs) fuel
end
/-! ## regions whose order is drawn and of which only the last operation, which waits for all others, turns memory -/
section
variable {P : Program} {md : Region.Mode} {ops : Array Oper} {Q : Exit → Act → World → Prop} {S : World → Prop}
/-- as 'wpAnyH', but behind the last operation S is not asked -/
def wpAnyL (P : Program) (md : Region.Mode) (ops : Array Oper) (Q : Exit → Act → World → Prop) (S : World → Prop) (last : Nat) : Nat → Array Bool → Act → World → Prop
  | 0, listed, a, w => Region.ready md ops listed = [] ∧ Q .normal a w
  | fuel + 1, listed, a, w =>
    (Region.ready md ops listed = [] → Q .normal a w) ∧
    ∀ i ∈ Region.ready md ops listed, wpOp P ops Q i (fun a' w' => (i ≠ last → S w') ∧ wpAnyL P md ops Q S last fuel (listed.setIfInBounds i true) a' w') a w
theorem wpAny_of_last {last : Nat} : ∀ (fuel : Nat) (listed : Array Bool) (a : Act) (w : World), wpAnyL P md ops Q S last fuel listed a w → wpAny P md ops Q fuel listed a w
  | 0, _, _, _, h => h
  | fuel + 1, _, _, _, h => ⟨h.1, fun i hi => wpOp_mono (fun _ _ h' => wpAny_of_last fuel _ _ _ h'.2) (h.2 i hi)⟩
def waits (md : Region.Mode) (ops : Array Oper) (last i : Nat) : Bool := match ops[last]? with
  | some o => o.after.any fun e => Region.binds md e && e.on == i
  | none => false
theorem wpAnyL_first {last i : Nat} {oi : Oper} {v : Value} (hi : ops[i]? = some oi) (hl : waits md ops last i = true) (hil : i ≠ last) (hsel : ∀ (j : Nat) (o : Oper) cs b, ops[j]? = some o → o.op ≠ .select cs b)
    (hQ : ∀ c a w, Q (.panic c) (a.put oi.dst v) w → Q (.panic c) a w) :
    ∀ (fuel : Nat) (listed : Array Bool) (a : Act) (w : World),
      (∀ j oj, ops[j]? = some oj → j ≠ i → listed.getD j true = false → (∀ e ∈ oj.after, Region.binds md e = true → e.on ≠ i) → oi.apart ops oj = true) →
      i ∈ Region.ready md ops listed → YieldsIf P ops S oi v a → S w →
      wpAnyL P md ops Q S last fuel (listed.setIfInBounds i true) (a.put oi.dst v) w → wpAnyL P md ops Q S last (fuel + 1) listed a w := by
  intro fuel
  have clash : ∀ {listed : Array Bool} {j : Nat} {oj : Oper}, i ∈ Region.ready md ops listed → j ∈ Region.ready md ops listed → ops[j]? = some oj → ∀ e ∈ oj.after, Region.binds md e = true → e.on ≠ i := fun {listed j oj} hr hj ho e he hb heq => by
    obtain ⟨_, oj', hoj, hall⟩ := mem_ready.1 hj
    rw [ho] at hoj; injection hoj with hoj; subst hoj
    have h1 := hall e he hb
    have h0 := (mem_ready.1 hr).1
    rw [heq] at h1
    rcases Nat.lt_or_ge i listed.size with h' | h'
    · simp [h'] at h0 h1; rw [h0] at h1; cases h1
    · simp [Array.getElem?_eq_none h'] at h1
  have notlast : ∀ {listed : Array Bool} {j : Nat}, i ∈ Region.ready md ops listed → j ∈ Region.ready md ops listed → j ≠ last := fun {listed j} hr hj e => by
    subst e
    obtain ⟨_, oj, hoj, _⟩ := mem_ready.1 hj
    simp only [waits, hoj, Array.any_eq_true] at hl
    obtain ⟨k, hk, hb⟩ := hl
    simp only [Bool.and_eq_true, beq_iff_eq] at hb
    exact clash hr hj hoj _ (Array.getElem_mem hk) hb.1 hb.2
  induction fuel with
  | zero =>
    intro listed a w _ hr hy hS H
    refine ⟨fun h => (by rw [h] at hr; cases hr), fun j hj => ?_⟩
    by_cases hji : j = i
    · subst hji; exact hy.wpOp hi hS ⟨fun _ => hS, H⟩
    · have := ready_mono hj hji
      rw [H.1] at this
      cases this
  | succ fuel ih =>
    intro listed a w hfree hr hy hS H
    refine ⟨fun h => (by rw [h] at hr; cases hr), fun j hj => ?_⟩
    by_cases hji : j = i
    · subst hji; exact hy.wpOp hi hS ⟨fun _ => hS, H⟩
    · have h1 := H.2 j (ready_mono hj hji)
      obtain ⟨hjun, oj, hoj, hall⟩ := mem_ready.1 hj
      have hnot := clash hr hj hoj
      have hjl := notlast hr hj
      have h2 := wpOp_putIf hoj (hfree j oj hoj hji hjun hnot) (fun cs b => hsel i oi cs b hi) (fun cs b => hsel j oj cs b hoj) hQ hy h1
      have hfree' : ∀ k ok, ops[k]? = some ok → k ≠ i → (listed.setIfInBounds j true).getD k true = false →
          (∀ e ∈ ok.after, Region.binds md e = true → e.on ≠ i) → oi.apart ops ok = true := fun k ok hk hki hun hno => by
        refine hfree k ok hk hki ?_ hno
        by_cases hjk : j = k
        · subst hjk; exact hjun
        · rw [getD_set_ne true hjk] at hun; exact hun
      refine wpOp_mono (fun a' w' h3 => ⟨fun _ => h3.2.1 hjl, ih (listed.setIfInBounds j true) a' w' hfree' (ready_mono hr (Ne.symm hji)) h3.1 (h3.2.1 hjl) ?_⟩) h2
      rw [Array.setIfInBounds_comm _ _ hji]
      exact h3.2.2
end
section
variable {P : Program} {w0 : World} {K : List Nat} {n : Sz} {N : Act → World → Prop} {E : Nat → Act → World → Prop} {R : Act → World → Prop} {L : Slots} {σ : Own} {ρ : Facts} {ops : Array Oper} {ty : TypeId} {last fuel : Nat} {listed : Array Bool}
/-- whatever order is picked from here on, up to the last -/
def AL (P : Program) (w0 : World) (K : List Nat) (ops : Array Oper) (last : Nat) (σ : Own) (ρ : Facts) (N : Act → World → Prop) (fuel : Nat) (listed : Array Bool) : Act → World → Prop :=
  fun a w => wpAnyL P .any ops (post N noE noR) (fun w => St w0 K w σ ρ) last fuel listed a w
theorem t_draw (last : Nat) {r : Option Nat} {id : Nat} {l : List Oper} (hm : P.follows .mixedOrders = true) (h : Cont w0 K n (AL P w0 K l.toArray last σ ρ N l.toArray.size (Array.replicate l.toArray.size false)) L σ ρ) (hc : l.all calm = true := by rfl) :
    Cont w0 K n (W r P (.region id l.toArray true) N E R) L σ ρ := fun a _ hf hs => by
  refine wpIn_mono (wpIn_region_any hm (any_in (Q := post N noE noR) post_out hc _ _ _ _ (wpAny_of_last _ _ _ _ (h a _ hf hs.drewN)))) fun e a w q => ?_
  cases e with
  | normal => exact q
  | _ => exact q.elim
theorem t_take (i : Nat) {d : Nat} {op : Op} {pos : String} {aft : Array Edge} {v : Value} (hi : ops[i]? = some ⟨some d, op, ty, pos, aft, none⟩) (hs : (waits .any ops last i && (!(i == last)) && Region.noSelect ops && Region.free .any ops listed i && (Region.ready .any ops listed).contains i) = true)
    (hd : d < n) (hq : Reads P w0 K op ty L σ ρ v) (h : Cont w0 K n (AL P w0 K ops last σ ρ N fuel (listed.setIfInBounds i true)) ((d, v) :: L) σ ρ) :
    Cont w0 K n (AL P w0 K ops last σ ρ N (fuel + 1) listed) L σ ρ := fun a w hfr hst => by
  simp only [Bool.and_eq_true, Bool.not_eq_true', beq_eq_false_iff_ne] at hs
  obtain ⟨⟨⟨⟨h1, h2⟩, h3⟩, h4⟩, h5⟩ := hs
  exact wpAnyL_first hi h1 h2 (Region.noSelect_spec h3) (fun _ _ _ q => q) fuel listed a w (Region.free_spec hi h4) (by simpa using h5) (.inl ⟨rfl, fun w1 hw => hq a.eval _ w1 rfl rfl (fun _ _ hx => hfr.ev hx) hw⟩) hst (h _ _ (hfr.put hd v) hst)
theorem t_takeg (i : Nat) {d j dj : Nat} {b : Bool} {op : Op} {pos : String} {aft : Array Edge} {v : Value} (hi : ops[i]? = some ⟨some d, op, ty, pos, aft, some (j, b)⟩) (hs : (waits .any ops last i && (!(i == last)) && Region.noSelect ops && Region.free .any ops listed i && (Region.ready .any ops listed).contains i) = true)
    (hj : (ops[j]?).bind (·.dst) = some dj) (hv : look L dj = some (.bool b)) (hd : d < n) (hq : Reads P w0 K op ty L σ ρ v) (h : Cont w0 K n (AL P w0 K ops last σ ρ N fuel (listed.setIfInBounds i true)) ((d, v) :: L) σ ρ) :
    Cont w0 K n (AL P w0 K ops last σ ρ N (fuel + 1) listed) L σ ρ := fun a w hfr hst => by
  simp only [Bool.and_eq_true, Bool.not_eq_true', beq_eq_false_iff_ne] at hs
  obtain ⟨⟨⟨⟨h1, h2⟩, h3⟩, h4⟩, h5⟩ := hs
  exact wpAnyL_first hi h1 h2 (Region.noSelect_spec h3) (fun _ _ _ q => q) fuel listed a w (Region.free_spec hi h4) (by simpa using h5) (.inl ⟨by simp [Region.wanted, hfr.yielded hj hv], fun w1 hw => hq a.eval _ w1 rfl rfl (fun _ _ hx => hfr.ev hx) hw⟩) hst (h _ _ (hfr.put hd v) hst)
theorem t_off (i : Nat) {d j dj : Nat} {b : Bool} {op : Op} {pos : String} {aft : Array Edge} {u : Value} (hi : ops[i]? = some ⟨some d, op, ty, pos, aft, some (j, b)⟩) (hs : (waits .any ops last i && (!(i == last)) && Region.noSelect ops && Region.free .any ops listed i && (Region.ready .any ops listed).contains i) = true)
    (hj : (ops[j]?).bind (·.dst) = some dj) (hv : look L dj = some u) (hu : u ≠ .bool b) (hd : d < n) (h : Cont w0 K n (AL P w0 K ops last σ ρ N fuel (listed.setIfInBounds i true)) ((d, undef) :: L) σ ρ) :
    Cont w0 K n (AL P w0 K ops last σ ρ N (fuel + 1) listed) L σ ρ := fun a w hfr hst => by
  simp only [Bool.and_eq_true, Bool.not_eq_true', beq_eq_false_iff_ne] at hs
  obtain ⟨⟨⟨⟨h1, h2⟩, h3⟩, h4⟩, h5⟩ := hs
  exact wpAnyL_first hi h1 h2 (Region.noSelect_spec h3) (fun _ _ _ q => q) fuel listed a w (Region.free_spec hi h4) (by simpa using h5) (.inr ⟨by simp only [Region.wanted, hfr.yielded hj hv]; cases u <;> simp_all, rfl⟩) hst (h _ _ (hfr.put hd _) hst)
theorem c_splitd {t : Nat} {p : Prop} [Decidable p] (hc : look L t = some (.bool (decide p))) (h1 : p → Cont w0 K n N ((t, .bool true) :: L) σ ρ) (h2 : ¬ p → Cont w0 K n N ((t, .bool false) :: L) σ ρ) : Cont w0 K n N L σ ρ := fun a w hf hs => by
  by_cases h : p
  · refine h1 h a w ⟨hf.dfr, hf.size, fun i v hi => ?_⟩ hs
    simp only [look] at hi
    split at hi
    · rename_i e; subst e; injection hi with hi; subst hi; have := hf.at_ _ _ hc; simpa [h] using this
    · exact hf.at_ i v hi
  · refine h2 h a w ⟨hf.dfr, hf.size, fun i v hi => ?_⟩ hs
    simp only [look] at hi
    split at hi
    · rename_i e; subst e; injection hi with hi; subst hi; have := hf.at_ _ _ hc; simpa [h] using this
    · exact hf.at_ i v hi
theorem c_splitb {t : Nat} {b : Bool} (hc : look L t = some (.bool b)) (h1 : b = true → Cont w0 K n N ((t, .bool true) :: L) σ ρ) (h2 : b = false → Cont w0 K n N ((t, .bool false) :: L) σ ρ) : Cont w0 K n N L σ ρ :=
  c_splitd (t := t) (p := b = true) (by rw [hc]; cases b <;> rfl) h1 (fun h => h2 (by simpa using h))
/-- the last one -/
theorem t_last {o : Oper} (hi : ops[last]? = some o) (hr : (decide (Region.ready .any ops listed = [last]) && decide (Region.ready .any ops (listed.setIfInBounds last true) = [])) = true)
    (h : WL P w0 K n ops [o] N L σ ρ) : Cont w0 K n (AL P w0 K ops last σ ρ N (fuel + 1) listed) L σ ρ := fun a w hfr hst => by
  simp only [Bool.and_eq_true, decide_eq_true_eq] at hr
  refine ⟨fun h0 => absurd (hr.1 ▸ h0) (by simp), fun k hk => ?_⟩
  rw [hr.1] at hk
  simp only [List.mem_cons, List.not_mem_nil, or_false] at hk
  subst hk
  have done : ∀ a' w', post N noE noR .normal a' w' → (k ≠ k → St w0 K w' σ ρ) ∧ wpAnyL P .any ops (post N noE noR) (fun w => St w0 K w σ ρ) k fuel (listed.setIfInBounds k true) a' w' := fun a' w' hn => ⟨fun h => absurd rfl h, by
    cases fuel with
    | zero => exact ⟨hr.2, hn⟩
    | succ f => exact ⟨fun _ => hn, by rw [hr.2]; simp⟩⟩
  have h1 := h a w hfr hst
  unfold wpOp
  simp only [hi]
  unfold wpList at h1
  split
  · rename_i hw
    rw [if_pos hw] at h1
    rcases h1 with h1 | h1
    · exact .inl (Oper.wp_mono (fun a' w' q => done a' w' q) h1)
    · exact .inr h1
  · rename_i hw
    rw [if_neg hw] at h1
    exact done _ _ h1
end
/-! ## regions whose order is drawn: some operations make memory, late ones turn it, and these wait for those that read -/
section
variable {P : Program} {md : Region.Mode} {ops : Array Oper} {Q : Exit → Act → World → Prop} {S : World → Prop}
/-- as 'wpAnyH', but behind a late operation S is not asked -/
def wpAnyT (P : Program) (md : Region.Mode) (ops : Array Oper) (Q : Exit → Act → World → Prop) (S : World → Prop) (late : List Nat) : Nat → Array Bool → Act → World → Prop
  | 0, listed, a, w => Region.ready md ops listed = [] ∧ Q .normal a w
  | fuel + 1, listed, a, w =>
    (Region.ready md ops listed = [] → Q .normal a w) ∧
    ∀ i ∈ Region.ready md ops listed, wpOp P ops Q i (fun a' w' => (i ∉ late → S w → S w') ∧ wpAnyT P md ops Q S late fuel (listed.setIfInBounds i true) a' w') a w
theorem wpAny_of_tail {late : List Nat} : ∀ (fuel : Nat) (listed : Array Bool) (a : Act) (w : World), wpAnyT P md ops Q S late fuel listed a w → wpAny P md ops Q fuel listed a w
  | 0, _, _, _, h => h
  | fuel + 1, _, _, _, h => ⟨h.1, fun i hi => wpOp_mono (fun _ _ h' => wpAny_of_tail fuel _ _ _ h'.2) (h.2 i hi)⟩
/-- operation j waits for operation i, itself or by another -/
def dep (md : Region.Mode) (ops : Array Oper) : Nat → Nat → Nat → Bool
  | 0, _, _ => false
  | f + 1, j, i => match ops[j]? with
    | some o => o.after.any fun e => Region.binds md e && (e.on == i || dep md ops f e.on i)
    | none => false
def Lst (listed : Array Bool) (i : Nat) : Prop := listed.getD i true = true
def closed (md : Region.Mode) (ops : Array Oper) (listed : Array Bool) : Bool := (List.range ops.size).all fun k => !(listed.getD k true) || (match ops[k]? with
    | some o => o.after.all fun e => !(Region.binds md e) || listed.getD e.on true
    | none => true)
def Closed (md : Region.Mode) (ops : Array Oper) (listed : Array Bool) : Prop := ∀ k o, ops[k]? = some o → Lst listed k → ∀ e ∈ o.after, Region.binds md e = true → Lst listed e.on
theorem closed_spec {listed : Array Bool} (h : closed md ops listed = true) : Closed md ops listed := fun k o ho hk e he hb => by
  simp only [closed, List.all_eq_true] at h
  have h1 := h k (List.mem_range.2 (Array.getElem?_eq_some_iff.1 ho).1)
  simp only [ho, Bool.or_eq_true, Bool.not_eq_true', Array.all_eq_true] at h1
  rcases h1 with h1 | h1
  · rw [hk] at h1; cases h1
  · obtain ⟨i, hi, rfl⟩ := Array.getElem_of_mem he
    rcases h1 i hi with h2 | h2
    · rw [hb] at h2; cases h2
    · exact h2
theorem dep_listed {listed : Array Bool} (hc : Closed md ops listed) {i : Nat} : ∀ (f j : Nat) (o : Oper), ops[j]? = some o → (∀ e ∈ o.after, Region.binds md e = true → Lst listed e.on) → dep md ops f j i = true → Lst listed i
  | 0, _, _, _, _, h => by cases h
  | f + 1, j, o, ho, hall, h => by
    simp only [dep, ho, Array.any_eq_true, Bool.and_eq_true, Bool.or_eq_true, beq_iff_eq] at h
    obtain ⟨k, hk, hb, h⟩ := h
    have hl := hall _ (Array.getElem_mem hk) hb
    rcases h with h | h
    · rw [← h]; exact hl
    · cases ho' : ops[o.after[k].on]? with
      | none =>
        cases f with
        | zero => simp [dep] at h
        | succ f => simp [dep, ho'] at h
      | some o' => exact dep_listed hc f _ o' ho' (fun e he hb' => hc _ o' ho' hl e he hb') h
theorem lst_ready {listed : Array Bool} {j : Nat} (h : j ∈ Region.ready md ops listed) : listed.getD j true = false ∧ ∃ o, ops[j]? = some o ∧ ∀ e ∈ o.after, Region.binds md e = true → Lst listed e.on := by
  obtain ⟨h1, o, h2, h3⟩ := mem_ready.1 h
  refine ⟨h1, o, h2, fun e he hb => ?_⟩
  have := h3 e he hb
  unfold Lst
  rcases Nat.lt_or_ge e.on listed.size with h' | h'
  · simp [h'] at this ⊢; exact this
  · simp [Array.getElem?_eq_none h'] at this
theorem closed_set {listed : Array Bool} (hc : Closed md ops listed) {j : Nat} (hj : j ∈ Region.ready md ops listed) : Closed md ops (listed.setIfInBounds j true) := fun k o ho hk e he hb => by
  have up : ∀ i, Lst listed i → Lst (listed.setIfInBounds j true) i := fun i hi => by
    unfold Lst at *
    by_cases hij : j = i
    · subst hij
      by_cases h : j < listed.size
      · simp [h]
      · simp [Array.getD, h]
    · rw [getD_set_ne true hij]; exact hi
  by_cases hkj : j = k
  · subst hkj
    obtain ⟨_, o', ho', hall⟩ := lst_ready hj
    rw [ho] at ho'; injection ho' with ho'; subst ho'
    exact up _ (hall e he hb)
  · refine up _ (hc k o ho ?_ e he hb)
    unfold Lst at *
    rwa [getD_set_ne true hkj] at hk
theorem wpAnyT_first {late : List Nat} {i : Nat} {oi : Oper} {v : Value} (hi : ops[i]? = some oi)  (hsel : ∀ (j : Nat) (o : Oper) cs b, ops[j]? = some o → o.op ≠ .select cs b)
    (hQ : ∀ c a w, Q (.panic c) (a.put oi.dst v) w → Q (.panic c) a w) :
    ∀ (fuel : Nat) (listed : Array Bool) (a : Act) (w : World), Closed md ops listed → (∀ j, j ∈ late → listed.getD j true = false → dep md ops ops.size j i = true) →
      (∀ j oj, ops[j]? = some oj → j ≠ i → listed.getD j true = false → (∀ e ∈ oj.after, Region.binds md e = true → e.on ≠ i) → oi.apart ops oj = true) →
      i ∈ Region.ready md ops listed → YieldsIf P ops S oi v a → S w →
      wpAnyT P md ops Q S late fuel (listed.setIfInBounds i true) (a.put oi.dst v) w → wpAnyT P md ops Q S late (fuel + 1) listed a w := by
  intro fuel
  induction fuel with
  | zero =>
    intro listed a w _ _ _ hr hy hS H
    refine ⟨fun h => (by rw [h] at hr; cases hr), fun j hj => ?_⟩
    by_cases hji : j = i
    · subst hji; exact hy.wpOp hi hS ⟨fun _ h => h, H⟩
    · have := ready_mono hj hji
      rw [H.1] at this
      cases this
  | succ fuel ih =>
    intro listed a w hcl hlate hfree hr hy hS H
    refine ⟨fun h => (by rw [h] at hr; cases hr), fun j hj => ?_⟩
    by_cases hji : j = i
    · subst hji; exact hy.wpOp hi hS ⟨fun _ h => h, H⟩
    · have h1 := H.2 j (ready_mono hj hji)
      obtain ⟨hjun, oj, hoj, hall⟩ := lst_ready hj
      have hiun := (lst_ready hr).1
      have hnot : ∀ e ∈ oj.after, Region.binds md e = true → e.on ≠ i := fun e he hb heq => by
        have := hall e he hb
        rw [heq] at this; unfold Lst at this; rw [hiun] at this; cases this
      have hjl : j ∉ late := fun hm => by
        have := dep_listed hcl _ j oj hoj hall (hlate j hm hjun)
        unfold Lst at this; rw [hiun] at this; cases this
      have h2 := wpOp_putIf hoj (hfree j oj hoj hji hjun hnot) (fun cs b => hsel i oi cs b hi) (fun cs b => hsel j oj cs b hoj) hQ hy h1
      have hfree' : ∀ k ok, ops[k]? = some ok → k ≠ i → (listed.setIfInBounds j true).getD k true = false →
          (∀ e ∈ ok.after, Region.binds md e = true → e.on ≠ i) → oi.apart ops ok = true := fun k ok hk hki hun hno => by
        refine hfree k ok hk hki ?_ hno
        by_cases hjk : j = k
        · subst hjk; exact hjun
        · rw [getD_set_ne true hjk] at hun; exact hun
      have hlate' : ∀ k, k ∈ late → (listed.setIfInBounds j true).getD k true = false → dep md ops ops.size k i = true := fun k hk hun => by
        refine hlate k hk ?_
        by_cases hjk : j = k
        · subst hjk; exact hjun
        · rw [getD_set_ne true hjk] at hun; exact hun
      refine wpOp_mono (fun a' w' h3 => ⟨fun hn hs => h3.2.1 hn hs, ih (listed.setIfInBounds j true) a' w' (closed_set hcl hj) hlate' hfree' (ready_mono hr (Ne.symm hji)) h3.1 (h3.2.1 hjl hS) ?_⟩) h2
      rw [Array.setIfInBounds_comm _ _ hji]
      exact h3.2.2
/-- an operation that looks at no memory may be taken first at any time -/
theorem wpAnyT_firstp {late : List Nat} {i : Nat} {oi : Oper} {v : Value} (hi : ops[i]? = some oi) (hsel : ∀ (j : Nat) (o : Oper) cs b, ops[j]? = some o → o.op ≠ .select cs b)
    (hQ : ∀ c a w, Q (.panic c) (a.put oi.dst v) w → Q (.panic c) a w) :
    ∀ (fuel : Nat) (listed : Array Bool) (a : Act) (w : World),
      (∀ j oj, ops[j]? = some oj → j ≠ i → listed.getD j true = false → (∀ e ∈ oj.after, Region.binds md e = true → e.on ≠ i) → oi.apart ops oj = true) →
      i ∈ Region.ready md ops listed → YieldsIf P ops (fun _ => True) oi v a →
      wpAnyT P md ops Q S late fuel (listed.setIfInBounds i true) (a.put oi.dst v) w → wpAnyT P md ops Q S late (fuel + 1) listed a w := by
  intro fuel
  induction fuel with
  | zero =>
    intro listed a w _ hr hy H
    refine ⟨fun h => (by rw [h] at hr; cases hr), fun j hj => ?_⟩
    by_cases hji : j = i
    · subst hji; exact hy.wpOp hi trivial ⟨fun _ h => h, H⟩
    · have := ready_mono hj hji
      rw [H.1] at this
      cases this
  | succ fuel ih =>
    intro listed a w hfree hr hy H
    refine ⟨fun h => (by rw [h] at hr; cases hr), fun j hj => ?_⟩
    by_cases hji : j = i
    · subst hji; exact hy.wpOp hi trivial ⟨fun _ h => h, H⟩
    · have h1 := H.2 j (ready_mono hj hji)
      obtain ⟨hjun, oj, hoj, hall⟩ := lst_ready hj
      have hiun := (lst_ready hr).1
      have hnot : ∀ e ∈ oj.after, Region.binds md e = true → e.on ≠ i := fun e he hb heq => by
        have := hall e he hb
        rw [heq] at this; unfold Lst at this; rw [hiun] at this; cases this
      have h2 := wpOp_putIf hoj (hfree j oj hoj hji hjun hnot) (fun cs b => hsel i oi cs b hi) (fun cs b => hsel j oj cs b hoj) hQ hy h1
      have hfree' : ∀ k ok, ops[k]? = some ok → k ≠ i → (listed.setIfInBounds j true).getD k true = false →
          (∀ e ∈ ok.after, Region.binds md e = true → e.on ≠ i) → oi.apart ops ok = true := fun k ok hk hki hun hno => by
        refine hfree k ok hk hki ?_ hno
        by_cases hjk : j = k
        · subst hjk; exact hjun
        · rw [getD_set_ne true hjk] at hun; exact hun
      refine wpOp_mono (fun a' w' h3 => ⟨h3.2.1, ih (listed.setIfInBounds j true) a' w' hfree' (ready_mono hr (Ne.symm hji)) h3.1 ?_⟩) h2
      rw [Array.setIfInBounds_comm _ _ hji]
      exact h3.2.2
def mayTakep (ops : Array Oper) (listed : Array Bool) (i : Nat) : Bool := Region.noSelect ops && Region.free .any ops listed i && (Region.ready .any ops listed).contains i
theorem wpAnyT_takep {late : List Nat} {i : Nat} {oi : Oper} {v : Value} {fuel : Nat} {listed : Array Bool} {a : Act} {w : World} (hi : ops[i]? = some oi) (hs : mayTakep ops listed i = true)
    (hQ : ∀ c a w, Q (.panic c) (a.put oi.dst v) w → Q (.panic c) a w) (hy : YieldsIf P ops (fun _ => True) oi v a)
    (h : wpAnyT P .any ops Q S late fuel (listed.setIfInBounds i true) (a.put oi.dst v) w) : wpAnyT P .any ops Q S late (fuel + 1) listed a w := by
  simp only [mayTakep, Bool.and_eq_true] at hs
  obtain ⟨⟨h4, h5⟩, h6⟩ := hs
  exact wpAnyT_firstp hi (Region.noSelect_spec h4) hQ fuel listed a w (Region.free_spec hi h5) (by simpa using h6) hy h
/-- what is asked before operation i is taken -/
def mayTake (ops : Array Oper) (late : List Nat) (listed : Array Bool) (i : Nat) : Bool :=
  (!(late.contains i)) && closed .any ops listed && late.all (fun j => listed.getD j true || dep .any ops ops.size j i) && Region.noSelect ops && Region.free .any ops listed i && (Region.ready .any ops listed).contains i
theorem wpAnyT_take {late : List Nat} {i : Nat} {oi : Oper} {v : Value} {fuel : Nat} {listed : Array Bool} {a : Act} {w : World} (hi : ops[i]? = some oi) (hs : mayTake ops late listed i = true)
    (hQ : ∀ c a w, Q (.panic c) (a.put oi.dst v) w → Q (.panic c) a w) (hy : YieldsIf P ops S oi v a) (hS : S w)
    (h : wpAnyT P .any ops Q S late fuel (listed.setIfInBounds i true) (a.put oi.dst v) w) : wpAnyT P .any ops Q S late (fuel + 1) listed a w := by
  simp only [mayTake, Bool.and_eq_true, Bool.not_eq_true', List.all_eq_true, Bool.or_eq_true] at hs
  obtain ⟨⟨⟨⟨⟨h1, h2⟩, h3⟩, h4⟩, h5⟩, h6⟩ := hs
  exact wpAnyT_first hi (Region.noSelect_spec h4) hQ fuel listed a w (closed_spec h2)
    (fun j hj hun => by rcases h3 j hj with h7 | h7; (· rw [hun] at h7; cases h7); (· exact h7)) (Region.free_spec hi h5) (by simpa using h6) hy hS h
end
section
variable {P : Program} {w0 : World} {K : List Nat} {n : Sz} {N : Act → World → Prop} {E : Nat → Act → World → Prop} {R : Act → World → Prop} {L : Slots} {σ σ0 : Own} {ρ ρ0 : Facts} {ops : Array Oper} {ty : TypeId} {late : List Nat} {fuel : Nat} {listed : Array Bool}
def AT (P : Program) (w0 : World) (K : List Nat) (ops : Array Oper) (late : List Nat) (σ : Own) (ρ : Facts) (N : Act → World → Prop) (fuel : Nat) (listed : Array Bool) : Act → World → Prop :=
  fun a w => wpAnyT P .any ops (post N noE noR) (fun w => St w0 K w σ ρ) late fuel listed a w
theorem m_draw (late : List Nat) {r : Option Nat} {id : Nat} {l : List Oper} (hm : P.follows .mixedOrders = true) (h : Cont w0 K n (AT P w0 K l.toArray late σ ρ N l.toArray.size (Array.replicate l.toArray.size false)) L σ ρ) (hc : l.all calm = true := by rfl) :
    Cont w0 K n (W r P (.region id l.toArray true) N E R) L σ ρ := fun a _ hf hs => by
  refine wpIn_mono (wpIn_region_any hm (any_in (Q := post N noE noR) post_out hc _ _ _ _ (wpAny_of_tail _ _ _ _ (h a _ hf hs.drewN)))) fun e a w q => ?_
  cases e with
  | normal => exact q
  | _ => exact q.elim
theorem m_take (i : Nat) {d : Nat} {op : Op} {pos : String} {aft : Array Edge} {v : Value} {τ : Own} (hi : ops[i]? = some ⟨some d, op, ty, pos, aft, none⟩) (hs : mayTake ops late listed i = true)
    (hd : d < n) (hp : σ.Perm (τ ++ σ0)) (hρ : ∀ q, q ∈ ρ0 → q ∈ ρ) (hq : Reads P w0 K op ty L σ0 ρ0 v) (h : Cont w0 K n (AT P w0 K ops late σ0 ρ0 N fuel (listed.setIfInBounds i true)) ((d, v) :: L) σ ρ) :
    Cont w0 K n (AT P w0 K ops late σ0 ρ0 N (fuel + 1) listed) L σ ρ := fun a _ hfr hst =>
  wpAnyT_take hi hs (fun _ _ _ q => q) (.inl ⟨rfl, fun w1 hw => hq a.eval _ w1 rfl rfl (fun _ _ hx => hfr.ev hx) hw⟩) (hst.back hp hρ) (h _ _ (hfr.put hd v) hst)
theorem m_takeg (i : Nat) {d j dj : Nat} {b : Bool} {op : Op} {pos : String} {aft : Array Edge} {v : Value} {τ : Own} (hi : ops[i]? = some ⟨some d, op, ty, pos, aft, some (j, b)⟩) (hs : mayTake ops late listed i = true)
    (hj : (ops[j]?).bind (·.dst) = some dj) (hv : look L dj = some (.bool b)) (hd : d < n) (hp : σ.Perm (τ ++ σ0)) (hρ : ∀ q, q ∈ ρ0 → q ∈ ρ) (hq : Reads P w0 K op ty L σ0 ρ0 v) (h : Cont w0 K n (AT P w0 K ops late σ0 ρ0 N fuel (listed.setIfInBounds i true)) ((d, v) :: L) σ ρ) :
    Cont w0 K n (AT P w0 K ops late σ0 ρ0 N (fuel + 1) listed) L σ ρ := fun a _ hfr hst =>
  wpAnyT_take hi hs (fun _ _ _ q => q) (.inl ⟨by simp [Region.wanted, hfr.yielded hj hv], fun w1 hw => hq a.eval _ w1 rfl rfl (fun _ _ hx => hfr.ev hx) hw⟩) (hst.back hp hρ) (h _ _ (hfr.put hd v) hst)
theorem m_takep (i : Nat) {d : Nat} {op : Op} {pos : String} {aft : Array Edge} {v : Value} (hi : ops[i]? = some ⟨some d, op, ty, pos, aft, none⟩) (hs : mayTakep ops listed i = true)
    (hd : d < n) (hq : Pure P op ty L v) (h : Cont w0 K n (AT P w0 K ops late σ0 ρ0 N fuel (listed.setIfInBounds i true)) ((d, v) :: L) σ ρ) :
    Cont w0 K n (AT P w0 K ops late σ0 ρ0 N (fuel + 1) listed) L σ ρ := fun a _ hfr hst =>
  wpAnyT_takep hi hs (fun _ _ _ q => q) (.inl ⟨rfl, fun w1 _ => hq a.eval _ w1 rfl rfl (fun _ _ hx => hfr.ev hx)⟩) (h _ _ (hfr.put hd v) hst)
theorem m_takegp (i : Nat) {d j dj : Nat} {b : Bool} {op : Op} {pos : String} {aft : Array Edge} {v : Value} (hi : ops[i]? = some ⟨some d, op, ty, pos, aft, some (j, b)⟩) (hs : mayTakep ops listed i = true)
    (hj : (ops[j]?).bind (·.dst) = some dj) (hv : look L dj = some (.bool b)) (hd : d < n) (hq : Pure P op ty L v) (h : Cont w0 K n (AT P w0 K ops late σ0 ρ0 N fuel (listed.setIfInBounds i true)) ((d, v) :: L) σ ρ) :
    Cont w0 K n (AT P w0 K ops late σ0 ρ0 N (fuel + 1) listed) L σ ρ := fun a _ hfr hst =>
  wpAnyT_takep hi hs (fun _ _ _ q => q) (.inl ⟨by simp [Region.wanted, hfr.yielded hj hv], fun w1 _ => hq a.eval _ w1 rfl rfl (fun _ _ hx => hfr.ev hx)⟩) (h _ _ (hfr.put hd v) hst)
theorem m_off (i : Nat) {d j dj : Nat} {b : Bool} {op : Op} {pos : String} {aft : Array Edge} {u : Value} (hi : ops[i]? = some ⟨some d, op, ty, pos, aft, some (j, b)⟩) (hs : mayTakep ops listed i = true)
    (hj : (ops[j]?).bind (·.dst) = some dj) (hv : look L dj = some u) (hu : u ≠ .bool b) (hd : d < n) (h : Cont w0 K n (AT P w0 K ops late σ0 ρ0 N fuel (listed.setIfInBounds i true)) ((d, undef) :: L) σ ρ) :
    Cont w0 K n (AT P w0 K ops late σ0 ρ0 N (fuel + 1) listed) L σ ρ := fun a _ hfr hst =>
  wpAnyT_takep hi hs (fun _ _ _ q => q) (.inr ⟨by simp only [Region.wanted, hfr.yielded hj hv]; cases u <;> simp_all, rfl⟩) (h _ _ (hfr.put hd _) hst)
theorem run_any {i : Nat} {o : Oper} (hi : ops[i]? = some o) {M : Act → World → Prop} (h : WL P w0 K n ops [o] M L σ ρ) {a : Act} {w : World} (hfr : Fr a n L) (hst : St w0 K w σ ρ) : wpOp P ops (post N noE noR) i M a w := by
  have h1 := h a w hfr hst
  unfold wpOp
  simp only [hi]
  unfold wpList at h1
  split
  · rename_i hw
    rw [if_pos hw] at h1
    rcases h1 with h1 | h1
    · exact .inl (wp_post h1)
    · exact .inr ⟨h1.1, lets_post h1.2⟩
  · rename_i hw
    rw [if_neg hw] at h1
    exact h1
/-- the only operation that may come up now -/
theorem m_run (i : Nat) {o : Oper} (hi : ops[i]? = some o) (hr : decide (Region.ready .any ops listed = [i]) = true)
    (h : WL P w0 K n ops [o] (fun a w => (i ∉ late → St w0 K w σ0 ρ0) ∧ AT P w0 K ops late σ0 ρ0 N fuel (listed.setIfInBounds i true) a w) L σ ρ) :
    Cont w0 K n (AT P w0 K ops late σ0 ρ0 N (fuel + 1) listed) L σ ρ := fun a w hfr hst => by
  have hr := of_decide_eq_true hr
  refine ⟨fun h0 => absurd (hr ▸ h0) (by simp), fun k hk => ?_⟩
  rw [hr] at hk
  simp only [List.mem_cons, List.not_mem_nil, or_false] at hk
  subst hk
  exact wpOp_mono (fun _ _ q => ⟨fun hn _ => q.1 hn, q.2⟩) (run_any hi h hfr hst)
/-- one of two operations comes up now -/
theorem m_two (i j : Nat) {o1 o2 : Oper} (hi : ops[i]? = some o1) (hj : ops[j]? = some o2) (hr : decide (Region.ready .any ops listed = [i, j]) = true)
    (h1 : WL P w0 K n ops [o1] (fun a w => (i ∉ late → St w0 K w σ0 ρ0) ∧ AT P w0 K ops late σ0 ρ0 N fuel (listed.setIfInBounds i true) a w) L σ ρ)
    (h2 : WL P w0 K n ops [o2] (fun a w => (j ∉ late → St w0 K w σ0 ρ0) ∧ AT P w0 K ops late σ0 ρ0 N fuel (listed.setIfInBounds j true) a w) L σ ρ) :
    Cont w0 K n (AT P w0 K ops late σ0 ρ0 N (fuel + 1) listed) L σ ρ := fun a w hfr hst => by
  have hr := of_decide_eq_true hr
  refine ⟨fun h0 => absurd (hr ▸ h0) (by simp), fun k hk => ?_⟩
  rw [hr] at hk
  simp only [List.mem_cons, List.not_mem_nil, or_false] at hk
  rcases hk with rfl | rfl
  · exact wpOp_mono (fun _ _ q => ⟨fun hn _ => q.1 hn, q.2⟩) (run_any hi h1 hfr hst)
  · exact wpOp_mono (fun _ _ q => ⟨fun hn _ => q.1 hn, q.2⟩) (run_any hj h2 hfr hst)
theorem m_next {p : Prop} {N' : Act → World → Prop} (τ : Own) (hp : σ.Perm (τ ++ σ0)) (hρ : ∀ q, q ∈ ρ0 → q ∈ ρ) (h : Cont w0 K n N' L σ ρ) : Cont w0 K n (fun a w => (p → St w0 K w σ0 ρ0) ∧ N' a w) L σ ρ := fun a w hf hs => ⟨fun _ => hs.back hp hρ, h a w hf hs⟩
theorem m_late {i : Nat} {N' : Act → World → Prop} (hl : late.contains i = true) (h : Cont w0 K n N' L σ ρ) : Cont w0 K n (fun a w => (i ∉ late → St w0 K w σ0 ρ0) ∧ N' a w) L σ ρ := fun a w hf hs => ⟨fun hn => absurd (by simpa using hl) hn, h a w hf hs⟩
theorem m_done (hr : (Region.ready .any ops listed).isEmpty = true) (h : Cont w0 K n N L σ ρ) : Cont w0 K n (AT P w0 K ops late σ0 ρ0 N fuel listed) L σ ρ := fun a w hf hs => by
  have hr : Region.ready .any ops listed = [] := by simpa using hr
  show wpAnyT _ _ _ _ _ _ fuel _ _ _
  cases fuel with
  | zero => exact ⟨hr, h a w hf hs⟩
  | succ f => exact ⟨fun _ => h a w hf hs, by rw [hr]; simp⟩
end
end Go.Fx
