/- A walk by hand-made rules: the state of a walk (slots, own memory, facts on memory) stands in the goal, one rule an operation. No program in sight; conditions: none. -/
import Derived.Below
import Derived.Laws.AppendOwn
import Derived.Laws.OwnMore
import Derived.Deep.Quiet
import Derived.IntWalk
import Derived.KernelRfl
import Derived.Laws.Entries
import Derived.ChangeKeysEq
import Derived.Lib.Strings
import Derived.Maps.AppendAt
import Derived.Laws.IdiomStrings
import Derived.Lib.AppendStr
import Derived.Lib.Builder
import Derived.CallsIn
import Derived.OrdersIn
import Derived.TacticsIn
namespace Go.Fx
open Go Go.RowKit

/-! ## slots -/
abbrev Slots := List (Nat × Value)
def look : Slots → Nat → Option Value
  | [], _ => none
  | (k, v) :: L, i => if i = k then some v else look L i
/-- how many slots an activation has, and what it has deferred -/
structure Sz where
  n : Nat
  ds : List Deferred
instance : Coe Sz Nat := ⟨Sz.n⟩
structure Fr (a : Act) (n : Sz) (L : Slots) : Prop where
  dfr : a.defers = n.ds
  size : a.tmps.size = n.n
  at_ : ∀ i v, look L i = some v → a.tmps[i]? = some v
def ev (L : Slots) : Operand → Option Value
  | .tmp t => look L t
  | .const v => some v
  | .func f => some (.func (.func f) #[] #[])
  | .global g => some (.pointer (some ⟨g, 0, none⟩))
theorem Fr.ev {a : Act} {n : Sz} {L : Slots} (h : Fr a n L) {x : Operand} {v : Value} (hx : ev L x = some v) : a.eval x = v := by
  cases x with
  | tmp t =>
    have := h.at_ t v hx
    simp [Act.eval, Array.getD_eq_getD_getElem?, this]
  | const u => injection hx
  | global g => injection hx
  | func f => injection hx
theorem Fr.put {a : Act} {n : Sz} {L : Slots} (h : Fr a n L) {d : Nat} (hd : d < n) (v : Value) : Fr (a.put (some d) v) n ((d, v) :: L) := by
  refine ⟨h.dfr, by simp [Act.put, h.size], fun i u hu => ?_⟩
  simp only [look] at hu
  simp only [Act.put]
  split at hu
  · rename_i hi
    subst hi
    injection hu with hu
    subst hu
    rw [Array.getElem?_setIfInBounds_self_of_lt (by rw [h.size]; exact hd)]
  · rename_i hi
    rw [Array.getElem?_setIfInBounds_ne (by omega)]
    exact h.at_ i u hu
theorem Fr.put_none {a : Act} {n : Sz} {L : Slots} (h : Fr a n L) (v : Value) : Fr (a.put none v) n L := h
def SubL : Slots → Slots → Prop
  | [], _ => True
  | (k, v) :: M, L => look L k = some v ∧ SubL M L
theorem SubL.look {M L : Slots} (h : SubL M L) : ∀ i v, look M i = some v → look L i = some v := by
  induction M with
  | nil => intro i v hi; cases hi
  | cons p M ih =>
    intro i v hi
    obtain ⟨k, u⟩ := p
    simp only [Fx.look] at hi
    split at hi
    · rename_i hk; subst hk; injection hi with hi; subst hi; exact h.1
    · exact ih h.2 i v hi
theorem Fr.sub {a : Act} {n : Sz} {L M : Slots} (h : Fr a n L) (hs : SubL M L) : Fr a n M :=
  ⟨h.dfr, h.size, fun i v hi => h.at_ i v (hs.look i v hi)⟩

/-! ## memory -/
/-- what a call may leave: blocks of the world before it hold what they held, but for those that were lent -/
structure Ext (K : List Nat) (w0 w : World) : Prop where
  os : w.os = w0.os
  tape : w.tape = w0.tape
  output : w.output = w0.output
  size : w0.heap.size ≤ w.heap.size
  block : ∀ k, k < w0.heap.size → k ∉ K → w.heap[k]? = w0.heap[k]?
theorem Ext.refl (K : List Nat) (w : World) : Ext K w w := ⟨rfl, rfl, rfl, Nat.le_refl _, fun _ _ _ => rfl⟩
theorem Ext.below {w0 w : World} (h : Ext [] w0 w) : Below w0.heap.size w0 w := ⟨h.os, h.tape, h.output, h.size, fun k hk => h.block k hk (by simp)⟩
theorem Ext.of_below {w0 w : World} (h : Below w0.heap.size w0 w) : Ext [] w0 w := ⟨h.os, h.tape, h.output, h.size, fun k hk _ => h.block k hk⟩
/-- an assertion on memory with its blocks -/
structure Item where
  keys : List Nat
  holds : World → Prop
def Item.dep (x : Item) : Prop := ∀ w1 w2 : World, (∀ k, k ∈ x.keys → w2.heap[k]? = w1.heap[k]?) → x.holds w1 → x.holds w2
abbrev Own := List Item
abbrev Facts := List (World → Prop)
def keysOf : Own → List Nat
  | [] => []
  | x :: σ => x.keys ++ keysOf σ
/-- a fact on memory that is never written again: it depends on the blocks from lo to hi alone -/
def Dep (lo hi : Nat) (q : World → Prop) : Prop := ∀ w1 w2 : World, (∀ k, lo ≤ k → k < hi → w2.heap[k]? = w1.heap[k]?) → q w1 → q w2
/-- the same of a set of blocks -/
def DepS (S : Nat → Prop) (q : World → Prop) : Prop := ∀ w1 w2 : World, (∀ k, S k → w2.heap[k]? = w1.heap[k]?) → q w1 → q w2
theorem Dep.s {lo hi : Nat} {q : World → Prop} (h : Dep lo hi q) : DepS (fun k => lo ≤ k ∧ k < hi) q := fun w1 w2 hb => h w1 w2 fun k h1 h2 => hb k ⟨h1, h2⟩
structure St (w0 : World) (K : List Nat) (w : World) (σ : Own) (ρ : Facts) : Prop where
  ext : Ext K w0 w
  nodup : (keysOf σ).Nodup
  own : ∀ x, x ∈ σ → x.holds w ∧ x.dep ∧ ∀ k, k ∈ x.keys → k < w.heap.size ∧ (k ∈ K ∨ w0.heap.size ≤ k)
  facts : ∀ q, q ∈ ρ → q w ∧ ∃ S : Nat → Prop, (∀ k, S k → k < w.heap.size) ∧ DepS S q ∧ ∀ k, k ∈ keysOf σ → ¬ S k
theorem mem_keysOf {σ : Own} {k : Nat} : k ∈ keysOf σ ↔ ∃ x, x ∈ σ ∧ k ∈ x.keys := by
  induction σ with
  | nil => simp [keysOf]
  | cons x σ ih => simp [keysOf, ih]
/-- the world has moved on, and neither what is owned nor what was there before has been touched -/
theorem St.move {w0 w w' : World} {K : List Nat} {σ : Own} {ρ : Facts} (h : St w0 K w σ ρ) (he : Ext [] w w') : St w0 K w' σ ρ := by
  have hb : ∀ k, k < w.heap.size → w'.heap[k]? = w.heap[k]? := fun k hk => he.block k hk (by simp)
  refine ⟨⟨he.os.trans h.ext.os, he.tape.trans h.ext.tape, he.output.trans h.ext.output, Nat.le_trans h.ext.size he.size, fun k hk hn => (hb k (Nat.lt_of_lt_of_le hk h.ext.size)).trans (h.ext.block k hk hn)⟩, h.nodup, fun x hx => ?_, fun q hq => ?_⟩
  · obtain ⟨h1, h2, h3⟩ := h.own x hx
    exact ⟨h2 w w' (fun k hk => hb k (h3 k hk).1) h1, h2, fun k hk => ⟨Nat.lt_of_lt_of_le (h3 k hk).1 he.size, (h3 k hk).2⟩⟩
  · obtain ⟨h1, S, h2, h3, h4⟩ := h.facts q hq
    exact ⟨h3 w w' (fun k hk => hb k (h2 k hk)) h1, S, fun k hk => Nat.lt_of_lt_of_le (h2 k hk) he.size, h3, h4⟩
theorem St.drewN {w0 w : World} {K : List Nat} {σ : Own} {ρ : Facts} (h : St w0 K w σ ρ) : St w0 K { w with drawn := w.drawn + 1 } σ ρ :=
  h.move ⟨rfl, rfl, rfl, Nat.le_refl _, fun _ _ _ => rfl⟩
/-- some facts fewer, the own items in another order or fewer -/
theorem St.weak {w0 w : World} {K : List Nat} {σ : Own} {ρ ρ' : Facts} (h : St w0 K w σ ρ) (hr : ∀ q, q ∈ ρ' → q ∈ ρ) : St w0 K w σ ρ' :=
  ⟨h.ext, h.nodup, h.own, fun q hq => h.facts q (hr q hq)⟩
theorem St.drop {w0 w : World} {K : List Nat} {x : Item} {σ : Own} {ρ : Facts} (h : St w0 K w (x :: σ) ρ) : St w0 K w σ ρ := by
  refine ⟨h.ext, ?_, fun y hy => h.own y (List.mem_cons_of_mem _ hy), fun q hq => ?_⟩
  · have := h.nodup; simp only [keysOf] at this; exact (List.nodup_append.1 this).2.1
  · obtain ⟨h1, S, h2, h3, h4⟩ := h.facts q hq
    exact ⟨h1, S, h2, h3, fun k hk => h4 k (by simp [keysOf, hk])⟩
/-- a fact of a call's own making -/
theorem St.fact {w0 w w' : World} {K : List Nat} {σ : Own} {ρ : Facts} (h : St w0 K w σ ρ) (he : Ext [] w w') {q : World → Prop} (hq : q w') (hd : Dep w.heap.size w'.heap.size q) : St w0 K w' σ (q :: ρ) := by
  have h' := h.move he
  refine ⟨h'.ext, h'.nodup, h'.own, fun p hp => ?_⟩
  rcases List.mem_cons.1 hp with rfl | hp
  · refine ⟨hq, _, fun k hk => hk.2, hd.s, fun k hk hs => ?_⟩
    obtain ⟨x, hx, hk⟩ := mem_keysOf.1 hk
    have := ((h.own x hx).2.2 k hk).1
    omega
  · exact h'.facts p hp
/-- a fact on what lay there before the call -/
theorem St.old {w0 : World} {ρ : Facts} {q : World → Prop} (h : St w0 [] w0 [] ρ) (hq : q w0) (hd : Dep 0 w0.heap.size q) : St w0 [] w0 [] (q :: ρ) :=
  ⟨h.ext, h.nodup, h.own, fun p hp => by
    rcases List.mem_cons.1 hp with rfl | hp
    · exact ⟨hq, _, fun k hk => hk.2, hd.s, fun k hk => by simp [keysOf] at hk⟩
    · exact h.facts p hp⟩
theorem St.start (w : World) : St w [] w [] [] := ⟨Ext.refl _ _, by simp [keysOf], fun x hx => absurd hx List.not_mem_nil, fun q hq => absurd hq List.not_mem_nil⟩
/-- a new block -/
theorem St.alloc {w0 w : World} {K : List Nat} {σ : Own} {ρ : Facts} (h : St w0 K w σ ρ) (o : Obj) (x : Item) (hx : x.keys = [w.heap.size]) (hd : x.dep) (hh : x.holds (w.alloc o)) : St w0 K (w.alloc o) (x :: σ) ρ := by
  have h' := h.move (w' := w.alloc o) ⟨rfl, rfl, rfl, by simp, fun k hk _ => Below.heap_alloc w o k hk⟩
  refine ⟨h'.ext, ?_, fun y hy => ?_, fun q hq => ?_⟩
  · simp only [keysOf, hx]
    refine List.nodup_cons.2 ⟨fun hk => ?_, h'.nodup⟩
    obtain ⟨y, hy, hk⟩ := mem_keysOf.1 hk
    have := ((h.own y hy).2.2 _ hk).1
    omega
  · rcases List.mem_cons.1 hy with rfl | hy
    · refine ⟨hh, hd, fun k hk => ?_⟩
      rw [hx] at hk
      simp at hk
      subst hk
      exact ⟨by simp, .inr h.ext.size⟩
    · exact h'.own y hy
  · obtain ⟨h1, _⟩ := h'.facts q hq
    obtain ⟨_, S, h2, h3, h4⟩ := h.facts q hq
    refine ⟨h1, S, fun k hk => by have := h2 k hk; simp; omega, h3, fun k hk => ?_⟩
    simp only [keysOf, hx, List.cons_append, List.nil_append, List.mem_cons] at hk
    rcases hk with rfl | hk
    · exact fun hs => by have := h2 _ hs; omega
    · exact h4 k hk
/-- the first own item has been turned into another, on its own blocks or on a new one -/
theorem St.turn {w0 w w' : World} {K : List Nat} {σ : Own} {ρ : Facts} {x y : Item} (h : St w0 K w (x :: σ) ρ) (he : Ext x.keys w w') (hy : y.holds w') (hd : y.dep)
    (hk : ∀ k, k ∈ y.keys → k ∈ x.keys ∨ (w.heap.size ≤ k ∧ k < w'.heap.size)) (hn : y.keys.Nodup) : St w0 K w' (y :: σ) ρ := by
  have hx := h.own x (by simp)
  have hnd := h.nodup
  simp only [keysOf] at hnd
  obtain ⟨_, hn2, hdis⟩ := List.nodup_append.1 hnd
  have hb : ∀ k, k < w.heap.size → k ∉ x.keys → w'.heap[k]? = w.heap[k]? := he.block
  refine ⟨⟨he.os.trans h.ext.os, he.tape.trans h.ext.tape, he.output.trans h.ext.output, Nat.le_trans h.ext.size he.size, fun k hk0 hkK => ?_⟩, ?_, fun z hz => ?_, fun q hq => ?_⟩
  · have hnx : k ∉ x.keys := fun hkx => by
      rcases (hx.2.2 k hkx).2 with h1 | h1
      · exact hkK h1
      · omega
    exact (hb k (Nat.lt_of_lt_of_le hk0 h.ext.size) hnx).trans (h.ext.block k hk0 hkK)
  · simp only [keysOf]
    refine List.nodup_append.2 ⟨hn, hn2, fun k hky k' hks e => ?_⟩
    subst e
    rcases hk k hky with h1 | h1
    · exact hdis k h1 k hks rfl
    · obtain ⟨z, hz, hkz⟩ := mem_keysOf.1 hks
      have := ((h.own z (List.mem_cons_of_mem _ hz)).2.2 k hkz).1
      omega
  · rcases List.mem_cons.1 hz with rfl | hz
    · refine ⟨hy, hd, fun k hkz => ?_⟩
      rcases hk k hkz with h1 | h1
      · exact ⟨Nat.lt_of_lt_of_le (hx.2.2 k h1).1 he.size, (hx.2.2 k h1).2⟩
      · exact ⟨h1.2, .inr (Nat.le_trans h.ext.size h1.1)⟩
    · obtain ⟨h1, h2, h3⟩ := h.own z (List.mem_cons_of_mem _ hz)
      refine ⟨h2 w w' (fun k hkz => hb k (h3 k hkz).1 (fun hkx => hdis k hkx k (mem_keysOf.2 ⟨z, hz, hkz⟩) rfl)) h1, h2, fun k hkz => ⟨Nat.lt_of_lt_of_le (h3 k hkz).1 he.size, (h3 k hkz).2⟩⟩
  · obtain ⟨h1, S, h2, h3, h4⟩ := h.facts q hq
    refine ⟨h3 w w' (fun k hs => hb k (h2 k hs) (fun hkx => h4 k (by simp [keysOf, hkx]) hs)) h1, S, fun k hs => Nat.lt_of_lt_of_le (h2 k hs) he.size, h3, fun k hks => ?_⟩
    · simp only [keysOf, List.mem_append] at hks
      rcases hks with hky | hks
      · rcases hk k hky with h5 | h5
        · exact h4 k (by simp [keysOf, h5])
        · exact fun hs => by have := h2 _ hs; omega
      · exact h4 k (by simp [keysOf, hks])
/-- an own item comes to the front -/
theorem keysOf_append (σ τ : Own) : keysOf (σ ++ τ) = keysOf σ ++ keysOf τ := by
  induction σ with
  | nil => rfl
  | cons x σ ih => simp [keysOf, ih]
theorem St.perm {w0 w : World} {K : List Nat} {σ τ : Own} {ρ : Facts} (h : St w0 K w σ ρ) (hp : σ.Perm τ) : St w0 K w τ ρ := by
  have hk : (keysOf σ).Perm (keysOf τ) := by
    clear h
    induction hp with
    | nil => exact .nil
    | cons x _ ih => exact List.Perm.append_left _ ih
    | swap x y l =>
      simp only [keysOf, ← List.append_assoc]
      exact List.Perm.append_right _ List.perm_append_comm
    | trans _ _ ih1 ih2 => exact ih1.trans ih2
  exact ⟨h.ext, hk.nodup_iff.1 h.nodup, fun x hx => h.own x (hp.mem_iff.2 hx), fun q hq => by
    obtain ⟨h1, S, h2, h3, h4⟩ := h.facts q hq
    exact ⟨h1, S, h2, h3, fun k hk' => h4 k (hk.mem_iff.2 hk')⟩⟩
/-- an own item that is never written again becomes a fact -/
theorem St.keep {w0 w : World} {K : List Nat} {x : Item} {σ : Own} {ρ : Facts} (h : St w0 K w (x :: σ) ρ) : St w0 K w σ (x.holds :: ρ) := by
  have h' := h.drop
  refine ⟨h'.ext, h'.nodup, h'.own, fun q hq => ?_⟩
  rcases List.mem_cons.1 hq with rfl | hq
  · obtain ⟨h1, h2, h3⟩ := h.own x (by simp)
    refine ⟨h1, fun k => k ∈ x.keys, fun k hk => (h3 k hk).1, fun w1 w2 hb hw => h2 w1 w2 hb hw, fun k hk hs => ?_⟩
    have hnd := h.nodup
    simp only [keysOf] at hnd
    exact (List.nodup_append.1 hnd).2.2 k hs k hk rfl
  · exact h'.facts q hq
theorem St.keepItem {w0 w : World} {K : List Nat} {x : Item} {σ : Own} {ρ : Facts} (h : St w0 K w (x :: σ) ρ) {b : Nat} (_ : x.keys = [b]) : St w0 K w σ (x.holds :: ρ) := h.keep
/-- two facts as one -/
theorem St.and {w0 w : World} {K : List Nat} {σ : Own} {ρ : Facts} {p q : World → Prop} (h : St w0 K w σ ρ) (hp : p ∈ ρ) (hq : q ∈ ρ) : St w0 K w σ ((fun w => p w ∧ q w) :: ρ) :=
  ⟨h.ext, h.nodup, h.own, fun r hr => by
    rcases List.mem_cons.1 hr with rfl | hr
    · obtain ⟨h1, S, h2, h3, h4⟩ := h.facts p hp
      obtain ⟨g1, S', g2, g3, g4⟩ := h.facts q hq
      exact ⟨⟨h1, g1⟩, fun k => S k ∨ S' k, fun k hk => hk.elim (h2 k) (g2 k), fun w1 w2 hb ⟨a, b⟩ => ⟨h3 w1 w2 (fun k hk => hb k (.inl hk)) a, g3 w1 w2 (fun k hk => hb k (.inr hk)) b⟩, fun k hk hs => hs.elim (h4 k hk) (g4 k hk)⟩
    · exact h.facts r hr⟩
/-- a fact in other words -/
theorem St.iff {w0 w : World} {K : List Nat} {σ : Own} {ρ : Facts} {p q : World → Prop} (h : St w0 K w σ ρ) (hp : p ∈ ρ) (he : ∀ w, p w ↔ q w) : St w0 K w σ (q :: ρ) :=
  ⟨h.ext, h.nodup, h.own, fun r hr => by
    rcases List.mem_cons.1 hr with rfl | hr
    · obtain ⟨h1, S, h2, h3, h4⟩ := h.facts p hp
      exact ⟨(he w).1 h1, S, h2, fun w1 w2 hb hq => (he w2).1 (h3 w1 w2 hb ((he w1).2 hq)), h4⟩
    · exact h.facts r hr⟩

/-! ## code -/
def post (N : Act → World → Prop) (E : Nat → Act → World → Prop) (R : Act → World → Prop) : Exit → Act → World → Prop
  | .normal => N
  | .exit id => E id
  | .ret => R
  | _ => fun _ _ => False
/-- no bound on functions or depth; within the round of a range over a function, or in none -/
def FW (r : Option Nat) : Fence := { Fence.wide with round := r }
def W (r : Option Nat) (P : Program) (c : Code) (N : Act → World → Prop) (E : Nat → Act → World → Prop) (R : Act → World → Prop) (a : Act) (w : World) : Prop := c.wpIn (FW r) 9 P (post N E R) a w
/-- operations that no range over a function sees otherwise -/
def calm (o : Oper) : Bool := match o.op with
  | .defer _ => false
  | _ => true
theorem rows_in {r : Option Nat} {n : Nat} {P : Program} {row : String} {args : Array Value} {w : World} {R : Value → World → Prop} (h : Rows P row args w R) : RowsIn (FW r) n P row args w R := fun c cs _ =>
  let ⟨v, w', h1, h2⟩ := h c cs
  ⟨v, w', h1, stepsIn_wide.2 h2⟩
theorem calls_in {r : Option Nat} {n : Nat} {P : Program} {f : FuncId} {args : Array Value} {w : World} {R : Ending → World → Prop} (h : Calls P f args w R) : CallsIn (FW r) n P f args w R :=
  (callsIn_wide (n := n)).2 h
theorem calls_out {n : Nat} {P : Program} {f : FuncId} {args : Array Value} {w : World} {R : Ending → World → Prop} (h : CallsIn (FW none) n P f args w R) : Calls P f args w R :=
  (callsIn_wide (n := n)).1 h
theorem oper_in {r : Option Nat} {n : Nat} {P : Program} {o : Oper} {a : Act} {w : World} {K : Act → World → Prop} {Q : Exit → Act → World → Prop} (hc : calm o = true) (h : o.wp P a w K Q) : o.wpIn (FW r) n P a w K Q := by
  refine ⟨fun _ _ => trivial, ?_⟩
  rw [Oper.semAt_eq _ _ _ (fun c e => by simp [calm, e] at hc)]
  unfold Oper.wp at h
  generalize (execOp a.eval o).run P w = x at *
  cases x with
  | ok m w' =>
    cases m with
    | enter f args =>
      simp only [Oper.upon, Oper.uponIn] at h ⊢
      exact ⟨fun hd => by simp [FW, Fence.wide] at hd, calls_in h⟩
    | row row args =>
      simp only [Oper.upon, Oper.uponIn] at h ⊢
      exact ⟨fun hd => by simp [FW, Fence.wide] at hd, rows_in h⟩
    | _ => first | exact h | exact h.elim
  | halt y w' => cases y <;> simp only [Oper.upon, Oper.uponIn] at h ⊢ <;> exact h
theorem list_in {r : Option Nat} {n : Nat} {P : Program} {ops : Array Oper} {Q : Exit → Act → World → Prop} (hQ : ¬ LetsOut Q) : ∀ (l : List Oper) (a : Act) (w : World), l.all calm = true → wpList P ops Q l a w → wpListIn (FW r) n P ops Q l a w
  | [], _, _, _, h => h
  | o :: l, a, w, hc, h => by
    simp only [List.all_cons, Bool.and_eq_true] at hc
    unfold wpList at h
    unfold wpListIn
    split at h
    · rename_i hw
      rw [if_pos hw]
      rcases h with h | h
      · exact oper_in hc.1 (Oper.wp_mono (fun a w q => list_in hQ l a w hc.2 q) h)
      · exact absurd h.2 hQ
    · rename_i hw
      rw [if_neg hw]
      exact ⟨fun _ _ => trivial, list_in hQ l _ _ hc.2 h⟩
theorem any_in {r : Option Nat} {n : Nat} {P : Program} {md : Region.Mode} {l : List Oper} {Q : Exit → Act → World → Prop} (hQ : ¬ LetsOut Q) (hc : l.all calm = true) : ∀ (fuel : Nat) (listed : Array Bool) (a : Act) (w : World), wpAny P md l.toArray Q fuel listed a w → wpAnyIn (FW r) n P md l.toArray Q fuel listed a w
  | 0, _, _, _, h => h
  | fuel + 1, listed, a, w, h => ⟨h.1, fun i hi => by
      have h1 := wpOp_mono (fun a w q => any_in (r := r) (n := n) hQ hc fuel _ a w q) (h.2 i hi)
      unfold wpOp at h1
      unfold wpOpIn
      split at h1
      · rename_i ho; simp only [ho]; exact h1
      · rename_i o ho
        simp only [ho]
        have hco : calm o = true := List.all_eq_true.1 hc o (List.mem_of_getElem? (i := i) (by simpa using ho))
        split at h1
        · rename_i hw
          rw [if_pos hw]
          rcases h1 with h1 | h1
          · exact oper_in hco h1
          · exact absurd h1.2 hQ
        · rename_i hw
          rw [if_neg hw]
          exact ⟨fun _ _ => trivial, h1⟩⟩
theorem post_out {N : Act → World → Prop} {E : Nat → Act → World → Prop} {R : Act → World → Prop} : ¬ LetsOut (post N E R) := fun ⟨_, _, h⟩ => h
abbrev noE : Nat → Act → World → Prop := fun _ _ _ => False
abbrev noR : Act → World → Prop := fun _ _ => False
def eset (E : Nat → Act → World → Prop) (id : Nat) (N : Act → World → Prop) : Nat → Act → World → Prop := fun i => if i = id then N else E i
/-- wherever the slots hold L and memory is as said, N -/
def Cont (w0 : World) (K : List Nat) (n : Sz) (N : Act → World → Prop) (L : Slots) (σ : Own) (ρ : Facts) : Prop := ∀ a w, Fr a n L → St w0 K w σ ρ → N a w
/-- the rest l of a region -/
def WL (P : Program) (w0 : World) (K : List Nat) (n : Sz) (ops : Array Oper) (l : List Oper) (N : Act → World → Prop) (L : Slots) (σ : Own) (ρ : Facts) : Prop :=
  ∀ a w, Fr a n L → St w0 K w σ ρ → wpList P ops (post N noE noR) l a w
/-- the rest l of a region that draws its order -/
def QL (P : Program) (w0 : World) (K : List Nat) (n : Sz) (ops : Array Oper) (l : List Oper) (N : Act → World → Prop) (L : Slots) (σ : Own) (ρ : Facts) : Prop :=
  ∀ a, Fr a n L → wpQuiet P ops (fun w => St w0 K w σ ρ) (fun a' => ∀ w', St w0 K w' σ ρ → N a' w') l a

section
variable {P : Program} {r : Option Nat} {w0 : World} {K : List Nat} {n : Sz} {N : Act → World → Prop} {E : Nat → Act → World → Prop} {R : Act → World → Prop} {L : Slots} {σ : Own} {ρ : Facts}

theorem W_mono {c : Code} {N' : Act → World → Prop} {E' : Nat → Act → World → Prop} {R' : Act → World → Prop} {a : Act} {w : World} (h : W r P c N E R a w)
    (hN : ∀ a w, N a w → N' a w) (hE : ∀ i a w, E i a w → E' i a w) (hR : ∀ a w, R a w → R' a w) : W r P c N' E' R' a w :=
  wpIn_mono h fun e a w q => by
    cases e with
    | normal => exact hN _ _ q
    | exit i => exact hE _ _ _ q
    | ret => exact hR _ _ q
    | _ => exact q
theorem c_seq {x y : Code} (h : Cont w0 K n (W r P x (W r P y N E R) E R) L σ ρ) : Cont w0 K n (W r P (.seq x y) N E R) L σ ρ := fun a w hf hs =>
  wpIn_seq (wpIn_mono (h a w hf hs) fun e a w q => by cases e <;> exact q)
theorem c_reg {id : Nat} {l : List Oper} (h : WL P w0 K n l.toArray l N L σ ρ) (hc : l.all calm = true := by rfl) : Cont w0 K n (W r P (.region id l.toArray false) N E R) L σ ρ := fun a w hf hs =>
  wpIn_mono (wpIn_region_lit (list_in post_out l a w hc (h a w hf hs))) fun e a w q => by
    cases e with
    | normal => exact q
    | _ => exact q.elim
theorem c_draw {id : Nat} {l : List Oper} (hm : P.follows .mixedOrders = true) (hB : Region.lexB .any l.toArray = true) (h : QL P w0 K n l.toArray l N L σ ρ) (hc : l.all calm = true := by rfl) :
    Cont w0 K n (W r P (.region id l.toArray true) N E R) L σ ρ := fun a w hf hs => by
  have hany : wpAny P .any l.toArray (post N noE noR) l.toArray.size (Array.replicate l.toArray.size false) a { w with drawn := w.drawn + 1 } := by
    simp only [Region.lexB, Bool.and_eq_true] at hB
    refine wpAny_of_quiet (C := fun w => St w0 K w σ ρ) (Q := fun a' => ∀ w', St w0 K w' σ ρ → (post N noE noR) .normal a' w') (fun _ w' hw' h => h w' hw') _ _ _ _ hs.drewN ?_
    have := wpAnyQ_lex (C := fun w => St w0 K w σ ρ) (md := .any) hB.1 l.toArray.toList 0 (Array.replicate l.toArray.size false) a (by simp) (by simpa using hB.2) (h a hf)
    rw [show l.toArray.toList.length = l.toArray.size by simp] at this
    exact this
  refine wpIn_mono (wpIn_region_any hm (any_in post_out hc _ _ _ _ hany)) fun e a w q => ?_
  cases e with
  | normal => exact q
  | _ => exact q.elim
theorem c_block {id : Nat} {c : Code} (h : Cont w0 K n (W r P c N (eset E id N) R) L σ ρ) : Cont w0 K n (W r P (.block id c) N E R) L σ ρ := fun a w hf hs =>
  wpIn_block (wpIn_mono (h a w hf hs) fun e a w q => by
    cases e with
    | exit i =>
      simp only [post, eset, Exit.inBlock] at q ⊢
      split
      · rename_i hi; rw [if_pos hi] at q; exact q
      · rename_i hi; rw [if_neg hi] at q; exact q
    | _ => exact q)
theorem c_skip (h : Cont w0 K n N L σ ρ) : Cont w0 K n (W r P .skip N E R) L σ ρ := fun a w hf hs => wpIn_skip (h a w hf hs)
theorem c_label {l : Nat} (h : Cont w0 K n N L σ ρ) : Cont w0 K n (W r P (.label l) N E R) L σ ρ := fun a w hf hs => wpIn_label (h a w hf hs)
theorem c_exit {id : Nat} (h : Cont w0 K n (E id) L σ ρ) : Cont w0 K n (W r P (.exit id) N E R) L σ ρ := fun a w hf hs => wpIn_exit (h a w hf hs)
theorem c_here {id : Nat} (h : Cont w0 K n N L σ ρ) : Cont w0 K n (eset E id N id) L σ ρ := fun a w hf hs => by
  show eset E id N id a w
  unfold eset; rw [if_pos rfl]; exact h a w hf hs
theorem c_out {id i : Nat} (hne : i ≠ id) (h : Cont w0 K n (E i) L σ ρ) : Cont w0 K n (eset E id N i) L σ ρ := fun a w hf hs => by
  show eset E id N i a w
  unfold eset; rw [if_neg hne]; exact h a w hf hs
theorem c_ret (h : Cont w0 K n R L σ ρ) : Cont w0 K n (W r P .ret N E R) L σ ρ := fun a w hf hs => wpIn_ret (h a w hf hs)
theorem c_cond {c : Operand} {x y : Code} {b : Bool} (hc : ev L c = some (.bool b)) (ht : b = true → Cont w0 K n (W r P x N E R) L σ ρ) (hf : b = false → Cont w0 K n (W r P y N E R) L σ ρ) :
    Cont w0 K n (W r P (.cond c x y) N E R) L σ ρ := fun a w hfr hs =>
  wpIn_cond_split (hfr.ev hc) (fun h => ht h a w hfr hs) (fun h => hf h a w hfr hs)
theorem c_dec {c : Operand} {x y : Code} {p : Prop} [Decidable p] (hc : ev L c = some (.bool (decide p))) (ht : p → Cont w0 K n (W r P x N E R) L σ ρ) (hf : ¬ p → Cont w0 K n (W r P y N E R) L σ ρ) :
    Cont w0 K n (W r P (.cond c x y) N E R) L σ ρ :=
  c_cond hc (fun h => ht (by simpa using h)) (fun h => hf (by simpa using h))
theorem c_true {c : Operand} {x y : Code} (hc : ev L c = some (.bool true)) (ht : Cont w0 K n (W r P x N E R) L σ ρ) : Cont w0 K n (W r P (.cond c x y) N E R) L σ ρ :=
  c_cond hc (fun _ => ht) (fun h => by cases h)
theorem c_false {c : Operand} {x y : Code} (hc : ev L c = some (.bool false)) (ht : Cont w0 K n (W r P y N E R) L σ ρ) : Cont w0 K n (W r P (.cond c x y) N E R) L σ ρ :=
  c_cond hc (fun h => by cases h) (fun _ => ht)
/-- fewer slots, fewer facts, the own items in another order -/
theorem c_weak {L' : Slots} {σ' : Own} {ρ' : Facts} (hL : SubL L' L) (hσ : σ.Perm σ') (hρ : ∀ q, q ∈ ρ' → q ∈ ρ) (h : Cont w0 K n N L' σ' ρ') : Cont w0 K n N L σ ρ := fun a w hf hs =>
  h a w (hf.sub hL) ((hs.perm hσ).weak hρ)
/-- where ways meet: one of many states -/
def J {S : Type} (w0 : World) (K : List Nat) (n : Sz) (inv : S → Prop) (Lf : S → Slots) (σf : S → Own) (ρf : S → Facts) : Act → World → Prop :=
  fun a w => ∃ s, inv s ∧ Fr a n (Lf s) ∧ St w0 K w (σf s) (ρf s)
theorem c_join {S : Type} {inv : S → Prop} {Lf : S → Slots} {σf : S → Own} {ρf : S → Facts} (s : S) (hi : inv s) (hL : SubL (Lf s) L) (hσ : σ.Perm (σf s)) (hρ : ∀ q, q ∈ ρf s → q ∈ ρ) :
    Cont w0 K n (J w0 K n inv Lf σf ρf) L σ ρ := fun _ _ hf hs => ⟨s, hi, hf.sub hL, (hs.perm hσ).weak hρ⟩
/-- a statement whose ways meet again -/
theorem c_meet {S : Type} {x y : Code} (inv : S → Prop) (Lf : S → Slots) (σf : S → Own) (ρf : S → Facts) (hx : Cont w0 K n (W r P x (J w0 K n inv Lf σf ρf) E R) L σ ρ)
    (hy : ∀ s, inv s → Cont w0 K n (W r P y N E R) (Lf s) (σf s) (ρf s)) : Cont w0 K n (W r P (.seq x y) N E R) L σ ρ := fun a w hf hs =>
  c_seq (fun a w hf hs => W_mono (hx a w hf hs) (fun a w ⟨s, h1, h2, h3⟩ => hy s h1 a w h2 h3) (fun _ _ _ h => h) (fun _ _ h => h)) a w hf hs
theorem exists_least (p : Nat → Prop) : ∀ k, p k → ∃ i, p i ∧ ∀ j, p j → i ≤ j := by
  intro k
  induction k using Nat.strongRecOn with
  | _ k ih =>
    intro hk
    by_cases h : ∃ j, p j ∧ j < k
    · obtain ⟨j, hj, hlt⟩ := h; exact ih j hlt hj
    · exact ⟨k, hk, fun j hj => Nat.le_of_not_lt fun hlt => h ⟨j, hj, hlt⟩⟩
theorem least_fun {X : Type} (p : X → Nat → Prop) : ∃ f : X → Nat, ∀ x k, p x k → p x (f x) ∧ f x ≤ k := by
  have h : ∀ x, ∃ i, ∀ k, p x k → p x i ∧ i ≤ k := fun x => by
    by_cases h : ∃ k, p x k
    · obtain ⟨k, hk⟩ := h
      obtain ⟨i, hi, hl⟩ := exists_least (p x) k hk
      exact ⟨i, fun k hk => ⟨hi, hl k hk⟩⟩
    · exact ⟨0, fun k hk => absurd ⟨k, hk⟩ h⟩
  exact ⟨fun x => Classical.choose (h x), fun x => Classical.choose_spec (h x)⟩
/-- a loop -/
theorem c_loop {S : Type} {c : Code} (inv : S → Prop) (m : S → Nat) (Lf : S → Slots) (σf : S → Own) (ρf : S → Facts) (s0 : S) (hi : inv s0) (hL : SubL (Lf s0) L) (hσ : σ.Perm (σf s0)) (hρ : ∀ q, q ∈ ρf s0 → q ∈ ρ)
    (round : ∀ s, inv s → Cont w0 K n (W r P c (J w0 K n (fun s' => inv s' ∧ m s' < m s) Lf σf ρf) E R) (Lf s) (σf s) (ρf s)) : Cont w0 K n (W r P (.loop c) N E R) L σ ρ := fun a w hf hst => by
  obtain ⟨f, hfun⟩ := least_fun (X := Act × World) (fun x i => ∃ s, inv s ∧ Fr x.1 n (Lf s) ∧ St w0 K x.2 (σf s) (ρf s) ∧ m s = i)
  refine wpIn_loop (fun a w => ∃ s, inv s ∧ Fr a n (Lf s) ∧ St w0 K w (σf s) (ρf s)) (fun a w => f (a, w)) ⟨s0, hi, hf.sub hL, (hst.perm hσ).weak hρ⟩ ?_
  intro a w ⟨s, h1, h2, h3⟩
  obtain ⟨⟨t, t1, t2, t3, t4⟩, _⟩ := hfun (a, w) (m s) ⟨s, h1, h2, h3, rfl⟩
  refine wpIn_mono (round t t1 a w t2 t3) fun e a' w' q => ?_
  cases e with
  | normal =>
    obtain ⟨u, ⟨u1, u2⟩, u3, u4⟩ := q
    refine ⟨⟨u, u1, u3, u4⟩, ?_⟩
    have := (hfun (a', w') (m u) ⟨u, u1, u3, u4, rfl⟩).2
    show f (a', w') < f (a, w)
    omega
  | _ => exact q
end

/-! ## operations -/
/-- whatever the world: the operation yields v and leaves the world alone -/
def Pure (P : Program) (op : Op) (ty : TypeId) (L : Slots) (v : Value) : Prop :=
  ∀ (e : Operand → Value) (o : Oper) (w : World), o.op = op → o.type = ty → (∀ x u, ev L x = some u → e x = u) → (execOp e o).run P w = .ok (.value v) w
/-- in every world with this memory the operation yields v, and leaves such a world -/
def Qui (P : Program) (w0 : World) (K : List Nat) (n : Sz) (op : Op) (ty : TypeId) (L : Slots) (σ : Own) (ρ : Facts) (v : Value) : Prop :=
  ∀ (a : Act) (o : Oper) (w : World), o.op = op → o.type = ty → Fr a n L → St w0 K w σ ρ → o.quietAt P a (fun w => St w0 K w σ ρ) w v
theorem Pure.q {P : Program} {w0 : World} {K : List Nat} {n : Sz} {op : Op} {ty : TypeId} {L : Slots} {σ : Own} {ρ : Facts} {v : Value} (h : Pure P op ty L v) : Qui P w0 K n op ty L σ ρ v := fun a o w ho ht hf _ => by
  unfold Oper.quietAt
  rw [h a.eval o w ho ht (fun x u hx => hf.ev hx)]
  exact ⟨rfl, rfl⟩
/-- in every world with this memory the operation yields v and leaves the world alone -/
def Reads (P : Program) (w0 : World) (K : List Nat) (op : Op) (ty : TypeId) (L : Slots) (σ : Own) (ρ : Facts) (v : Value) : Prop :=
  ∀ (e : Operand → Value) (o : Oper) (w : World), o.op = op → o.type = ty → (∀ x u, ev L x = some u → e x = u) → St w0 K w σ ρ → (execOp e o).run P w = .ok (.value v) w
theorem Reads.q {P : Program} {w0 : World} {K : List Nat} {n : Sz} {op : Op} {ty : TypeId} {L : Slots} {σ : Own} {ρ : Facts} {v : Value} (h : Reads P w0 K op ty L σ ρ v) : Qui P w0 K n op ty L σ ρ v := fun a o w ho ht hf hs => by
  unfold Oper.quietAt
  rw [h a.eval o w ho ht (fun x u hx => hf.ev hx) hs]
  exact ⟨rfl, rfl⟩

section
variable {P : Program} {w0 : World} {K : List Nat} {n : Sz} {N : Act → World → Prop} {L : Slots} {σ : Own} {ρ : Facts} {ops : Array Oper} {rest : List Oper}
theorem l_nil (h : Cont w0 K n N L σ ρ) : WL P w0 K n ops [] N L σ ρ := fun a w hf hs => h a w hf hs
theorem q_nil (h : Cont w0 K n N L σ ρ) : QL P w0 K n ops [] N L σ ρ := fun a hf w hs => h a w hf hs
theorem l_q {d : Nat} {op : Op} {ty : TypeId} {pos : String} {aft : Array Edge} {v : Value} (hd : d < n) (hq : Qui P w0 K n op ty L σ ρ v) (h : WL P w0 K n ops rest N ((d, v) :: L) σ ρ) :
    WL P w0 K n ops (⟨some d, op, ty, pos, aft, none⟩ :: rest) N L σ ρ := fun a w hf hs => by
  refine wpList_plain rfl fun K' hK => ?_
  exact Oper.wp_of_quiet (C := fun w => St w0 K w σ ρ) hs (K := fun a' => a' = a.put (some d) v) (fun a' w' hs' ha => by subst ha; exact hK _ _ (h _ _ (hf.put hd v) hs'))
    ⟨v, fun w' hs' => hq a _ w' rfl rfl hf hs', rfl⟩
theorem q_q {d : Nat} {op : Op} {ty : TypeId} {pos : String} {aft : Array Edge} {v : Value} (hd : d < n) (hq : Qui P w0 K n op ty L σ ρ v) (h : QL P w0 K n ops rest N ((d, v) :: L) σ ρ) :
    QL P w0 K n ops (⟨some d, op, ty, pos, aft, none⟩ :: rest) N L σ ρ := fun a hf => by
  have hw : Region.wanted ⟨some d, op, ty, pos, aft, none⟩ (yielded ops a.tmps) = true := rfl
  unfold wpQuiet
  rw [if_pos hw]
  exact ⟨v, fun w' hs' => hq a _ w' rfl rfl hf hs', h _ (hf.put hd v)⟩
/-! guards -/
theorem Fr.yielded {a : Act} (hf : Fr a n L) {j dj : Nat} {v : Value} (hj : (ops[j]?).bind (·.dst) = some dj) (hv : look L dj = some v) : yielded ops a.tmps j = (match v with | .bool b => some b | _ => none) := by
  unfold Go.yielded
  rw [hj]
  simp only [Option.bind_some, hf.at_ dj v hv]
  cases v <;> rfl
theorem l_g {d j dj : Nat} {b : Bool} {op : Op} {ty : TypeId} {pos : String} {aft : Array Edge} {v : Value} (hj : (ops[j]?).bind (·.dst) = some dj) (hv : look L dj = some (.bool b)) (hd : d < n) (hq : Qui P w0 K n op ty L σ ρ v)
    (h : WL P w0 K n ops rest N ((d, v) :: L) σ ρ) : WL P w0 K n ops (⟨some d, op, ty, pos, aft, some (j, b)⟩ :: rest) N L σ ρ := fun a w hf hs => by
  have hw : Region.wanted ⟨some d, op, ty, pos, aft, some (j, b)⟩ (yielded ops a.tmps) = true := by simp [Region.wanted, hf.yielded hj hv]
  unfold wpList
  rw [if_pos hw]
  refine .inl (Oper.wp_of_quiet (C := fun w => St w0 K w σ ρ) hs (K := fun a' => a' = a.put (some d) v) (fun a' w' hs' ha => by subst ha; exact h _ _ (hf.put hd v) hs')
    ⟨v, fun w' hs' => hq a _ w' rfl rfl hf hs', rfl⟩)
theorem q_g {d j dj : Nat} {b : Bool} {op : Op} {ty : TypeId} {pos : String} {aft : Array Edge} {v : Value} (hj : (ops[j]?).bind (·.dst) = some dj) (hv : look L dj = some (.bool b)) (hd : d < n) (hq : Qui P w0 K n op ty L σ ρ v)
    (h : QL P w0 K n ops rest N ((d, v) :: L) σ ρ) : QL P w0 K n ops (⟨some d, op, ty, pos, aft, some (j, b)⟩ :: rest) N L σ ρ := fun a hf => by
  have hw : Region.wanted ⟨some d, op, ty, pos, aft, some (j, b)⟩ (yielded ops a.tmps) = true := by simp [Region.wanted, hf.yielded hj hv]
  unfold wpQuiet
  rw [if_pos hw]
  exact ⟨v, fun w' hs' => hq a _ w' rfl rfl hf hs', h _ (hf.put hd v)⟩
theorem l_off {d j dj : Nat} {b : Bool} {op : Op} {ty : TypeId} {pos : String} {aft : Array Edge} {u : Value} (hj : (ops[j]?).bind (·.dst) = some dj) (hv : look L dj = some u) (hu : u ≠ .bool b) (hd : d < n)
    (h : WL P w0 K n ops rest N ((d, undef) :: L) σ ρ) : WL P w0 K n ops (⟨some d, op, ty, pos, aft, some (j, b)⟩ :: rest) N L σ ρ := fun a w hf hs => by
  have hw : ¬ Region.wanted ⟨some d, op, ty, pos, aft, some (j, b)⟩ (yielded ops a.tmps) = true := by
    simp only [Region.wanted, hf.yielded hj hv]
    cases u <;> simp_all
  unfold wpList
  rw [if_neg hw]
  exact h _ _ (hf.put hd _) hs
theorem q_off {d j dj : Nat} {b : Bool} {op : Op} {ty : TypeId} {pos : String} {aft : Array Edge} {u : Value} (hj : (ops[j]?).bind (·.dst) = some dj) (hv : look L dj = some u) (hu : u ≠ .bool b) (hd : d < n)
    (h : QL P w0 K n ops rest N ((d, undef) :: L) σ ρ) : QL P w0 K n ops (⟨some d, op, ty, pos, aft, some (j, b)⟩ :: rest) N L σ ρ := fun a hf => by
  have hw : ¬ Region.wanted ⟨some d, op, ty, pos, aft, some (j, b)⟩ (yielded ops a.tmps) = true := by
    simp only [Region.wanted, hf.yielded hj hv]
    cases u <;> simp_all
  unfold wpQuiet
  rw [if_neg hw]
  exact h _ (hf.put hd _)
/-- a bool in a slot: two cases -/
theorem l_split (p : Prop) [Decidable p] (h1 : p → WL P w0 K n ops rest N L σ ρ) (h2 : ¬ p → WL P w0 K n ops rest N L σ ρ) : WL P w0 K n ops rest N L σ ρ := by
  by_cases h : p
  · exact h1 h
  · exact h2 h
theorem subL_refl (L : Slots) : ∀ i v, look L i = some v → look L i = some v := fun _ _ h => h
/-- slots that are read the same: fewer, in another order, spelled otherwise -/
theorem l_sub {M : Slots} (hs : SubL M L) (h : WL P w0 K n ops rest N M σ ρ) : WL P w0 K n ops rest N L σ ρ := fun a w hf hst => h a w (hf.sub hs) hst
theorem q_sub {M : Slots} (hs : SubL M L) (h : QL P w0 K n ops rest N M σ ρ) : QL P w0 K n ops rest N L σ ρ := fun a hf => h a (hf.sub hs)
end

/-! ### operations that look at no memory -/
/-- a string -/
def str (l : List UInt8) : Value := .string ⟨l.toArray⟩
/-- the greatest number of a kind -/
def top : IntKind → Nat
  | .i8 => 127 | .i16 => 32767 | .i32 => 2147483647 | .i64 => 9223372036854775807
  | .u8 => 255 | .u16 => 65535 | .u32 => 4294967295 | .u64 => 18446744073709551615
def bot : IntKind → Int
  | .i8 => -128 | .i16 => -32768 | .i32 => -2147483648 | .i64 => -9223372036854775808
  | _ => 0
theorem wrap_in (k : IntKind) (x : Int) (h1 : bot k ≤ x) (h2 : x ≤ top k) : k.wrap x = x := by
  cases k <;> simp only [bot, top] at h1 h2 <;> simp [IntKind.wrap, IntKind.bits, IntKind.signed] <;> omega
theorem wrap_nat (k : IntKind) (m : Nat) (h : m ≤ top k) : k.wrap (m : Int) = m := wrap_in k m (by cases k <;> simp [bot] <;> omega) (by omega)
def isU : IntKind → Bool
  | .u8 | .u16 | .u32 | .u64 => true
  | _ => false
theorem wrap_mod (k : IntKind) (m : Nat) (h : isU k = true) : k.wrap (m : Int) = ((m % (top k + 1) : Nat) : Int) := by
  cases k <;> simp [isU] at h <;> simp [IntKind.wrap, IntKind.bits, IntKind.signed, top]

section
variable {P : Program} {L : Slots} {ty : TypeId}
theorem p_move {x : Operand} {v : Value} (hx : ev L x = some v) : Pure P (.move x) ty L v := fun e o w ho _ he => by
  simp [execOp, ho, he x v hx]
theorem p_assign {x : Operand} {v : Value} (hx : ev L x = some v) : Pure P (.assign x) ty L v := fun e o w ho _ he => by
  simp [execOp, ho, he x v hx]
theorem p_pick {c x y : Operand} {b : Bool} {v : Value} (hc : ev L c = some (.bool b)) (hv : ev L (if b then x else y) = some v) : Pure P (.pick c x y) ty L v := fun e o w ho _ he => by
  simp only [execOp, ho, he c _ hc]
  cases b
  · simp only [Bool.false_eq_true, if_false] at hv; have := he y v hv; simp [asBool, this]
  · simp only [if_true] at hv; have := he x v hv; simp [asBool, this]
theorem p_not {x : Operand} {t : TypeId} {b : Bool} (hx : ev L x = some (.bool b)) : Pure P (.unOp .not t x) ty L (.bool (!b)) := fun e o w ho _ he => by
  simp [execOp, ho, he x _ hx, Op.unary]
theorem p_notd {x : Operand} {t : TypeId} {p : Prop} [Decidable p] (hx : ev L x = some (.bool (decide p))) : Pure P (.unOp .not t x) ty L (.bool (decide (¬ p))) := by
  have := p_not (P := P) (ty := ty) (t := t) hx
  rw [show (decide ¬p) = !(decide p) by simp]
  exact this
theorem run_bin_int (op : BinOp) (t : TypeId) (x y : Operand) (k : IntKind) (a b : Int) (w : World) (r : Value) (h : (binOp op t (.int k a) (.int k b)).run P w = .ok r w) (e : Operand → Value) (o : Oper) (t2 : TypeId)
    (ho : o.op = .binOp op t x y t2) (hx : e x = .int k a) (hy : e y = .int k b) : (execOp e o).run P w = .ok (.value r) w := by
  simp only [execOp, ho, hx, hy]
  cases op <;> simp_all [eqGuard]
theorem p_int {op : BinOp} {t t2 : TypeId} {x y : Operand} {k : IntKind} {a b : Int} {r : Value} (hx : ev L x = some (.int k a)) (hy : ev L y = some (.int k b)) (h : ∀ w, (binOp op t (.int k a) (.int k b)).run P w = .ok r w) :
    Pure P (.binOp op t x y t2) ty L r := fun e o w ho _ he => run_bin_int op t x y k a b w r (h w) e o t2 ho (he x _ hx) (he y _ hy)
/- natural numbers -/
theorem p_add {t t2 : TypeId} {x y : Operand} {k : IntKind} {a b : Int} {i j : Nat} (hx : ev L x = some (.int k a)) (hy : ev L y = some (.int k b)) (ha : a = (i : Int)) (hb : b = (j : Int)) (h : i + j ≤ top k) :
    Pure P (.binOp .add t x y t2) ty L (.int k ((i + j : Nat) : Int)) := p_int hx hy fun w => by
  subst ha; subst hb
  have := wrap_nat k (i + j) h
  simp [binOp, Op.intArith] at *
  rw [this]
theorem p_sub {t t2 : TypeId} {x y : Operand} {k : IntKind} {a b : Int} {i j : Nat} (hx : ev L x = some (.int k a)) (hy : ev L y = some (.int k b)) (ha : a = (i : Int)) (hb : b = (j : Int)) (hj : j ≤ i) (h : i ≤ top k) :
    Pure P (.binOp .sub t x y t2) ty L (.int k ((i - j : Nat) : Int)) := p_int hx hy fun w => by
  subst ha; subst hb
  have := wrap_nat k (i - j) (by omega)
  rw [Int.ofNat_sub hj] at this
  simp [binOp, Op.intArith, this]
  omega
theorem p_mul {t t2 : TypeId} {x y : Operand} {k : IntKind} {a b : Int} {i j : Nat} (hx : ev L x = some (.int k a)) (hy : ev L y = some (.int k b)) (ha : a = (i : Int)) (hb : b = (j : Int)) (h : i * j ≤ top k) :
    Pure P (.binOp .mul t x y t2) ty L (.int k ((i * j : Nat) : Int)) := p_int hx hy fun w => by
  subst ha; subst hb
  have := wrap_nat k (i * j) h
  simp [binOp, Op.intArith] at *
  rw [this]
theorem p_mulU {t t2 : TypeId} {x y : Operand} {k : IntKind} {a b : Int} {i j : Nat} (hx : ev L x = some (.int k a)) (hy : ev L y = some (.int k b)) (ha : a = (i : Int)) (hb : b = (j : Int)) (h : isU k = true) :
    Pure P (.binOp .mul t x y t2) ty L (.int k ((i * j % (top k + 1) : Nat) : Int)) := p_int hx hy fun w => by
  subst ha; subst hb
  have := wrap_mod k (i * j) h
  rw [Int.natCast_mul] at this
  simp only [binOp, Op.intArith, ne_eq, not_true_eq_false, if_false]
  rw [this]; rfl
theorem p_rem {t t2 : TypeId} {x y : Operand} {k : IntKind} {a b : Int} {i j : Nat} (hx : ev L x = some (.int k a)) (hy : ev L y = some (.int k b)) (ha : a = (i : Int)) (hb : b = (j : Int)) (h : 0 < j) :
    Pure P (.binOp .rem t x y t2) ty L (.int k ((i % j : Nat) : Int)) := p_int hx hy fun w => by
  subst ha; subst hb
  have h2 : ¬ (j = 0) := by omega
  have h3 : (i : Int).tmod (j : Int) = (i : Int) % (j : Int) := by rw [Int.tmod_eq_emod_of_nonneg (by omega)]
  simp [binOp, Op.intDiv, h2, h3]
theorem p_quo {t t2 : TypeId} {x y : Operand} {k : IntKind} {a b : Int} {i j : Nat} (hx : ev L x = some (.int k a)) (hy : ev L y = some (.int k b)) (ha : a = (i : Int)) (hb : b = (j : Int)) (h : 0 < j) (hi : i ≤ top k) :
    Pure P (.binOp .quo t x y t2) ty L (.int k ((i / j : Nat) : Int)) := p_int hx hy fun w => by
  subst ha; subst hb
  have h0 : ¬ (j = 0) := by omega
  have h3 : (i : Int).tdiv (j : Int) = ((i / j : Nat) : Int) := by rw [Int.tdiv_eq_ediv_of_nonneg (by omega)]; rfl
  have := wrap_nat k (i / j) (Nat.le_trans (Nat.div_le_self _ _) hi)
  simp only [binOp, Op.intDiv, ne_eq, not_true_eq_false, if_false, h3, this]
  simp [h0]
/- integers -/
theorem p_addi {t t2 : TypeId} {x y : Operand} {k : IntKind} {a b : Int} (hx : ev L x = some (.int k a)) (hy : ev L y = some (.int k b)) (h : bot k ≤ a + b) (h' : a + b ≤ top k) :
    Pure P (.binOp .add t x y t2) ty L (.int k (a + b)) := p_int hx hy fun w => by simp [binOp, Op.intArith, wrap_in k _ h h']
theorem p_subi {t t2 : TypeId} {x y : Operand} {k : IntKind} {a b : Int} (hx : ev L x = some (.int k a)) (hy : ev L y = some (.int k b)) (h : bot k ≤ a - b) (h' : a - b ≤ top k) :
    Pure P (.binOp .sub t x y t2) ty L (.int k (a - b)) := p_int hx hy fun w => by simp [binOp, Op.intArith, wrap_in k _ h h']
/-- a number that is known by other means -/
theorem p_addz {t t2 : TypeId} {x y : Operand} {k : IntKind} {a b : Int} (z : Int) (hx : ev L x = some (.int k a)) (hy : ev L y = some (.int k b)) (hz : a + b = z) (h : bot k ≤ z) (h' : z ≤ top k) :
    Pure P (.binOp .add t x y t2) ty L (.int k z) := by subst hz; exact p_addi hx hy h h'
theorem p_subz {t t2 : TypeId} {x y : Operand} {k : IntKind} {a b : Int} (z : Int) (hx : ev L x = some (.int k a)) (hy : ev L y = some (.int k b)) (hz : a - b = z) (h : bot k ≤ z) (h' : z ≤ top k) :
    Pure P (.binOp .sub t x y t2) ty L (.int k z) := by subst hz; exact p_subi hx hy h h'
/- comparisons -/
theorem p_lss {t t2 : TypeId} {x y : Operand} {k : IntKind} {a b : Int} {i j : Nat} (hx : ev L x = some (.int k a)) (hy : ev L y = some (.int k b)) (ha : a = (i : Int)) (hb : b = (j : Int)) :
    Pure P (.binOp .lss t x y t2) ty L (.bool (decide (i < j))) := p_int hx hy fun w => by subst ha; subst hb; simp [binOp, Op.intCmp]
theorem p_leq {t t2 : TypeId} {x y : Operand} {k : IntKind} {a b : Int} {i j : Nat} (hx : ev L x = some (.int k a)) (hy : ev L y = some (.int k b)) (ha : a = (i : Int)) (hb : b = (j : Int)) :
    Pure P (.binOp .leq t x y t2) ty L (.bool (decide (i ≤ j))) := p_int hx hy fun w => by subst ha; subst hb; simp [binOp, Op.intCmp]
theorem p_gtr {t t2 : TypeId} {x y : Operand} {k : IntKind} {a b : Int} {i j : Nat} (hx : ev L x = some (.int k a)) (hy : ev L y = some (.int k b)) (ha : a = (i : Int)) (hb : b = (j : Int)) :
    Pure P (.binOp .gtr t x y t2) ty L (.bool (decide (j < i))) := p_int hx hy fun w => by subst ha; subst hb; simp [binOp, Op.intCmp]
theorem p_geq {t t2 : TypeId} {x y : Operand} {k : IntKind} {a b : Int} {i j : Nat} (hx : ev L x = some (.int k a)) (hy : ev L y = some (.int k b)) (ha : a = (i : Int)) (hb : b = (j : Int)) :
    Pure P (.binOp .geq t x y t2) ty L (.bool (decide (j ≤ i))) := p_int hx hy fun w => by subst ha; subst hb; simp [binOp, Op.intCmp]
theorem p_eql {t t2 : TypeId} {x y : Operand} {k : IntKind} {a b : Int} {i j : Nat} (hx : ev L x = some (.int k a)) (hy : ev L y = some (.int k b)) (ha : a = (i : Int)) (hb : b = (j : Int)) :
    Pure P (.binOp .eql t x y t2) ty L (.bool (decide (i = j))) := p_int hx hy fun w => by
  subst ha; subst hb
  simp only [binOp, Op.intCmp, ne_eq, not_true_eq_false, if_false]
  rw [show ((i : Int) == (j : Int)) = decide (i = j) by rw [Bool.eq_iff_iff]; simp; try omega]; rfl
theorem p_neq {t t2 : TypeId} {x y : Operand} {k : IntKind} {a b : Int} {i j : Nat} (hx : ev L x = some (.int k a)) (hy : ev L y = some (.int k b)) (ha : a = (i : Int)) (hb : b = (j : Int)) :
    Pure P (.binOp .neq t x y t2) ty L (.bool (decide (i ≠ j))) := p_int hx hy fun w => by
  subst ha; subst hb
  simp only [binOp, Op.intCmp, ne_eq, not_true_eq_false, if_false]
  rw [show ((i : Int) != (j : Int)) = decide (¬ i = j) by rw [Bool.eq_iff_iff]; simp; try omega]; rfl
theorem p_lssi {t t2 : TypeId} {x y : Operand} {k : IntKind} {a b : Int} (hx : ev L x = some (.int k a)) (hy : ev L y = some (.int k b)) : Pure P (.binOp .lss t x y t2) ty L (.bool (decide (a < b))) := p_int hx hy fun w => by simp [binOp, Op.intCmp]
theorem p_leqi {t t2 : TypeId} {x y : Operand} {k : IntKind} {a b : Int} (hx : ev L x = some (.int k a)) (hy : ev L y = some (.int k b)) : Pure P (.binOp .leq t x y t2) ty L (.bool (decide (a ≤ b))) := p_int hx hy fun w => by simp [binOp, Op.intCmp]
theorem p_gtri {t t2 : TypeId} {x y : Operand} {k : IntKind} {a b : Int} (hx : ev L x = some (.int k a)) (hy : ev L y = some (.int k b)) : Pure P (.binOp .gtr t x y t2) ty L (.bool (decide (b < a))) := p_int hx hy fun w => by simp [binOp, Op.intCmp]
theorem p_geqi {t t2 : TypeId} {x y : Operand} {k : IntKind} {a b : Int} (hx : ev L x = some (.int k a)) (hy : ev L y = some (.int k b)) : Pure P (.binOp .geq t x y t2) ty L (.bool (decide (b ≤ a))) := p_int hx hy fun w => by simp [binOp, Op.intCmp]
theorem p_eqli {t t2 : TypeId} {x y : Operand} {k : IntKind} {a b : Int} (hx : ev L x = some (.int k a)) (hy : ev L y = some (.int k b)) : Pure P (.binOp .eql t x y t2) ty L (.bool (decide (a = b))) := p_int hx hy fun w => by
  simp only [binOp, Op.intCmp, ne_eq, not_true_eq_false, if_false]
  rw [show (a == b) = decide (a = b) by rw [Bool.eq_iff_iff]; simp]; rfl
theorem p_neqi {t t2 : TypeId} {x y : Operand} {k : IntKind} {a b : Int} (hx : ev L x = some (.int k a)) (hy : ev L y = some (.int k b)) : Pure P (.binOp .neq t x y t2) ty L (.bool (decide (a ≠ b))) := p_int hx hy fun w => by
  simp only [binOp, Op.intCmp, ne_eq, not_true_eq_false, if_false]
  rw [show (a != b) = decide (¬ a = b) by rw [Bool.eq_iff_iff]; simp]; rfl
end

section
variable {P : Program} {L : Slots} {ty : TypeId}
theorem str_inj {a b : List UInt8} (h : str a = str b) : a = b := by
  unfold str at h
  injection h with h
  injection h with h
  simpa using congrArg Array.toList h
theorem toList_mk (l : List UInt8) : (⟨l.toArray⟩ : ByteArray).toList = l := by
  rw [ByteArray.toList_eq]
theorem size_mk (l : List UInt8) : (⟨l.toArray⟩ : ByteArray).size = l.length := rfl
theorem extract_mk (l : List UInt8) (a b : Nat) : (⟨l.toArray⟩ : ByteArray).extract a b = ⟨((l.drop a).take (b - a)).toArray⟩ := by
  apply ByteArray.ext
  rw [ByteArray.data_extract]
  simp [List.extract_eq_take_drop]
theorem append_mk (l m : List UInt8) : (⟨l.toArray⟩ : ByteArray) ++ ⟨m.toArray⟩ = ⟨(l ++ m).toArray⟩ := by
  apply ByteArray.ext
  simp
theorem p_len_str {x : Operand} {t : TypeId} {l : List UInt8} (hu : P.underlying t = some .string) (hx : ev L x = some (str l)) :
    Pure P (.call { callee := .builtin .len, args := #[x], argTypes := #[t] }) ty L (.int .i64 (l.length : Int)) := fun e o w ho _ he => by
  simp [execOp, ho, resolve, invoke, builtin, Builtin.len_, he x _ hx, run_underlying hu, str, goInt, size_mk]
theorem p_len_sl {x : Operand} {t e : TypeId} {A : Option Addr} {n c : Nat} (hu : P.underlying t = some (.slice e)) (hx : ev L x = some (.slice A n c)) :
    Pure P (.call { callee := .builtin .len, args := #[x], argTypes := #[t] }) ty L (.int .i64 (n : Int)) := fun e o w ho _ he => by
  simp [execOp, ho, resolve, invoke, builtin, Builtin.len_, he x _ hx, run_underlying hu, goInt]
theorem p_slice_lh {x lo hi : Operand} {t : TypeId} {l : List UInt8} {a b : Int} {k1 k2 : IntKind} {i j : Nat} (hu : P.underlying t = some .string) (hx : ev L x = some (str l)) (hlo : ev L lo = some (.int k1 a)) (hhi : ev L hi = some (.int k2 b))
    (ha : a = (i : Int)) (hb : b = (j : Int)) (hij : i ≤ j) (hj : j ≤ l.length) : Pure P (.slice t x (some lo) (some hi) none) ty L (str ((l.drop i).take (j - i))) := fun e o w ho _ he => by
  subst ha; subst hb
  have h1 : ((j : Int) ≤ (l.length : Int)) := by omega
  have h2 : ((i : Int) ≤ (j : Int)) := by omega
  simp [execOp, ho, Instr.sliceAt, Instr.slice, Instr.sliceBounds, Instr.sliceBound, he x _ hx, he lo _ hlo, he hi _ hhi, run_underlying hu, str, size_mk, asIntOf, hj, hij, extract_mk]
theorem p_slice_l {x lo : Operand} {t : TypeId} {l : List UInt8} {a : Int} {k1 : IntKind} {i : Nat} (hu : P.underlying t = some .string) (hx : ev L x = some (str l)) (hlo : ev L lo = some (.int k1 a))
    (ha : a = (i : Int)) (hi : i ≤ l.length) : Pure P (.slice t x (some lo) none none) ty L (str (l.drop i)) := fun e o w ho _ he => by
  subst ha
  have h1 : ((i : Int) ≤ (l.length : Int)) := by omega
  have h3 : (l.drop i).take (l.length - i) = l.drop i := List.take_of_length_le (by simp)
  simp [execOp, ho, Instr.sliceAt, Instr.slice, Instr.sliceBounds, Instr.sliceBound, he x _ hx, he lo _ hlo, run_underlying hu, str, size_mk, asIntOf, hi, extract_mk, h3]
theorem p_slice_h {x hi : Operand} {t : TypeId} {l : List UInt8} {b : Int} {k2 : IntKind} {j : Nat} (hu : P.underlying t = some .string) (hx : ev L x = some (str l)) (hhi : ev L hi = some (.int k2 b))
    (hb : b = (j : Int)) (hj : j ≤ l.length) : Pure P (.slice t x none (some hi) none) ty L (str (l.take j)) := fun e o w ho _ he => by
  subst hb
  simp [execOp, ho, Instr.sliceAt, Instr.slice, Instr.sliceBounds, Instr.sliceBound, he x _ hx, he hi _ hhi, run_underlying hu, str, size_mk, asIntOf, hj, extract_mk]
theorem p_index_str {x i : Operand} {t : TypeId} {l : List UInt8} {a : Int} {k : IntKind} {j : Nat} {u : UInt8} (hu : P.underlying t = some .string) (hx : ev L x = some (str l)) (hi : ev L i = some (.int k a)) (ha : a = (j : Int)) (hj : l[j]? = some u) :
    Pure P (.index t x i) ty L (.int .u8 (u.toNat : Int)) := fun e o w ho _ he => by
  subst ha
  have h1 : j < l.length := (List.getElem?_eq_some_iff.1 hj).1
  have h2 : (⟨l.toArray⟩ : ByteArray)[j]? = some u := by
    rw [← hj]
    simp [h1, ByteArray.getElem_eq_getElem_data, size_mk]
  simp [execOp, ho, Instr.index, he x _ hx, he i _ hi, run_underlying hu, str, asIntOf, h2]
theorem p_cat {x y : Operand} {t t2 : TypeId} {l m : List UInt8} (hx : ev L x = some (str l)) (hy : ev L y = some (str m)) (h : l.length + m.length ≤ 9223372036854775807) :
    Pure P (.binOp .add t x y t2) ty L (str (l ++ m)) := fun e o w ho _ he => by
  have h1 : ¬ ((9223372036854775807 : Int) < ((l.length : Int) + (m.length : Int))) := by omega
  simp only [execOp, ho, he x _ hx, he y _ hy, str, eqGuard, binOp, Op.stringOp, size_mk, append_mk]
  simp [IntKind.max, IntKind.signed, IntKind.bits, h1]
theorem p_eqs {x y : Operand} {t t2 : TypeId} {l m : List UInt8} (hx : ev L x = some (str l)) (hy : ev L y = some (str m)) : Pure P (.binOp .eql t x y t2) ty L (.bool (decide (l = m))) := fun e o w ho _ he => by
  simp only [execOp, ho, he x _ hx, he y _ hy, str, eqGuard, binOp, Op.stringOp, toList_mk]
  simp [show (l == m) = decide (l = m) by rw [Bool.eq_iff_iff]; simp]
theorem p_neqs {x y : Operand} {t t2 : TypeId} {l m : List UInt8} (hx : ev L x = some (str l)) (hy : ev L y = some (str m)) : Pure P (.binOp .neq t x y t2) ty L (.bool (decide (l ≠ m))) := fun e o w ho _ he => by
  simp only [execOp, ho, he x _ hx, he y _ hy, str, eqGuard, binOp, Op.stringOp, toList_mk]
  simp [show (l == m) = decide (l = m) by rw [Bool.eq_iff_iff]; simp]
theorem run_eqb {t : TypeId} (hu : P.underlying t = some .bool) (a b : Bool) (w : World) : (Op.equal t (.bool a) (.bool b)).run P w = .ok (a == b) w := by
  unfold Op.equal Op.maxDepth
  rw [Op.equalIn]
  simp [run_underlying hu]
theorem p_eqb {x y : Operand} {t t2 : TypeId} {a b : Bool} (hu : P.underlying t = some .bool) (hx : ev L x = some (.bool a)) (hy : ev L y = some (.bool b)) : Pure P (.binOp .eql t x y t2) ty L (.bool (a == b)) := fun e o w ho _ he => by
  simp only [execOp, ho, he x _ hx, he y _ hy, eqGuard, binOp]
  simp [run_eqb hu]
theorem p_neqb {x y : Operand} {t t2 : TypeId} {a b : Bool} (hu : P.underlying t = some .bool) (hx : ev L x = some (.bool a)) (hy : ev L y = some (.bool b)) : Pure P (.binOp .neq t x y t2) ty L (.bool (a != b)) := fun e o w ho _ he => by
  simp only [execOp, ho, he x _ hx, he y _ hy, eqGuard, binOp]
  simp [run_eqb hu, bne]
/- conversions between integers -/
theorem p_conv {x : Operand} {s d : TypeId} {ds : TypeDesc} {k k2 : IntKind} {a : Int} (hs : P.underlying s = some ds) (hd : P.underlying d = some (.int k)) (hx : ev L x = some (.int k2 a)) :
    Pure P (.convert s d x) ty L (.int k (k.wrap a)) := fun e o w ho _ he => by
  simp [execOp, ho, convert, he x _ hx, run_underlying hs, run_underlying hd, Conv.intToInt]
theorem p_convn {x : Operand} {s d : TypeId} {ds : TypeDesc} {k k2 : IntKind} {a : Int} {i : Nat} (hs : P.underlying s = some ds) (hd : P.underlying d = some (.int k)) (hx : ev L x = some (.int k2 a)) (ha : a = (i : Int)) (h : i ≤ top k) :
    Pure P (.convert s d x) ty L (.int k (i : Int)) := by
  have := p_conv (P := P) (ty := ty) hs hd hx
  subst ha
  rwa [wrap_nat k i h] at this
theorem p_convm {x : Operand} {s d : TypeId} {ds : TypeDesc} {k k2 : IntKind} {a : Int} {i : Nat} (hs : P.underlying s = some ds) (hd : P.underlying d = some (.int k)) (hx : ev L x = some (.int k2 a)) (ha : a = (i : Int)) (h : isU k = true) :
    Pure P (.convert s d x) ty L (.int k ((i % (top k + 1) : Nat) : Int)) := by
  have := p_conv (P := P) (ty := ty) hs hd hx
  subst ha
  rwa [wrap_mod k i h] at this
theorem p_convs {x : Operand} {s d : TypeId} {ds : TypeDesc} {l : List UInt8} (hs : P.underlying s = some ds) (hd : P.underlying d = some .string) (hx : ev L x = some (str l)) :
    Pure P (.convert s d x) ty L (str l) := fun e o w ho _ he => by
  simp [execOp, ho, convert, he x _ hx, run_underlying hs, run_underlying hd, str]
/- bits -/
theorem ofInt_nat (k : IntKind) (i : Nat) (h : i ≤ top k) : (BitVec.ofInt k.bits (i : Int)).toNat = i := by
  rw [BitVec.ofInt_natCast, BitVec.toNat_ofNat]
  apply Nat.mod_eq_of_lt
  cases k <;> simp only [top] at h <;> simp [IntKind.bits] <;> omega
theorem top_pow (k : IntKind) : ∃ b, top k + 1 = 2 ^ b := by
  cases k
  · exact ⟨7, rfl⟩
  · exact ⟨15, rfl⟩
  · exact ⟨31, rfl⟩
  · exact ⟨63, rfl⟩
  · exact ⟨8, rfl⟩
  · exact ⟨16, rfl⟩
  · exact ⟨32, rfl⟩
  · exact ⟨64, rfl⟩
theorem p_and {t t2 : TypeId} {x y : Operand} {k : IntKind} {a b : Int} {i j : Nat} (hx : ev L x = some (.int k a)) (hy : ev L y = some (.int k b)) (ha : a = (i : Int)) (hb : b = (j : Int)) (hi : i ≤ top k) (hj : j ≤ top k) :
    Pure P (.binOp .and t x y t2) ty L (.int k ((i &&& j : Nat) : Int)) := p_int hx hy fun w => by
  subst ha; subst hb
  have hr : i &&& j ≤ top k := by obtain ⟨b, hb⟩ := top_pow k; have := Nat.and_lt_two_pow i (show j < 2 ^ b by omega); omega
  simp only [binOp, Op.intBits, ne_eq, not_true_eq_false, if_false, BitVec.toNat_and, ofInt_nat k i hi, ofInt_nat k j hj, wrap_nat k _ hr]
  rfl
theorem p_or {t t2 : TypeId} {x y : Operand} {k : IntKind} {a b : Int} {i j : Nat} (hx : ev L x = some (.int k a)) (hy : ev L y = some (.int k b)) (ha : a = (i : Int)) (hb : b = (j : Int)) (hi : i ≤ top k) (hj : j ≤ top k) :
    Pure P (.binOp .or t x y t2) ty L (.int k ((i ||| j : Nat) : Int)) := p_int hx hy fun w => by
  subst ha; subst hb
  have hr : i ||| j ≤ top k := by obtain ⟨b, hb⟩ := top_pow k; have := Nat.or_lt_two_pow (show i < 2 ^ b by omega) (show j < 2 ^ b by omega); omega
  simp only [binOp, Op.intBits, ne_eq, not_true_eq_false, if_false, BitVec.toNat_or, ofInt_nat k i hi, ofInt_nat k j hj, wrap_nat k _ hr]
  rfl
theorem p_xor {t t2 : TypeId} {x y : Operand} {k : IntKind} {a b : Int} {i j : Nat} (hx : ev L x = some (.int k a)) (hy : ev L y = some (.int k b)) (ha : a = (i : Int)) (hb : b = (j : Int)) (hi : i ≤ top k) (hj : j ≤ top k) :
    Pure P (.binOp .xor t x y t2) ty L (.int k ((i ^^^ j : Nat) : Int)) := p_int hx hy fun w => by
  subst ha; subst hb
  have hr : i ^^^ j ≤ top k := by obtain ⟨b, hb⟩ := top_pow k; have := Nat.xor_lt_two_pow (show i < 2 ^ b by omega) (show j < 2 ^ b by omega); omega
  simp only [binOp, Op.intBits, ne_eq, not_true_eq_false, if_false, BitVec.toNat_xor, ofInt_nat k i hi, ofInt_nat k j hj, wrap_nat k _ hr]
  rfl
theorem p_shl {t t2 : TypeId} {x y : Operand} {k k2 : IntKind} {a b : Int} {i j : Nat} (hx : ev L x = some (.int k a)) (hy : ev L y = some (.int k2 b)) (ha : a = (i : Int)) (hb : b = (j : Int)) (hj : j ≤ k.bits) (h : i * 2 ^ j ≤ top k) :
    Pure P (.binOp .shl t x y t2) ty L (.int k ((i * 2 ^ j : Nat) : Int)) := fun e o w ho _ he => by
  subst ha; subst hb
  have hw := wrap_nat k _ h
  simp only [execOp, ho, he x _ hx, he y _ hy, eqGuard, binOp, Op.shift]
  simp only [Int.natCast_mul, Int.natCast_pow] at hw ⊢
  simp [Nat.min_eq_left hj] at hw ⊢
  rw [hw, if_neg (by omega)]
theorem p_shr {t t2 : TypeId} {x y : Operand} {k k2 : IntKind} {a b : Int} {i j : Nat} (hx : ev L x = some (.int k a)) (hy : ev L y = some (.int k2 b)) (ha : a = (i : Int)) (hb : b = (j : Int)) (hj : j ≤ k.bits) :
    Pure P (.binOp .shr t x y t2) ty L (.int k ((i / 2 ^ j : Nat) : Int)) := fun e o w ho _ he => by
  subst ha; subst hb
  have h2 : (i : Int).fdiv (2 ^ j) = ((i / 2 ^ j : Nat) : Int) := by
    rw [Int.fdiv_eq_ediv_of_nonneg _ (Int.pow_nonneg (by omega))]
    simp
  simp only [execOp, ho, he x _ hx, he y _ hy, eqGuard, binOp, Op.shift]
  have h3 : ¬ ((j : Int) < 0) := by omega
  simp only [h3, if_false, Int.toNat_natCast, Nat.min_eq_left hj, h2]
  simp
/- tuples, structs by value, function values -/
theorem p_extract {x : Operand} {i : Nat} {vs : Array Value} {v : Value} (hx : ev L x = some (.tuple vs)) (hv : vs[i]? = some v) : Pure P (.extract x i) ty L v := fun e o w ho _ he => by
  simp [execOp, ho, he x _ hx, Instr.extract, hv]
theorem p_makeFunc {fn : Fn} {first captured : Array Operand} {fs cs : Array Value} (hf : first.map (ev L) = fs.map some) (hc : captured.map (ev L) = cs.map some) : Pure P (.makeFunc fn first captured) ty L (.func fn fs cs) := fun e o w ho _ he => by
  have key : ∀ (xs : Array Operand) (us : Array Value), xs.map (ev L) = us.map some → xs.map e = us := fun xs us h => by
    apply Array.ext
    · have := congrArg Array.size h; simpa using this
    · intro i h1 h2
      have hi : (xs.map (ev L))[i]? = (us.map some)[i]? := by rw [h]
      simp at h1
      simp [h1, h2] at hi
      simp [he _ _ hi]
  simp [execOp, ho, Instr.makeFunc, key first fs hf, key captured cs hc]
theorem p_nilp {x : Operand} {a : Addr} (hx : ev L x = some (.pointer (some a))) : Pure P (.nilCheck x) ty L (.pointer (some a)) := fun e o w ho _ he => by
  simp [execOp, ho, he x _ hx]
end
/-- a type's row of the table -/
def InfoIs (P : Program) (t : TypeId) (size bytes : Nat) (z : Value) : Prop := (P.info? t).map (fun i => (i.size, i.bytes, i.zero)) = some (size, bytes, some z)
theorem InfoIs.get {P : Program} {t : TypeId} {size bytes : Nat} {z : Value} (h : InfoIs P t size bytes z) : ∃ i, P.info? t = some i ∧ i.size = size ∧ i.bytes = bytes ∧ i.zero = some z := by
  obtain ⟨i, hi, hz⟩ := Option.map_eq_some_iff.1 h
  simp only [Prod.mk.injEq] at hz
  exact ⟨i, hi, hz.1, hz.2.1, hz.2.2⟩
def isAggD : TypeDesc → Bool
  | .struct _ | .array _ _ => true
  | _ => false
section
variable {P : Program} {L : Slots} {ty : TypeId}
theorem run_isAgg {t : TypeId} {d : TypeDesc} (h : P.underlying t = some d) (w : World) : (isAgg t).run P w = .ok (isAggD d) w := by
  simp only [isAgg]
  cases d <;> simp [run_underlying h, isAggD]
theorem run_sizeOf' {t : TypeId} {size bytes : Nat} {z : Value} (h : InfoIs P t size bytes z) (w : World) : (sizeOf t).run P w = .ok size w := by
  obtain ⟨i, hi, h1, _, _⟩ := h.get
  simp [sizeOf, typeInfo, hi, h1]
theorem run_zeroValue' {t : TypeId} {size bytes : Nat} {z : Value} (h : InfoIs P t size bytes z) (w : World) : (zeroValue t).run P w = .ok z w := by
  obtain ⟨i, hi, _, _, h1⟩ := h.get
  simp [zeroValue, typeInfo, hi, h1]
/-- a field of a struct that is one cell -/
theorem p_field {x : Operand} {t : TypeId} {fs : Array Field} {i : Nat} {f : Field} {d : TypeDesc} {vs : Array Value} {v : Value} (hu : P.underlying t = some (.struct fs)) (hf : fs[i]? = some f) (hd : P.underlying f.type = some d) (ha : isAggD d = false)
    (hx : ev L x = some (.agg vs)) (hv : vs[f.offset]? = some v) : Pure P (.field t x i) ty L v := fun e o w ho _ he => by
  simp [execOp, ho, he x _ hx, Instr.field, run_underlying hu, hf, asAgg, part, run_isAgg hd, ha, hv]
/-- a field of a struct that is itself a struct -/
theorem p_fielda {x : Operand} {t : TypeId} {fs : Array Field} {i : Nat} {f : Field} {d : TypeDesc} {vs : Array Value} {size bytes : Nat} {z : Value} (hu : P.underlying t = some (.struct fs)) (hf : fs[i]? = some f) (hd : P.underlying f.type = some d) (ha : isAggD d = true)
    (hi : InfoIs P f.type size bytes z) (hx : ev L x = some (.agg vs)) : Pure P (.field t x i) ty L (.agg (vs.extract f.offset (f.offset + size))) := fun e o w ho _ he => by
  simp [execOp, ho, he x _ hx, Instr.field, run_underlying hu, hf, asAgg, part, run_isAgg hd, ha, run_sizeOf' hi]
end

/-! ## memory that is only read -/
def adr (A : Option Addr) (k : Nat) : Addr := match A with | some a => ⟨a.block, a.off + k, none⟩ | none => ⟨0, k, none⟩
/-- a slice at A of the elements es, each of 'size' cells 'f e' -/
def Sl {α : Type} (size : Nat) (f : α → List Value) (A : Option Addr) (es : List α) : World → Prop := fun w =>
  ∀ i e, es[i]? = some e → (f e).length = size ∧ ∃ b off, A = some ⟨b, off, none⟩ ∧ ∀ j u, (f e)[j]? = some u → w.cell? ⟨b, off + (i * size + j), none⟩ = some u
theorem Sl.dep {α : Type} {size : Nat} {f : α → List Value} {A : Option Addr} {es : List α} {lo hi : Nat} (h : ∀ a, A = some a → lo ≤ a.block ∧ a.block < hi) : Dep lo hi (Sl size f A es) := fun w1 w2 hb hq i e he => by
  obtain ⟨h1, b, off, h2, h3⟩ := hq i e he
  refine ⟨h1, b, off, h2, fun j u hu => ?_⟩
  have := h _ h2
  rw [← h3 j u hu]
  exact World.cell?_of_block (w := w1) (hb b this.1 this.2)
theorem Sl.nil {α : Type} (size : Nat) (f : α → List Value) (A : Option Addr) (w : World) : Sl size f A ([] : List α) w := fun i e he => by simp at he
theorem Sl.lt {α : Type} {size : Nat} {f : α → List Value} {A : Option Addr} {es : List α} {w : World} (h : Sl size f A es w) (hs : 0 < size) (hne : es ≠ []) : ∃ b off, A = some ⟨b, off, none⟩ ∧ b < w.heap.size := by
  cases es with
  | nil => exact absurd rfl hne
  | cons e es =>
    obtain ⟨h1, b, off, h2, h3⟩ := h 0 e rfl
    have : (f e)[0]? = some ((f e)[0]'(by omega)) := List.getElem?_eq_getElem (by omega)
    exact ⟨b, off, h2, World.block_lt_of_cell? w _ (h3 0 _ this)⟩
theorem dep_sl {α : Type} {size : Nat} {f : α → List Value} {A : Option Addr} {es : List α} {w : World} (hs : 0 < size) (h : Sl size f A es w) : Dep 0 w.heap.size (Sl size f A es) := by
  by_cases hne : es = []
  · subst hne; exact fun _ w2 _ _ => Sl.nil size f A w2
  · obtain ⟨b, off, rfl, hlt⟩ := h.lt hs hne
    exact Sl.dep fun a ha => by injection ha with ha; subst ha; exact ⟨Nat.zero_le _, hlt⟩
/-- a part of a slice -/
def subA (A : Option Addr) (c lo size : Nat) : Option Addr := if c = lo then A else A.map (·.add (lo * size))
theorem Sl.sub {α : Type} {size : Nat} {f : α → List Value} {A : Option Addr} {es : List α} {w : World} (h : Sl size f A es w) (c lo m : Nat) (hc : es.length ≤ c) : Sl size f (subA A c lo size) ((es.drop lo).take m) w := fun i e he => by
  have he' : es[lo + i]? = some e := by
    rw [List.getElem?_take] at he
    split at he
    · rwa [List.getElem?_drop] at he
    · cases he
  have hlt : lo + i < es.length := (List.getElem?_eq_some_iff.1 he').1
  obtain ⟨h1, b, off, h2, h3⟩ := h _ e he'
  refine ⟨h1, b, off + lo * size, ?_, fun j u hu => ?_⟩
  · unfold subA
    rw [if_neg (by omega), h2]
    simp only [Option.map_some, Addr.add]
    split
    · rename_i h0; rw [h0]; rfl
    · rfl
  · have := h3 j u hu
    rw [show off + lo * size + (i * size + j) = off + ((lo + i) * size + j) by rw [Nat.add_mul]; omega]
    exact this

section
variable {P : Program} {w0 : World} {K : List Nat} {n : Sz} {N : Act → World → Prop} {L : Slots} {σ : Own} {ρ : Facts} {ops : Array Oper} {rest : List Oper} {ty : TypeId}
/-- memory as said holds such a slice -/
def SlIn {α : Type} (w0 : World) (K : List Nat) (σ : Own) (ρ : Facts) (size : Nat) (f : α → List Value) (A : Option Addr) (es : List α) : Prop := ∀ w, St w0 K w σ ρ → Sl size f A es w
theorem SlIn.fact {α : Type} {size : Nat} {f : α → List Value} {A : Option Addr} {es : List α} (h : Sl size f A es ∈ ρ) : SlIn w0 K σ ρ size f A es := fun _ hs => (hs.facts _ h).1
theorem r_index {α : Type} {x i : Operand} {t e : TypeId} {size bytes : Nat} {z : Value} {f : α → List Value} {A : Option Addr} {es : List α} {m c j : Nat} {k : IntKind} {a : Int}
    (hu : P.underlying t = some (.slice e)) (hi : InfoIs P e size bytes z) (hx : ev L x = some (.slice A m c)) (hix : ev L i = some (.int k a)) (ha : a = (j : Int)) (hq : SlIn w0 K σ ρ size f A es) (hm : m = es.length) (hj : j < es.length) :
    Reads P w0 K (.indexAddr t x i) ty L σ ρ (.pointer (some (adr A (j * size)))) := fun ee o w ho _ he hs => by
  subst ha; subst hm
  obtain ⟨_, b, off, h2, _⟩ := hq w hs j _ (List.getElem?_eq_getElem hj)
  subst h2
  have h1 : ((0 : Int) ≤ (j : Int) ∧ (j : Int) < (es.length : Int)) := by omega
  have h3 : (⟨b, off, none⟩ : Addr).add (j * size) = adr (some ⟨b, off, none⟩) (j * size) := by
    simp only [adr, Addr.add]; split
    · rename_i h0; rw [h0]; rfl
    · rfl
  simp [execOp, ho, Instr.indexAt, asIntOf, he x _ hx, he i _ hix, run_underlying hu, hj, run_sizeOf' hi, h3]
theorem r_load1 {α : Type} {p : Operand} {t : TypeId} {d : TypeDesc} {f : α → List Value} {A : Option Addr} {es : List α} {j : Nat} {e : α} {v : Value} (hd : P.underlying t = some d) (ha : isAggD d = false)
    (hp : ev L p = some (.pointer (some (adr A (j * 1))))) (hq : SlIn w0 K σ ρ 1 f A es) (he : es[j]? = some e) (hf : f e = [v]) : Reads P w0 K (.load t p) ty L σ ρ v := fun ee o w ho _ hev hs => by
  obtain ⟨_, b, off, h2, h3⟩ := hq w hs j e he
  subst h2
  have := h3 0 v (by rw [hf]; rfl)
  simp [execOp, ho, Instr.loadAt, Instr.sureAddr, hev p _ hp, loadVar, run_isAgg hd, ha, adr] at this ⊢
  simp [this]
theorem r_loadf {α : Type} {p : Operand} {t : TypeId} {d : TypeDesc} {size k : Nat} {f : α → List Value} {A : Option Addr} {es : List α} {j : Nat} {e : α} {v : Value} (hd : P.underlying t = some d) (ha : isAggD d = false)
    (hp : ev L p = some (.pointer (some (adr A (j * size + k))))) (hq : SlIn w0 K σ ρ size f A es) (he : es[j]? = some e) (hf : (f e)[k]? = some v) : Reads P w0 K (.load t p) ty L σ ρ v := fun ee o w ho _ hev hs => by
  obtain ⟨_, b, off, h2, h3⟩ := hq w hs j e he
  subst h2
  have := h3 k v hf
  simp [execOp, ho, Instr.loadAt, Instr.sureAddr, hev p _ hp, loadVar, run_isAgg hd, ha, adr, this]
theorem run_loadCells_of (w : World) (b off : Nat) (vs : List Value) (h : ∀ j u, vs[j]? = some u → w.cell? ⟨b, off + j, none⟩ = some u) : (loadCells ⟨b, off, none⟩ vs.length).run P w = .ok vs.toArray w := by
  have := run_loadCells_list (P := P) w ⟨b, off, none⟩ vs (fun j v hv => by
    have := h j v hv
    simp only [Addr.add]
    split
    · rename_i h0; subst h0; simpa using this
    · exact this)
  exact this
theorem r_loada {α : Type} {p : Operand} {t : TypeId} {d : TypeDesc} {size bytes : Nat} {z : Value} {f : α → List Value} {A : Option Addr} {es : List α} {j : Nat} {e : α} (hd : P.underlying t = some d) (ha : isAggD d = true) (hi : InfoIs P t size bytes z)
    (hp : ev L p = some (.pointer (some (adr A (j * size))))) (hq : SlIn w0 K σ ρ size f A es) (he : es[j]? = some e) : Reads P w0 K (.load t p) ty L σ ρ (.agg (f e).toArray) := fun ee o w ho _ hev hs => by
  obtain ⟨h1, b, off, h2, h3⟩ := hq w hs j e he
  subst h2
  have := run_loadCells_of (P := P) w b (off + j * size) (f e) (fun i u hu => by rw [Nat.add_assoc]; exact h3 i u hu)
  rw [h1] at this
  simp [execOp, ho, Instr.loadAt, Instr.sureAddr, hev p _ hp, loadVar, run_isAgg hd, ha, adr, run_sizeOf' hi, this]
theorem adr_add (A : Option Addr) (k m : Nat) : (adr A k).add m = adr A (k + m) := by
  cases A <;> simp only [adr, Addr.add] <;> split <;> simp_all [Nat.add_assoc]
theorem off_add (b k m : Nat) : (⟨b, k, none⟩ : Addr).add m = ⟨b, k + m, none⟩ := by
  simp only [Addr.add]; split <;> simp_all
theorem run_fieldPlace {fl : Field} {size bytes : Nat} {z : Value} (hi : InfoIs P fl.type size bytes z) (hs : size ≠ 0) (a : Addr) (w : World) : (fieldPlace a fl).run P w = .ok (a.add fl.offset) w := by
  simp [fieldPlace, run_sizeOf' hi, hs]
theorem p_fieldAddr {x : Operand} {t : TypeId} {fs : Array Field} {i : Nat} {fl : Field} {size bytes : Nat} {z : Value} {A : Option Addr} {k : Nat} (hu : P.underlying t = some (.struct fs)) (hf : fs[i]? = some fl) (hi : InfoIs P fl.type size bytes z) (hs : size ≠ 0)
    (hx : ev L x = some (.pointer (some (adr A k)))) : Pure P (.fieldAddr t x i) ty L (.pointer (some (adr A (k + fl.offset)))) := fun e o w ho _ he => by
  simp [execOp, ho, Instr.fieldAt, he x _ hx, run_underlying hu, hf, Instr.sureAddr, run_fieldPlace hi hs, adr_add]
theorem p_fieldAddro {x : Operand} {t : TypeId} {fs : Array Field} {i : Nat} {fl : Field} {size bytes : Nat} {z : Value} {b k : Nat} (hu : P.underlying t = some (.struct fs)) (hf : fs[i]? = some fl) (hi : InfoIs P fl.type size bytes z) (hs : size ≠ 0)
    (hx : ev L x = some (.pointer (some ⟨b, k, none⟩))) : Pure P (.fieldAddr t x i) ty L (.pointer (some ⟨b, k + fl.offset, none⟩)) := fun e o w ho _ he => by
  simp [execOp, ho, Instr.fieldAt, he x _ hx, run_underlying hu, hf, Instr.sureAddr, run_fieldPlace hi hs, off_add]
/-- a part of a slice is read, too -/
theorem l_also {q : World → Prop} (h : ∀ w, (∀ p, p ∈ ρ → p w) → q w) (hd : ∃ p, p ∈ ρ ∧ ∀ S, DepS S p → DepS S q) (hk : WL P w0 K n ops rest N L σ (q :: ρ)) : WL P w0 K n ops rest N L σ ρ := fun a w hf hs => by
  refine hk a w hf ⟨hs.ext, hs.nodup, hs.own, fun p hp => ?_⟩
  rcases List.mem_cons.1 hp with rfl | hp
  · obtain ⟨p, hp, hdep⟩ := hd
    obtain ⟨_, S, h1, h2, h3⟩ := hs.facts p hp
    exact ⟨h w (fun p hp => (hs.facts p hp).1), S, h1, hdep S h2, h3⟩
  · exact hs.facts p hp
end

/-! ## own memory -/
/-- block b holds just these cells -/
def iCells (b : Nat) (t : TypeId) (vs : List Value) : Item := ⟨[b], fun w => w.heap[b]? = some (.cells vs.toArray t (0, 0))⟩
theorem iCells_dep (b : Nat) (t : TypeId) (vs : List Value) : (iCells b t vs).dep := fun w1 w2 h hw => (h b (by simp [iCells])).trans hw
theorem cells_cell {w : World} {b : Nat} {t : TypeId} {vs : List Value} (h : (iCells b t vs).holds w) (k : Nat) : w.cell? ⟨b, k, none⟩ = vs[k]? := by
  have h : w.heap[b]? = some (.cells vs.toArray t (0, 0)) := h
  simp [World.cell?, h]
theorem cells_frozen {w : World} {b : Nat} {t : TypeId} {vs : List Value} (h : (iCells b t vs).holds w) (k : Nat) : w.frozen? ⟨b, k, none⟩ = false := by
  have h : w.heap[b]? = some (.cells vs.toArray t (0, 0)) := h
  simp [World.frozen?, h]
theorem cells_set {w : World} {b : Nat} {t : TypeId} {vs : List Value} (h : (iCells b t vs).holds w) (k : Nat) (v : Value) : (iCells b t (vs.set k v)).holds (w.setCell ⟨b, k, none⟩ v) := by
  have h : w.heap[b]? = some (.cells vs.toArray t (0, 0)) := h
  show (w.setCell ⟨b, k, none⟩ v).heap[b]? = _
  simp [World.setCell, Array.getElem?_modify, h]
theorem ext_setCell (w : World) (b k : Nat) (v : Value) : Ext [b] w (w.setCell ⟨b, k, none⟩ v) :=
  ⟨rfl, rfl, rfl, by simp [World.setCell], fun i _ hi => Below.heap_setCell w _ v i (by simpa using hi)⟩
/-- a slice of the call's own that may be appended to: kit's 'ownsRow' -/
def iRow (e size : Nat) (v : Value) (n : Nat) (xs : List Value) : Item := ⟨v.ownBlock.toList, fun w => w.ownsRow 0 e size v n xs⟩
theorem iRow_dep (e size : Nat) (v : Value) (n : Nat) (xs : List Value) : (iRow e size v n xs).dep := fun w1 w2 h hw => by
  refine ⟨hw.1, ?_⟩
  rcases hw.2 with h1 | ⟨g, cap, cur, hv, hb, hh, hr⟩
  · exact .inl h1
  · exact .inr ⟨g, cap, cur, hv, hb, (h g (by simp [iRow, hv, Value.ownBlock])).trans hh, hr⟩
section
variable {P : Program} {r : Option Nat} {w0 : World} {K : List Nat} {n : Sz} {N : Act → World → Prop} {E : Nat → Act → World → Prop} {R : Act → World → Prop} {L : Slots} {σ : Own} {ρ : Facts} {ops : Array Oper} {rest : List Oper} {ty : TypeId}
/-- what a plain operation that yields v does to memory -/
theorem l_step {d : Nat} {op : Op} {pos : String} {aft : Array Edge} (hd : d < n)
    (h : ∀ (a : Act) (w : World), Fr a n L → St w0 K w σ ρ → ∃ v w' σ' ρ', (execOp a.eval ⟨some d, op, ty, pos, aft, none⟩).run P w = .ok (.value v) w' ∧ St w0 K w' σ' ρ' ∧ WL P w0 K n ops rest N ((d, v) :: L) σ' ρ') :
    WL P w0 K n ops (⟨some d, op, ty, pos, aft, none⟩ :: rest) N L σ ρ := fun a w hf hs => by
  refine wpList_plain rfl fun K' hK => ?_
  obtain ⟨v, w', σ', ρ', h1, h2, h3⟩ := h a w hf hs
  unfold Oper.wp
  rw [h1]
  exact hK _ _ (h3 _ _ (hf.put hd v) h2)
theorem l_stepu {op : Op} {pos : String} {aft : Array Edge}
    (h : ∀ (a : Act) (w : World), Fr a n L → St w0 K w σ ρ → ∃ w' σ' ρ', (execOp a.eval ⟨none, op, ty, pos, aft, none⟩).run P w = .ok .skip w' ∧ St w0 K w' σ' ρ' ∧ WL P w0 K n ops rest N L σ' ρ') :
    WL P w0 K n ops (⟨none, op, ty, pos, aft, none⟩ :: rest) N L σ ρ := fun a w hf hs => by
  refine wpList_plain rfl fun K' hK => ?_
  obtain ⟨w', σ', ρ', h1, h2, h3⟩ := h a w hf hs
  unfold Oper.wp
  rw [h1]
  exact hK _ _ (h3 _ _ hf h2)
theorem heap_new (w : World) (vs : List Value) (t : TypeId) : (iCells w.heap.size t vs).holds (w.alloc (.cells vs.toArray t)) := heap_alloc_new w _
theorem l_alloc {d : Nat} {pos : String} {aft : Array Edge} {e : TypeId} {size bytes : Nat} {z : Value} (hd : d < n) (hi : InfoIs P e size bytes z) (vs : List Value) (hz : z.cells = vs.toArray)
    (h : ∀ b, WL P w0 K n ops rest N ((d, .pointer (some ⟨b, 0, none⟩)) :: L) (iCells b e vs :: σ) ρ) : WL P w0 K n ops (⟨some d, .alloc e, ty, pos, aft, none⟩ :: rest) N L σ ρ :=
  l_step hd fun a w hf hs => ⟨_, w.alloc (.cells vs.toArray e), _, _, by
    simp [execOp, Instr.alloc, run_zeroValue' hi, newVar, newRow, hz]
    , hs.alloc _ (iCells w.heap.size e vs) rfl (iCells_dep _ _ _) (heap_new w vs e), h _⟩
theorem l_box {d : Nat} {pos : String} {aft : Array Edge} {e : TypeId} {x : Operand} {v : Value} (hd : d < n) (hx : ev L x = some v) (vs : List Value) (hz : v.cells = vs.toArray)
    (h : ∀ b, WL P w0 K n ops rest N ((d, .pointer (some ⟨b, 0, none⟩)) :: L) (iCells b e vs :: σ) ρ) : WL P w0 K n ops (⟨some d, .box e x, ty, pos, aft, none⟩ :: rest) N L σ ρ :=
  l_step hd fun a w hf hs => ⟨_, w.alloc (.cells vs.toArray e), _, _, by
    simp [execOp, Instr.box, hf.ev hx, newVar, newRow, hz]
    , hs.alloc _ (iCells w.heap.size e vs) rfl (iCells_dep _ _ _) (heap_new w vs e), h _⟩
theorem r_loado {p : Operand} {t e : TypeId} {d : TypeDesc} {b k : Nat} {vs : List Value} {v : Value} (hd : P.underlying t = some d) (ha : isAggD d = false) (hp : ev L p = some (.pointer (some ⟨b, k, none⟩)))
    (hq : iCells b e vs ∈ σ) (hv : vs[k]? = some v) : Reads P w0 K (.load t p) ty L σ ρ v := fun ee o w ho _ hev hs => by
  have hc := cells_cell (hs.own _ hq).1 k
  rw [hv] at hc
  simp [execOp, ho, Instr.loadAt, Instr.sureAddr, hev p _ hp, loadVar, run_isAgg hd, ha, hc]
theorem r_loadoa {p : Operand} {t e : TypeId} {d : TypeDesc} {b k size bytes : Nat} {z : Value} {vs us : List Value} (hd : P.underlying t = some d) (ha : isAggD d = true) (hi : InfoIs P t size bytes z) (hp : ev L p = some (.pointer (some ⟨b, k, none⟩)))
    (hq : iCells b e vs ∈ σ) (hu : us.length = size) (hv : ∀ j u, us[j]? = some u → vs[k + j]? = some u) : Reads P w0 K (.load t p) ty L σ ρ (.agg us.toArray) := fun ee o w ho _ hev hs => by
  have hc := cells_cell (hs.own _ hq).1
  have := run_loadCells_of (P := P) w b k us (fun j u hj => by rw [hc]; exact hv j u hj)
  rw [hu] at this
  simp [execOp, ho, Instr.loadAt, Instr.sureAddr, hev p _ hp, loadVar, run_isAgg hd, ha, run_sizeOf' hi, this]
theorem run_store_one {w : World} {b k : Nat} {t : TypeId} {vs : List Value} (h : (iCells b t vs).holds w) (hk : k < vs.length) {v : Value} (hv : v.oneCell' = true) : (store ⟨b, k, none⟩ v).run P w = .ok () (w.setCell ⟨b, k, none⟩ v) := by
  rw [run_store P w _ v .plain hv, cells_cell h k, List.getElem?_eq_getElem hk, cells_frozen h k]
  rfl
theorem l_store {pos : String} {aft : Array Edge} {p x : Operand} {t e : TypeId} {bytes : Nat} {z : Value} {b k : Nat} {vs : List Value} {v : Value} (hi : InfoIs P t 1 bytes z) (hp : ev L p = some (.pointer (some ⟨b, k, none⟩))) (hx : ev L x = some v)
    (hv : v.oneCell' = true) (hc : v.cells = #[v]) (hk : k < vs.length) (h : WL P w0 K n ops rest N L (iCells b e (vs.set k v) :: σ) ρ) : WL P w0 K n ops (⟨none, .store t p x, ty, pos, aft, none⟩ :: rest) N L (iCells b e vs :: σ) ρ :=
  l_stepu fun a w hf hs => ⟨w.setCell ⟨b, k, none⟩ v, _, _, by
    have h1 := run_store_one (P := P) (hs.own _ (List.mem_cons_self ..)).1 hk hv
    simp [execOp, Instr.storeAt, Instr.sureAddr, hf.ev hp, hf.ev hx, storeVar, hc, run_sizeOf' hi, storeCells, h1, off_add]
    , hs.turn (ext_setCell w b k v) (cells_set (hs.own _ (List.mem_cons_self ..)).1 k v) (iCells_dep _ _ _) (fun i hi => .inl hi) (by simp [iCells]), h⟩
theorem l_perm {τ : Own} (hp : σ.Perm τ) (h : WL P w0 K n ops rest N L τ ρ) : WL P w0 K n ops rest N L σ ρ := fun a w hf hs => h a w hf (hs.perm hp)
theorem c_perm {τ : Own} (hp : σ.Perm τ) (h : Cont w0 K n N L τ ρ) : Cont w0 K n N L σ ρ := fun a w hf hs => h a w hf (hs.perm hp)
theorem l_drop {x : Item} (h : WL P w0 K n ops rest N L σ ρ) : WL P w0 K n ops rest N L (x :: σ) ρ := fun a w hf hs => h a w hf hs.drop
theorem c_drop {x : Item} (h : Cont w0 K n N L σ ρ) : Cont w0 K n N L (x :: σ) ρ := fun a w hf hs => h a w hf hs.drop
theorem front1 (x y : Item) (σ : Own) : (x :: y :: σ).Perm (y :: x :: σ) := List.Perm.swap _ _ _
theorem front2 (x y z : Item) (σ : Own) : (x :: y :: z :: σ).Perm (z :: x :: y :: σ) := ((List.Perm.swap z y σ).cons x).trans (List.Perm.swap z x (y :: σ))
theorem front3 (x y z u : Item) (σ : Own) : (x :: y :: z :: u :: σ).Perm (u :: x :: y :: z :: σ) := ((front2 y z u σ).cons x).trans (List.Perm.swap u x (y :: z :: σ))
theorem front4 (x y z u v : Item) (σ : Own) : (x :: y :: z :: u :: v :: σ).Perm (v :: x :: y :: z :: u :: σ) := ((front3 y z u v σ).cons x).trans (List.Perm.swap v x (y :: z :: u :: σ))

/-- a slice literal -/
def evs (L : Slots) : List (Nat × Operand) → Option (List (Nat × Value))
  | [] => some []
  | p :: ps => match ev L p.2, evs L ps with
    | some v, some us => some ((p.1, v) :: us)
    | _, _ => none
def catL : List (Nat × Value) → List Value
  | [] => []
  | u :: us => u.2.cells.toList ++ catL us
theorem evs_eval {a : Act} (hf : Fr a n L) : ∀ (ps : List (Nat × Operand)) (us : List (Nat × Value)), evs L ps = some us → ps.map (fun p => (p.1, a.eval p.2)) = us
  | [], us, h => by simp only [evs, Option.some.injEq] at h; subst h; rfl
  | p :: ps, us, h => by
    simp only [evs] at h
    split at h
    · rename_i v us' h1 h2
      injection h with h; subst h
      simp [hf.ev h1, evs_eval hf ps us' h2]
    · cases h
theorem zip_foldl (cs : List Value) : ∀ (off k : Nat) (A B C : List Value), A.length = off + k → cs.length = B.length → (cs.zipIdx k).foldl (fun (acc : Array Value) (x : Value × Nat) => acc.setIfInBounds (off + x.2) x.1) (A ++ B ++ C).toArray = (A ++ cs ++ C).toArray := by
  induction cs with
  | nil => intro off k A B C hA hB; have : B = [] := List.eq_nil_of_length_eq_zero hB.symm; subst this; rfl
  | cons c cs ih =>
    intro off k A B C hA hB
    cases B with
    | nil => cases hB
    | cons x B =>
      simp only [List.length_cons, Nat.add_right_cancel_iff] at hB
      have := ih off (k + 1) (A ++ [c]) B C (by simp [hA, Nat.add_assoc]) hB
      simp only [List.zipIdx_cons, List.foldl_cons]
      rw [show ((A ++ x :: B ++ C).toArray.setIfInBounds (off + k) c) = (A ++ [c] ++ B ++ C).toArray by
        rw [← hA]; simp [List.setIfInBounds_toArray]]
      rw [this]; simp
theorem fill_cat (size : Nat) : ∀ (us : List (Nat × Value)) (k : Nat) (A B : List Value), us.map (·.1) = List.range' k us.length → (∀ u, u ∈ us → u.2.cells.size = size) → A.length = k * size → B.length = us.length * size →
    Instr.fill (fun i => some (i * size, size)) (A ++ B).toArray us = some (A ++ catL us).toArray
  | [], k, A, B, _, _, _, hB => by
    have : B = [] := List.eq_nil_of_length_eq_zero (by simpa using hB)
    subst this; rfl
  | u :: us, k, A, B, h1, h2, hA, hB => by
    obtain ⟨i, v⟩ := u
    simp only [List.map_cons, List.length_cons, List.range'_succ, List.cons.injEq] at h1
    obtain ⟨hi, h1⟩ := h1
    subst hi
    have hv := h2 (i, v) (by simp)
    simp only at hv
    have hB' : (B.take size).length = size := by
      simp only [List.length_cons, Nat.add_mul] at hB; simp; omega
    have hsz : (A ++ B).toArray.size = i * size + B.length := by simp [hA]
    simp only [Instr.fill]
    rw [hv, hsz]
    have hc : ¬ ((size ≠ size) ∨ i * size + size > i * size + B.length) := by
      simp only [List.length_cons, Nat.add_mul] at hB; omega
    rw [if_neg (by simpa using hc)]
    have hz := zip_foldl v.cells.toList (i * size) 0 A (B.take size) (B.drop size) (by simpa using hA) (by rw [hB']; simpa using hv)
    rw [show A ++ B.take size ++ B.drop size = A ++ B by rw [List.append_assoc, List.take_append_drop]] at hz
    rw [show Array.foldl (fun cs x => cs.setIfInBounds (i * size + x.snd) x.fst) (A ++ B).toArray v.cells.zipIdx = (A ++ v.cells.toList ++ B.drop size).toArray from by
      rw [← hz, ← Array.foldl_toList]; simp]
    rw [fill_cat size us (i + 1) (A ++ v.cells.toList) (B.drop size) h1 (fun u hu => h2 u (by simp [hu])) (by simp [hA, hv, Nat.add_mul]) (by simp only [List.length_cons, Nat.add_mul] at hB; simp; omega)]
    simp [catL]
theorem l_buildSlice {d : Nat} {pos : String} {aft : Array Edge} {t e : TypeId} {m size bytes : Nat} {z : Value} {parts : List (Nat × Operand)} {us : List (Nat × Value)} (hd : d < n) (hu : P.underlying t = some (.slice e)) (hi : InfoIs P e size bytes z) (hm : m * size ≤ 16777216) (hm0 : m * size ≠ 0)
    (hp : evs L parts = some us) (hix : us.map (·.1) = List.range' 0 us.length) (hlen : us.length = m) (hsz : us.all (fun u => u.2.cells.size == size) = true)
    (h : ∀ b, WL P w0 K n ops rest N ((d, .slice (some ⟨b, 0, none⟩) m m) :: L) (iCells b e (catL us) :: σ) ρ) : WL P w0 K n ops (⟨some d, .buildSlice t m parts.toArray, ty, pos, aft, none⟩ :: rest) N L σ ρ :=
  l_step hd fun a w hfr hs => ⟨_, w.alloc (.cells (catL us).toArray e), _, _, by
    have key := evs_eval hfr parts us hp
    have h0 : ¬ (16777216 < m * size) := by omega
    have hf := fill_cat size us 0 [] ((Array.range (m * size)).map (z.cells[· % z.cells.size]!)).toList hix (fun u hu' => by simpa using List.all_eq_true.1 hsz u hu') (by simp) (by simp [hlen])
    simp only [List.nil_append, Array.toArray_toList] at hf
    simp [execOp, Instr.buildSlice, run_underlying hu, run_sizeOf' hi, run_zeroValue' hi, h0, key, hf, newRow]
    exact fun h => absurd h hm0
    , hs.alloc _ (iCells w.heap.size e (catL us)) rfl (iCells_dep _ _ _) (heap_new w (catL us) e), h _⟩
theorem l_buildSlice0 {d : Nat} {pos : String} {aft : Array Edge} {t e : TypeId} {size bytes : Nat} {z : Value} (hd : d < n) (hu : P.underlying t = some (.slice e)) (hi : InfoIs P e size bytes z)
    (h : ∀ b, WL P w0 K n ops rest N ((d, .slice (some ⟨b, 0, none⟩) 0 0) :: L) (iCells b e [] :: σ) ρ) : WL P w0 K n ops (⟨some d, .buildSlice t 0 #[], ty, pos, aft, none⟩ :: rest) N L σ ρ :=
  l_step hd fun a w hfr hs => ⟨_, w.alloc (.cells #[] e), _, _, by
    simp [execOp, Instr.buildSlice, run_underlying hu, run_sizeOf' hi, Instr.fill, newRow]
    congr 2
    exact Array.map_empty
    , hs.alloc _ (iCells w.heap.size e []) rfl (iCells_dep _ _ _) (heap_new w [] e), h _⟩
/-- make([]T, n) -/
theorem l_make {d : Nat} {pos : String} {aft : Array Edge} {t e : TypeId} {l c : Operand} {size bytes : Nat} {z : Value} {k1 k2 : IntKind} {x y : Int} {m : Nat} (hd : d < n) (hu : P.underlying t = some (.slice e)) (hi : InfoIs P e size bytes z) (hs1 : z.cells = #[z]) (hs2 : size = 1)
    (hl : ev L l = some (.int k1 x)) (hc : ev L c = some (.int k2 y)) (hx : x = (m : Int)) (hy : y = (m : Int)) (hm : bytes * m ≤ 281474976710656) (hm' : m ≤ 9223372036854775807)
    (h : ∀ b, WL P w0 K n ops rest N ((d, .slice (some ⟨b, 0, none⟩) m m) :: L) (iCells b e (List.replicate m z) :: σ) ρ) : WL P w0 K n ops (⟨some d, .makeSlice t l c, ty, pos, aft, none⟩ :: rest) N L σ ρ := by
  subst hx; subst hy; subst hs2
  refine l_step hd fun a w hfr hs => ⟨_, w.alloc (.cells (List.replicate m z).toArray e), _, _, ?_, hs.alloc _ (iCells w.heap.size e _) rfl (iCells_dep _ _ _) (heap_new w _ e), h _⟩
  obtain ⟨i, h1, h2, h3, h4⟩ := hi.get
  have h5 := run_make (P := P) w t e i z hu h1 h4 k1 k2 (m : Int) (m : Int) (by omega) (Int.le_refl _) (by rw [h3]; omega) (by omega)
  have h6 : madeCells z.cells (m * 1) = (List.replicate m z).toArray := by
    rw [hs1, Nat.mul_one]
    apply Array.ext
    · simp [madeCells]
    · intro j hj1 hj2
      simp [madeCells, Nat.mod_one]
  rw [h2, Int.toNat_natCast, h6] at h5
  simp [execOp, hfr.ev hl, hfr.ev hc, h5]
end

/-! ## append -/
section
variable {P : Program} {r : Option Nat} {w0 : World} {K : List Nat} {n : Sz} {N : Act → World → Prop} {E : Nat → Act → World → Prop} {R : Act → World → Prop} {L : Slots} {σ : Own} {ρ : Facts} {ops : Array Oper} {rest : List Oper} {ty : TypeId}
theorem ownBlock_nodup (v : Value) : v.ownBlock.toList.Nodup := by cases v.ownBlock <;> simp
/-- the core of an append of cells that lie at A -/
theorem run_append_st {w : World} {t e : TypeId} {size bytes : Nat} {z : Value} (hu : P.underlying t = some (.slice e)) (hi : InfoIs P e size bytes z) (hzs : z.cells.size = size) (hsz : 0 < size) {v : Value} {m : Nat} {xs : List Value}
    (hs : St w0 K w (iRow e size v m xs :: σ) ρ) {A : Option Addr} {p c : Nat} {news : List Value} (hl : news.length = p * size) (hA : A = none → p = 0) (hc : ∀ ad, A = some ad → ∀ j u, news[j]? = some u → w.cell? (ad.add j) = some u) (h1 : ∀ u ∈ news, u.oneCell' = true)
    (h63 : m + p ≤ 9223372036854775807) (hby : (m + p) * bytes ≤ 140737488355328) :
    ∃ v' w', (Builtin.append_ #[t, t] ty #[v, .slice A p c]).run P w = .ok v' w' ∧ (v' = .slice none 0 0 ↔ v = .slice none 0 0 ∧ p = 0) ∧ St w0 K w' (iRow e size v' (m + p) (xs ++ news) :: σ) ρ := by
  obtain ⟨i, i1, i2, i3, i4⟩ := hi.get
  have hown : w.ownsRow 0 e size v m xs := (hs.own _ (List.mem_cons_self ..)).1
  cases A with
  | none =>
    have := hA rfl
    subst this
    have hn : news = [] := List.eq_nil_of_length_eq_zero (by simpa using hl)
    subst hn
    refine ⟨v, w, ?_, by simp, by simpa using hs⟩
    rcases hown.2 with ⟨rfl, rfl⟩ | ⟨g, cap, cur, rfl, _, _, hnc, _⟩
    · simp [Builtin.append_, run_underlying hu, sizeOf, typeInfo, i1, Builtin.lenOf, Builtin.firstCells]
    · simp [Builtin.append_, run_underlying hu, sizeOf, typeInfo, i1, Builtin.lenOf, Builtin.firstCells, hnc, storeCells]
  | some ad =>
    obtain ⟨v', w', hrun, r1, r2, r3, r4⟩ := run_append_own_at (P := P) w 0 t ty e i z size bytes hu i1 i4 i2 i3 hzs hsz v m xs hown ad p c news hl (hc ad rfl) h1 (by unfold maxLen; omega) hby (Nat.zero_le _)
    refine ⟨v', w', hrun, r3, hs.turn ⟨r2.os, r2.tape, r2.output, r2.size, fun k hk hn => r2.block k hk (fun hh => hn (by simp [iRow, ← hh]))⟩ r1 (iRow_dep _ _ _ _ _) (fun k hk => ?_) (ownBlock_nodup _)⟩
    have hk' : v'.ownBlock = some k := by simpa [iRow] using hk
    have hlt := (r1.lt k hk').2
    rcases r4 with r4 | r4
    · left; simpa [iRow, ← r4] using hk'
    · rw [r4] at hk'; injection hk' with hk'; exact .inr ⟨by omega, hlt⟩
theorem row_form {w : World} {e size : Nat} {v : Value} {m : Nat} {xs : List Value} (h : w.ownsRow 0 e size v m xs) : ∃ A c, v = .slice A m c := by
  rcases h.2 with ⟨rfl, rfl⟩ | ⟨g, cap, cur, rfl, _⟩
  · exact ⟨_, _, rfl⟩
  · exact ⟨_, _, rfl⟩
/-- a nil slice is an own row -/
theorem l_row0 (e size : Nat) (h : WL P w0 K n ops rest N L (iRow e size (.slice none 0 0) 0 [] :: σ) ρ) : WL P w0 K n ops rest N L σ ρ := fun a w hf hs => h a w hf
  ⟨hs.ext, by simpa [keysOf, iRow, Value.ownBlock] using hs.nodup, fun x hx => by
    rcases List.mem_cons.1 hx with rfl | hx
    · exact ⟨World.ownsRow_nil _ _ _ _, iRow_dep _ _ _ _ _, fun k hk => by simp [iRow, Value.ownBlock] at hk⟩
    · exact hs.own x hx, fun q hq => by simpa [keysOf, iRow, Value.ownBlock] using hs.facts q hq⟩
theorem c_row0 (e size : Nat) (h : Cont w0 K n N L (iRow e size (.slice none 0 0) 0 [] :: σ) ρ) : Cont w0 K n N L σ ρ := fun a w hf hs => h a w hf
  ⟨hs.ext, by simpa [keysOf, iRow, Value.ownBlock] using hs.nodup, fun x hx => by
    rcases List.mem_cons.1 hx with rfl | hx
    · exact ⟨World.ownsRow_nil _ _ _ _, iRow_dep _ _ _ _ _, fun k hk => by simp [iRow, Value.ownBlock] at hk⟩
    · exact hs.own x hx, fun q hq => by simpa [keysOf, iRow, Value.ownBlock] using hs.facts q hq⟩
/-- append of a literal that has just been built -/
theorem l_append {d : Nat} {pos : String} {aft : Array Edge} {s x : Operand} {t e : TypeId} {size bytes : Nat} {z : Value} {A : Option Addr} {m c b p q : Nat} {vs xs : List Value} (hd : d < n) (hu : P.underlying t = some (.slice e)) (hi : InfoIs P e size bytes z) (hzs : z.cells.size = size) (hsz : 0 < size)
    (hsv : ev L s = some (.slice A m c)) (hx : ev L x = some (.slice (some ⟨b, 0, none⟩) p q)) (hl : vs.length = p * size) (h1 : vs.all (·.oneCell') = true) (h63 : m + p ≤ 9223372036854775807) (hby : (m + p) * bytes ≤ 140737488355328)
    (h : ∀ A' c', (p ≠ 0 → A' ≠ none) → WL P w0 K n ops rest N ((d, .slice A' (m + p) c') :: L) (iRow e size (.slice A' (m + p) c') (m + p) (xs ++ vs) :: σ) ρ) :
    WL P w0 K n ops (⟨some d, .call { callee := .builtin .append, args := #[s, x], argTypes := #[t, t] }, ty, pos, aft, none⟩ :: rest) N L (iCells b e vs :: iRow e size (.slice A m c) m xs :: σ) ρ :=
  l_step hd fun a w hf hs => by
    have hcell := cells_cell (hs.own _ (List.mem_cons_self ..)).1
    obtain ⟨v', w', hrun, r3, hs'⟩ := run_append_st (ty := ty) hu hi hzs hsz hs.drop (A := some ⟨b, 0, none⟩) (c := q) hl (fun h => by cases h) (fun ad had j u hj => by injection had with had; subst had; rw [off_add, Nat.zero_add, hcell, hj])
      (fun u hu' => by simpa using List.all_eq_true.1 h1 u hu') h63 hby
    obtain ⟨A', c', hv'⟩ := row_form (hs'.own _ (List.mem_cons_self ..)).1
    subst hv'
    refine ⟨_, w', _, _, ?_, hs', h A' c' (fun hp hA => ?_)⟩
    · simp [execOp, resolve, invoke, builtin, hf.ev hsv, hf.ev hx, hrun]
    · subst hA
      rcases (hs'.own _ (List.mem_cons_self ..)).1.2 with ⟨_, h2⟩ | ⟨g, cap, cur, hv, _⟩
      · omega
      · cases hv
/-- append of a slice that is only read -/
theorem l_appends {α : Type} {d : Nat} {pos : String} {aft : Array Edge} {s x : Operand} {t e : TypeId} {size bytes : Nat} {z : Value} {A B : Option Addr} {m c p q : Nat} {xs : List Value} {f : α → List Value} {es : List α} (hd : d < n) (hu : P.underlying t = some (.slice e)) (hi : InfoIs P e size bytes z) (hzs : z.cells.size = size) (hsz : 0 < size)
    (hsv : ev L s = some (.slice A m c)) (hx : ev L x = some (.slice B p q)) (hp : p = es.length) (hq : Sl size f B es ∈ ρ) (hB : B = none → es = []) (h1 : ∀ e u, u ∈ f e → u.oneCell' = true) (h63 : m + es.length ≤ 9223372036854775807) (hby : (m + es.length) * bytes ≤ 140737488355328)
    (h : ∀ A' c', (es ≠ [] → A' ≠ none) → WL P w0 K n ops rest N ((d, .slice A' (m + es.length) c') :: L) (iRow e size (.slice A' (m + es.length) c') (m + es.length) (xs ++ es.flatMap f) :: σ) ρ) :
    WL P w0 K n ops (⟨some d, .call { callee := .builtin .append, args := #[s, x], argTypes := #[t, t] }, ty, pos, aft, none⟩ :: rest) N L (iRow e size (.slice A m c) m xs :: σ) ρ :=
  l_step hd fun a w hf hs => by
    subst hp
    have hsl := (hs.facts _ hq).1
    have hlen : ∀ (l : List α), (∀ e, e ∈ l → (f e).length = size) → (l.flatMap f).length = l.length * size := fun l => by
      induction l with
      | nil => intro _; simp
      | cons e l ih => intro hh; simp only [List.flatMap_cons, List.length_append, List.length_cons, hh e (by simp), ih (fun x hx => hh x (by simp [hx])), Nat.add_mul]; omega
    have hall : ∀ e, e ∈ es → (f e).length = size := fun e he => by
      obtain ⟨i, hi⟩ := List.getElem?_of_mem he
      exact (hsl i e hi).1
    have hget : ∀ (l : List α), (∀ e, e ∈ l → (f e).length = size) → ∀ j u, (l.flatMap f)[j]? = some u → ∃ i k e, j = i * size + k ∧ l[i]? = some e ∧ (f e)[k]? = some u := fun l => by
      induction l with
      | nil => intro _ j u hj; simp at hj
      | cons e l ih =>
        intro hh j u hj
        simp only [List.flatMap_cons] at hj
        by_cases hlt : j < (f e).length
        · rw [List.getElem?_append_left hlt] at hj
          exact ⟨0, j, e, by simp, rfl, hj⟩
        · rw [List.getElem?_append_right (by omega), hh e (by simp)] at hj
          obtain ⟨i, k, e', h1, h2, h3⟩ := ih (fun x hx => hh x (by simp [hx])) _ _ hj
          rw [hh e (by simp)] at hlt
          exact ⟨i + 1, k, e', by rw [Nat.add_mul]; omega, h2, h3⟩
    obtain ⟨v', w', hrun, r3, hs'⟩ := run_append_st (ty := ty) hu hi hzs hsz hs (A := B) (c := q) (hlen es hall) (fun hB' => by rw [hB hB']; rfl)
      (fun ad had j u hj => by
        obtain ⟨i, k, e, h1, h2, h3⟩ := hget es hall j u hj
        obtain ⟨_, b, off, h4, h5⟩ := hsl i e h2
        rw [had] at h4; injection h4 with h4; subst h4
        rw [off_add, h1]; exact h5 k u h3)
      (fun u hu' => by
        obtain ⟨e, _, he⟩ := List.mem_flatMap.1 hu'
        exact h1 e u he) h63 hby
    obtain ⟨A', c', hv'⟩ := row_form (hs'.own _ (List.mem_cons_self ..)).1
    subst hv'
    refine ⟨_, w', _, _, ?_, hs', h A' c' (fun hp hA => ?_)⟩
    · simp [execOp, resolve, invoke, builtin, hf.ev hsv, hf.ev hx, hrun]
    · subst hA
      rcases (hs'.own _ (List.mem_cons_self ..)).1.2 with ⟨_, h2⟩ | ⟨g, cap, cur, hv, _⟩
      · have : es.length ≠ 0 := fun h => hp (List.eq_nil_of_length_eq_zero h)
        omega
      · cases hv
/-- an own row reads as a slice -/
theorem row_sl {α : Type} {w : World} {e size : Nat} {A : Option Addr} {m c : Nat} {f : α → List Value} {es : List α} (hf : ∀ e, (f e).length = size) (h : w.ownsRow 0 e size (.slice A m c) m (es.flatMap f)) (hs : 0 < size) : Sl size f A es w := fun i x hx => by
  have hget : ∀ (l : List α) i x, l[i]? = some x → ∀ j u, (f x)[j]? = some u → (l.flatMap f)[i * size + j]? = some u := fun l => by
    induction l with
    | nil => intro i x hx; simp at hx
    | cons y l ih =>
      intro i x hx j u hj
      cases i with
      | zero =>
        simp at hx; subst hx
        simp only [List.flatMap_cons, Nat.zero_mul, Nat.zero_add]
        rw [List.getElem?_append_left ((List.getElem?_eq_some_iff.1 hj).1)]; exact hj
      | succ i =>
        simp at hx
        simp only [List.flatMap_cons]
        rw [List.getElem?_append_right (by rw [hf, Nat.add_mul]; omega), hf, show (i + 1) * size + j - size = i * size + j by rw [Nat.add_mul]; omega]
        exact ih i x hx j u hj
  refine ⟨hf x, ?_⟩
  have h0 : (f x)[0]? = some ((f x)[0]'(by rw [hf]; exact hs)) := List.getElem?_eq_getElem _
  have hlen : 0 < (es.flatMap f).length := by
    have := (List.getElem?_eq_some_iff.1 (hget es i x hx 0 _ h0)).1
    omega
  rcases h.2 with ⟨h1, h2⟩ | ⟨g, cap, cur, hv, hb, hh, hm, hcm, hsz, htk⟩
  · have := h.1; rw [h2] at this; omega
  · injection hv with hA _ _
    subst hA
    refine ⟨g, 0, rfl, fun j u hj => ?_⟩
    have := h.cells (g := g) (by simp [Value.ownBlock]) _ _ (hget es i x hx j u hj)
    rwa [off_add] at this
end

/-! ## functions -/
/-- a call that returns -/
def Ret (T : Value → World → Prop) : Ending → World → Prop
  | .returned v, w => T v w
  | _, _ => False
def RetP (P : Program) (fn : Func) (T : Value → World → Prop) (a : Act) (w : World) : Prop := a.defers = [] ∧ ∃ v, (results fn a.tmps).run P w = .ok v w ∧ T v w
def slots0 : Nat → List Value → Slots
  | _, [] => []
  | k, v :: l => (k, v) :: slots0 (k + 1) l
theorem look_slots0 (l : List Value) : ∀ k i v, look (slots0 k l) i = some v → k ≤ i ∧ l[i - k]? = some v := by
  induction l with
  | nil => intro k i v h; cases h
  | cons u l ih =>
    intro k i v h
    simp only [slots0, look] at h
    split at h
    · rename_i hi; subst hi; injection h with h; subst h; simp
    · obtain ⟨h1, h2⟩ := ih _ _ _ h
      refine ⟨by omega, ?_⟩
      rw [show i - k = (i - (k + 1)) + 1 by omega]
      simpa using h2
theorem fr_start (l : List Value) (n : Nat) (h : l.length ≤ n) : Fr { tmps := l.toArray ++ Array.replicate (n - l.toArray.size) undef, defers := [] } ⟨n, []⟩ (slots0 0 l) := by
  refine ⟨rfl, by simp; omega, fun i v hi => ?_⟩
  obtain ⟨_, h2⟩ := look_slots0 l 0 i v hi
  have hlt : i < l.length := by have := (List.getElem?_eq_some_iff.1 h2).1; simpa using this
  rw [Array.getElem?_append_left (by simpa using hlt)]
  simpa using h2
theorem calls_fx {P : Program} {f : FuncId} {fn : Func} {c : Code} {l : List Value} {w : World} {K : List Nat} {σ : Own} {ρ : Facts} {n : Nat} {T : Value → World → Prop} (hf : P.funcs[f]? = some fn) (hb : fn.body = some c) (hn : fn.ntmps = n) (hl : l.length ≤ n)
    (hst : St w K w σ ρ) (h : Cont w K ⟨n, []⟩ (W none P c (RetP P fn T) noE (RetP P fn T)) (slots0 0 l) σ ρ) : Calls P f l.toArray w (Ret T) := by
  refine calls_of_wp hf hb ?_
  rw [hn]
  refine wp_mono (wpIn_wide.1 (h _ w (fr_start l n hl) hst)) fun e a w q => ?_
  cases e with
  | normal => exact ⟨q.1, q.2⟩
  | ret => exact ⟨q.1, q.2⟩
  | _ => exact q.elim
section
variable {P : Program} {r : Option Nat} {w0 : World} {K : List Nat} {n : Sz} {N : Act → World → Prop} {E : Nat → Act → World → Prop} {R : Act → World → Prop} {L : Slots} {σ : Own} {ρ : Facts} {ops : Array Oper} {rest : List Oper} {ty : TypeId}
theorem c_ret1 {m : Nat} {fn : Func} {T : Value → World → Prop} {t : Nat} {v : Value} (hr : fn.results = #[.tmp t]) (hv : look L t = some v) (h : ∀ w, St w0 K w σ ρ → T v w) : Cont w0 K ⟨m, []⟩ (RetP P fn T) L σ ρ := fun a w hf hs =>
  ⟨hf.dfr, v, by have := hf.at_ t v hv; simp [results, hr, Array.getD_eq_getD_getElem?, this], h w hs⟩
theorem c_ret2 {m : Nat} {fn : Func} {T : Value → World → Prop} {t s : Nat} {v u : Value} (hr : fn.results = #[.tmp t, .tmp s]) (hv : look L t = some v) (hu : look L s = some u) (h : ∀ w, St w0 K w σ ρ → T (.tuple #[v, u]) w) : Cont w0 K ⟨m, []⟩ (RetP P fn T) L σ ρ := fun a w hf hs =>
  ⟨hf.dfr, _, by have := hf.at_ t v hv; have := hf.at_ s u hu; simp [results, Array.getD_eq_getD_getElem?, *], h w hs⟩
theorem c_ret3 {m : Nat} {fn : Func} {T : Value → World → Prop} {t s r : Nat} {v u x : Value} (hr : fn.results = #[.tmp t, .tmp s, .tmp r]) (hv : look L t = some v) (hu : look L s = some u) (hx : look L r = some x) (h : ∀ w, St w0 K w σ ρ → T (.tuple #[v, u, x]) w) : Cont w0 K ⟨m, []⟩ (RetP P fn T) L σ ρ := fun a w hf hs =>
  ⟨hf.dfr, _, by have := hf.at_ t v hv; have := hf.at_ s u hu; have := hf.at_ r x hx; simp [results, Array.getD_eq_getD_getElem?, *], h w hs⟩
theorem c_ret0 {m : Nat} {fn : Func} {T : Value → World → Prop} (hr : fn.results = #[]) (h : ∀ w, St w0 K w σ ρ → T (.tuple #[]) w) : Cont w0 K ⟨m, []⟩ (RetP P fn T) L σ ρ := fun a w hf hs =>
  ⟨hf.dfr, _, by simp [results, hr], h w hs⟩
def Callable (P : Program) (k : FuncId) : Prop := ∃ fn, P.funcs[k]? = some fn ∧ (fn.name == "runtime.NumGoroutine") = false ∧ fn.body.isNone = false
theorem run_callFunc {k : FuncId} (h : Callable P k) (args : Array Value) (w : World) : (callFunc k args).run P w = .ok (.enter k args) w := by
  obtain ⟨fn, h1, h2, h3⟩ := h
  have h2' : ¬ fn.name = "runtime.NumGoroutine" := by simpa using h2
  simp [callFunc, h1, h2']
  intro hb; simp [hb] at h3
theorem run_call {k : FuncId} (hk : Callable P k) {x : Operand} {first cap : Array Value} {xs : List Operand} {us : List Value} {at_ : Array TypeId} {e : Operand → Value} {o : Oper} {w : World} (ho : o.op = .call { callee := .value x, args := xs.toArray, argTypes := at_ }) (hx : e x = .func (.func k) first cap) (ha : xs.map e = us) :
    (execOp e o).run P w = .ok (.enter k (first ++ us.toArray ++ cap)) w := by
  subst ha
  simp [execOp, ho, resolve, Deferred.ofValue, hx, invoke, run_callFunc hk]
def evl (L : Slots) : List Operand → Option (List Value)
  | [] => some []
  | x :: xs => match ev L x, evl L xs with
    | some v, some us => some (v :: us)
    | _, _ => none
theorem args_evl {e : Operand → Value} (he : ∀ x u, ev L x = some u → e x = u) : ∀ (xs : List Operand) (us : List Value), evl L xs = some us → xs.map e = us
  | [], us, h => by simp only [evl, Option.some.injEq] at h; subst h; rfl
  | x :: xs, us, h => by
    simp only [evl] at h
    split at h
    · rename_i v us' h1 h2
      simp only [Option.some.injEq] at h; subst h
      simp [he _ _ h1, args_evl he xs us' h2]
    · cases h
theorem args_of {xs : List Operand} {us : List Value} {e : Operand → Value} (ha : xs.map (ev L) = us.map some) (he : ∀ x u, ev L x = some u → e x = u) : xs.map e = us := by
  induction xs generalizing us with
  | nil => cases us with
    | nil => rfl
    | cons u us => cases ha
  | cons x xs ih => cases us with
    | nil => cases ha
    | cons u us =>
      simp only [List.map_cons, List.cons.injEq] at ha ⊢
      exact ⟨he _ _ ha.1, ih ha.2⟩
/-- a call that yields a plain value -/
theorem q_call {k : FuncId} {xs : List Operand} {us : List Value} {at_ : Array TypeId} {V : Value} (hk : Callable P k) (ha : evl L xs = some us) (hc : ∀ w, St w0 K w σ ρ → Calls P k us.toArray w (Ret fun v w' => v = V ∧ Ext [] w w')) :
    Qui P w0 K n (.call { callee := .value (.func k), args := xs.toArray, argTypes := at_ }) ty L σ ρ V := fun a o w ho _ hf hs => by
  unfold Oper.quietAt
  rw [run_call hk (first := #[]) (cap := #[]) (w := w) ho rfl (args_evl (fun x u hx => hf.ev hx) _ _ ha)]
  refine ⟨rfl, ?_⟩
  simp only [Array.empty_append, Array.append_empty]
  refine (hc w hs).mono fun e w' h => ?_
  cases e with
  | returned v => exact ⟨by rw [h.1], hs.move h.2⟩
  | _ => exact h.elim
/-- a call that yields a value in new memory -/
theorem l_call {X : Type} {d : Nat} {pos : String} {aft : Array Edge} {k : FuncId} {xs : List Operand} {us : List Value} {at_ : Array TypeId} (V : X → Value) (q : X → World → Prop) (hd : d < n) (hk : Callable P k) (ha : evl L xs = some us)
    (hc : ∀ w, St w0 K w σ ρ → Calls P k us.toArray w (Ret fun v w' => ∃ x, v = V x ∧ q x w' ∧ Dep w.heap.size w'.heap.size (q x) ∧ Ext [] w w')) (h : ∀ x, WL P w0 K n ops rest N ((d, V x) :: L) σ (q x :: ρ)) :
    WL P w0 K n ops (⟨some d, .call { callee := .value (.func k), args := xs.toArray, argTypes := at_ }, ty, pos, aft, none⟩ :: rest) N L σ ρ := fun a w hf hs => by
  refine wpList_plain rfl fun K' hK => ?_
  unfold Oper.wp
  rw [run_call hk (first := #[]) (cap := #[]) (w := w) rfl rfl (args_evl (fun x u hx => hf.ev hx) _ _ ha)]
  simp only [Array.empty_append, Array.append_empty, Oper.upon]
  refine (hc w hs).mono fun e w' hr => ?_
  cases e with
  | returned v =>
    obtain ⟨x, rfl, h1, h2, h3⟩ := hr
    exact hK _ _ (h x _ _ (hf.put hd _) (hs.fact h3 h1 h2))
  | _ => exact hr.elim
end

section
variable {P : Program} {r : Option Nat} {w0 : World} {K : List Nat} {n : Sz} {N : Act → World → Prop} {E : Nat → Act → World → Prop} {R : Act → World → Prop} {L : Slots} {σ : Own} {ρ : Facts} {ops : Array Oper} {rest : List Oper} {ty : TypeId}
/-! a test whose value is not known: two ways -/
theorem l_splitd {t : Nat} {p : Prop} [Decidable p] (hc : look L t = some (.bool (decide p))) (h1 : p → WL P w0 K n ops rest N ((t, .bool true) :: L) σ ρ) (h2 : ¬ p → WL P w0 K n ops rest N ((t, .bool false) :: L) σ ρ) : WL P w0 K n ops rest N L σ ρ := fun a w hf hs => by
  by_cases h : p
  · refine h1 h a w ⟨hf.dfr, hf.size, fun i v hi => ?_⟩ hs
    simp only [look] at hi
    split at hi
    · rename_i e; subst e; injection hi with hi; subst hi; have := hf.at_ _ _ hc; simpa [h] using this
    · exact hf.at_ i v hi
  · refine h2 h a w ⟨hf.dfr, hf.size, fun i v hi => ?_⟩ hs
    simp only [look] at hi
    split at hi
    · rename_i e; subst e; injection hi with hi; subst hi; have := hf.at_ _ _ hc; simpa [h] using this
    · exact hf.at_ i v hi
theorem q_splitd {t : Nat} {p : Prop} [Decidable p] (hc : look L t = some (.bool (decide p))) (h1 : p → QL P w0 K n ops rest N ((t, .bool true) :: L) σ ρ) (h2 : ¬ p → QL P w0 K n ops rest N ((t, .bool false) :: L) σ ρ) : QL P w0 K n ops rest N L σ ρ := fun a hf => by
  by_cases h : p
  · refine h1 h a ⟨hf.dfr, hf.size, fun i v hi => ?_⟩
    simp only [look] at hi
    split at hi
    · rename_i e; subst e; injection hi with hi; subst hi; have := hf.at_ _ _ hc; simpa [h] using this
    · exact hf.at_ i v hi
  · refine h2 h a ⟨hf.dfr, hf.size, fun i v hi => ?_⟩
    simp only [look] at hi
    split at hi
    · rename_i e; subst e; injection hi with hi; subst hi; have := hf.at_ _ _ hc; simpa [h] using this
    · exact hf.at_ i v hi
theorem l_splitb {t : Nat} {b : Bool} (hc : look L t = some (.bool b)) (h1 : b = true → WL P w0 K n ops rest N ((t, .bool true) :: L) σ ρ) (h2 : b = false → WL P w0 K n ops rest N ((t, .bool false) :: L) σ ρ) : WL P w0 K n ops rest N L σ ρ :=
  l_splitd (t := t) (p := b = true) (by rw [hc]; cases b <;> rfl) h1 (fun h => h2 (by simpa using h))
theorem q_splitb {t : Nat} {b : Bool} (hc : look L t = some (.bool b)) (h1 : b = true → QL P w0 K n ops rest N ((t, .bool true) :: L) σ ρ) (h2 : b = false → QL P w0 K n ops rest N ((t, .bool false) :: L) σ ρ) : QL P w0 K n ops rest N L σ ρ :=
  q_splitd (t := t) (p := b = true) (by rw [hc]; cases b <;> rfl) h1 (fun h => h2 (by simpa using h))
/-! min, max -/
theorem p_min {x y : Operand} {at_ : Array TypeId} {k k2 : IntKind} {a b : Int} {i j : Nat} (hx : ev L x = some (.int k a)) (hy : ev L y = some (.int k2 b)) (ha : a = (i : Int)) (hb : b = (j : Int)) :
    Pure P (.call { callee := .builtin .min, args := #[x, y], argTypes := at_ }) ty L (.int k ((min i j : Nat) : Int)) := fun e o w ho _ he => by
  subst ha; subst hb
  have : (if (j : Int) < (i : Int) then (j : Int) else (i : Int)) = ((min i j : Nat) : Int) := by split <;> omega
  simp [execOp, ho, resolve, invoke, builtin, Builtin.min_, Builtin.min2, he x _ hx, he y _ hy]
  simpa using this
theorem p_mini {x y : Operand} {at_ : Array TypeId} {k k2 : IntKind} {a b : Int} (hx : ev L x = some (.int k a)) (hy : ev L y = some (.int k2 b)) :
    Pure P (.call { callee := .builtin .min, args := #[x, y], argTypes := at_ }) ty L (.int k (min a b)) := fun e o w ho _ he => by
  have : (if b < a then b else a) = min a b := by split <;> omega
  simp [execOp, ho, resolve, invoke, builtin, Builtin.min_, Builtin.min2, he x _ hx, he y _ hy, this]
/-! bytes and strings -/
def bytesV (l : List UInt8) : List Value := l.map fun u => .int .u8 (u.toNat : Int)
theorem run_bytes (w : World) (b off c : Nat) (l : List UInt8) (h : ∀ j u, (bytesV l)[j]? = some u → w.cell? ⟨b, off + j, none⟩ = some u) : (Conv.bytesToString (.slice (some ⟨b, off, none⟩) l.length c)).run P w = .ok (str l) w := by
  have hl := run_loadCells_of (P := P) w b off (bytesV l) h
  rw [show (bytesV l).length = l.length by simp [bytesV]] at hl
  have key : ∀ (m : List UInt8) (s : List UInt8), (forIn (m := Sem) (bytesV m) (⟨s.toArray⟩ : ByteArray) (fun c r => match c with
      | .int .u8 n => do pure (ForInStep.yield (r.push (UInt8.ofNat n.toNat)))
      | _ => do
        stuck (α := Unit) "bytesToString: byte expected"
        pure (ForInStep.yield r))).run P w = .ok ⟨(s ++ m).toArray⟩ w := by
    intro m
    induction m with
    | nil => intro s; simp [bytesV]
    | cons u m ih =>
      intro s
      have := ih (s ++ [u])
      simp only [bytesV, List.map_cons, List.forIn_cons] at this ⊢
      have hu : UInt8.ofNat ((u.toNat : Int).toNat) = u := by simp
      have hp : (⟨s.toArray⟩ : ByteArray).push u = ⟨(s ++ [u]).toArray⟩ := by apply ByteArray.ext; simp
      simp only [hu, hp]
      simpa using this
  have := key l []
  simp only [Conv.bytesToString, Sem.run_bind, hl, Result.andThen_ok, ← Array.forIn_toList]
  refine (congrArg (fun r => Result.andThen r _) this).trans ?_
  simp [str]
theorem r_bytes {x : Operand} {s d e et : TypeId} {b c m : Nat} {vs : List Value} {l : List UInt8} (hs : P.underlying s = some (.slice e)) (hd : P.underlying d = some .string) (he : P.underlying e = some (.int .u8)) (hx : ev L x = some (.slice (some ⟨b, 0, none⟩) m c))
    (hq : iCells b et vs ∈ σ) (hv : vs = bytesV l) (hm : m = l.length) : Reads P w0 K (.convert s d x) ty L σ ρ (str l) := fun ee o w ho _ hev hst => by
  subst hv; subst hm
  have hc := cells_cell (hst.own _ hq).1
  have := run_bytes (P := P) w b 0 c l (fun j u hj => by rw [hc, Nat.zero_add, hj])
  simp [execOp, ho, convert, hev x _ hx, run_underlying hs, run_underlying hd, run_underlying he, this]
end

/-! ## own rows of elements -/
def iSl {α : Type} (e size : Nat) (f : α → List Value) (A : Option Addr) (c : Nat) (es : List α) : Item := iRow e size (.slice A es.length c) es.length (es.flatMap f)
section
variable {P : Program} {r : Option Nat} {w0 : World} {K : List Nat} {n : Sz} {N : Act → World → Prop} {E : Nat → Act → World → Prop} {R : Act → World → Prop} {L : Slots} {σ : Own} {ρ : Facts} {ops : Array Oper} {rest : List Oper} {ty : TypeId}
theorem SlIn.own {α : Type} {e size : Nat} {f : α → List Value} {A : Option Addr} {c : Nat} {es : List α} (h : iSl e size f A c es ∈ σ) (hs : 0 < size) (hf : ∀ x, (f x).length = size) : SlIn w0 K σ ρ size f A es := fun _ hst =>
  row_sl hf (hst.own _ h).1 hs
theorem l_sl0 {α : Type} (e size : Nat) (f : α → List Value) (h : WL P w0 K n ops rest N L (iSl e size f none 0 [] :: σ) ρ) : WL P w0 K n ops rest N L σ ρ := l_row0 e size h
theorem c_sl0 {α : Type} (e size : Nat) (f : α → List Value) (h : Cont w0 K n N L (iSl e size f none 0 [] :: σ) ρ) : Cont w0 K n N L σ ρ := c_row0 e size h
theorem l_append1 {α : Type} {d : Nat} {pos : String} {aft : Array Edge} {s y : Operand} {t e : TypeId} {size bytes : Nat} {z : Value} {A : Option Addr} {c b q m : Nat} {vs : List Value} {f : α → List Value} {es : List α} (x : α) (hd : d < n) (hu : P.underlying t = some (.slice e)) (hi : InfoIs P e size bytes z) (hzs : z.cells.size = size) (hsz : 0 < size)
    (hsv : ev L s = some (.slice A m c)) (hm : m = es.length) (hx : ev L y = some (.slice (some ⟨b, 0, none⟩) 1 q)) (hv : vs = f x) (hl : (f x).length = 1 * size) (h1 : (f x).all (·.oneCell') = true) (h63 : es.length + 1 ≤ 9223372036854775807) (hby : (es.length + 1) * bytes ≤ 140737488355328)
    (h : ∀ A' c', A' ≠ none → WL P w0 K n ops rest N ((d, .slice A' (es ++ [x]).length c') :: L) (iSl e size f A' c' (es ++ [x]) :: σ) ρ) :
    WL P w0 K n ops (⟨some d, .call { callee := .builtin .append, args := #[s, y], argTypes := #[t, t] }, ty, pos, aft, none⟩ :: rest) N L (iCells b e vs :: iSl e size f A c es :: σ) ρ := by
  subst hv; subst hm
  refine l_append hd hu hi hzs hsz hsv hx hl h1 h63 hby fun A' c' hA => ?_
  have := h A' c' (hA (by omega))
  simpa only [iSl, List.length_append, List.length_cons, List.length_nil, List.flatMap_append, List.flatMap_cons, List.flatMap_nil, List.append_nil] using this
/-- at the end: what is owned is handed on -/
theorem St.give {α : Type} {e size : Nat} {f : α → List Value} {A : Option Addr} {c : Nat} {es : List α} {w : World} (hs : St w0 [] w σ ρ) (h : iSl e size f A c es ∈ σ) (hz : 0 < size) (hf : ∀ x, (f x).length = size) :
    Sl size f A es w ∧ Dep w0.heap.size w.heap.size (Sl size f A es) ∧ (es = [] → A = none ∨ True) := by
  obtain ⟨h1, _, h3⟩ := hs.own _ h
  refine ⟨row_sl hf h1 hz, Sl.dep fun a ha => ?_, fun _ => .inr trivial⟩
  have hk : a.block ∈ (iSl e size f A c es).keys := by subst ha; simp [iSl, iRow, Value.ownBlock]
  have := h3 _ hk
  exact ⟨by simpa using this.2, this.1⟩
end

/-! ## own memory handed to a callee -/
theorem keys_lt {w0 w : World} {K : List Nat} {σ : Own} {ρ : Facts} (h : St w0 K w σ ρ) {k : Nat} (hk : k ∈ keysOf σ) : k < w.heap.size ∧ (k ∈ K ∨ w0.heap.size ≤ k) := by
  obtain ⟨x, hx, hk⟩ := mem_keysOf.1 hk
  exact (h.own x hx).2.2 k hk
theorem St.focus {w0 w : World} {K : List Nat} {τ σ : Own} {ρ : Facts} (h : St w0 K w (τ ++ σ) ρ) : St w (keysOf τ) w τ ρ := by
  refine ⟨Ext.refl _ _, ?_, fun x hx => ?_, fun q hq => ?_⟩
  · have := h.nodup; rw [keysOf_append] at this; exact (List.nodup_append.1 this).1
  · obtain ⟨h1, h2, h3⟩ := h.own x (List.mem_append_left _ hx)
    exact ⟨h1, h2, fun k hk => ⟨(h3 k hk).1, .inl (mem_keysOf.2 ⟨x, hx, hk⟩)⟩⟩
  · obtain ⟨h1, S, h2, h3, h4⟩ := h.facts q hq
    exact ⟨h1, S, h2, h3, fun k hk => h4 k (by rw [keysOf_append]; exact List.mem_append_left _ hk)⟩
theorem St.splice {w0 w w' : World} {K : List Nat} {τ τ' σ : Own} {ρ ρ' : Facts} (h : St w0 K w (τ ++ σ) ρ) (h' : St w (keysOf τ) w' τ' ρ') : St w0 K w' (τ' ++ σ) ρ := by
  have hnd := h.nodup
  rw [keysOf_append] at hnd
  obtain ⟨_, hn2, hdis⟩ := List.nodup_append.1 hnd
  have hτ : ∀ k, k ∈ keysOf τ → k < w.heap.size ∧ (k ∈ K ∨ w0.heap.size ≤ k) := fun k hk => keys_lt h (by rw [keysOf_append]; exact List.mem_append_left _ hk)
  have hσ : ∀ k, k ∈ keysOf σ → k < w.heap.size ∧ (k ∈ K ∨ w0.heap.size ≤ k) := fun k hk => keys_lt h (by rw [keysOf_append]; exact List.mem_append_right _ hk)
  have hb : ∀ k, k < w.heap.size → k ∉ keysOf τ → w'.heap[k]? = w.heap[k]? := h'.ext.block
  refine ⟨⟨h'.ext.os.trans h.ext.os, h'.ext.tape.trans h.ext.tape, h'.ext.output.trans h.ext.output, Nat.le_trans h.ext.size h'.ext.size, fun k hk hkK => ?_⟩, ?_, fun x hx => ?_, fun q hq => ?_⟩
  · refine (hb k (Nat.lt_of_lt_of_le hk h.ext.size) (fun hkt => ?_)).trans (h.ext.block k hk hkK)
    rcases (hτ k hkt).2 with h1 | h1
    · exact hkK h1
    · omega
  · rw [keysOf_append]
    refine List.nodup_append.2 ⟨h'.nodup, hn2, fun k hk k' hk' e => ?_⟩
    subst e
    rcases (keys_lt h' hk).2 with h1 | h1
    · exact hdis k h1 k hk' rfl
    · have := (hσ k hk').1; omega
  · rcases List.mem_append.1 hx with hx | hx
    · obtain ⟨h1, h2, h3⟩ := h'.own x hx
      refine ⟨h1, h2, fun k hk => ⟨(h3 k hk).1, ?_⟩⟩
      rcases (h3 k hk).2 with h4 | h4
      · exact (hτ k h4).2
      · exact .inr (Nat.le_trans h.ext.size h4)
    · obtain ⟨h1, h2, h3⟩ := h.own x (List.mem_append_right _ hx)
      refine ⟨h2 w w' (fun k hk => hb k (h3 k hk).1 (fun hkt => hdis k hkt k (mem_keysOf.2 ⟨x, hx, hk⟩) rfl)) h1, h2, fun k hk => ⟨Nat.lt_of_lt_of_le (h3 k hk).1 h'.ext.size, (h3 k hk).2⟩⟩
  · obtain ⟨h1, S, h2, h3, h4⟩ := h.facts q hq
    refine ⟨h3 w w' (fun k hs => hb k (h2 k hs) (fun hkt => h4 k (by rw [keysOf_append]; exact List.mem_append_left _ hkt) hs)) h1, S, fun k hs => Nat.lt_of_lt_of_le (h2 k hs) h'.ext.size, h3, fun k hk => ?_⟩
    · rw [keysOf_append] at hk
      rcases List.mem_append.1 hk with hk | hk
      · rcases (keys_lt h' hk).2 with h5 | h5
        · exact h4 k (by rw [keysOf_append]; exact List.mem_append_left _ h5)
        · exact fun hs => by have := h2 _ hs; omega
      · exact h4 k (by rw [keysOf_append]; exact List.mem_append_right _ hk)
section
variable {P : Program} {r : Option Nat} {w0 : World} {K : List Nat} {n : Sz} {N : Act → World → Prop} {E : Nat → Act → World → Prop} {R : Act → World → Prop} {L : Slots} {σ : Own} {ρ : Facts} {ops : Array Oper} {rest : List Oper} {ty : TypeId}
/-- a call that turns the own items τ (the first) -/
theorem l_callo {X : Type} {d : Nat} {pos : String} {aft : Array Edge} {k : FuncId} {xs : List Operand} {us : List Value} {at_ : Array TypeId} {τ : Own} (V : X → Value) (τ' : X → Own) (hd : d < n) (hk : Callable P k) (ha : evl L xs = some us)
    (hc : ∀ w, St w (keysOf τ) w τ ρ → Calls P k us.toArray w (Ret fun v w' => ∃ x ρ', v = V x ∧ St w (keysOf τ) w' (τ' x) ρ')) (h : ∀ x, WL P w0 K n ops rest N ((d, V x) :: L) (τ' x ++ σ) ρ) :
    WL P w0 K n ops (⟨some d, .call { callee := .value (.func k), args := xs.toArray, argTypes := at_ }, ty, pos, aft, none⟩ :: rest) N L (τ ++ σ) ρ := fun a w hf hs => by
  refine wpList_plain rfl fun K' hK => ?_
  unfold Oper.wp
  rw [run_call hk (first := #[]) (cap := #[]) (w := w) rfl rfl (args_evl (fun x u hx => hf.ev hx) _ _ ha)]
  simp only [Array.empty_append, Array.append_empty, Oper.upon]
  refine (hc w hs.focus).mono fun e w' hr => ?_
  cases e with
  | returned v =>
    obtain ⟨x, ρ', rfl, h1⟩ := hr
    exact hK _ _ (h x _ _ (hf.put hd _) (hs.splice h1))
  | _ => exact hr.elim
/-- a call behind which nothing of the own memory is asked -/
theorem l_calle {d : Nat} {pos : String} {aft : Array Edge} {k : FuncId} {xs : List Operand} {us : List Value} {at_ : Array TypeId} {V : Value} (hd : d < n) (hk : Callable P k) (ha : evl L xs = some us)
    (hc : ∀ w, St w0 K w σ ρ → Calls P k us.toArray w (Ret fun v w' => v = V ∧ Ext K w0 w')) (h : WL P w0 K n ops rest N ((d, V) :: L) [] []) :
    WL P w0 K n ops (⟨some d, .call { callee := .value (.func k), args := xs.toArray, argTypes := at_ }, ty, pos, aft, none⟩ :: rest) N L σ ρ := fun a w hf hs => by
  refine wpList_plain rfl fun K' hK => ?_
  unfold Oper.wp
  rw [run_call hk (first := #[]) (cap := #[]) (w := w) rfl rfl (args_evl (fun x u hx => hf.ev hx) _ _ ha)]
  simp only [Array.empty_append, Array.append_empty, Oper.upon]
  refine (hc w hs).mono fun e w' hr => ?_
  cases e with
  | returned v =>
    obtain ⟨rfl, h1⟩ := hr
    exact hK _ _ (h _ _ (hf.put hd _) ⟨h1, by simp [keysOf], fun x hx => absurd hx List.not_mem_nil, fun q hq => absurd hq List.not_mem_nil⟩)
  | _ => exact hr.elim
/-- a function without a body -/
theorem p_ext {k : FuncId} {xs : List Operand} {us : List Value} {at_ : Array TypeId} {v : Value} (ha : evl L xs = some us) (hr : ∀ w, (callFunc k us.toArray).run P w = .ok (.value v) w) :
    Pure P (.call { callee := .value (.func k), args := xs.toArray, argTypes := at_ }) ty L v := fun e o w ho _ he => by
  have := args_evl he xs us ha
  simp only [execOp, ho, resolve, Sem.run_bind, Deferred.ofValue, he (.func k) _ rfl]
  simp [invoke, this, hr]
/-! pointers -/
theorem p_eqpn {x y : Operand} {t t2 te : TypeId} {a : Option Addr} (ht : P.underlying t = some (.pointer te)) (hx : ev L x = some (.pointer a)) (hy : ev L y = some (.pointer none)) : Pure P (.binOp .eql t x y t2) ty L (.bool a.isNone) := fun e o w ho _ he => by
  have h : (Op.equal t (.pointer a) (.pointer none)).run P w = .ok a.isNone w := by
    unfold Op.equal Op.maxDepth
    rw [Op.equalIn]
    cases a <;> simp [run_underlying ht]
  simp only [execOp, ho, he x _ hx, he y _ hy, eqGuard, binOp]
  simp [h]
theorem p_neqpn {x y : Operand} {t t2 te : TypeId} {a : Option Addr} (ht : P.underlying t = some (.pointer te)) (hx : ev L x = some (.pointer a)) (hy : ev L y = some (.pointer none)) : Pure P (.binOp .neq t x y t2) ty L (.bool a.isSome) := fun e o w ho _ he => by
  have h : (Op.equal t (.pointer a) (.pointer none)).run P w = .ok a.isNone w := by
    unfold Op.equal Op.maxDepth
    rw [Op.equalIn]
    cases a <;> simp [run_underlying ht]
  simp only [execOp, ho, he x _ hx, he y _ hy, eqGuard, binOp]
  cases a <;> simp [h]
theorem p_neqps {x y : Operand} {t t2 te : TypeId} {size bytes : Nat} {z : Value} {a : Addr} (ht : P.underlying t = some (.pointer te)) (hi : InfoIs P te size bytes z) (hx : ev L x = some (.pointer (some a))) (hy : ev L y = some (.pointer (some a))) : Pure P (.binOp .neq t x y t2) ty L (.bool false) := fun e o w ho _ he => by
  obtain ⟨j, hj, _⟩ := hi.get
  have := Lib.run_neq_ptr_same (P := P) w a ht hj
  simp only [execOp, ho, he x _ hx, he y _ hy, eqGuard]
  simp [this]
theorem r_toUnsafe {x : Operand} {s d te e : TypeId} {size bytes : Nat} {z : Value} {b k : Nat} {vs : List Value} (hs : P.underlying s = some (.pointer te)) (hd : P.underlying d = some .unsafePointer) (hi : InfoIs P te size bytes z) (hz : size ≠ 0) (hx : ev L x = some (.pointer (some ⟨b, k, none⟩)))
    (hq : iCells b e vs ∈ σ) (hk : k < vs.length) : Reads P w0 K (.convert s d x) ty L σ ρ (.pointer (some ⟨b, k, none⟩)) := fun ee o w ho _ hev hst => by
  obtain ⟨j, hj, hj1, _⟩ := hi.get
  have hh : w.heap[b]? = some (.cells vs.toArray e (0, 0)) := (hst.own _ hq).1
  have := Lib.run_to_unsafe (P := P) w (src := s) (dst := d) (t := te) (e := e) (j := j) (cells := vs.length) ⟨b, k, none⟩ hs hd hj (by rw [hj1]; exact hz) (by simp [World.shape?, hh]) hk
  simp [execOp, ho, hev x _ hx, this]
theorem r_fromUnsafe {x : Operand} {s d u e : TypeId} {size bytes : Nat} {z : Value} {b : Nat} {vs : List Value} (hs : P.underlying s = some .unsafePointer) (hd : P.underlying d = some (.pointer u)) (hi : InfoIs P u size bytes z) (hx : ev L x = some (.pointer (some ⟨b, 0, none⟩)))
    (hq : iCells b e vs ∈ σ) (hl : liesAt P P.depth e (vs.length / P.cellsOf e) 0 u 1 = true) : Reads P w0 K (.convert s d x) ty L σ ρ (.pointer (some ⟨b, 0, none⟩)) := fun ee o w ho _ hev hst => by
  obtain ⟨j, hj, _⟩ := hi.get
  have hh : w.heap[b]? = some (.cells vs.toArray e (0, 0)) := (hst.own _ hq).1
  have := Lib.run_from_unsafe (P := P) w (src := s) (dst := d) (u := u) (e := e) (j := j) (cells := vs.length) ⟨b, 0, none⟩ hs hd hj (by simp [World.shape?, hh]) hl
  simp [execOp, ho, hev x _ hx, this]
/-! bytes of a string -/
def byteF (u : UInt8) : List Value := [.int .u8 (u.toNat : Int)]
theorem bytesV_eq (l : List UInt8) : bytesV l = l.flatMap byteF := by
  induction l with
  | nil => rfl
  | cons u l ih => simp only [bytesV, List.map_cons, List.flatMap_cons, byteF] at ih ⊢; rw [ih]; rfl
theorem l_sbytes {d : Nat} {pos : String} {aft : Array Edge} {s dt e : TypeId} {x : Operand} {l : List UInt8} (hd : d < n) (hs1 : P.underlying s = some .string) (hd1 : P.underlying dt = some (.slice e)) (he : P.underlying e = some (.int .u8)) (hx : ev L x = some (str l))
    (h : ∀ b c, WL P w0 K n ops rest N ((d, .slice (some ⟨b, 0, none⟩) l.length c) :: L) σ (Sl 1 byteF (some ⟨b, 0, none⟩) l :: ρ)) : WL P w0 K n ops (⟨some d, .convert s dt x, ty, pos, aft, none⟩ :: rest) N L σ ρ :=
  l_step hd fun a w hf hs => by
    have hr := run_bytes_of_string (P := P) w s dt e ⟨l.toArray⟩ hs1 hd1 he
    refine ⟨_, w.drew.alloc (.cells (bytesRow ⟨l.toArray⟩ (grownCap w l.length 0 e)) e ((bytesRow ⟨l.toArray⟩ (grownCap w l.length 0 e)).size, (bytesRow ⟨l.toArray⟩ (grownCap w l.length 0 e)).size + 1)), σ, Sl 1 byteF (some ⟨w.heap.size, 0, none⟩) l :: ρ, ?_, ?_, h w.heap.size (grownCap w l.length 0 e)⟩
    · have hr' := hr
      simp only [size_mk] at hr'
      simp [execOp, hf.ev hx, str, hr']
    · refine hs.fact (w' := w.drew.alloc (.cells (bytesRow ⟨l.toArray⟩ (grownCap w l.length 0 e)) e ((bytesRow ⟨l.toArray⟩ (grownCap w l.length 0 e)).size, (bytesRow ⟨l.toArray⟩ (grownCap w l.length 0 e)).size + 1))) ⟨rfl, rfl, rfl, by simp, fun k hk _ => Below.heap_alloc w.drew _ k hk⟩ (fun i u hu => ⟨rfl, _, _, rfl, fun j v hv => ?_⟩) (Sl.dep fun a ha => by injection ha with ha; subst ha; exact ⟨Nat.le_refl _, by simp⟩)
      have hi : i < l.length := (List.getElem?_eq_some_iff.1 hu).1
      cases j with
      | zero =>
        simp only [byteF, List.getElem?_cons_zero, Option.some.injEq] at hv
        subst hv
        have hnew : ∀ (C : Array Value) (m : Nat × Nat), (w.drew.alloc (.cells C e m)).cell? ⟨w.heap.size, 0 + (i * 1 + 0), none⟩ = C[i]? := fun C m => by
          have : (w.drew.alloc (.cells C e m)).heap[w.heap.size]? = some (.cells C e m) := heap_alloc_new w.drew _
          simp only [World.cell?, this]; simp
        rw [hnew]
        show (_ ++ _ : Array Value)[i]? = _
        rw [Array.getElem?_append_left (by simpa using hi)]
        simp [hu]
      | succ j => simp [byteF] at hv
/-- append of a string's bytes to an own row of bytes -/
theorem l_append_str {d : Nat} {pos : String} {aft : Array Edge} {s x : Operand} {t u e : TypeId} {A : Option Addr} {m c : Nat} {l r : List UInt8} (hd : d < n) (hu : P.underlying t = some (.slice e)) (hus : P.underlying u = some .string) (hi : InfoIs P e 1 1 (.int .u8 0))
    (hsv : ev L s = some (.slice A m c)) (hm : m = l.length) (hx : ev L x = some (str r)) (h63 : l.length + r.length ≤ 140737488355328)
    (h : ∀ A' c', WL P w0 K n ops rest N ((d, .slice A' (l ++ r).length c') :: L) (iSl e 1 byteF A' c' (l ++ r) :: σ) ρ) :
    WL P w0 K n ops (⟨some d, .call { callee := .builtin .append, args := #[s, x], argTypes := #[t, u] }, ty, pos, aft, none⟩ :: rest) N L (iSl e 1 byteF A c l :: σ) ρ :=
  l_step hd fun a w hf hs => by
    subst hm
    obtain ⟨i, i1, i2, i3, i4⟩ := hi.get
    have hown : w.ownsRow 0 e 1 (.slice A l.length c) l.length (l.flatMap byteF) := (hs.own _ (List.mem_cons_self ..)).1
    have hstr : Lib.strCells ⟨r.toArray⟩ = r.flatMap byteF := by rw [← bytesV_eq]; simp [Lib.strCells, bytesV]
    obtain ⟨v', w', hrun, r1, r2, r3⟩ := Lib.run_append_own_string (P := P) w 0 t u ty e i hu hus i1 i4 i2 i3 _ _ _ hown ⟨r.toArray⟩ (by simp only [size_mk, maxLen]; omega) (by simpa only [size_mk] using h63) (Nat.zero_le _)
    have hblk : v'.ownBlock = (Value.slice A l.length c).ownBlock ∨ v'.ownBlock = some w.heap.size := by
      rcases hown.2 with ⟨hv, hz⟩ | ⟨g, cap, cur, hv, hbg, hg, hnc, hcm, hcs, htake⟩
      · rw [hv] at hrun r3 ⊢
        by_cases hr0 : (⟨r.toArray⟩ : ByteArray).size = 0
        · have := r3.2 ⟨rfl, hr0⟩
          rw [this]; exact .inl rfl
        · have hr := run_append_nil_string (P := P) w t u ty e i (.int .u8 0) hu hus i1 i4 ⟨r.toArray⟩ (by omega) (by simp only [size_mk]; omega) (by rw [i3]; simp only [size_mk]; omega)
          rw [hr] at hrun
          injection hrun with hrun _
          subst hrun; exact .inr rfl
      · rw [hv] at hrun ⊢
        by_cases hroom : l.length + (⟨r.toArray⟩ : ByteArray).size ≤ cap
        · have hcs' : cur.size = cap := by simpa using hcs
          have hr := Lib.run_append_room_string (P := P) w t u ty e i hu hus i1 i2 g l.length cap cur hg ⟨r.toArray⟩ hroom (by omega)
          rw [hr] at hrun
          injection hrun with hrun _
          subst hrun; exact .inl rfl
        · have hlen : (l.flatMap byteF).length = l.length := by rw [← bytesV_eq]; simp [bytesV]
          have hr := Lib.run_append_grow_string (P := P) w t u ty e i (.int .u8 0) hu hus i1 i4 ⟨g, 0, none⟩ l.length cap (l.flatMap byteF) (by rw [i2, hlen]; simp) (hown.cells (g := g) (by rw [hv]; rfl)) ⟨r.toArray⟩ (by omega) (by simp only [size_mk]; omega) (by rw [i3]; exact growslice_fits (by omega) (by simp only [size_mk]; omega))
          rw [hr] at hrun
          injection hrun with hrun _
          subst hrun; exact .inr rfl
    obtain ⟨A', c', hv'⟩ := row_form r1
    subst hv'
    have hfin : (iSl e 1 byteF A' c' (l ++ r)).holds w' := by
      have := r1
      rw [hstr] at this
      show w'.ownsRow 0 e 1 (.slice A' (l ++ r).length c') (l ++ r).length ((l ++ r).flatMap byteF)
      simpa only [List.length_append, List.flatMap_append, size_mk] using this
    refine ⟨.slice A' (l ++ r).length c', w', iSl e 1 byteF A' c' (l ++ r) :: σ, ρ, ?_, hs.turn ⟨r2.os, r2.tape, r2.output, r2.size, fun k hk hn => r2.block k hk (fun hh => hn (by simp [iSl, iRow, ← hh]))⟩ hfin (iRow_dep _ _ _ _ _) (fun k hk => ?_) (ownBlock_nodup _), ?_⟩
    · have hrun' := hrun
      simp only [size_mk] at hrun'
      simp [execOp, resolve, invoke, builtin, hf.ev hsv, hf.ev hx, str, hrun', List.length_append]
    · have hk' : (Value.slice A' (l.length + (⟨r.toArray⟩ : ByteArray).size) c').ownBlock = some k := by
        have : (Value.slice A' (l ++ r).length c').ownBlock = some k := by simpa [iSl, iRow] using hk
        cases A' with
        | none => simp [Value.ownBlock] at this
        | some a => simpa [Value.ownBlock] using this
      have hlt := (r1.lt k hk').2
      rcases hblk with r4 | r4
      · left
        have : (Value.slice A l.length c).ownBlock = some k := by rw [← r4]; exact hk'
        simp [iSl, iRow, this]
      · rw [r4] at hk'; injection hk' with hk'; exact .inr ⟨by omega, hlt⟩
    · exact h A' c'
end
/-! ## slices of strings, of integers, of bools -/
def strF (s : List UInt8) : List Value := [str s]
def intF (x : Int) : List Value := [.int .i64 x]
def boolF (b : Bool) : List Value := [.bool b]
theorem cells_sl {α : Type} {w : World} {b e size : Nat} {f : α → List Value} {es : List α} (hf : ∀ x, (f x).length = size) (h : (iCells b e (es.flatMap f)).holds w) : Sl size f (some ⟨b, 0, none⟩) es w := fun i x hx => by
  refine ⟨hf x, b, 0, rfl, fun j u hj => ?_⟩
  rw [cells_cell h]
  have hget : ∀ (l : List α) i x, l[i]? = some x → ∀ j u, (f x)[j]? = some u → (l.flatMap f)[i * size + j]? = some u := fun l => by
    induction l with
    | nil => intro i x hx; simp at hx
    | cons y l ih =>
      intro i x hx j u hj
      cases i with
      | zero =>
        simp at hx; subst hx
        simp only [List.flatMap_cons, Nat.zero_mul, Nat.zero_add]
        rw [List.getElem?_append_left ((List.getElem?_eq_some_iff.1 hj).1)]; exact hj
      | succ i =>
        simp at hx
        simp only [List.flatMap_cons]
        rw [List.getElem?_append_right (by rw [hf, Nat.add_mul]; omega), hf, show (i + 1) * size + j - size = i * size + j by rw [Nat.add_mul]; omega]
        exact ih i x hx j u hj
  rw [Nat.zero_add]
  exact hget es i x hx j u hj
end Go.Fx
