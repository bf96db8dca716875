/- The trees of a rope as they lie in memory. No program in sight but the numbers of the types of nodes and of builders; conditions: none. -/
import Derived.Test.YtdpocfkbnfhcfaaFxT
import Derived.Test.YtdpocfkbnfhcfaaPlain
namespace Go.Proofs.Ytdpocfkbnfhcfaa
open Go Go.Fx
/-- a tree with the blocks of its nodes -/
inductive T where
  | leaf (b : Nat) (s : List UInt8)
  | node (b : Nat) (l r : T)
namespace T
def addr : T → Nat
  | leaf b _ => b
  | node b _ _ => b
def pl : T → Rope.N
  | leaf _ s => .leaf s
  | node _ l r => .node l.pl r.pl
def txt : T → List UInt8
  | leaf _ s => s
  | node _ _ _ => []
def lft : T → Option T
  | leaf _ _ => none
  | node _ l _ => some l
def rgt : T → Option T
  | leaf _ _ => none
  | node _ _ r => some r
end T
def adO : Option T → Option Addr
  | none => none
  | some t => some ⟨t.addr, 0, none⟩
abbrev ptrO (t : Option T) : Value := .pointer (adO t)
namespace T
def row (t : T) : List Value := [str t.txt, ptrO t.lft, ptrO t.rgt, .int .i64 ((t.pl.size : Nat) : Int), .int .i64 ((t.pl.height : Nat) : Int)]
def lies : T → World → Prop
  | leaf b s => fun w => w.heap[b]? = some (.cells (row (leaf b s)).toArray 64 (0, 0))
  | node b l r => fun w => w.heap[b]? = some (.cells (row (node b l r)).toArray 64 (0, 0)) ∧ l.lies w ∧ r.lies w
def blocks : T → List Nat
  | leaf b _ => [b]
  | node b l r => b :: (l.blocks ++ r.blocks)
theorem at_ : ∀ {t : T} {w : World}, t.lies w → w.heap[t.addr]? = some (.cells t.row.toArray 64 (0, 0))
  | leaf _ _, _, h => h
  | node _ _ _, _, h => h.1
theorem c0 {t : T} {w : World} (h : t.lies w) : w.cell? ⟨t.addr, 0, none⟩ = some (str t.txt) := by have := at_ h; simp [World.cell?, this, row]
theorem c1 {t : T} {w : World} (h : t.lies w) : w.cell? ⟨t.addr, 1, none⟩ = some (ptrO t.lft) := by have := at_ h; simp [World.cell?, this, row]
theorem c2 {t : T} {w : World} (h : t.lies w) : w.cell? ⟨t.addr, 2, none⟩ = some (ptrO t.rgt) := by have := at_ h; simp [World.cell?, this, row]
theorem c3 {t : T} {w : World} (h : t.lies w) : w.cell? ⟨t.addr, 3, none⟩ = some (.int .i64 ((t.pl.size : Nat) : Int)) := by have := at_ h; simp [World.cell?, this, row]
theorem c4 {t : T} {w : World} (h : t.lies w) : w.cell? ⟨t.addr, 4, none⟩ = some (.int .i64 ((t.pl.height : Nat) : Int)) := by have := at_ h; simp [World.cell?, this, row]
theorem dep : ∀ t : T, DepS (fun k => k ∈ t.blocks) t.lies
  | leaf b s => fun w1 w2 hb h => (hb b (by simp [blocks])).trans h
  | node b l r => fun w1 w2 hb h => ⟨(hb b (by simp [blocks])).trans h.1, dep l w1 w2 (fun k hk => hb k (by simp [blocks, hk])) h.2.1, dep r w1 w2 (fun k hk => hb k (by simp [blocks, hk])) h.2.2⟩
theorem has : ∀ {t : T} {k : Nat}, k ∈ t.blocks → ∀ w : World, t.lies w → ∃ cs u m, w.heap[k]? = some (.cells cs u m)
  | leaf b s, k, hk, w, h => by simp [blocks] at hk; subst hk; exact ⟨_, _, _, h⟩
  | node b l r, k, hk, w, h => by
    simp only [blocks, List.mem_cons, List.mem_append] at hk
    rcases hk with rfl | hk | hk
    · exact ⟨_, _, _, h.1⟩
    · exact has hk w h.2.1
    · exact has hk w h.2.2
theorem lt {t : T} {w : World} (h : t.lies w) {k : Nat} (hk : k ∈ t.blocks) : k < w.heap.size := by
  obtain ⟨_, _, _, e⟩ := has hk w h
  exact (Array.getElem?_eq_some_iff.1 e).1
theorem size_node (l r : Rope.N) : (Rope.N.node l r).size = l.size + r.size := by simp [Rope.N.size, Rope.N.text]
end T
def liesO : Option T → World → Prop
  | none => fun _ => True
  | some t => t.lies
def plO (t : Option T) : Option Rope.N := t.map T.pl
def txO (t : Option T) : List UInt8 := Rope.textO (plO t)
def szO (t : Option T) : Nat := (txO t).length
def hgO : Option T → Nat
  | none => 0
  | some t => t.pl.height
theorem szO_some (t : T) : szO (some t) = t.pl.size := rfl
theorem txO_some (t : T) : txO (some t) = t.pl.text := rfl
/-- a tree in memory of this form -/
abbrev TO (n : Option Rope.N) := { t : Option T // plO t = n }
section
variable {w0 : World} {K : List Nat} {w : World} {σ : Fx.Own} {ρ : Facts}
theorem T.begin {t : T} (h : t.lies w) (hs : St w K w σ ρ) (hd : ∀ k, k ∈ keysOf σ → k ∉ t.blocks) : St w K w σ (t.lies :: ρ) :=
  ⟨hs.ext, hs.nodup, hs.own, fun z hz => by
    rcases List.mem_cons.1 hz with rfl | hz
    · exact ⟨h, fun k => k ∈ t.blocks, fun k hk => T.lt h hk, t.dep, hd⟩
    · exact hs.facts z hz⟩
theorem startO {t : Option T} (h : liesO t w) : St w [] w [] [liesO t] := by
  cases t with
  | none => exact (St.start w).sure fun _ => trivial
  | some t => exact T.begin h (St.start w) (fun k hk => by simp [keysOf] at hk)
/-- the parts of a tree that is known are known -/
theorem T.open {b : Nat} {l r : T} (hs : St w0 K w σ ρ) (hm : liesO (some (T.node b l r)) ∈ ρ) : St w0 K w σ (liesO (some l) :: liesO (some r) :: ρ) := by
  obtain ⟨h1, S, h2, h3, h4⟩ := hs.facts _ hm
  have hS : ∀ k, k ∈ (T.node b l r).blocks → S k := fun k hk => key_in h3 h1 (T.has hk)
  refine ⟨hs.ext, hs.nodup, hs.own, fun z hz => ?_⟩
  have part : ∀ t : T, t.lies w → (∀ k, k ∈ t.blocks → k ∈ (T.node b l r).blocks) → t.lies w ∧ ∃ S : Nat → Prop, (∀ k, S k → k < w.heap.size) ∧ DepS S t.lies ∧ ∀ k, k ∈ keysOf σ → ¬ S k := fun t ht hsub =>
    ⟨ht, fun k => k ∈ t.blocks, fun k hk => T.lt ht hk, t.dep, fun k hk hkt => h4 k hk (hS k (hsub k hkt))⟩
  rcases List.mem_cons.1 hz with rfl | hz
  · exact part l h1.2.1 (fun k hk => by simp [T.blocks, hk])
  · rcases List.mem_cons.1 hz with rfl | hz
    · exact part r h1.2.2 (fun k hk => by simp [T.blocks, hk])
    · exact hs.facts z hz
/-- a leaf that has been made -/
theorem T.made_leaf {b : Nat} {s : List UInt8} {vs : List Value} (hs : St w0 K w (iCells b 64 vs :: σ) ρ) (hv : vs = (T.leaf b s).row) : St w0 K w σ [liesO (some (T.leaf b s))] := by
  subst hv
  exact hs.keep.weak fun q hq => by rw [List.mem_singleton.1 hq]; exact List.mem_cons_self ..
/-- a node that has been made -/
theorem T.made_node {b : Nat} {l r : T} {vs : List Value} (hs : St w0 K w (iCells b 64 vs :: σ) ρ) (hv : vs = (T.node b l r).row) (hl : liesO (some l) ∈ ρ) (hr : liesO (some r) ∈ ρ) : St w0 K w σ [liesO (some (T.node b l r))] := by
  subst hv
  have h1 := hs.keep
  have h2 := h1.and (p := liesO (some l)) (q := liesO (some r)) (List.mem_cons_of_mem _ hl) (List.mem_cons_of_mem _ hr)
  have h3 := h2.and (p := (iCells b 64 (T.node b l r).row).holds) (q := fun w => liesO (some l) w ∧ liesO (some r) w) (List.mem_cons_of_mem _ (List.mem_cons_self ..)) (List.mem_cons_self ..)
  have h4 := h3.iff (q := liesO (some (T.node b l r))) (List.mem_cons_self ..) (fun w => Iff.rfl)
  exact h4.weak fun q hq => by rw [List.mem_singleton.1 hq]; exact List.mem_cons_self ..
theorem St.sel {q : World → Prop} (hs : St w0 K w σ ρ) (h : q ∈ ρ) : St w0 K w σ [q] := hs.weak fun p hp => by rw [List.mem_singleton.1 hp]; exact h
end
/-! ## heights are small -/
theorem blen_le8 {n : Nat} (h : n ≤ 16000) : Rope.blen (Rope.blocks n - 1) ≤ 8 := (Rope.blen_pow _ 8).2 (by unfold Rope.blocks; omega)
theorem bound_le {n : Nat} (h : n ≤ 16000) : Rope.bound n ≤ 18 := by
  have := blen_le8 h
  unfold Rope.bound; split <;> omega
theorem good_height {n : Rope.N} (h : Rope.Good n) (hs : n.size ≤ 16000) : n.height ≤ 18 := Nat.le_trans h.bound (bound_le hs)
/-! ## a table of binary digits -/
theorem blen_is {n k : Nat} (h1 : n < 2 ^ k) (h2 : k = 0 ∨ 2 ^ (k - 1) ≤ n) : Rope.blen n = k := by
  have := (Rope.blen_pow n k).2 h1
  rcases h2 with rfl | h2
  · omega
  · by_cases hk : k = 0
    · omega
    · have h3 := (Rope.blen_pow n (k - 1)).1
      by_cases hb : Rope.blen n ≤ k - 1
      · have := h3 hb; omega
      · omega
end Go.Proofs.Ytdpocfkbnfhcfaa
