/- The walks of the recognizer, first part; conditions: lengths. -/
import Derived.Test.YtncagpppmaehhaaProg
import Derived.Test.YtncagpppmaehhaaFxO
import Derived.Test.YtncagpppmaehhaaFxM
import Derived.Test.YtncagpppmaehhaaRec
namespace Go.Proofs.Ytncagpppmaehhaa
open Go Go.Fx Go.Proofs

theorem p_neg {P : Program} {L : Slots} {ty : TypeId} {x : Operand} {t : TypeId} {k : IntKind} {a : Int} (hx : ev L x = some (.int k a)) (h : bot k ≤ -a) (h' : -a ≤ top k) : Pure P (.unOp .neg t x) ty L (.int k (-a)) := fun e o w ho _ he => by
  simp [execOp, ho, he x _ hx, Op.unary, Op.intArith, wrap_in k _ h h']
theorem at_some {α : Type} {l : List α} {n : Nat} (h : n < l.length) : ∃ u, l[n]? = some u := ⟨_, List.getElem?_eq_getElem h⟩
theorem take_at {α : Type} {l : List α} {k : Nat} {x : α} (h : l[k]? = some x) : l.take (k + 1) = l.take k ++ [x] := by
  have hk := (List.getElem?_eq_some_iff.1 h).1
  rw [List.take_succ_eq_append_getElem hk, (List.getElem?_eq_some_iff.1 h).2]
abbrev BW (p : Prop) := { b : Bool // b = true → p }
/-- a rule with the place of its body -/
structure XR where
  r : Ana.Rl
  A : Option Addr
  c : Nat
def ruF (x : XR) : List Value := [.int .i64 x.r.head, .slice x.A x.r.body.length x.c, .int .i64 x.r.price]
def Bd (xs : List XR) : World → Prop := fun w => ∀ (k : Nat) (x : XR), xs[k]? = some x → Sl 1 intF x.A x.r.body w
theorem dep_bd {xs : List XR} {w : World} (h : Bd xs w) : Dep 0 w.heap.size (Bd xs) := fun w1 w2 hb hq k x hx => dep_sl (w := w) (by decide) (h k x hx) w1 w2 hb (hq k x hx)
theorem SlIn.body {w0 : World} {K : List Nat} {σ : Fx.Own} {ρ : Fx.Facts} {xs : List XR} {x : XR} {k : Nat} (h : Bd xs ∈ ρ) (hx : xs[k]? = some x) : SlIn w0 K σ ρ 1 intF x.A x.r.body := fun _ hs => (hs.facts _ h).1 k x hx
structure GI where
  At : Option Addr
  ct : Nat
  terms : List (List UInt8)
  An : Option Addr
  cn : Nat
  nts : List (List UInt8)
  start : Int
  Ar : Option Addr
  cr : Nat
  xs : List XR
def GI.g (X : GI) : Ana.Gr := ⟨X.terms.length, X.nts.length, X.start, X.xs.map (·.r)⟩
structure GI.small (X : GI) : Prop where
  t : X.terms.length ≤ 140737488355328
  n : X.nts.length ≤ 140737488355328
  x : X.xs.length ≤ 140737488355328
  b : ∀ x, x ∈ X.xs → x.r.body.length ≤ 140737488355328 ∧ x.r.body.length ≤ x.c
structure GI.mem (X : GI) (w : World) : Prop where
  t : Sl 1 strF X.At X.terms w
  n : Sl 1 strF X.An X.nts w
  x : Sl 3 ruF X.Ar X.xs w
  b : Bd X.xs w
theorem GI.begin (X : GI) {w : World} (h : X.mem w) : St w [] w [] [Bd X.xs, Sl 3 ruF X.Ar X.xs, Sl 1 strF X.An X.nts, Sl 1 strF X.At X.terms] := ((((St.start w).old h.t (dep_sl (by decide) h.t)).old h.n (dep_sl (by decide) h.n)).old h.x (dep_sl (by decide) h.x)).old h.b (dep_bd h.b)
theorem GI.of {X : GI} {w0 w : World} {K : List Nat} {σ : Fx.Own} {ρ : Fx.Facts} (hs : St w0 K w σ ρ) (h1 : Sl 1 strF X.At X.terms ∈ ρ) (h2 : Sl 1 strF X.An X.nts ∈ ρ) (h3 : Sl 3 ruF X.Ar X.xs ∈ ρ) (h4 : Bd X.xs ∈ ρ) : X.mem w := ⟨(hs.facts _ h1).1, (hs.facts _ h2).1, (hs.facts _ h3).1, (hs.facts _ h4).1⟩
theorem rule_mem {X : GI} {x : XR} {k : Nat} (h : X.xs[k]? = some x) : x.r ∈ X.g.rules := List.mem_map.2 ⟨x, List.mem_of_getElem? h, rfl⟩
/-- what Valid has looked at -/
structure OkV (g : Ana.Gr) : Prop where
  t : g.t ≤ 120
  n1 : 1 ≤ g.n
  n : g.n ≤ 120
  x : g.rules.length ≤ 120
  s0 : 0 ≤ g.start
  s1 : g.start < g.n
  r : ∀ r, r ∈ g.rules → (0 ≤ r.head ∧ r.head < g.n ∧ r.body.length ≤ 12) ∧ ∀ x, x ∈ r.body → x < g.t ∧ -(g.n : Int) ≤ x
def okR (g : Ana.Gr) (r : Ana.Rl) : Prop := (0 ≤ r.head ∧ r.head < g.n ∧ r.body.length ≤ 12) ∧ ∀ x, x ∈ r.body → x < g.t ∧ -(g.n : Int) ≤ x
theorem mixed : Try.prog.follows .mixedOrders = true := by kernel_rfl
end Go.Proofs.Ytncagpppmaehhaa
