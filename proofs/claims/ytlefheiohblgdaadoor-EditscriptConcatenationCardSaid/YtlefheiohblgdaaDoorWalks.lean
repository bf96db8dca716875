/- The walks of edit scripts, first part; conditions: lengths. -/
import Derived.Test.YtlefheiohblgdaaDoorProg
import Derived.Test.YtlefheiohblgdaaDoorFxO
import Derived.Test.YtlefheiohblgdaaDoorFxD
import Derived.Test.YtlefheiohblgdaaDoorPlain
namespace Go.Proofs.YtlefheiohblgdaaDoor
open Go Go.Fx Go.Proofs

structure XCol where
  A : Option Addr
  c : Nat
  o : Ed.Col
def colF (x : XCol) : List Value := [.int .i64 x.o.kind, .slice x.A x.o.read.length x.c, .int .i64 x.o.del]
theorem len_colF (x : XCol) : (colF x).length = 3 := rfl
theorem len_intF (x : Int) : (intF x).length = 1 := rfl
theorem at_some {α : Type} {l : List α} {n : Nat} (h : n < l.length) : ∃ u, l[n]? = some u := ⟨_, List.getElem?_eq_getElem h⟩
theorem at_lt {α : Type} {l : List α} {n : Nat} {u : α} (h : l[n]? = some u) : n < l.length := (List.getElem?_eq_some_iff.1 h).1
theorem take_at {α : Type} {l : List α} {k : Nat} {e : α} (h : l[k]? = some e) : l.take (k + 1) = l.take k ++ [e] := by rw [List.take_add_one, h]; rfl
theorem drop_at {α : Type} {l : List α} {k : Nat} {e : α} (h : l[k]? = some e) : l.drop k = e :: l.drop (k + 1) := by
  rw [List.drop_eq_getElem_cons (List.getElem?_eq_some_iff.1 h).1, (List.getElem?_eq_some_iff.1 h).2]
/-- the rows of the columns -/
def Rd (xs : List XCol) : World → Prop := fun w => ∀ (k : Nat) (x : XCol), xs[k]? = some x → Sl 1 intF x.A x.o.read w
theorem dep_rd {xs : List XCol} {w : World} (h : Rd xs w) : Dep 0 w.heap.size (Rd xs) := fun w1 w2 hb hq k x hx => dep_sl (w := w) (by decide) (h k x hx) w1 w2 hb (hq k x hx)
theorem SlIn.reads {w0 : World} {K : List Nat} {σ : Fx.Own} {ρ : Fx.Facts} {xs : List XCol} {x : XCol} {k : Nat} (h : Rd xs ∈ ρ) (hx : xs[k]? = some x) : SlIn w0 K σ ρ 1 intF x.A x.o.read := fun _ hs => (hs.facts _ h).1 k x hx
structure Inp where
  A : Option Addr
  c : Nat
  xs : List XCol
  B : Option Addr
  d : Nat
  ins : List Int
  sw : Int
def Inp.pl (X : Inp) : Ed.In := ⟨X.xs.map (·.o), X.ins, X.sw⟩
structure Inp.small (X : Inp) : Prop where
  xs : X.xs.length ≤ 140737488355328
  ins : X.ins.length ≤ 140737488355328
structure Inp.mem (X : Inp) (w : World) : Prop where
  xs : Sl 3 colF X.A X.xs w
  ins : Sl 1 intF X.B X.ins w
  rd : Rd X.xs w
theorem Inp.start (X : Inp) {w : World} (h : X.mem w) : St w [] w [] [Rd X.xs, Sl 1 intF X.B X.ins, Sl 3 colF X.A X.xs] := (((St.start w).old h.xs (dep_sl (by decide) h.xs)).old h.ins (dep_sl (by decide) h.ins)).old h.rd (dep_rd h.rd)
theorem Inp.of {X : Inp} {w0 w : World} {K : List Nat} {σ : Fx.Own} {ρ : Fx.Facts} (hs : St w0 K w σ ρ) (h1 : Sl 3 colF X.A X.xs ∈ ρ) (h2 : Sl 1 intF X.B X.ins ∈ ρ) (h3 : Rd X.xs ∈ ρ) : X.mem w := ⟨(hs.facts _ h1).1, (hs.facts _ h2).1, (hs.facts _ h3).1⟩
theorem decEx (p : Prop) : ∃ b : Bool, b = true ↔ p := ⟨@decide p (Classical.propDecidable p), @decide_eq_true_iff p (Classical.propDecidable p)⟩
noncomputable def dec (p : Prop) : Bool := Classical.choose (decEx p)
theorem of_dec {p : Prop} (h : dec p = true) : p := (Classical.choose_spec (decEx p)).1 h
theorem dec_true {p : Prop} (h : p) : dec p = true := (Classical.choose_spec (decEx p)).2 h
theorem dec_false {p : Prop} (h : ¬ p) : dec p = false := by
  cases hd : dec p
  · rfl
  · exact absurd (of_dec hd) h
theorem pl_at {X : Inp} {k : Nat} {x : XCol} (h : X.xs[k]? = some x) : X.pl.cols[k]? = some x.o := by simp [Inp.pl, h]
theorem pl_none {X : Inp} {k : Nat} (h : X.xs.length ≤ k) : X.pl.cols[k]? = none := by simp [Inp.pl, h]
theorem pl_len (X : Inp) : X.pl.cols.length = X.xs.length := by simp [Inp.pl]
theorem swp_some {X : Inp} {i : Nat} {x y : XCol} (hx : X.xs[i]? = some x) (hy : X.xs[i + 1]? = some y) (h0 : 0 < X.sw) (h1 : 0 ≤ x.o.kind) (h2 : 0 ≤ y.o.kind) : Ed.swp X.pl i = some (x.o.kind, y.o.kind) := by
  unfold Ed.swp; rw [pl_at hx, pl_at hy]; exact if_pos ⟨h0, h1, h2⟩
theorem swp_none {X : Inp} {i : Nat} (h : ∀ x y, X.xs[i]? = some x → X.xs[i + 1]? = some y → ¬ (0 < X.sw ∧ 0 ≤ x.o.kind ∧ 0 ≤ y.o.kind)) : Ed.swp X.pl i = none := by
  unfold Ed.swp
  by_cases hi : i + 1 < X.xs.length
  · obtain ⟨x, hx⟩ := at_some (l := X.xs) (n := i) (by omega)
    obtain ⟨y, hy⟩ := at_some (l := X.xs) (n := i + 1) hi
    rw [pl_at hx, pl_at hy]; exact if_neg (h x y hx hy)
  · rw [pl_none (k := i + 1) (by omega)]
    cases X.pl.cols[i]? <;> rfl
theorem okc_row {n : Nat} {c : Ed.Col} {t : Nat} {x : Int} (h : Ed.Okc n c) (ht : t < n) (hx : c.read[t]? = some x) : if (t : Int) = c.kind then x = 0 else (x = -1 ∨ (1 ≤ x ∧ x ≤ 60000)) := by
  obtain ⟨y, hy, h2⟩ := h.r t ht
  rw [hx] at hy; injection hy with hy; subst hy; exact h2
theorem eq_op {w : World} {e e' : Ed.Op} : (Op.equalIn 10000 46 (.agg #[.int .i64 e.kind, .int .i64 e.term]) (.agg #[.int .i64 e'.kind, .int .i64 e'.term])).run Tryd.prog w = .ok (decide (e = e')) w := by
  rw [eqf_struct Tryd.underlying46 (by kernel_rfl) w]
  rw [eqf_one (by decide) Tryd.underlying3 rfl rfl rfl w (eqv_int Tryd.underlying3 w), eqf_one (by decide) Tryd.underlying3 rfl rfl rfl w (eqv_int Tryd.underlying3 w), eqf_nil]
  obtain ⟨a, b⟩ := e
  obtain ⟨a', b'⟩ := e'
  simp only [Ed.Op.mk.injEq]
  by_cases h1 : a = a' <;> by_cases h2 : b = b' <;> simp [h1, h2]
def opF (o : Ed.Op) : List Value := [.int .i64 o.kind, .int .i64 o.term]
theorem len_opF (o : Ed.Op) : (opF o).length = 2 := rfl
theorem neq_op {L : Slots} {ty t2 : TypeId} {x y : Operand} {e e' : Ed.Op} (hx : ev L x = some (.agg (opF e).toArray)) (hy : ev L y = some (.agg (opF e').toArray)) : Pure Tryd.prog (.binOp .neq 46 x y t2) ty L (.bool (decide (e ≠ e'))) := by
  have := p_neqst (P := Tryd.prog) (ty := ty) (t2 := t2) (by kernel_rfl) hx hy (fun w => eq_op (w := w) (e := e) (e' := e'))
  rw [show decide (e ≠ e') = !(decide (e = e')) by simp]
  exact this
theorem mixed : Tryd.prog.follows .mixedOrders = true := by kernel_rfl
theorem inf_3 : InfoIs Tryd.prog 3 1 8 (.int .i64 0) := by unfold InfoIs; kernel_rfl
theorem inf_22 : InfoIs Tryd.prog 22 1 24 (.slice none 0 0) := by unfold InfoIs; kernel_rfl
theorem inf_23 : InfoIs Tryd.prog 23 1 24 (.slice none 0 0) := by unfold InfoIs; kernel_rfl
theorem inf_44 : InfoIs Tryd.prog 44 3 40 (.agg #[.int .i64 0, .slice none 0 0, .int .i64 0]) := by unfold InfoIs; kernel_rfl
theorem inf_46 : InfoIs Tryd.prog 46 2 16 (.agg #[.int .i64 0, .int .i64 0]) := by unfold InfoIs; kernel_rfl
theorem plus_ok (a b : Int) (ha : 0 ≤ a) (hb : 0 ≤ b) (ha2 : a ≤ 4000000000000) (hb2 : b ≤ 4000000000000) (w : World) :
   Calls Tryd.prog 33 #[.int .i64 a, .int .i64 b] w (Ret fun v w' => v = .int .i64 (Ed.plus a b) ∧ Ext [] w w') := by
 refine calls_fx (l := [.int .i64 a, .int .i64 b]) Tryd.func33 rfl Tryd.ntmps33 (Nat.le_of_ble_eq_true rfl) (St.start w) ?_
 refine c_seq ?_
 refine c_reg ?_
 refine l_q (by decide) (p_assign (v := .int .i64 ((0 : Nat) : Int)) rfl).q ?_
 refine l_nil ?_
 refine c_seq ?_
 refine c_reg ?_
 refine l_q (by decide) (p_move rfl).q ?_
 refine l_q (by decide) (p_move rfl).q ?_
 first | refine l_q (by decide) (p_add rfl rfl rfl rfl (by show _ ≤ (9223372036854775807 : Nat); omega)).q ?_ | refine l_q (by decide) (p_addi rfl rfl (by show (-9223372036854775808 : Int) ≤ _; omega) (by show _ ≤ ((9223372036854775807 : Nat) : Int); omega)).q ?_
 first | refine l_q (by decide) (p_min (j := 1099511627776) rfl rfl rfl rfl).q ?_ | refine l_q (by decide) (p_mini rfl rfl).q ?_
 refine l_q (by decide) (p_assign rfl).q ?_
 refine l_nil ?_
 refine c_ret ?_
 refine c_ret1 rfl rfl (fun w hs => ?_)
 exact ⟨by unfold Ed.plus Ed.inf; rfl, hs.ext⟩

theorem add_ok (a b : Int) (ha : 0 ≤ a) (hb : 0 ≤ b) (ha2 : a ≤ 4000000000000) (hb2 : b ≤ 4000000000000) (w : World) :
   Calls Tryd.prog 36 #[.int .i64 a, .int .i64 b] w (Ret fun v w' => v = .int .i64 (Ed.plus a b) ∧ Ext [] w w') := by
 refine calls_fx (l := [.int .i64 a, .int .i64 b]) Tryd.func36 rfl Tryd.ntmps36 (Nat.le_of_ble_eq_true rfl) (St.start w) ?_
 refine c_seq ?_
 refine c_reg ?_
 refine l_q (by decide) (p_assign (v := .int .i64 ((0 : Nat) : Int)) rfl).q ?_
 refine l_nil ?_
 refine c_seq ?_
 refine c_reg ?_
 refine l_q (by decide) (p_move rfl).q ?_
 refine l_q (by decide) (p_move rfl).q ?_
 first | refine l_q (by decide) (p_add rfl rfl rfl rfl (by show _ ≤ (9223372036854775807 : Nat); omega)).q ?_ | refine l_q (by decide) (p_addi rfl rfl (by show (-9223372036854775808 : Int) ≤ _; omega) (by show _ ≤ ((9223372036854775807 : Nat) : Int); omega)).q ?_
 first | refine l_q (by decide) (p_min (j := 1099511627776) rfl rfl rfl rfl).q ?_ | refine l_q (by decide) (p_mini rfl rfl).q ?_
 refine l_q (by decide) (p_assign rfl).q ?_
 refine l_nil ?_
 refine c_ret ?_
 refine c_ret1 rfl rfl (fun w hs => ?_)
 exact ⟨by unfold Ed.plus Ed.inf; rfl, hs.ext⟩

theorem swap_ok (X : Inp) (hX : X.small) (w : World) (hM : X.mem w) (i : Nat) (hi : i ≤ 140737488355328) :
   Calls Tryd.prog 34 #[.agg #[.slice X.A X.xs.length X.c, .slice X.B X.ins.length X.d, .int .i64 X.sw], .int .i64 (i : Int)] w (Ret fun v w' => v = .bool (Ed.swp X.pl i).isSome ∧ Ext [] w w') := by
 have _ := hX
 refine calls_fx (l := [.agg #[.slice X.A X.xs.length X.c, .slice X.B X.ins.length X.d, .int .i64 X.sw], .int .i64 (i : Int)]) Tryd.func34 rfl Tryd.ntmps34 (Nat.le_of_ble_eq_true rfl) (X.start hM) ?_
 refine c_seq ?_
 refine c_reg ?_
 refine l_box (by decide) rfl _ rfl (fun b2 => ?_)
 refine l_q (by decide) (p_assign rfl).q ?_
 refine l_nil ?_
 refine c_seq ?_
 refine c_reg ?_
 first | refine l_q (by decide) (p_faddr (i := 2) 2 Tryd.underlying25 rfl inf_3 (by decide) rfl rfl).q ?_ | refine l_q (by decide) (p_faddro (i := 2) 2 Tryd.underlying25 rfl inf_3 (by decide) rfl rfl).q ?_
 first | refine l_q (by decide) (r_loado Tryd.underlying3 rfl rfl (by repeat constructor) (by rfl)).q ?_ | refine l_q (by decide) (r_load1 Tryd.underlying3 rfl rfl (by first | exact .fact (by repeat constructor) | exact .own (by repeat constructor) (by decide) (fun _ => rfl) | exact SlIn.reads (by repeat constructor) (by assumption)) (by first | assumption | rfl) (by rfl)).q ?_ | refine l_q (by decide) (r_loadf Tryd.underlying3 rfl rfl (by first | exact .fact (by repeat constructor) | exact .own (by repeat constructor) (by decide) (fun _ => rfl) | exact SlIn.reads (by repeat constructor) (by assumption)) (by assumption) (by rfl)).q ?_
 first | refine l_q (by decide) (p_gtr (j := 0) rfl rfl rfl rfl).q ?_ | refine l_q (by decide) (p_gtri rfl rfl).q ?_
 refine l_q (by decide) (p_move rfl).q ?_
 first | refine l_splitd (t := 8) rfl (fun h8 => ?_) (fun h8 => ?_) | refine l_splitb (t := 8) rfl (fun h8 => ?_) (fun h8 => ?_)
 ·skip
  refine l_g (j := 3) rfl rfl (by decide) (p_move rfl).q ?_
  first | refine l_g (j := 3) rfl rfl (by decide) (p_add (j := 1) rfl rfl rfl rfl (by show _ ≤ (9223372036854775807 : Nat); omega)).q ?_ | refine l_g (j := 3) rfl rfl (by decide) (p_addi rfl rfl (by show (-9223372036854775808 : Int) ≤ _; omega) (by show _ ≤ ((9223372036854775807 : Nat) : Int); omega)).q ?_
  first | refine l_g (j := 3) rfl rfl (by decide) (p_faddr (i := 0) 0 Tryd.underlying25 rfl inf_22 (by decide) rfl rfl).q ?_ | refine l_g (j := 3) rfl rfl (by decide) (p_faddro (i := 0) 0 Tryd.underlying25 rfl inf_22 (by decide) rfl rfl).q ?_
  first | refine l_g (j := 3) rfl rfl (by decide) (r_loado Tryd.underlying22 rfl rfl (by repeat constructor) (by rfl)).q ?_ | refine l_g (j := 3) rfl rfl (by decide) (r_load1 Tryd.underlying22 rfl rfl (by first | exact .fact (by repeat constructor) | exact .own (by repeat constructor) (by decide) (fun _ => rfl) | exact SlIn.reads (by repeat constructor) (by assumption)) (by first | assumption | rfl) (by rfl)).q ?_ | refine l_g (j := 3) rfl rfl (by decide) (r_loadf Tryd.underlying22 rfl rfl (by first | exact .fact (by repeat constructor) | exact .own (by repeat constructor) (by decide) (fun _ => rfl) | exact SlIn.reads (by repeat constructor) (by assumption)) (by assumption) (by rfl)).q ?_
  refine l_g (j := 3) rfl rfl (by decide) (p_len_sl Tryd.underlying22 rfl).q ?_
  first | refine l_g (j := 3) rfl rfl (by decide) (p_lss rfl rfl rfl rfl).q ?_ | refine l_g (j := 3) rfl rfl (by decide) (p_lssi rfl rfl).q ?_
  refine l_q (by decide) (p_pick rfl rfl).q ?_
  refine l_q (by decide) (p_move rfl).q ?_
  first | refine l_splitd (t := 16) rfl (fun h16 => ?_) (fun h16 => ?_) | refine l_splitb (t := 16) rfl (fun h16 => ?_) (fun h16 => ?_)
  ·skip
   obtain ⟨x, hx⟩ := at_some (l := X.xs) (n := i) (by omega)
   obtain ⟨y, hy⟩ := at_some (l := X.xs) (n := i + 1) (by omega)
   first | refine l_g (j := 11) rfl rfl (by decide) (p_faddr (i := 0) 0 Tryd.underlying25 rfl inf_22 (by decide) rfl rfl).q ?_ | refine l_g (j := 11) rfl rfl (by decide) (p_faddro (i := 0) 0 Tryd.underlying25 rfl inf_22 (by decide) rfl rfl).q ?_
   first | refine l_g (j := 11) rfl rfl (by decide) (r_loado Tryd.underlying22 rfl rfl (by repeat constructor) (by rfl)).q ?_ | refine l_g (j := 11) rfl rfl (by decide) (r_load1 Tryd.underlying22 rfl rfl (by first | exact .fact (by repeat constructor) | exact .own (by repeat constructor) (by decide) (fun _ => rfl) | exact SlIn.reads (by repeat constructor) (by assumption)) (by first | assumption | rfl) (by rfl)).q ?_ | refine l_g (j := 11) rfl rfl (by decide) (r_loadf Tryd.underlying22 rfl rfl (by first | exact .fact (by repeat constructor) | exact .own (by repeat constructor) (by decide) (fun _ => rfl) | exact SlIn.reads (by repeat constructor) (by assumption)) (by assumption) (by rfl)).q ?_
   refine l_g (j := 11) rfl rfl (by decide) (p_move rfl).q ?_
   first | refine l_g (j := 11) rfl rfl (by decide) (r_index Tryd.underlying22 inf_44 rfl rfl rfl (by first | exact .fact (by repeat constructor) | exact .own (by repeat constructor) (by decide) (fun _ => rfl) | exact SlIn.reads (by repeat constructor) (by assumption)) rfl (by omega)).q ?_ | refine l_g (j := 11) rfl rfl (by decide) (r_index Tryd.underlying22 inf_44 rfl rfl rfl (by first | exact .fact (by repeat constructor) | exact .own (by repeat constructor) (by decide) (fun _ => rfl) | exact SlIn.reads (by repeat constructor) (by assumption)) rfl (by decide)).q ?_ | refine l_g (j := 11) rfl rfl (by decide) (p_indexo Tryd.underlying22 inf_44 rfl rfl rfl (by omega)).q ?_
   first | refine l_g (j := 11) rfl rfl (by decide) (p_faddr (i := 0) 0 Tryd.underlying44 rfl inf_3 (by decide) rfl rfl).q ?_ | refine l_g (j := 11) rfl rfl (by decide) (p_faddro (i := 0) 0 Tryd.underlying44 rfl inf_3 (by decide) rfl rfl).q ?_
   first | refine l_g (j := 11) rfl rfl (by decide) (r_loado Tryd.underlying3 rfl rfl (by repeat constructor) (by rfl)).q ?_ | refine l_g (j := 11) rfl rfl (by decide) (r_load1 Tryd.underlying3 rfl rfl (by first | exact .fact (by repeat constructor) | exact .own (by repeat constructor) (by decide) (fun _ => rfl) | exact SlIn.reads (by repeat constructor) (by assumption)) (by first | assumption | rfl) (by rfl)).q ?_ | refine l_g (j := 11) rfl rfl (by decide) (r_loadf Tryd.underlying3 rfl rfl (by first | exact .fact (by repeat constructor) | exact .own (by repeat constructor) (by decide) (fun _ => rfl) | exact SlIn.reads (by repeat constructor) (by assumption)) (by assumption) (by rfl)).q ?_
   first | refine l_g (j := 11) rfl rfl (by decide) (p_geq (j := 0) rfl rfl rfl rfl).q ?_ | refine l_g (j := 11) rfl rfl (by decide) (p_geqi rfl rfl).q ?_
   refine l_q (by decide) (p_pick rfl rfl).q ?_
   refine l_q (by decide) (p_move rfl).q ?_
   first | refine l_splitd (t := 25) rfl (fun h25 => ?_) (fun h25 => ?_) | refine l_splitb (t := 25) rfl (fun h25 => ?_) (fun h25 => ?_)
   ·skip
    first | refine l_g (j := 20) rfl rfl (by decide) (p_faddr (i := 0) 0 Tryd.underlying25 rfl inf_22 (by decide) rfl rfl).q ?_ | refine l_g (j := 20) rfl rfl (by decide) (p_faddro (i := 0) 0 Tryd.underlying25 rfl inf_22 (by decide) rfl rfl).q ?_
    first | refine l_g (j := 20) rfl rfl (by decide) (r_loado Tryd.underlying22 rfl rfl (by repeat constructor) (by rfl)).q ?_ | refine l_g (j := 20) rfl rfl (by decide) (r_load1 Tryd.underlying22 rfl rfl (by first | exact .fact (by repeat constructor) | exact .own (by repeat constructor) (by decide) (fun _ => rfl) | exact SlIn.reads (by repeat constructor) (by assumption)) (by first | assumption | rfl) (by rfl)).q ?_ | refine l_g (j := 20) rfl rfl (by decide) (r_loadf Tryd.underlying22 rfl rfl (by first | exact .fact (by repeat constructor) | exact .own (by repeat constructor) (by decide) (fun _ => rfl) | exact SlIn.reads (by repeat constructor) (by assumption)) (by assumption) (by rfl)).q ?_
    refine l_g (j := 20) rfl rfl (by decide) (p_move rfl).q ?_
    first | refine l_g (j := 20) rfl rfl (by decide) (p_add (j := 1) rfl rfl rfl rfl (by show _ ≤ (9223372036854775807 : Nat); omega)).q ?_ | refine l_g (j := 20) rfl rfl (by decide) (p_addi rfl rfl (by show (-9223372036854775808 : Int) ≤ _; omega) (by show _ ≤ ((9223372036854775807 : Nat) : Int); omega)).q ?_
    first | refine l_g (j := 20) rfl rfl (by decide) (r_index Tryd.underlying22 inf_44 rfl rfl rfl (by first | exact .fact (by repeat constructor) | exact .own (by repeat constructor) (by decide) (fun _ => rfl) | exact SlIn.reads (by repeat constructor) (by assumption)) rfl (by omega)).q ?_ | refine l_g (j := 20) rfl rfl (by decide) (r_index Tryd.underlying22 inf_44 rfl rfl rfl (by first | exact .fact (by repeat constructor) | exact .own (by repeat constructor) (by decide) (fun _ => rfl) | exact SlIn.reads (by repeat constructor) (by assumption)) rfl (by decide)).q ?_ | refine l_g (j := 20) rfl rfl (by decide) (p_indexo Tryd.underlying22 inf_44 rfl rfl rfl (by omega)).q ?_
    first | refine l_g (j := 20) rfl rfl (by decide) (p_faddr (i := 0) 0 Tryd.underlying44 rfl inf_3 (by decide) rfl rfl).q ?_ | refine l_g (j := 20) rfl rfl (by decide) (p_faddro (i := 0) 0 Tryd.underlying44 rfl inf_3 (by decide) rfl rfl).q ?_
    first | refine l_g (j := 20) rfl rfl (by decide) (r_loado Tryd.underlying3 rfl rfl (by repeat constructor) (by rfl)).q ?_ | refine l_g (j := 20) rfl rfl (by decide) (r_load1 Tryd.underlying3 rfl rfl (by first | exact .fact (by repeat constructor) | exact .own (by repeat constructor) (by decide) (fun _ => rfl) | exact SlIn.reads (by repeat constructor) (by assumption)) (by first | assumption | rfl) (by rfl)).q ?_ | refine l_g (j := 20) rfl rfl (by decide) (r_loadf Tryd.underlying3 rfl rfl (by first | exact .fact (by repeat constructor) | exact .own (by repeat constructor) (by decide) (fun _ => rfl) | exact SlIn.reads (by repeat constructor) (by assumption)) (by assumption) (by rfl)).q ?_
    first | refine l_g (j := 20) rfl rfl (by decide) (p_geq (j := 0) rfl rfl rfl rfl).q ?_ | refine l_g (j := 20) rfl rfl (by decide) (p_geqi rfl rfl).q ?_
    refine l_q (by decide) (p_pick rfl rfl).q ?_
    refine l_q (by decide) (p_assign rfl).q ?_
    refine l_nil ?_
    refine c_ret ?_
    refine c_ret1 rfl rfl (fun w hs => ?_)
    refine ⟨?_, hs.ext⟩
    by_cases hz : 0 ≤ y.o.kind
    · rw [swp_some hx hy (by omega) (by omega) hz, decide_eq_true (by omega)]; rfl
    · rw [swp_none (fun x2 y2 _ h => by rw [hy] at h; injection h with h; subst h; omega), decide_eq_false (by omega)]; rfl
   ·skip
    refine l_off (j := 20) rfl rfl (by first | (simp; done) | (simp [undef]; done)) (by decide) ?_
    refine l_off (j := 20) rfl rfl (by first | (simp; done) | (simp [undef]; done)) (by decide) ?_
    refine l_off (j := 20) rfl rfl (by first | (simp; done) | (simp [undef]; done)) (by decide) ?_
    refine l_off (j := 20) rfl rfl (by first | (simp; done) | (simp [undef]; done)) (by decide) ?_
    refine l_off (j := 20) rfl rfl (by first | (simp; done) | (simp [undef]; done)) (by decide) ?_
    refine l_off (j := 20) rfl rfl (by first | (simp; done) | (simp [undef]; done)) (by decide) ?_
    refine l_off (j := 20) rfl rfl (by first | (simp; done) | (simp [undef]; done)) (by decide) ?_
    refine l_off (j := 20) rfl rfl (by first | (simp; done) | (simp [undef]; done)) (by decide) ?_
    refine l_q (by decide) (p_pick rfl rfl).q ?_
    refine l_q (by decide) (p_assign rfl).q ?_
    refine l_nil ?_
    refine c_ret ?_
    refine c_ret1 rfl rfl (fun w hs => ?_)
    exact ⟨by rw [swp_none (fun x2 y2 h _ => by rw [hx] at h; injection h with h; subst h; omega)]; rfl, hs.ext⟩
  ·skip
   refine l_off (j := 11) rfl rfl (by first | (simp; done) | (simp [undef]; done)) (by decide) ?_
   refine l_off (j := 11) rfl rfl (by first | (simp; done) | (simp [undef]; done)) (by decide) ?_
   refine l_off (j := 11) rfl rfl (by first | (simp; done) | (simp [undef]; done)) (by decide) ?_
   refine l_off (j := 11) rfl rfl (by first | (simp; done) | (simp [undef]; done)) (by decide) ?_
   refine l_off (j := 11) rfl rfl (by first | (simp; done) | (simp [undef]; done)) (by decide) ?_
   refine l_off (j := 11) rfl rfl (by first | (simp; done) | (simp [undef]; done)) (by decide) ?_
   refine l_off (j := 11) rfl rfl (by first | (simp; done) | (simp [undef]; done)) (by decide) ?_
   refine l_q (by decide) (p_pick rfl rfl).q ?_
   refine l_q (by decide) (p_move rfl).q ?_
   refine l_off (j := 20) rfl rfl (by first | (simp; done) | (simp [undef]; done)) (by decide) ?_
   refine l_off (j := 20) rfl rfl (by first | (simp; done) | (simp [undef]; done)) (by decide) ?_
   refine l_off (j := 20) rfl rfl (by first | (simp; done) | (simp [undef]; done)) (by decide) ?_
   refine l_off (j := 20) rfl rfl (by first | (simp; done) | (simp [undef]; done)) (by decide) ?_
   refine l_off (j := 20) rfl rfl (by first | (simp; done) | (simp [undef]; done)) (by decide) ?_
   refine l_off (j := 20) rfl rfl (by first | (simp; done) | (simp [undef]; done)) (by decide) ?_
   refine l_off (j := 20) rfl rfl (by first | (simp; done) | (simp [undef]; done)) (by decide) ?_
   refine l_off (j := 20) rfl rfl (by first | (simp; done) | (simp [undef]; done)) (by decide) ?_
   refine l_q (by decide) (p_pick rfl rfl).q ?_
   refine l_q (by decide) (p_assign rfl).q ?_
   refine l_nil ?_
   refine c_ret ?_
   refine c_ret1 rfl rfl (fun w hs => ?_)
   exact ⟨by rw [swp_none (fun x2 y2 _ h => by have := at_lt h; omega)]; rfl, hs.ext⟩
 ·skip
  refine l_off (j := 3) rfl rfl (by first | (simp; done) | (simp [undef]; done)) (by decide) ?_
  refine l_off (j := 3) rfl rfl (by first | (simp; done) | (simp [undef]; done)) (by decide) ?_
  refine l_off (j := 3) rfl rfl (by first | (simp; done) | (simp [undef]; done)) (by decide) ?_
  refine l_off (j := 3) rfl rfl (by first | (simp; done) | (simp [undef]; done)) (by decide) ?_
  refine l_off (j := 3) rfl rfl (by first | (simp; done) | (simp [undef]; done)) (by decide) ?_
  refine l_off (j := 3) rfl rfl (by first | (simp; done) | (simp [undef]; done)) (by decide) ?_
  refine l_q (by decide) (p_pick rfl rfl).q ?_
  refine l_q (by decide) (p_move rfl).q ?_
  refine l_off (j := 11) rfl rfl (by first | (simp; done) | (simp [undef]; done)) (by decide) ?_
  refine l_off (j := 11) rfl rfl (by first | (simp; done) | (simp [undef]; done)) (by decide) ?_
  refine l_off (j := 11) rfl rfl (by first | (simp; done) | (simp [undef]; done)) (by decide) ?_
  refine l_off (j := 11) rfl rfl (by first | (simp; done) | (simp [undef]; done)) (by decide) ?_
  refine l_off (j := 11) rfl rfl (by first | (simp; done) | (simp [undef]; done)) (by decide) ?_
  refine l_off (j := 11) rfl rfl (by first | (simp; done) | (simp [undef]; done)) (by decide) ?_
  refine l_off (j := 11) rfl rfl (by first | (simp; done) | (simp [undef]; done)) (by decide) ?_
  refine l_q (by decide) (p_pick rfl rfl).q ?_
  refine l_q (by decide) (p_move rfl).q ?_
  refine l_off (j := 20) rfl rfl (by first | (simp; done) | (simp [undef]; done)) (by decide) ?_
  refine l_off (j := 20) rfl rfl (by first | (simp; done) | (simp [undef]; done)) (by decide) ?_
  refine l_off (j := 20) rfl rfl (by first | (simp; done) | (simp [undef]; done)) (by decide) ?_
  refine l_off (j := 20) rfl rfl (by first | (simp; done) | (simp [undef]; done)) (by decide) ?_
  refine l_off (j := 20) rfl rfl (by first | (simp; done) | (simp [undef]; done)) (by decide) ?_
  refine l_off (j := 20) rfl rfl (by first | (simp; done) | (simp [undef]; done)) (by decide) ?_
  refine l_off (j := 20) rfl rfl (by first | (simp; done) | (simp [undef]; done)) (by decide) ?_
  refine l_off (j := 20) rfl rfl (by first | (simp; done) | (simp [undef]; done)) (by decide) ?_
  refine l_q (by decide) (p_pick rfl rfl).q ?_
  refine l_q (by decide) (p_assign rfl).q ?_
  refine l_nil ?_
  refine c_ret ?_
  refine c_ret1 rfl rfl (fun w hs => ?_)
  exact ⟨by rw [swp_none (fun x2 y2 _ _ => by omega)]; rfl, hs.ext⟩

theorem swap2_ok (X : Inp) (hX : X.small) (w : World) (hM : X.mem w) (i : Nat) (hi : i ≤ 140737488355328) :
   Calls Tryd.prog 39 #[.agg #[.slice X.A X.xs.length X.c, .slice X.B X.ins.length X.d, .int .i64 X.sw], .int .i64 (i : Int)] w (Ret fun v w' => v = .bool (Ed.swp X.pl i).isSome ∧ Ext [] w w') := by
 have _ := hX
 refine calls_fx (l := [.agg #[.slice X.A X.xs.length X.c, .slice X.B X.ins.length X.d, .int .i64 X.sw], .int .i64 (i : Int)]) Tryd.func39 rfl Tryd.ntmps39 (Nat.le_of_ble_eq_true rfl) (X.start hM) ?_
 refine c_seq ?_
 refine c_reg ?_
 refine l_box (by decide) rfl _ rfl (fun b2 => ?_)
 refine l_q (by decide) (p_assign rfl).q ?_
 refine l_nil ?_
 refine c_seq ?_
 refine c_reg ?_
 first | refine l_q (by decide) (p_faddr (i := 2) 2 Tryd.underlying25 rfl inf_3 (by decide) rfl rfl).q ?_ | refine l_q (by decide) (p_faddro (i := 2) 2 Tryd.underlying25 rfl inf_3 (by decide) rfl rfl).q ?_
 first | refine l_q (by decide) (r_loado Tryd.underlying3 rfl rfl (by repeat constructor) (by rfl)).q ?_ | refine l_q (by decide) (r_load1 Tryd.underlying3 rfl rfl (by first | exact .fact (by repeat constructor) | exact .own (by repeat constructor) (by decide) (fun _ => rfl) | exact SlIn.reads (by repeat constructor) (by assumption)) (by first | assumption | rfl) (by rfl)).q ?_ | refine l_q (by decide) (r_loadf Tryd.underlying3 rfl rfl (by first | exact .fact (by repeat constructor) | exact .own (by repeat constructor) (by decide) (fun _ => rfl) | exact SlIn.reads (by repeat constructor) (by assumption)) (by assumption) (by rfl)).q ?_
 first | refine l_q (by decide) (p_gtr (j := 0) rfl rfl rfl rfl).q ?_ | refine l_q (by decide) (p_gtri rfl rfl).q ?_
 refine l_q (by decide) (p_move rfl).q ?_
 first | refine l_splitd (t := 8) rfl (fun h8 => ?_) (fun h8 => ?_) | refine l_splitb (t := 8) rfl (fun h8 => ?_) (fun h8 => ?_)
 ·skip
  refine l_g (j := 3) rfl rfl (by decide) (p_move rfl).q ?_
  first | refine l_g (j := 3) rfl rfl (by decide) (p_add (j := 1) rfl rfl rfl rfl (by show _ ≤ (9223372036854775807 : Nat); omega)).q ?_ | refine l_g (j := 3) rfl rfl (by decide) (p_addi rfl rfl (by show (-9223372036854775808 : Int) ≤ _; omega) (by show _ ≤ ((9223372036854775807 : Nat) : Int); omega)).q ?_
  first | refine l_g (j := 3) rfl rfl (by decide) (p_faddr (i := 0) 0 Tryd.underlying25 rfl inf_22 (by decide) rfl rfl).q ?_ | refine l_g (j := 3) rfl rfl (by decide) (p_faddro (i := 0) 0 Tryd.underlying25 rfl inf_22 (by decide) rfl rfl).q ?_
  first | refine l_g (j := 3) rfl rfl (by decide) (r_loado Tryd.underlying22 rfl rfl (by repeat constructor) (by rfl)).q ?_ | refine l_g (j := 3) rfl rfl (by decide) (r_load1 Tryd.underlying22 rfl rfl (by first | exact .fact (by repeat constructor) | exact .own (by repeat constructor) (by decide) (fun _ => rfl) | exact SlIn.reads (by repeat constructor) (by assumption)) (by first | assumption | rfl) (by rfl)).q ?_ | refine l_g (j := 3) rfl rfl (by decide) (r_loadf Tryd.underlying22 rfl rfl (by first | exact .fact (by repeat constructor) | exact .own (by repeat constructor) (by decide) (fun _ => rfl) | exact SlIn.reads (by repeat constructor) (by assumption)) (by assumption) (by rfl)).q ?_
  refine l_g (j := 3) rfl rfl (by decide) (p_len_sl Tryd.underlying22 rfl).q ?_
  first | refine l_g (j := 3) rfl rfl (by decide) (p_lss rfl rfl rfl rfl).q ?_ | refine l_g (j := 3) rfl rfl (by decide) (p_lssi rfl rfl).q ?_
  refine l_q (by decide) (p_pick rfl rfl).q ?_
  refine l_q (by decide) (p_move rfl).q ?_
  first | refine l_splitd (t := 16) rfl (fun h16 => ?_) (fun h16 => ?_) | refine l_splitb (t := 16) rfl (fun h16 => ?_) (fun h16 => ?_)
  ·skip
   obtain ⟨x, hx⟩ := at_some (l := X.xs) (n := i) (by omega)
   obtain ⟨y, hy⟩ := at_some (l := X.xs) (n := i + 1) (by omega)
   first | refine l_g (j := 11) rfl rfl (by decide) (p_faddr (i := 0) 0 Tryd.underlying25 rfl inf_22 (by decide) rfl rfl).q ?_ | refine l_g (j := 11) rfl rfl (by decide) (p_faddro (i := 0) 0 Tryd.underlying25 rfl inf_22 (by decide) rfl rfl).q ?_
   first | refine l_g (j := 11) rfl rfl (by decide) (r_loado Tryd.underlying22 rfl rfl (by repeat constructor) (by rfl)).q ?_ | refine l_g (j := 11) rfl rfl (by decide) (r_load1 Tryd.underlying22 rfl rfl (by first | exact .fact (by repeat constructor) | exact .own (by repeat constructor) (by decide) (fun _ => rfl) | exact SlIn.reads (by repeat constructor) (by assumption)) (by first | assumption | rfl) (by rfl)).q ?_ | refine l_g (j := 11) rfl rfl (by decide) (r_loadf Tryd.underlying22 rfl rfl (by first | exact .fact (by repeat constructor) | exact .own (by repeat constructor) (by decide) (fun _ => rfl) | exact SlIn.reads (by repeat constructor) (by assumption)) (by assumption) (by rfl)).q ?_
   refine l_g (j := 11) rfl rfl (by decide) (p_move rfl).q ?_
   first | refine l_g (j := 11) rfl rfl (by decide) (r_index Tryd.underlying22 inf_44 rfl rfl rfl (by first | exact .fact (by repeat constructor) | exact .own (by repeat constructor) (by decide) (fun _ => rfl) | exact SlIn.reads (by repeat constructor) (by assumption)) rfl (by omega)).q ?_ | refine l_g (j := 11) rfl rfl (by decide) (r_index Tryd.underlying22 inf_44 rfl rfl rfl (by first | exact .fact (by repeat constructor) | exact .own (by repeat constructor) (by decide) (fun _ => rfl) | exact SlIn.reads (by repeat constructor) (by assumption)) rfl (by decide)).q ?_ | refine l_g (j := 11) rfl rfl (by decide) (p_indexo Tryd.underlying22 inf_44 rfl rfl rfl (by omega)).q ?_
   first | refine l_g (j := 11) rfl rfl (by decide) (p_faddr (i := 0) 0 Tryd.underlying44 rfl inf_3 (by decide) rfl rfl).q ?_ | refine l_g (j := 11) rfl rfl (by decide) (p_faddro (i := 0) 0 Tryd.underlying44 rfl inf_3 (by decide) rfl rfl).q ?_
   first | refine l_g (j := 11) rfl rfl (by decide) (r_loado Tryd.underlying3 rfl rfl (by repeat constructor) (by rfl)).q ?_ | refine l_g (j := 11) rfl rfl (by decide) (r_load1 Tryd.underlying3 rfl rfl (by first | exact .fact (by repeat constructor) | exact .own (by repeat constructor) (by decide) (fun _ => rfl) | exact SlIn.reads (by repeat constructor) (by assumption)) (by first | assumption | rfl) (by rfl)).q ?_ | refine l_g (j := 11) rfl rfl (by decide) (r_loadf Tryd.underlying3 rfl rfl (by first | exact .fact (by repeat constructor) | exact .own (by repeat constructor) (by decide) (fun _ => rfl) | exact SlIn.reads (by repeat constructor) (by assumption)) (by assumption) (by rfl)).q ?_
   first | refine l_g (j := 11) rfl rfl (by decide) (p_geq (j := 0) rfl rfl rfl rfl).q ?_ | refine l_g (j := 11) rfl rfl (by decide) (p_geqi rfl rfl).q ?_
   refine l_q (by decide) (p_pick rfl rfl).q ?_
   refine l_q (by decide) (p_move rfl).q ?_
   first | refine l_splitd (t := 25) rfl (fun h25 => ?_) (fun h25 => ?_) | refine l_splitb (t := 25) rfl (fun h25 => ?_) (fun h25 => ?_)
   ·skip
    first | refine l_g (j := 20) rfl rfl (by decide) (p_faddr (i := 0) 0 Tryd.underlying25 rfl inf_22 (by decide) rfl rfl).q ?_ | refine l_g (j := 20) rfl rfl (by decide) (p_faddro (i := 0) 0 Tryd.underlying25 rfl inf_22 (by decide) rfl rfl).q ?_
    first | refine l_g (j := 20) rfl rfl (by decide) (r_loado Tryd.underlying22 rfl rfl (by repeat constructor) (by rfl)).q ?_ | refine l_g (j := 20) rfl rfl (by decide) (r_load1 Tryd.underlying22 rfl rfl (by first | exact .fact (by repeat constructor) | exact .own (by repeat constructor) (by decide) (fun _ => rfl) | exact SlIn.reads (by repeat constructor) (by assumption)) (by first | assumption | rfl) (by rfl)).q ?_ | refine l_g (j := 20) rfl rfl (by decide) (r_loadf Tryd.underlying22 rfl rfl (by first | exact .fact (by repeat constructor) | exact .own (by repeat constructor) (by decide) (fun _ => rfl) | exact SlIn.reads (by repeat constructor) (by assumption)) (by assumption) (by rfl)).q ?_
    refine l_g (j := 20) rfl rfl (by decide) (p_move rfl).q ?_
    first | refine l_g (j := 20) rfl rfl (by decide) (p_add (j := 1) rfl rfl rfl rfl (by show _ ≤ (9223372036854775807 : Nat); omega)).q ?_ | refine l_g (j := 20) rfl rfl (by decide) (p_addi rfl rfl (by show (-9223372036854775808 : Int) ≤ _; omega) (by show _ ≤ ((9223372036854775807 : Nat) : Int); omega)).q ?_
    first | refine l_g (j := 20) rfl rfl (by decide) (r_index Tryd.underlying22 inf_44 rfl rfl rfl (by first | exact .fact (by repeat constructor) | exact .own (by repeat constructor) (by decide) (fun _ => rfl) | exact SlIn.reads (by repeat constructor) (by assumption)) rfl (by omega)).q ?_ | refine l_g (j := 20) rfl rfl (by decide) (r_index Tryd.underlying22 inf_44 rfl rfl rfl (by first | exact .fact (by repeat constructor) | exact .own (by repeat constructor) (by decide) (fun _ => rfl) | exact SlIn.reads (by repeat constructor) (by assumption)) rfl (by decide)).q ?_ | refine l_g (j := 20) rfl rfl (by decide) (p_indexo Tryd.underlying22 inf_44 rfl rfl rfl (by omega)).q ?_
    first | refine l_g (j := 20) rfl rfl (by decide) (p_faddr (i := 0) 0 Tryd.underlying44 rfl inf_3 (by decide) rfl rfl).q ?_ | refine l_g (j := 20) rfl rfl (by decide) (p_faddro (i := 0) 0 Tryd.underlying44 rfl inf_3 (by decide) rfl rfl).q ?_
    first | refine l_g (j := 20) rfl rfl (by decide) (r_loado Tryd.underlying3 rfl rfl (by repeat constructor) (by rfl)).q ?_ | refine l_g (j := 20) rfl rfl (by decide) (r_load1 Tryd.underlying3 rfl rfl (by first | exact .fact (by repeat constructor) | exact .own (by repeat constructor) (by decide) (fun _ => rfl) | exact SlIn.reads (by repeat constructor) (by assumption)) (by first | assumption | rfl) (by rfl)).q ?_ | refine l_g (j := 20) rfl rfl (by decide) (r_loadf Tryd.underlying3 rfl rfl (by first | exact .fact (by repeat constructor) | exact .own (by repeat constructor) (by decide) (fun _ => rfl) | exact SlIn.reads (by repeat constructor) (by assumption)) (by assumption) (by rfl)).q ?_
    first | refine l_g (j := 20) rfl rfl (by decide) (p_geq (j := 0) rfl rfl rfl rfl).q ?_ | refine l_g (j := 20) rfl rfl (by decide) (p_geqi rfl rfl).q ?_
    refine l_q (by decide) (p_pick rfl rfl).q ?_
    refine l_q (by decide) (p_assign rfl).q ?_
    refine l_nil ?_
    refine c_ret ?_
    refine c_ret1 rfl rfl (fun w hs => ?_)
    refine ⟨?_, hs.ext⟩
    by_cases hz : 0 ≤ y.o.kind
    · rw [swp_some hx hy (by omega) (by omega) hz, decide_eq_true (by omega)]; rfl
    · rw [swp_none (fun x2 y2 _ h => by rw [hy] at h; injection h with h; subst h; omega), decide_eq_false (by omega)]; rfl
   ·skip
    refine l_off (j := 20) rfl rfl (by first | (simp; done) | (simp [undef]; done)) (by decide) ?_
    refine l_off (j := 20) rfl rfl (by first | (simp; done) | (simp [undef]; done)) (by decide) ?_
    refine l_off (j := 20) rfl rfl (by first | (simp; done) | (simp [undef]; done)) (by decide) ?_
    refine l_off (j := 20) rfl rfl (by first | (simp; done) | (simp [undef]; done)) (by decide) ?_
    refine l_off (j := 20) rfl rfl (by first | (simp; done) | (simp [undef]; done)) (by decide) ?_
    refine l_off (j := 20) rfl rfl (by first | (simp; done) | (simp [undef]; done)) (by decide) ?_
    refine l_off (j := 20) rfl rfl (by first | (simp; done) | (simp [undef]; done)) (by decide) ?_
    refine l_off (j := 20) rfl rfl (by first | (simp; done) | (simp [undef]; done)) (by decide) ?_
    refine l_q (by decide) (p_pick rfl rfl).q ?_
    refine l_q (by decide) (p_assign rfl).q ?_
    refine l_nil ?_
    refine c_ret ?_
    refine c_ret1 rfl rfl (fun w hs => ?_)
    exact ⟨by rw [swp_none (fun x2 y2 h _ => by rw [hx] at h; injection h with h; subst h; omega)]; rfl, hs.ext⟩
  ·skip
   refine l_off (j := 11) rfl rfl (by first | (simp; done) | (simp [undef]; done)) (by decide) ?_
   refine l_off (j := 11) rfl rfl (by first | (simp; done) | (simp [undef]; done)) (by decide) ?_
   refine l_off (j := 11) rfl rfl (by first | (simp; done) | (simp [undef]; done)) (by decide) ?_
   refine l_off (j := 11) rfl rfl (by first | (simp; done) | (simp [undef]; done)) (by decide) ?_
   refine l_off (j := 11) rfl rfl (by first | (simp; done) | (simp [undef]; done)) (by decide) ?_
   refine l_off (j := 11) rfl rfl (by first | (simp; done) | (simp [undef]; done)) (by decide) ?_
   refine l_off (j := 11) rfl rfl (by first | (simp; done) | (simp [undef]; done)) (by decide) ?_
   refine l_q (by decide) (p_pick rfl rfl).q ?_
   refine l_q (by decide) (p_move rfl).q ?_
   refine l_off (j := 20) rfl rfl (by first | (simp; done) | (simp [undef]; done)) (by decide) ?_
   refine l_off (j := 20) rfl rfl (by first | (simp; done) | (simp [undef]; done)) (by decide) ?_
   refine l_off (j := 20) rfl rfl (by first | (simp; done) | (simp [undef]; done)) (by decide) ?_
   refine l_off (j := 20) rfl rfl (by first | (simp; done) | (simp [undef]; done)) (by decide) ?_
   refine l_off (j := 20) rfl rfl (by first | (simp; done) | (simp [undef]; done)) (by decide) ?_
   refine l_off (j := 20) rfl rfl (by first | (simp; done) | (simp [undef]; done)) (by decide) ?_
   refine l_off (j := 20) rfl rfl (by first | (simp; done) | (simp [undef]; done)) (by decide) ?_
   refine l_off (j := 20) rfl rfl (by first | (simp; done) | (simp [undef]; done)) (by decide) ?_
   refine l_q (by decide) (p_pick rfl rfl).q ?_
   refine l_q (by decide) (p_assign rfl).q ?_
   refine l_nil ?_
   refine c_ret ?_
   refine c_ret1 rfl rfl (fun w hs => ?_)
   exact ⟨by rw [swp_none (fun x2 y2 _ h => by have := at_lt h; omega)]; rfl, hs.ext⟩
 ·skip
  refine l_off (j := 3) rfl rfl (by first | (simp; done) | (simp [undef]; done)) (by decide) ?_
  refine l_off (j := 3) rfl rfl (by first | (simp; done) | (simp [undef]; done)) (by decide) ?_
  refine l_off (j := 3) rfl rfl (by first | (simp; done) | (simp [undef]; done)) (by decide) ?_
  refine l_off (j := 3) rfl rfl (by first | (simp; done) | (simp [undef]; done)) (by decide) ?_
  refine l_off (j := 3) rfl rfl (by first | (simp; done) | (simp [undef]; done)) (by decide) ?_
  refine l_off (j := 3) rfl rfl (by first | (simp; done) | (simp [undef]; done)) (by decide) ?_
  refine l_q (by decide) (p_pick rfl rfl).q ?_
  refine l_q (by decide) (p_move rfl).q ?_
  refine l_off (j := 11) rfl rfl (by first | (simp; done) | (simp [undef]; done)) (by decide) ?_
  refine l_off (j := 11) rfl rfl (by first | (simp; done) | (simp [undef]; done)) (by decide) ?_
  refine l_off (j := 11) rfl rfl (by first | (simp; done) | (simp [undef]; done)) (by decide) ?_
  refine l_off (j := 11) rfl rfl (by first | (simp; done) | (simp [undef]; done)) (by decide) ?_
  refine l_off (j := 11) rfl rfl (by first | (simp; done) | (simp [undef]; done)) (by decide) ?_
  refine l_off (j := 11) rfl rfl (by first | (simp; done) | (simp [undef]; done)) (by decide) ?_
  refine l_off (j := 11) rfl rfl (by first | (simp; done) | (simp [undef]; done)) (by decide) ?_
  refine l_q (by decide) (p_pick rfl rfl).q ?_
  refine l_q (by decide) (p_move rfl).q ?_
  refine l_off (j := 20) rfl rfl (by first | (simp; done) | (simp [undef]; done)) (by decide) ?_
  refine l_off (j := 20) rfl rfl (by first | (simp; done) | (simp [undef]; done)) (by decide) ?_
  refine l_off (j := 20) rfl rfl (by first | (simp; done) | (simp [undef]; done)) (by decide) ?_
  refine l_off (j := 20) rfl rfl (by first | (simp; done) | (simp [undef]; done)) (by decide) ?_
  refine l_off (j := 20) rfl rfl (by first | (simp; done) | (simp [undef]; done)) (by decide) ?_
  refine l_off (j := 20) rfl rfl (by first | (simp; done) | (simp [undef]; done)) (by decide) ?_
  refine l_off (j := 20) rfl rfl (by first | (simp; done) | (simp [undef]; done)) (by decide) ?_
  refine l_off (j := 20) rfl rfl (by first | (simp; done) | (simp [undef]; done)) (by decide) ?_
  refine l_q (by decide) (p_pick rfl rfl).q ?_
  refine l_q (by decide) (p_assign rfl).q ?_
  refine l_nil ?_
  refine c_ret ?_
  refine c_ret1 rfl rfl (fun w hs => ?_)
  exact ⟨by rw [swp_none (fun x2 y2 _ _ => by omega)]; rfl, hs.ext⟩

theorem proper_ok (X : Inp) (hX : X.small) (w : World) (hM : X.mem w) (C : Option Addr) (e : Nat) (y : List Int) (hy : y.length ≤ 140737488355328) (hY : Sl 1 intF C y w) :
   Calls Tryd.prog 30 #[.agg #[.slice X.A X.xs.length X.c, .slice X.B X.ins.length X.d, .int .i64 X.sw], .slice C y.length e] w (Ret fun v w' => v = .bool (dec (∀ t, t ∈ y → 0 ≤ t ∧ t < X.ins.length)) ∧ Ext [] w w') := by
 have _ := hX
 refine calls_fx (l := [.agg #[.slice X.A X.xs.length X.c, .slice X.B X.ins.length X.d, .int .i64 X.sw], .slice C y.length e]) Tryd.func30 rfl Tryd.ntmps30 (Nat.le_of_ble_eq_true rfl) ((X.start hM).old hY (dep_sl (by decide) hY)) ?_
 refine c_seq ?_
 refine c_reg ?_
 refine l_box (by decide) rfl _ rfl (fun b2 => ?_)
 refine l_q (by decide) (p_assign rfl).q ?_
 refine l_nil ?_
 refine c_seq ?_
 refine c_seq ?_
 refine c_reg ?_
 refine l_q (by decide) (p_move rfl).q ?_
 refine l_q (by decide) (p_len_sl Tryd.underlying23 rfl).q ?_
 refine l_q (by decide) (p_move (v := .int .i64 ((0 : Nat) : Int)) rfl).q ?_
 refine l_nil ?_
 refine c_block ?_
 refine c_loop (S := Nat) (fun zs => zs ≤ y.length ∧ ∀ t, t ∈ y.take zs → 0 ≤ t ∧ t < X.ins.length) (fun zs => y.length - zs) (fun zs => [(2, .pointer (some ⟨b2, 0, none⟩)), (7, .slice C y.length e), (8, .int .i64 (y.length : Int)), (9, .int .i64 (zs : Int))]) (fun zs => [iCells b2 25 [.slice X.A X.xs.length X.c, .slice X.B X.ins.length X.d, .int .i64 X.sw]]) (fun zs => (Sl 1 intF C y :: [Rd X.xs, Sl 1 intF X.B X.ins, Sl 3 colF X.A X.xs])) (0) ?_ ?_ ?_ ?_ ?_
 · show (0) ≤ y.length ∧ ∀ t, t ∈ y.take (0) → 0 ≤ t ∧ t < X.ins.length
   exact ⟨Nat.zero_le _, fun t h => absurd h (by simp)⟩
 · exact ⟨rfl, rfl, rfl, rfl, trivial⟩
 · exact .refl _
 · simp
 rintro k hinv
 have hinv : k ≤ y.length ∧ ∀ t, t ∈ y.take k → 0 ≤ t ∧ t < X.ins.length := hinv
 obtain ⟨hk, he⟩ := hinv
 show Cont _ _ _ _ [(2, .pointer (some ⟨b2, 0, none⟩)), (7, .slice C y.length e), (8, .int .i64 (y.length : Int)), (9, .int .i64 (k : Int))] ([iCells b2 25 [.slice X.A X.xs.length X.c, .slice X.B X.ins.length X.d, .int .i64 X.sw]]) (Sl 1 intF C y :: [Rd X.xs, Sl 1 intF X.B X.ins, Sl 3 colF X.A X.xs])
 refine c_seq ?_
 refine c_reg ?_
 first | refine l_q (by decide) (p_lss rfl rfl rfl rfl).q ?_ | refine l_q (by decide) (p_lssi rfl rfl).q ?_
 refine l_nil ?_
 refine c_seq ?_
 first | refine c_dec rfl (fun h10 => ?_) (fun h10 => ?_) | refine c_cond rfl (fun h10 => ?_) (fun h10 => ?_)
 ·skip
  obtain ⟨u, hu⟩ := at_some (l := y) (n := k) (by omega)
  refine c_skip ?_
  refine c_seq ?_
  refine c_block ?_
  refine c_seq ?_
  refine c_reg ?_
  first | refine l_q (by decide) (r_index Tryd.underlying23 inf_3 rfl rfl rfl (by first | exact .fact (by repeat constructor) | exact .own (by repeat constructor) (by decide) (fun _ => rfl) | exact SlIn.reads (by repeat constructor) (by assumption)) rfl (by omega)).q ?_ | refine l_q (by decide) (r_index Tryd.underlying23 inf_3 rfl rfl rfl (by first | exact .fact (by repeat constructor) | exact .own (by repeat constructor) (by decide) (fun _ => rfl) | exact SlIn.reads (by repeat constructor) (by assumption)) rfl (by decide)).q ?_ | refine l_q (by decide) (p_indexo Tryd.underlying23 inf_3 rfl rfl rfl (by omega)).q ?_
  first | refine l_q (by decide) (r_loado Tryd.underlying3 rfl rfl (by repeat constructor) (by rfl)).q ?_ | refine l_q (by decide) (r_load1 Tryd.underlying3 rfl rfl (by first | exact .fact (by repeat constructor) | exact .own (by repeat constructor) (by decide) (fun _ => rfl) | exact SlIn.reads (by repeat constructor) (by assumption)) (by first | assumption | rfl) (by rfl)).q ?_ | refine l_q (by decide) (r_loadf Tryd.underlying3 rfl rfl (by first | exact .fact (by repeat constructor) | exact .own (by repeat constructor) (by decide) (fun _ => rfl) | exact SlIn.reads (by repeat constructor) (by assumption)) (by assumption) (by rfl)).q ?_
  refine l_q (by decide) (p_assign rfl).q ?_
  refine l_nil ?_
  refine c_seq ?_
  refine c_meetn (S := Unit) (fun zs => True) (fun zs => [(2, .pointer (some ⟨b2, 0, none⟩)), (7, .slice C y.length e), (8, .int .i64 (y.length : Int)), (9, .int .i64 (k : Int)), (21, .bool (decide (u < 0 ∨ u ≥ (X.ins.length : Int))))]) (fun zs => [iCells b2 25 [.slice X.A X.xs.length X.c, .slice X.B X.ins.length X.d, .int .i64 X.sw]]) (fun zs => (Sl 1 intF C y :: [Rd X.xs, Sl 1 intF X.B X.ins, Sl 3 colF X.A X.xs])) ?_ ?_
  ·skip
   refine c_reg ?_
   refine l_q (by decide) (p_move rfl).q ?_
   first | refine l_q (by decide) (p_lss (j := 0) rfl rfl rfl rfl).q ?_ | refine l_q (by decide) (p_lssi rfl rfl).q ?_
   refine l_q (by decide) (p_move rfl).q ?_
   first | refine l_splitd (t := 15) rfl (fun h15 => ?_) (fun h15 => ?_) | refine l_splitb (t := 15) rfl (fun h15 => ?_) (fun h15 => ?_)
   ·skip
    refine l_off (j := 2) rfl rfl (by first | (simp; done) | (simp [undef]; done)) (by decide) ?_
    refine l_off (j := 2) rfl rfl (by first | (simp; done) | (simp [undef]; done)) (by decide) ?_
    refine l_off (j := 2) rfl rfl (by first | (simp; done) | (simp [undef]; done)) (by decide) ?_
    refine l_off (j := 2) rfl rfl (by first | (simp; done) | (simp [undef]; done)) (by decide) ?_
    refine l_off (j := 2) rfl rfl (by first | (simp; done) | (simp [undef]; done)) (by decide) ?_
    refine l_q (by decide) (p_pick rfl rfl).q ?_
    refine l_nil ?_
    refine c_join (()) ?inv ?sub ?perm ?facts
    case sub => exact ⟨rfl, rfl, rfl, rfl, (by first | rfl | exact congrArg (fun b => some (Value.bool b)) (decide_eq_true (by omega)).symm | exact congrArg (fun b => some (Value.bool b)) (decide_eq_false (by omega)).symm | exact congrArg (fun b => some (Value.bool b)) (decide_eq_decide.2 (by omega))), trivial⟩
    case perm =>
     exact .refl _
    case facts => exact fun _ h => h
    case inv =>
     trivial
   ·skip
    refine l_g (j := 2) rfl rfl (by decide) (p_move rfl).q ?_
    first | refine l_g (j := 2) rfl rfl (by decide) (p_faddr (i := 1) 1 Tryd.underlying25 rfl inf_23 (by decide) rfl rfl).q ?_ | refine l_g (j := 2) rfl rfl (by decide) (p_faddro (i := 1) 1 Tryd.underlying25 rfl inf_23 (by decide) rfl rfl).q ?_
    first | refine l_g (j := 2) rfl rfl (by decide) (r_loado Tryd.underlying23 rfl rfl (by repeat constructor) (by rfl)).q ?_ | refine l_g (j := 2) rfl rfl (by decide) (r_load1 Tryd.underlying23 rfl rfl (by first | exact .fact (by repeat constructor) | exact .own (by repeat constructor) (by decide) (fun _ => rfl) | exact SlIn.reads (by repeat constructor) (by assumption)) (by first | assumption | rfl) (by rfl)).q ?_ | refine l_g (j := 2) rfl rfl (by decide) (r_loadf Tryd.underlying23 rfl rfl (by first | exact .fact (by repeat constructor) | exact .own (by repeat constructor) (by decide) (fun _ => rfl) | exact SlIn.reads (by repeat constructor) (by assumption)) (by assumption) (by rfl)).q ?_
    refine l_g (j := 2) rfl rfl (by decide) (p_len_sl Tryd.underlying23 rfl).q ?_
    first | refine l_g (j := 2) rfl rfl (by decide) (p_geq rfl rfl rfl rfl).q ?_ | refine l_g (j := 2) rfl rfl (by decide) (p_geqi rfl rfl).q ?_
    refine l_q (by decide) (p_pick rfl rfl).q ?_
    refine l_nil ?_
    refine c_join (()) ?inv ?sub ?perm ?facts
    case sub => exact ⟨rfl, rfl, rfl, rfl, (by first | rfl | exact congrArg (fun b => some (Value.bool b)) (decide_eq_true (by omega)).symm | exact congrArg (fun b => some (Value.bool b)) (decide_eq_false (by omega)).symm | exact congrArg (fun b => some (Value.bool b)) (decide_eq_decide.2 (by omega))), trivial⟩
    case perm =>
     exact .refl _
    case facts => exact fun _ h => h
    case inv =>
     trivial
  rintro uu hmeet
  show Cont _ _ _ _ [(2, .pointer (some ⟨b2, 0, none⟩)), (7, .slice C y.length e), (8, .int .i64 (y.length : Int)), (9, .int .i64 (k : Int)), (21, .bool (decide (u < 0 ∨ u ≥ (X.ins.length : Int))))] ([iCells b2 25 [.slice X.A X.xs.length X.c, .slice X.B X.ins.length X.d, .int .i64 X.sw]]) (Sl 1 intF C y :: [Rd X.xs, Sl 1 intF X.B X.ins, Sl 3 colF X.A X.xs])
  first | refine c_dec rfl (fun h21 => ?_) (fun h21 => ?_) | refine c_cond rfl (fun h21 => ?_) (fun h21 => ?_)
  ·skip
   refine c_seq ?_
   refine c_reg ?_
   refine l_q (by decide) (p_assign rfl).q ?_
   refine l_nil ?_
   refine c_ret ?_
   refine c_ret1 rfl rfl (fun w hs => ?_)
   exact ⟨by rw [dec_false (fun h => by have := h u (List.mem_of_getElem? hu); omega)], hs.ext⟩
  ·skip
   refine c_skip ?_
   refine c_reg ?_
   first | refine l_q (by decide) (p_add (j := 1) rfl rfl rfl rfl (by show _ ≤ (9223372036854775807 : Nat); omega)).q ?_ | refine l_q (by decide) (p_addi rfl rfl (by show (-9223372036854775808 : Int) ≤ _; omega) (by show _ ≤ ((9223372036854775807 : Nat) : Int); omega)).q ?_
   refine l_q (by decide) (p_move rfl).q ?_
   refine l_nil ?_
   refine c_join ((k + 1)) ?_ ?_ ?_ ?_
   ·show ((k + 1) ≤ y.length ∧ ∀ t, t ∈ y.take (k + 1) → 0 ≤ t ∧ t < X.ins.length) ∧ y.length - (k + 1) < y.length - k
    refine ⟨⟨by omega, fun t ht => ?_⟩, by omega⟩
    rw [take_at hu] at ht
    rcases List.mem_append.1 ht with h | h
    · exact he t h
    · rw [List.mem_singleton.1 h]; omega
   · exact ⟨rfl, rfl, rfl, rfl, trivial⟩
   ·show List.Perm _ ([iCells b2 25 [.slice X.A X.xs.length X.c, .slice X.B X.ins.length X.d, .int .i64 X.sw]])
    exact .refl _
   · exact fun _ h => h
 ·skip
  refine c_exit ?_
  refine c_here ?_
  refine c_seq ?_
  refine c_reg ?_
  refine l_q (by decide) (p_assign rfl).q ?_
  refine l_nil ?_
  refine c_ret ?_
  refine c_ret1 rfl rfl (fun w hs => ?_)
  rw [List.take_of_length_le (by omega)] at he
  exact ⟨by rw [dec_true he], hs.ext⟩

theorem terminals_ok (X : Inp) (hX : X.small) (w : World) (hM : X.mem w) (C : Option Addr) (e : Nat) (y : List Int) (hy : y.length ≤ 140737488355328) (hY : Sl 1 intF C y w) :
   Calls Tryd.prog 22 #[.agg #[.slice X.A X.xs.length X.c, .slice X.B X.ins.length X.d, .int .i64 X.sw], .slice C y.length e] w (Ret fun v w' => v = .bool (dec (∀ t, t ∈ y → 0 ≤ t ∧ t < X.ins.length)) ∧ Ext [] w w') := by
 have _ := hX
 refine calls_fx (l := [.agg #[.slice X.A X.xs.length X.c, .slice X.B X.ins.length X.d, .int .i64 X.sw], .slice C y.length e]) Tryd.func22 rfl Tryd.ntmps22 (Nat.le_of_ble_eq_true rfl) ((X.start hM).old hY (dep_sl (by decide) hY)) ?_
 refine c_seq ?_
 refine c_reg ?_
 refine l_box (by decide) rfl _ rfl (fun b2 => ?_)
 refine l_q (by decide) (p_assign rfl).q ?_
 refine l_nil ?_
 refine c_seq ?_
 refine c_seq ?_
 refine c_reg ?_
 refine l_q (by decide) (p_assign (v := .int .i64 ((0 : Nat) : Int)) rfl).q ?_
 refine l_nil ?_
 refine c_block ?_
 refine c_loop (S := Nat) (fun zs => zs ≤ y.length ∧ ∀ t, t ∈ y.take zs → 0 ≤ t ∧ t < X.ins.length) (fun zs => y.length - zs) (fun zs => [(1, .slice C y.length e), (2, .pointer (some ⟨b2, 0, none⟩)), (5, .int .i64 (zs : Int))]) (fun zs => [iCells b2 25 [.slice X.A X.xs.length X.c, .slice X.B X.ins.length X.d, .int .i64 X.sw]]) (fun zs => (Sl 1 intF C y :: [Rd X.xs, Sl 1 intF X.B X.ins, Sl 3 colF X.A X.xs])) (0) ?_ ?_ ?_ ?_ ?_
 · show (0) ≤ y.length ∧ ∀ t, t ∈ y.take (0) → 0 ≤ t ∧ t < X.ins.length
   exact ⟨Nat.zero_le _, fun t h => absurd h (by simp)⟩
 · exact ⟨rfl, rfl, rfl, trivial⟩
 · exact .refl _
 · simp
 rintro k hinv
 have hinv : k ≤ y.length ∧ ∀ t, t ∈ y.take k → 0 ≤ t ∧ t < X.ins.length := hinv
 obtain ⟨hk, he⟩ := hinv
 show Cont _ _ _ _ [(1, .slice C y.length e), (2, .pointer (some ⟨b2, 0, none⟩)), (5, .int .i64 (k : Int))] ([iCells b2 25 [.slice X.A X.xs.length X.c, .slice X.B X.ins.length X.d, .int .i64 X.sw]]) (Sl 1 intF C y :: [Rd X.xs, Sl 1 intF X.B X.ins, Sl 3 colF X.A X.xs])
 refine c_seq ?_
 refine c_seq ?_
 refine c_reg ?_
 refine l_q (by decide) (p_move rfl).q ?_
 refine l_q (by decide) (p_move rfl).q ?_
 refine l_q (by decide) (p_len_sl Tryd.underlying23 rfl).q ?_
 first | refine l_q (by decide) (p_lss rfl rfl rfl rfl).q ?_ | refine l_q (by decide) (p_lssi rfl rfl).q ?_
 refine l_nil ?_
 first | refine c_dec rfl (fun h9 => ?_) (fun h9 => ?_) | refine c_cond rfl (fun h9 => ?_) (fun h9 => ?_)
 ·skip
  obtain ⟨u, hu⟩ := at_some (l := y) (n := k) (by omega)
  refine c_skip ?_
  refine c_seq ?_
  refine c_block ?_
  refine c_seq ?_
  refine c_meetn (S := Unit) (fun zs => True) (fun zs => [(1, .slice C y.length e), (2, .pointer (some ⟨b2, 0, none⟩)), (5, .int .i64 (k : Int)), (26, .bool (decide (u < 0 ∨ u ≥ (X.ins.length : Int))))]) (fun zs => [iCells b2 25 [.slice X.A X.xs.length X.c, .slice X.B X.ins.length X.d, .int .i64 X.sw]]) (fun zs => (Sl 1 intF C y :: [Rd X.xs, Sl 1 intF X.B X.ins, Sl 3 colF X.A X.xs])) ?_ ?_
  ·skip
   refine c_draw mixed (by decide +kernel) ?_
   refine q_q (by decide) (p_move rfl).q ?_
   refine q_q (by decide) (p_move rfl).q ?_
   first | refine q_q (by decide) (r_index Tryd.underlying23 inf_3 rfl rfl rfl (by first | exact .fact (by repeat constructor) | exact .own (by repeat constructor) (by decide) (fun _ => rfl) | exact SlIn.reads (by repeat constructor) (by assumption)) rfl (by omega)).q ?_ | refine q_q (by decide) (r_index Tryd.underlying23 inf_3 rfl rfl rfl (by first | exact .fact (by repeat constructor) | exact .own (by repeat constructor) (by decide) (fun _ => rfl) | exact SlIn.reads (by repeat constructor) (by assumption)) rfl (by decide)).q ?_ | refine q_q (by decide) (p_indexo Tryd.underlying23 inf_3 rfl rfl rfl (by omega)).q ?_
   first | refine q_q (by decide) (r_loado Tryd.underlying3 rfl rfl (by repeat constructor) (by rfl)).q ?_ | refine q_q (by decide) (r_load1 Tryd.underlying3 rfl rfl (by first | exact .fact (by repeat constructor) | exact .own (by repeat constructor) (by decide) (fun _ => rfl) | exact SlIn.reads (by repeat constructor) (by assumption)) (by first | assumption | rfl) (by rfl)).q ?_ | refine q_q (by decide) (r_loadf Tryd.underlying3 rfl rfl (by first | exact .fact (by repeat constructor) | exact .own (by repeat constructor) (by decide) (fun _ => rfl) | exact SlIn.reads (by repeat constructor) (by assumption)) (by assumption) (by rfl)).q ?_
   first | refine q_q (by decide) (p_lss (j := 0) rfl rfl rfl rfl).q ?_ | refine q_q (by decide) (p_lssi rfl rfl).q ?_
   refine q_q (by decide) (p_move rfl).q ?_
   first | refine q_splitd (t := 17) rfl (fun h17 => ?_) (fun h17 => ?_) | refine q_splitb (t := 17) rfl (fun h17 => ?_) (fun h17 => ?_)
   ·skip
    refine q_off (j := 5) rfl rfl (by first | (simp; done) | (simp [undef]; done)) (by decide) ?_
    refine q_off (j := 5) rfl rfl (by first | (simp; done) | (simp [undef]; done)) (by decide) ?_
    refine q_off (j := 5) rfl rfl (by first | (simp; done) | (simp [undef]; done)) (by decide) ?_
    refine q_off (j := 5) rfl rfl (by first | (simp; done) | (simp [undef]; done)) (by decide) ?_
    refine q_off (j := 5) rfl rfl (by first | (simp; done) | (simp [undef]; done)) (by decide) ?_
    refine q_off (j := 5) rfl rfl (by first | (simp; done) | (simp [undef]; done)) (by decide) ?_
    refine q_off (j := 5) rfl rfl (by first | (simp; done) | (simp [undef]; done)) (by decide) ?_
    refine q_off (j := 5) rfl rfl (by first | (simp; done) | (simp [undef]; done)) (by decide) ?_
    refine q_q (by decide) (p_pick rfl rfl).q ?_
    refine q_nil ?_
    refine c_join (()) ?inv ?sub ?perm ?facts
    case sub => exact ⟨rfl, rfl, rfl, (by first | rfl | exact congrArg (fun b => some (Value.bool b)) (decide_eq_true (by omega)).symm | exact congrArg (fun b => some (Value.bool b)) (decide_eq_false (by omega)).symm | exact congrArg (fun b => some (Value.bool b)) (decide_eq_decide.2 (by omega))), trivial⟩
    case perm =>
     exact .refl _
    case facts => exact fun _ h => h
    case inv =>
     trivial
   ·skip
    refine q_g (j := 5) rfl rfl (by decide) (p_move rfl).q ?_
    refine q_g (j := 5) rfl rfl (by decide) (p_move rfl).q ?_
    first | refine q_g (j := 5) rfl rfl (by decide) (r_index Tryd.underlying23 inf_3 rfl rfl rfl (by first | exact .fact (by repeat constructor) | exact .own (by repeat constructor) (by decide) (fun _ => rfl) | exact SlIn.reads (by repeat constructor) (by assumption)) rfl (by omega)).q ?_ | refine q_g (j := 5) rfl rfl (by decide) (r_index Tryd.underlying23 inf_3 rfl rfl rfl (by first | exact .fact (by repeat constructor) | exact .own (by repeat constructor) (by decide) (fun _ => rfl) | exact SlIn.reads (by repeat constructor) (by assumption)) rfl (by decide)).q ?_ | refine q_g (j := 5) rfl rfl (by decide) (p_indexo Tryd.underlying23 inf_3 rfl rfl rfl (by omega)).q ?_
    first | refine q_g (j := 5) rfl rfl (by decide) (r_loado Tryd.underlying3 rfl rfl (by repeat constructor) (by rfl)).q ?_ | refine q_g (j := 5) rfl rfl (by decide) (r_load1 Tryd.underlying3 rfl rfl (by first | exact .fact (by repeat constructor) | exact .own (by repeat constructor) (by decide) (fun _ => rfl) | exact SlIn.reads (by repeat constructor) (by assumption)) (by first | assumption | rfl) (by rfl)).q ?_ | refine q_g (j := 5) rfl rfl (by decide) (r_loadf Tryd.underlying3 rfl rfl (by first | exact .fact (by repeat constructor) | exact .own (by repeat constructor) (by decide) (fun _ => rfl) | exact SlIn.reads (by repeat constructor) (by assumption)) (by assumption) (by rfl)).q ?_
    first | refine q_g (j := 5) rfl rfl (by decide) (p_faddr (i := 1) 1 Tryd.underlying25 rfl inf_23 (by decide) rfl rfl).q ?_ | refine q_g (j := 5) rfl rfl (by decide) (p_faddro (i := 1) 1 Tryd.underlying25 rfl inf_23 (by decide) rfl rfl).q ?_
    first | refine q_g (j := 5) rfl rfl (by decide) (r_loado Tryd.underlying23 rfl rfl (by repeat constructor) (by rfl)).q ?_ | refine q_g (j := 5) rfl rfl (by decide) (r_load1 Tryd.underlying23 rfl rfl (by first | exact .fact (by repeat constructor) | exact .own (by repeat constructor) (by decide) (fun _ => rfl) | exact SlIn.reads (by repeat constructor) (by assumption)) (by first | assumption | rfl) (by rfl)).q ?_ | refine q_g (j := 5) rfl rfl (by decide) (r_loadf Tryd.underlying23 rfl rfl (by first | exact .fact (by repeat constructor) | exact .own (by repeat constructor) (by decide) (fun _ => rfl) | exact SlIn.reads (by repeat constructor) (by assumption)) (by assumption) (by rfl)).q ?_
    refine q_g (j := 5) rfl rfl (by decide) (p_len_sl Tryd.underlying23 rfl).q ?_
    first | refine q_g (j := 5) rfl rfl (by decide) (p_geq rfl rfl rfl rfl).q ?_ | refine q_g (j := 5) rfl rfl (by decide) (p_geqi rfl rfl).q ?_
    refine q_q (by decide) (p_pick rfl rfl).q ?_
    refine q_nil ?_
    refine c_join (()) ?inv ?sub ?perm ?facts
    case sub => exact ⟨rfl, rfl, rfl, (by first | rfl | exact congrArg (fun b => some (Value.bool b)) (decide_eq_true (by omega)).symm | exact congrArg (fun b => some (Value.bool b)) (decide_eq_false (by omega)).symm | exact congrArg (fun b => some (Value.bool b)) (decide_eq_decide.2 (by omega))), trivial⟩
    case perm =>
     exact .refl _
    case facts => exact fun _ h => h
    case inv =>
     trivial
  rintro uu hmeet
  show Cont _ _ _ _ [(1, .slice C y.length e), (2, .pointer (some ⟨b2, 0, none⟩)), (5, .int .i64 (k : Int)), (26, .bool (decide (u < 0 ∨ u ≥ (X.ins.length : Int))))] ([iCells b2 25 [.slice X.A X.xs.length X.c, .slice X.B X.ins.length X.d, .int .i64 X.sw]]) (Sl 1 intF C y :: [Rd X.xs, Sl 1 intF X.B X.ins, Sl 3 colF X.A X.xs])
  first | refine c_dec rfl (fun h26 => ?_) (fun h26 => ?_) | refine c_cond rfl (fun h26 => ?_) (fun h26 => ?_)
  ·skip
   refine c_seq ?_
   refine c_reg ?_
   refine l_q (by decide) (p_assign rfl).q ?_
   refine l_nil ?_
   refine c_ret ?_
   refine c_ret1 rfl rfl (fun w hs => ?_)
   exact ⟨by rw [dec_false (fun h => by have := h u (List.mem_of_getElem? hu); omega)], hs.ext⟩
  ·skip
   refine c_skip ?_
   refine c_reg ?_
   refine l_q (by decide) (p_move rfl).q ?_
   first | refine l_q (by decide) (p_add (j := 1) rfl rfl rfl rfl (by show _ ≤ (9223372036854775807 : Nat); omega)).q ?_ | refine l_q (by decide) (p_addi rfl rfl (by show (-9223372036854775808 : Int) ≤ _; omega) (by show _ ≤ ((9223372036854775807 : Nat) : Int); omega)).q ?_
   refine l_q (by decide) (p_assign rfl).q ?_
   refine l_nil ?_
   refine c_join ((k + 1)) ?_ ?_ ?_ ?_
   ·show ((k + 1) ≤ y.length ∧ ∀ t, t ∈ y.take (k + 1) → 0 ≤ t ∧ t < X.ins.length) ∧ y.length - (k + 1) < y.length - k
    refine ⟨⟨by omega, fun t ht => ?_⟩, by omega⟩
    rw [take_at hu] at ht
    rcases List.mem_append.1 ht with h | h
    · exact he t h
    · rw [List.mem_singleton.1 h]; omega
   · exact ⟨rfl, rfl, rfl, trivial⟩
   ·show List.Perm _ ([iCells b2 25 [.slice X.A X.xs.length X.c, .slice X.B X.ins.length X.d, .int .i64 X.sw]])
    exact .refl _
   · exact fun _ h => h
 ·skip
  refine c_exit ?_
  refine c_here ?_
  refine c_seq ?_
  refine c_reg ?_
  refine l_q (by decide) (p_assign rfl).q ?_
  refine l_nil ?_
  refine c_ret ?_
  refine c_ret1 rfl rfl (fun w hs => ?_)
  rw [List.take_of_length_le (by omega)] at he
  exact ⟨by rw [dec_true he], hs.ext⟩

theorem same_ok (A B : Option Addr) (c d : Nat) (l m : List Int) (hl : l.length ≤ 140737488355328) (w : World) (hq : Sl 1 intF A l w) (hp : Sl 1 intF B m w) :
   Calls Tryd.prog 17 #[.slice A l.length c, .slice B m.length d] w (Ret fun v w' => v = .bool (decide (l = m)) ∧ Ext [] w w') := by
 refine calls_fx (l := [.slice A l.length c, .slice B m.length d]) Tryd.func17 rfl Tryd.ntmps17 (Nat.le_of_ble_eq_true rfl) (Holds.two hq (dep_sl (by decide) hq) hp (dep_sl (by decide) hp)) ?_
 refine c_seq ?_
 refine c_reg ?_
 refine l_q (by decide) (p_assign rfl).q ?_
 refine l_nil ?_
 refine c_seq ?_
 refine c_seq ?_
 refine c_reg ?_
 refine l_q (by decide) (p_move rfl).q ?_
 refine l_q (by decide) (p_len_sl Tryd.underlying23 rfl).q ?_
 refine l_q (by decide) (p_move rfl).q ?_
 refine l_q (by decide) (p_len_sl Tryd.underlying23 rfl).q ?_
 first | refine l_q (by decide) (p_neq rfl rfl rfl rfl).q ?_ | refine l_q (by decide) (p_neqi rfl rfl).q ?_
 refine l_nil ?_
 first | refine c_dec rfl (fun h10 => ?_) (fun h10 => ?_) | refine c_cond rfl (fun h10 => ?_) (fun h10 => ?_)
 ·skip
  refine c_seq ?_
  refine c_reg ?_
  refine l_q (by decide) (p_assign rfl).q ?_
  refine l_nil ?_
  refine c_ret ?_
  refine c_ret1 rfl rfl (fun w hs => ?_)
  exact ⟨by rw [decide_eq_false (fun h => h10 (by rw [h]))], hs.ext⟩
 ·skip
  refine c_skip ?_
  refine c_seq ?_
  refine c_seq ?_
  refine c_reg ?_
  refine l_q (by decide) (p_assign (v := .int .i64 ((0 : Nat) : Int)) rfl).q ?_
  refine l_nil ?_
  refine c_block ?_
  refine c_loop (S := Nat) (fun zs => zs ≤ l.length ∧ l.take zs = m.take zs) (fun zs => l.length - zs) (fun zs => [(0, .slice A l.length c), (1, .slice B m.length d), (5, .int .i64 (zs : Int))]) (fun zs => []) (fun zs => [Sl 1 intF A l, Sl 1 intF B m]) (0) ?_ ?_ ?_ ?_ ?_
  · show (0) ≤ l.length ∧ l.take (0) = m.take (0)
    exact ⟨Nat.zero_le _, rfl⟩
  · exact ⟨rfl, rfl, rfl, trivial⟩
  · exact .refl _
  · simp
  rintro k hinv
  have hinv : k ≤ l.length ∧ l.take k = m.take k := hinv
  obtain ⟨hk, he⟩ := hinv
  show Cont _ _ _ _ [(0, .slice A l.length c), (1, .slice B m.length d), (5, .int .i64 (k : Int))] ([]) [Sl 1 intF A l, Sl 1 intF B m]
  refine c_seq ?_
  refine c_seq ?_
  refine c_reg ?_
  refine l_q (by decide) (p_move rfl).q ?_
  refine l_q (by decide) (p_move rfl).q ?_
  refine l_q (by decide) (p_len_sl Tryd.underlying23 rfl).q ?_
  first | refine l_q (by decide) (p_lss rfl rfl rfl rfl).q ?_ | refine l_q (by decide) (p_lssi rfl rfl).q ?_
  refine l_nil ?_
  first | refine c_dec rfl (fun h14 => ?_) (fun h14 => ?_) | refine c_cond rfl (fun h14 => ?_) (fun h14 => ?_)
  ·skip
   have h10 := Classical.not_not.1 h10
   obtain ⟨u, hu⟩ := at_some (l := l) (n := k) (by omega)
   obtain ⟨u2, hu2⟩ := at_some (l := m) (n := k) (by omega)
   refine c_skip ?_
   refine c_seq ?_
   refine c_block ?_
   refine c_seq ?_
   refine c_draw mixed (by decide +kernel) ?_
   refine q_q (by decide) (p_move rfl).q ?_
   refine q_q (by decide) (p_move rfl).q ?_
   first | refine q_q (by decide) (r_index Tryd.underlying23 inf_3 rfl rfl rfl (by first | exact .fact (by repeat constructor) | exact .own (by repeat constructor) (by decide) (fun _ => rfl) | exact SlIn.reads (by repeat constructor) (by assumption)) rfl (by omega)).q ?_ | refine q_q (by decide) (r_index Tryd.underlying23 inf_3 rfl rfl rfl (by first | exact .fact (by repeat constructor) | exact .own (by repeat constructor) (by decide) (fun _ => rfl) | exact SlIn.reads (by repeat constructor) (by assumption)) rfl (by decide)).q ?_ | refine q_q (by decide) (p_indexo Tryd.underlying23 inf_3 rfl rfl rfl (by omega)).q ?_
   first | refine q_q (by decide) (r_loado Tryd.underlying3 rfl rfl (by repeat constructor) (by rfl)).q ?_ | refine q_q (by decide) (r_load1 Tryd.underlying3 rfl rfl (by first | exact .fact (by repeat constructor) | exact .own (by repeat constructor) (by decide) (fun _ => rfl) | exact SlIn.reads (by repeat constructor) (by assumption)) (by first | assumption | rfl) (by rfl)).q ?_ | refine q_q (by decide) (r_loadf Tryd.underlying3 rfl rfl (by first | exact .fact (by repeat constructor) | exact .own (by repeat constructor) (by decide) (fun _ => rfl) | exact SlIn.reads (by repeat constructor) (by assumption)) (by assumption) (by rfl)).q ?_
   refine q_q (by decide) (p_move rfl).q ?_
   refine q_q (by decide) (p_move rfl).q ?_
   first | refine q_q (by decide) (r_index Tryd.underlying23 inf_3 rfl rfl rfl (by first | exact .fact (by repeat constructor) | exact .own (by repeat constructor) (by decide) (fun _ => rfl) | exact SlIn.reads (by repeat constructor) (by assumption)) rfl (by omega)).q ?_ | refine q_q (by decide) (r_index Tryd.underlying23 inf_3 rfl rfl rfl (by first | exact .fact (by repeat constructor) | exact .own (by repeat constructor) (by decide) (fun _ => rfl) | exact SlIn.reads (by repeat constructor) (by assumption)) rfl (by decide)).q ?_ | refine q_q (by decide) (p_indexo Tryd.underlying23 inf_3 rfl rfl rfl (by omega)).q ?_
   first | refine q_q (by decide) (r_loado Tryd.underlying3 rfl rfl (by repeat constructor) (by rfl)).q ?_ | refine q_q (by decide) (r_load1 Tryd.underlying3 rfl rfl (by first | exact .fact (by repeat constructor) | exact .own (by repeat constructor) (by decide) (fun _ => rfl) | exact SlIn.reads (by repeat constructor) (by assumption)) (by first | assumption | rfl) (by rfl)).q ?_ | refine q_q (by decide) (r_loadf Tryd.underlying3 rfl rfl (by first | exact .fact (by repeat constructor) | exact .own (by repeat constructor) (by decide) (fun _ => rfl) | exact SlIn.reads (by repeat constructor) (by assumption)) (by assumption) (by rfl)).q ?_
   first | refine q_q (by decide) (p_neq rfl rfl rfl rfl).q ?_ | refine q_q (by decide) (p_neqi rfl rfl).q ?_
   refine q_nil ?_
   first | refine c_dec rfl (fun h25 => ?_) (fun h25 => ?_) | refine c_cond rfl (fun h25 => ?_) (fun h25 => ?_)
   ·skip
    refine c_seq ?_
    refine c_reg ?_
    refine l_q (by decide) (p_assign rfl).q ?_
    refine l_nil ?_
    refine c_ret ?_
    refine c_ret1 rfl rfl (fun w hs => ?_)
    exact ⟨by rw [decide_eq_false (fun h => h25 (by subst h; rw [hu] at hu2; injection hu2))], hs.ext⟩
   ·skip
    refine c_skip ?_
    refine c_reg ?_
    refine l_q (by decide) (p_move rfl).q ?_
    first | refine l_q (by decide) (p_add (j := 1) rfl rfl rfl rfl (by show _ ≤ (9223372036854775807 : Nat); omega)).q ?_ | refine l_q (by decide) (p_addi rfl rfl (by show (-9223372036854775808 : Int) ≤ _; omega) (by show _ ≤ ((9223372036854775807 : Nat) : Int); omega)).q ?_
    refine l_q (by decide) (p_assign rfl).q ?_
    refine l_nil ?_
    refine c_join ((k + 1)) ?_ ?_ ?_ ?_
    ·show ((k + 1) ≤ l.length ∧ l.take (k + 1) = m.take (k + 1)) ∧ l.length - (k + 1) < l.length - k
     exact ⟨⟨by omega, by rw [take_at hu, take_at hu2, he, Classical.not_not.1 h25]⟩, by omega⟩
    · exact ⟨rfl, rfl, rfl, trivial⟩
    ·show List.Perm _ ([])
     exact .refl _
    · exact fun _ h => h
  ·skip
   refine c_exit ?_
   refine c_here ?_
   refine c_seq ?_
   refine c_reg ?_
   refine l_q (by decide) (p_assign rfl).q ?_
   refine l_nil ?_
   refine c_ret ?_
   refine c_ret1 rfl rfl (fun w hs => ?_)
   have h10 := Classical.not_not.1 h10
   exact ⟨by rw [List.take_of_length_le (by omega), List.take_of_length_le (by omega)] at he; rw [decide_eq_true he], hs.ext⟩

theorem sameops_ok (A B : Option Addr) (c d : Nat) (l m : List Ed.Op) (hl : l.length ≤ 140737488355328) (w : World) (hq : Sl 2 opF A l w) (hp : Sl 2 opF B m w) :
   Calls Tryd.prog 24 #[.slice A l.length c, .slice B m.length d] w (Ret fun v w' => v = .bool (decide (l = m)) ∧ Ext [] w w') := by
 refine calls_fx (l := [.slice A l.length c, .slice B m.length d]) Tryd.func24 rfl Tryd.ntmps24 (Nat.le_of_ble_eq_true rfl) (Holds.two hq (dep_sl (by decide) hq) hp (dep_sl (by decide) hp)) ?_
 refine c_seq ?_
 refine c_reg ?_
 refine l_q (by decide) (p_assign rfl).q ?_
 refine l_nil ?_
 refine c_seq ?_
 refine c_seq ?_
 refine c_reg ?_
 refine l_q (by decide) (p_move rfl).q ?_
 refine l_q (by decide) (p_len_sl Tryd.underlying26 rfl).q ?_
 refine l_q (by decide) (p_move rfl).q ?_
 refine l_q (by decide) (p_len_sl Tryd.underlying26 rfl).q ?_
 first | refine l_q (by decide) (p_neq rfl rfl rfl rfl).q ?_ | refine l_q (by decide) (p_neqi rfl rfl).q ?_
 refine l_nil ?_
 first | refine c_dec rfl (fun h10 => ?_) (fun h10 => ?_) | refine c_cond rfl (fun h10 => ?_) (fun h10 => ?_)
 ·skip
  refine c_seq ?_
  refine c_reg ?_
  refine l_q (by decide) (p_assign rfl).q ?_
  refine l_nil ?_
  refine c_ret ?_
  refine c_ret1 rfl rfl (fun w hs => ?_)
  exact ⟨by rw [decide_eq_false (fun h => h10 (by rw [h]))], hs.ext⟩
 ·skip
  refine c_skip ?_
  refine c_seq ?_
  refine c_seq ?_
  refine c_reg ?_
  refine l_q (by decide) (p_assign (v := .int .i64 ((0 : Nat) : Int)) rfl).q ?_
  refine l_nil ?_
  refine c_block ?_
  refine c_loop (S := Nat) (fun zs => zs ≤ l.length ∧ l.take zs = m.take zs) (fun zs => l.length - zs) (fun zs => [(0, .slice A l.length c), (1, .slice B m.length d), (5, .int .i64 (zs : Int))]) (fun zs => []) (fun zs => [Sl 2 opF A l, Sl 2 opF B m]) (0) ?_ ?_ ?_ ?_ ?_
  · show (0) ≤ l.length ∧ l.take (0) = m.take (0)
    exact ⟨Nat.zero_le _, rfl⟩
  · exact ⟨rfl, rfl, rfl, trivial⟩
  · exact .refl _
  · simp
  rintro k hinv
  have hinv : k ≤ l.length ∧ l.take k = m.take k := hinv
  obtain ⟨hk, he⟩ := hinv
  show Cont _ _ _ _ [(0, .slice A l.length c), (1, .slice B m.length d), (5, .int .i64 (k : Int))] ([]) [Sl 2 opF A l, Sl 2 opF B m]
  refine c_seq ?_
  refine c_seq ?_
  refine c_reg ?_
  refine l_q (by decide) (p_move rfl).q ?_
  refine l_q (by decide) (p_move rfl).q ?_
  refine l_q (by decide) (p_len_sl Tryd.underlying26 rfl).q ?_
  first | refine l_q (by decide) (p_lss rfl rfl rfl rfl).q ?_ | refine l_q (by decide) (p_lssi rfl rfl).q ?_
  refine l_nil ?_
  first | refine c_dec rfl (fun h14 => ?_) (fun h14 => ?_) | refine c_cond rfl (fun h14 => ?_) (fun h14 => ?_)
  ·skip
   have h10 := Classical.not_not.1 h10
   obtain ⟨u, hu⟩ := at_some (l := l) (n := k) (by omega)
   obtain ⟨u2, hu2⟩ := at_some (l := m) (n := k) (by omega)
   refine c_skip ?_
   refine c_seq ?_
   refine c_block ?_
   refine c_seq ?_
   refine c_draw mixed (by decide +kernel) ?_
   refine q_q (by decide) (p_move rfl).q ?_
   refine q_q (by decide) (p_move rfl).q ?_
   first | refine q_q (by decide) (r_index Tryd.underlying26 inf_46 rfl rfl rfl (by first | exact .fact (by repeat constructor) | exact .own (by repeat constructor) (by decide) (fun _ => rfl) | exact SlIn.reads (by repeat constructor) (by assumption)) rfl (by omega)).q ?_ | refine q_q (by decide) (r_index Tryd.underlying26 inf_46 rfl rfl rfl (by first | exact .fact (by repeat constructor) | exact .own (by repeat constructor) (by decide) (fun _ => rfl) | exact SlIn.reads (by repeat constructor) (by assumption)) rfl (by decide)).q ?_ | refine q_q (by decide) (p_indexo Tryd.underlying26 inf_46 rfl rfl rfl (by omega)).q ?_
   first | refine q_q (by decide) (r_loada Tryd.underlying46 rfl inf_46 rfl (by first | exact .fact (by repeat constructor) | exact .own (by repeat constructor) (by decide) (fun _ => rfl) | exact SlIn.reads (by repeat constructor) (by assumption)) (by assumption)).q ?_ | refine q_q (by decide) (r_loadow Tryd.underlying46 rfl inf_46 rfl (by repeat constructor) (by rfl)).q ?_ | refine q_q (by decide) (r_loadoa Tryd.underlying46 rfl inf_46 rfl (by repeat constructor) (by rfl) (fun j u h => h)).q ?_
   refine q_q (by decide) (p_move rfl).q ?_
   refine q_q (by decide) (p_move rfl).q ?_
   first | refine q_q (by decide) (r_index Tryd.underlying26 inf_46 rfl rfl rfl (by first | exact .fact (by repeat constructor) | exact .own (by repeat constructor) (by decide) (fun _ => rfl) | exact SlIn.reads (by repeat constructor) (by assumption)) rfl (by omega)).q ?_ | refine q_q (by decide) (r_index Tryd.underlying26 inf_46 rfl rfl rfl (by first | exact .fact (by repeat constructor) | exact .own (by repeat constructor) (by decide) (fun _ => rfl) | exact SlIn.reads (by repeat constructor) (by assumption)) rfl (by decide)).q ?_ | refine q_q (by decide) (p_indexo Tryd.underlying26 inf_46 rfl rfl rfl (by omega)).q ?_
   first | refine q_q (by decide) (r_loada Tryd.underlying46 rfl inf_46 rfl (by first | exact .fact (by repeat constructor) | exact .own (by repeat constructor) (by decide) (fun _ => rfl) | exact SlIn.reads (by repeat constructor) (by assumption)) (by assumption)).q ?_ | refine q_q (by decide) (r_loadow Tryd.underlying46 rfl inf_46 rfl (by repeat constructor) (by rfl)).q ?_ | refine q_q (by decide) (r_loadoa Tryd.underlying46 rfl inf_46 rfl (by repeat constructor) (by rfl) (fun j u h => h)).q ?_
   refine q_q (by decide) (neq_op rfl rfl).q ?_
   refine q_nil ?_
   first | refine c_dec rfl (fun h25 => ?_) (fun h25 => ?_) | refine c_cond rfl (fun h25 => ?_) (fun h25 => ?_)
   ·skip
    refine c_seq ?_
    refine c_reg ?_
    refine l_q (by decide) (p_assign rfl).q ?_
    refine l_nil ?_
    refine c_ret ?_
    refine c_ret1 rfl rfl (fun w hs => ?_)
    exact ⟨by rw [decide_eq_false (fun h => h25 (by subst h; rw [hu] at hu2; injection hu2))], hs.ext⟩
   ·skip
    refine c_skip ?_
    refine c_reg ?_
    refine l_q (by decide) (p_move rfl).q ?_
    first | refine l_q (by decide) (p_add (j := 1) rfl rfl rfl rfl (by show _ ≤ (9223372036854775807 : Nat); omega)).q ?_ | refine l_q (by decide) (p_addi rfl rfl (by show (-9223372036854775808 : Int) ≤ _; omega) (by show _ ≤ ((9223372036854775807 : Nat) : Int); omega)).q ?_
    refine l_q (by decide) (p_assign rfl).q ?_
    refine l_nil ?_
    refine c_join ((k + 1)) ?_ ?_ ?_ ?_
    ·show ((k + 1) ≤ l.length ∧ l.take (k + 1) = m.take (k + 1)) ∧ l.length - (k + 1) < l.length - k
     exact ⟨⟨by omega, by rw [take_at hu, take_at hu2, he, Classical.not_not.1 h25]⟩, by omega⟩
    · exact ⟨rfl, rfl, rfl, trivial⟩
    ·show List.Perm _ ([])
     exact .refl _
    · exact fun _ h => h
  ·skip
   refine c_exit ?_
   refine c_here ?_
   refine c_seq ?_
   refine c_reg ?_
   refine l_q (by decide) (p_assign rfl).q ?_
   refine l_nil ?_
   refine c_ret ?_
   refine c_ret1 rfl rfl (fun w hs => ?_)
   have h10 := Classical.not_not.1 h10
   exact ⟨by rw [List.take_of_length_le (by omega), List.take_of_length_le (by omega)] at he; rw [decide_eq_true he], hs.ext⟩
end Go.Proofs.YtlefheiohblgdaaDoor
