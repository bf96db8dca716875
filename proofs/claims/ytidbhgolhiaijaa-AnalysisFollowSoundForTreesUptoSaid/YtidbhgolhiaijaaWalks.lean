/- The walks of analysis, first part; conditions: lengths. -/
import Derived.Test.YtidbhgolhiaijaaProg
import Derived.Test.YtidbhgolhiaijaaFxO
import Derived.Test.YtidbhgolhiaijaaFxM
import Derived.Test.YtidbhgolhiaijaaPlain
namespace Go.Proofs.Ytidbhgolhiaijaa
open Go Go.Fx Go.Proofs

theorem p_neg {P : Program} {L : Slots} {ty : TypeId} {x : Operand} {t : TypeId} {k : IntKind} {a : Int} (hx : ev L x = some (.int k a)) (h : bot k ≤ -a) (h' : -a ≤ top k) : Pure P (.unOp .neg t x) ty L (.int k (-a)) := fun e o w ho _ he => by
  simp [execOp, ho, he x _ hx, Op.unary, Op.intArith, wrap_in k _ h h']
theorem at_some {α : Type} {l : List α} {n : Nat} (h : n < l.length) : ∃ u, l[n]? = some u := ⟨_, List.getElem?_eq_getElem h⟩
theorem take_at {α : Type} {l : List α} {k : Nat} {x : α} (h : l[k]? = some x) : l.take (k + 1) = l.take k ++ [x] := by
  have hk := (List.getElem?_eq_some_iff.1 h).1
  rw [List.take_succ_eq_append_getElem hk, (List.getElem?_eq_some_iff.1 h).2]
abbrev BW (p : Prop) := { b : Bool // b = true → p }
/-- a rule with the place of its body -/
structure XR where
  r : Ana.Rl
  A : Option Addr
  c : Nat
def ruF (x : XR) : List Value := [.int .i64 x.r.head, .slice x.A x.r.body.length x.c, .int .i64 x.r.price]
def Bd (xs : List XR) : World → Prop := fun w => ∀ (k : Nat) (x : XR), xs[k]? = some x → Sl 1 intF x.A x.r.body w
theorem dep_bd {xs : List XR} {w : World} (h : Bd xs w) : Dep 0 w.heap.size (Bd xs) := fun w1 w2 hb hq k x hx => dep_sl (w := w) (by decide) (h k x hx) w1 w2 hb (hq k x hx)
theorem SlIn.body {w0 : World} {K : List Nat} {σ : Fx.Own} {ρ : Fx.Facts} {xs : List XR} {x : XR} {k : Nat} (h : Bd xs ∈ ρ) (hx : xs[k]? = some x) : SlIn w0 K σ ρ 1 intF x.A x.r.body := fun _ hs => (hs.facts _ h).1 k x hx
structure GI where
  At : Option Addr
  ct : Nat
  terms : List (List UInt8)
  An : Option Addr
  cn : Nat
  nts : List (List UInt8)
  start : Int
  Ar : Option Addr
  cr : Nat
  xs : List XR
def GI.g (X : GI) : Ana.Gr := ⟨X.terms.length, X.nts.length, X.start, X.xs.map (·.r)⟩
structure GI.small (X : GI) : Prop where
  t : X.terms.length ≤ 140737488355328
  n : X.nts.length ≤ 140737488355328
  x : X.xs.length ≤ 140737488355328
  b : ∀ x, x ∈ X.xs → x.r.body.length ≤ 140737488355328 ∧ x.r.body.length ≤ x.c
structure GI.mem (X : GI) (w : World) : Prop where
  t : Sl 1 strF X.At X.terms w
  n : Sl 1 strF X.An X.nts w
  x : Sl 3 ruF X.Ar X.xs w
  b : Bd X.xs w
theorem GI.begin (X : GI) {w : World} (h : X.mem w) : St w [] w [] [Bd X.xs, Sl 3 ruF X.Ar X.xs, Sl 1 strF X.An X.nts, Sl 1 strF X.At X.terms] := ((((St.start w).old h.t (dep_sl (by decide) h.t)).old h.n (dep_sl (by decide) h.n)).old h.x (dep_sl (by decide) h.x)).old h.b (dep_bd h.b)
theorem GI.of {X : GI} {w0 w : World} {K : List Nat} {σ : Fx.Own} {ρ : Fx.Facts} (hs : St w0 K w σ ρ) (h1 : Sl 1 strF X.At X.terms ∈ ρ) (h2 : Sl 1 strF X.An X.nts ∈ ρ) (h3 : Sl 3 ruF X.Ar X.xs ∈ ρ) (h4 : Bd X.xs ∈ ρ) : X.mem w := ⟨(hs.facts _ h1).1, (hs.facts _ h2).1, (hs.facts _ h3).1, (hs.facts _ h4).1⟩
theorem rule_mem {X : GI} {x : XR} {k : Nat} (h : X.xs[k]? = some x) : x.r ∈ X.g.rules := List.mem_map.2 ⟨x, List.mem_of_getElem? h, rfl⟩
/-- what Valid has looked at -/
structure OkV (g : Ana.Gr) : Prop where
  t : g.t ≤ 120
  n1 : 1 ≤ g.n
  n : g.n ≤ 120
  x : g.rules.length ≤ 120
  s0 : 0 ≤ g.start
  s1 : g.start < g.n
  r : ∀ r, r ∈ g.rules → (0 ≤ r.head ∧ r.head < g.n ∧ r.body.length ≤ 12) ∧ ∀ x, x ∈ r.body → x < g.t ∧ -(g.n : Int) ≤ x
def okR (g : Ana.Gr) (r : Ana.Rl) : Prop := (0 ≤ r.head ∧ r.head < g.n ∧ r.body.length ≤ 12) ∧ ∀ x, x ∈ r.body → x < g.t ∧ -(g.n : Int) ≤ x
theorem OkV.ok {g : Ana.Gr} (h : OkV g) (h1 : g.t ≤ 6) (h2 : g.n ≤ 8) (h3 : g.rules.length ≤ 16) : Ana.Ok g := ⟨h1, h.n1, h2, h3, h.s0, h.s1, fun r hr => (h.r r hr).1.1, fun r hr => (h.r r hr).1.2.1, fun r hr => (h.r r hr).1.2.2, fun r hr x hx => ((h.r r hr).2 x hx).2, fun r hr x hx => ((h.r r hr).2 x hx).1⟩
theorem mixed : Try.prog.follows .mixedOrders = true := by kernel_rfl
theorem inf_3 : InfoIs Try.prog 3 1 8 (.int .i64 0) := by unfold InfoIs; kernel_rfl
theorem inf_4 : InfoIs Try.prog 4 1 1 (.bool false) := by unfold InfoIs; kernel_rfl
theorem inf_9 : InfoIs Try.prog 9 1 16 (.string ⟨#[]⟩) := by unfold InfoIs; kernel_rfl
theorem inf_22 : InfoIs Try.prog 22 1 24 (.slice none 0 0) := by unfold InfoIs; kernel_rfl
theorem inf_23 : InfoIs Try.prog 23 1 24 (.slice none 0 0) := by unfold InfoIs; kernel_rfl
theorem inf_25 : InfoIs Try.prog 25 4 80 (.agg #[.slice none 0 0, .slice none 0 0, .int .i64 0, .slice none 0 0]) := by unfold InfoIs; kernel_rfl
theorem inf_39 : InfoIs Try.prog 39 1 24 (.slice none 0 0) := by unfold InfoIs; kernel_rfl
theorem inf_41 : InfoIs Try.prog 41 3 40 (.agg #[.int .i64 0, .slice none 0 0, .int .i64 0]) := by unfold InfoIs; kernel_rfl
theorem call_33 : Callable Try.prog 33 := ⟨_, Try.func33, by kernel_rfl, rfl⟩
theorem call_49 : Callable Try.prog 49 := ⟨_, Try.func49, by kernel_rfl, rfl⟩
theorem call_53 : Callable Try.prog 53 := ⟨_, Try.func53, by kernel_rfl, rfl⟩
theorem name_ok (s : List UInt8) (w : World) :
   Calls Try.prog 53 #[str s] w (Ret fun v w' => ∃ x : BW True, v = .bool x.1 ∧ True ∧ Dep w.heap.size w'.heap.size (fun _ => True) ∧ Ext [] w w') := by
 refine calls_fx (l := [str s]) Try.func53 rfl Try.ntmps53 (Nat.le_of_ble_eq_true rfl) (St.start w) ?_
 refine c_seq ?_
 refine c_reg ?_
 refine l_q (by decide) (p_assign rfl).q ?_
 refine l_nil ?_
 refine c_seq ?_
 refine c_seq ?_
 refine c_reg ?_
 refine l_q (by decide) (p_move rfl).q ?_
 refine l_q (by decide) (p_len_str Try.underlying9 rfl).q ?_
 first | refine l_q (by decide) (p_lss (j := 1) rfl rfl rfl rfl).q ?_ | refine l_q (by decide) (p_lssi rfl rfl).q ?_
 refine l_q (by decide) (p_move rfl).q ?_
 first | refine l_splitd (t := 9) rfl (fun h9 => ?_) (fun h9 => ?_) | refine l_splitb (t := 9) rfl (fun h9 => ?_) (fun h9 => ?_)
 ·skip
  refine l_off (j := 3) rfl rfl (by first | (simp; done) | (simp [undef]; done)) (by decide) ?_
  refine l_off (j := 3) rfl rfl (by first | (simp; done) | (simp [undef]; done)) (by decide) ?_
  refine l_off (j := 3) rfl rfl (by first | (simp; done) | (simp [undef]; done)) (by decide) ?_
  refine l_q (by decide) (p_pick rfl rfl).q ?_
  refine l_nil ?_
  refine c_true rfl ?_
  refine c_seq ?_
  refine c_reg ?_
  refine l_q (by decide) (p_assign rfl).q ?_
  refine l_nil ?_
  refine c_ret ?_
  refine c_ret1 rfl rfl (fun w hs => ?_)
  exact ⟨⟨_, fun _ => trivial⟩, rfl, trivial, fun _ _ _ h => h, hs.ext⟩
 ·skip
  refine l_g (j := 3) rfl rfl (by decide) (p_move rfl).q ?_
  refine l_g (j := 3) rfl rfl (by decide) (p_len_str Try.underlying9 rfl).q ?_
  first | refine l_g (j := 3) rfl rfl (by decide) (p_gtr (j := 48) rfl rfl rfl rfl).q ?_ | refine l_g (j := 3) rfl rfl (by decide) (p_gtri rfl rfl).q ?_
  refine l_q (by decide) (p_pick rfl rfl).q ?_
  refine l_nil ?_
  first | refine c_dec rfl (fun h13 => ?_) (fun h13 => ?_) | refine c_cond rfl (fun h13 => ?_) (fun h13 => ?_)
  ·skip
   refine c_seq ?_
   refine c_reg ?_
   refine l_q (by decide) (p_assign rfl).q ?_
   refine l_nil ?_
   refine c_ret ?_
   refine c_ret1 rfl rfl (fun w hs => ?_)
   exact ⟨⟨_, fun _ => trivial⟩, rfl, trivial, fun _ _ _ h => h, hs.ext⟩
  ·skip
   refine c_skip ?_
   refine c_seq ?_
   refine c_seq ?_
   refine c_reg ?_
   refine l_q (by decide) (p_assign (v := .int .i64 ((0 : Nat) : Int)) rfl).q ?_
   refine l_nil ?_
   refine c_block ?_
   refine c_loop (S := Nat) (fun zs => zs ≤ s.length) (fun zs => s.length - zs) (fun zs => [(0, str s), (3, .int .i64 (zs : Int))]) (fun zs => []) (fun zs => []) (0) ?_ ?_ ?_ ?_ ?_
   · show (0) ≤ s.length
     exact Nat.zero_le _
   · exact ⟨rfl, rfl, trivial⟩
   · exact .refl _
   · exact fun _ h => absurd h List.not_mem_nil
   rintro k hinv
   have hinv : k ≤ s.length := hinv
   have hk := hinv
   show Cont _ _ _ _ [(0, str s), (3, .int .i64 (k : Int))] ([]) []
   refine c_seq ?_
   refine c_seq ?_
   refine c_reg ?_
   refine l_q (by decide) (p_move rfl).q ?_
   refine l_q (by decide) (p_move rfl).q ?_
   refine l_q (by decide) (p_len_str Try.underlying9 rfl).q ?_
   first | refine l_q (by decide) (p_lss rfl rfl rfl rfl).q ?_ | refine l_q (by decide) (p_lssi rfl rfl).q ?_
   refine l_nil ?_
   first | refine c_dec rfl (fun h17 => ?_) (fun h17 => ?_) | refine c_cond rfl (fun h17 => ?_) (fun h17 => ?_)
   ·skip
    obtain ⟨u, hu⟩ := at_some (l := s) (n := k) (by omega)
    have hu8 := UInt8.toNat_lt u
    refine c_skip ?_
    refine c_seq ?_
    refine c_block ?_
    refine c_seq ?_
    refine c_reg ?_
    refine l_q (by decide) (p_move rfl).q ?_
    refine l_q (by decide) (p_move rfl).q ?_
    first | refine l_q (by decide) (p_index_str Try.underlying9 rfl rfl rfl (by assumption)).q ?_ | refine l_q (by decide) (p_index_str Try.underlying9 rfl rfl rfl (by simp; rfl)).q ?_
    refine l_q (by decide) (p_assign rfl).q ?_
    refine l_nil ?_
    refine c_seq ?_
    refine c_meetn (S := Unit) (fun zs => True) (fun zs => [(0, str s), (3, .int .i64 (k : Int)), (4, .int .u8 (u.toNat : Int)), (5, .bool (decide ((97 ≤ u.toNat ∧ u.toNat ≤ 122) ∨ (65 ≤ u.toNat ∧ u.toNat ≤ 90))))]) (fun zs => []) (fun zs => []) ?_ ?_
    ·skip
     refine c_reg ?_
     refine l_q (by decide) (p_move rfl).q ?_
     first | refine l_q (by decide) (p_geq (j := 97) rfl rfl rfl rfl).q ?_ | refine l_q (by decide) (p_geqi rfl rfl).q ?_
     refine l_q (by decide) (p_move rfl).q ?_
     first | refine l_splitd (t := 25) rfl (fun h25 => ?_) (fun h25 => ?_) | refine l_splitb (t := 25) rfl (fun h25 => ?_) (fun h25 => ?_)
     ·skip
      refine l_g (j := 2) rfl rfl (by decide) (p_move rfl).q ?_
      first | refine l_g (j := 2) rfl rfl (by decide) (p_leq (j := 122) rfl rfl rfl rfl).q ?_ | refine l_g (j := 2) rfl rfl (by decide) (p_leqi rfl rfl).q ?_
      refine l_q (by decide) (p_pick rfl rfl).q ?_
      refine l_q (by decide) (p_move rfl).q ?_
      first | refine l_splitd (t := 29) rfl (fun h29 => ?_) (fun h29 => ?_) | refine l_splitb (t := 29) rfl (fun h29 => ?_) (fun h29 => ?_)
      ·skip
       refine l_off (j := 6) rfl rfl (by first | (simp; done) | (simp [undef]; done)) (by decide) ?_
       refine l_off (j := 6) rfl rfl (by first | (simp; done) | (simp [undef]; done)) (by decide) ?_
       refine l_off (j := 6) rfl rfl (by first | (simp; done) | (simp [undef]; done)) (by decide) ?_
       refine l_off (j := 9) rfl rfl (by first | (simp; done) | (simp [undef]; done)) (by decide) ?_
       refine l_off (j := 9) rfl rfl (by first | (simp; done) | (simp [undef]; done)) (by decide) ?_
       refine l_off (j := 6) rfl rfl (by first | (simp; done) | (simp [undef]; done)) (by decide) ?_
       refine l_q (by decide) (p_pick rfl rfl).q ?_
       refine l_q (by decide) (p_assign rfl).q ?_
       refine l_nil ?_
       refine c_join (()) ?inv ?sub ?perm ?facts
       case sub => exact ⟨rfl, rfl, rfl, (by first | rfl | exact congrArg (fun b => some (Value.bool b)) (decide_eq_true (by omega)).symm | exact congrArg (fun b => some (Value.bool b)) (decide_eq_false (by omega)).symm | exact congrArg (fun b => some (Value.bool b)) (decide_eq_decide.2 (by omega))), trivial⟩
       case perm =>
        exact .refl _
       case facts => exact fun _ h => h
       case inv =>
        trivial
      ·skip
       refine l_g (j := 6) rfl rfl (by decide) (p_move rfl).q ?_
       first | refine l_g (j := 6) rfl rfl (by decide) (p_geq (j := 65) rfl rfl rfl rfl).q ?_ | refine l_g (j := 6) rfl rfl (by decide) (p_geqi rfl rfl).q ?_
       refine l_g (j := 6) rfl rfl (by decide) (p_move rfl).q ?_
       first | refine l_splitd (t := 32) rfl (fun h32 => ?_) (fun h32 => ?_) | refine l_splitb (t := 32) rfl (fun h32 => ?_) (fun h32 => ?_)
       ·skip
        refine l_g (j := 9) rfl rfl (by decide) (p_move rfl).q ?_
        first | refine l_g (j := 9) rfl rfl (by decide) (p_leq (j := 90) rfl rfl rfl rfl).q ?_ | refine l_g (j := 9) rfl rfl (by decide) (p_leqi rfl rfl).q ?_
        refine l_g (j := 6) rfl rfl (by decide) (p_pick rfl rfl).q ?_
        refine l_q (by decide) (p_pick rfl rfl).q ?_
        refine l_q (by decide) (p_assign rfl).q ?_
        refine l_nil ?_
        refine c_join (()) ?inv ?sub ?perm ?facts
        case sub => exact ⟨rfl, rfl, rfl, (by first | rfl | exact congrArg (fun b => some (Value.bool b)) (decide_eq_true (by omega)).symm | exact congrArg (fun b => some (Value.bool b)) (decide_eq_false (by omega)).symm | exact congrArg (fun b => some (Value.bool b)) (decide_eq_decide.2 (by omega))), trivial⟩
        case perm =>
         exact .refl _
        case facts => exact fun _ h => h
        case inv =>
         trivial
       ·skip
        refine l_off (j := 9) rfl rfl (by first | (simp; done) | (simp [undef]; done)) (by decide) ?_
        refine l_off (j := 9) rfl rfl (by first | (simp; done) | (simp [undef]; done)) (by decide) ?_
        refine l_g (j := 6) rfl rfl (by decide) (p_pick rfl rfl).q ?_
        refine l_q (by decide) (p_pick rfl rfl).q ?_
        refine l_q (by decide) (p_assign rfl).q ?_
        refine l_nil ?_
        refine c_join (()) ?inv ?sub ?perm ?facts
        case sub => exact ⟨rfl, rfl, rfl, (by first | rfl | exact congrArg (fun b => some (Value.bool b)) (decide_eq_true (by omega)).symm | exact congrArg (fun b => some (Value.bool b)) (decide_eq_false (by omega)).symm | exact congrArg (fun b => some (Value.bool b)) (decide_eq_decide.2 (by omega))), trivial⟩
        case perm =>
         exact .refl _
        case facts => exact fun _ h => h
        case inv =>
         trivial
     ·skip
      refine l_off (j := 2) rfl rfl (by first | (simp; done) | (simp [undef]; done)) (by decide) ?_
      refine l_off (j := 2) rfl rfl (by first | (simp; done) | (simp [undef]; done)) (by decide) ?_
      refine l_q (by decide) (p_pick rfl rfl).q ?_
      refine l_q (by decide) (p_move rfl).q ?_
      refine l_g (j := 6) rfl rfl (by decide) (p_move rfl).q ?_
      first | refine l_g (j := 6) rfl rfl (by decide) (p_geq (j := 65) rfl rfl rfl rfl).q ?_ | refine l_g (j := 6) rfl rfl (by decide) (p_geqi rfl rfl).q ?_
      refine l_g (j := 6) rfl rfl (by decide) (p_move rfl).q ?_
      first | refine l_splitd (t := 32) rfl (fun h32 => ?_) (fun h32 => ?_) | refine l_splitb (t := 32) rfl (fun h32 => ?_) (fun h32 => ?_)
      ·skip
       refine l_g (j := 9) rfl rfl (by decide) (p_move rfl).q ?_
       first | refine l_g (j := 9) rfl rfl (by decide) (p_leq (j := 90) rfl rfl rfl rfl).q ?_ | refine l_g (j := 9) rfl rfl (by decide) (p_leqi rfl rfl).q ?_
       refine l_g (j := 6) rfl rfl (by decide) (p_pick rfl rfl).q ?_
       refine l_q (by decide) (p_pick rfl rfl).q ?_
       refine l_q (by decide) (p_assign rfl).q ?_
       refine l_nil ?_
       refine c_join (()) ?inv ?sub ?perm ?facts
       case sub => exact ⟨rfl, rfl, rfl, (by first | rfl | exact congrArg (fun b => some (Value.bool b)) (decide_eq_true (by omega)).symm | exact congrArg (fun b => some (Value.bool b)) (decide_eq_false (by omega)).symm | exact congrArg (fun b => some (Value.bool b)) (decide_eq_decide.2 (by omega))), trivial⟩
       case perm =>
        exact .refl _
       case facts => exact fun _ h => h
       case inv =>
        trivial
      ·skip
       refine l_off (j := 9) rfl rfl (by first | (simp; done) | (simp [undef]; done)) (by decide) ?_
       refine l_off (j := 9) rfl rfl (by first | (simp; done) | (simp [undef]; done)) (by decide) ?_
       refine l_g (j := 6) rfl rfl (by decide) (p_pick rfl rfl).q ?_
       refine l_q (by decide) (p_pick rfl rfl).q ?_
       refine l_q (by decide) (p_assign rfl).q ?_
       refine l_nil ?_
       refine c_join (()) ?inv ?sub ?perm ?facts
       case sub => exact ⟨rfl, rfl, rfl, (by first | rfl | exact congrArg (fun b => some (Value.bool b)) (decide_eq_true (by omega)).symm | exact congrArg (fun b => some (Value.bool b)) (decide_eq_false (by omega)).symm | exact congrArg (fun b => some (Value.bool b)) (decide_eq_decide.2 (by omega))), trivial⟩
       case perm =>
        exact .refl _
       case facts => exact fun _ h => h
       case inv =>
        trivial
    rintro uu hmeet
    show Cont _ _ _ _ [(0, str s), (3, .int .i64 (k : Int)), (4, .int .u8 (u.toNat : Int)), (5, .bool (decide ((97 ≤ u.toNat ∧ u.toNat ≤ 122) ∨ (65 ≤ u.toNat ∧ u.toNat ≤ 90))))] ([]) []
    refine c_seq ?_
    refine c_meetn (S := Unit) (fun zs => True) (fun zs => [(0, str s), (3, .int .i64 (k : Int)), (63, .bool (decide (¬ ((97 ≤ u.toNat ∧ u.toNat ≤ 122) ∨ (65 ≤ u.toNat ∧ u.toNat ≤ 90)) ∧ (k = 0 ∨ ¬ (((((48 ≤ u.toNat ∧ u.toNat ≤ 57) ∨ u.toNat = 95) ∨ u.toNat = 46) ∨ u.toNat = 64))))))]) (fun zs => []) (fun zs => []) ?_ ?_
    ·skip
     refine c_reg ?_
     refine l_q (by decide) (p_move rfl).q ?_
     first | refine l_q (by decide) (p_notd rfl).q ?_ | refine l_q (by decide) (p_not rfl).q ?_
     refine l_q (by decide) (p_move rfl).q ?_
     first | refine l_splitd (t := 39) rfl (fun h39 => ?_) (fun h39 => ?_) | refine l_splitb (t := 39) rfl (fun h39 => ?_) (fun h39 => ?_)
     ·skip
      refine l_g (j := 2) rfl rfl (by decide) (p_move rfl).q ?_
      first | refine l_g (j := 2) rfl rfl (by decide) (p_eql (j := 0) rfl rfl rfl rfl).q ?_ | refine l_g (j := 2) rfl rfl (by decide) (p_eqli rfl rfl).q ?_
      refine l_g (j := 2) rfl rfl (by decide) (p_move rfl).q ?_
      first | refine l_splitd (t := 42) rfl (fun h42 => ?_) (fun h42 => ?_) | refine l_splitb (t := 42) rfl (fun h42 => ?_) (fun h42 => ?_)
      ·skip
       refine l_off (j := 5) rfl rfl (by first | (simp; done) | (simp [undef]; done)) (by decide) ?_
       refine l_off (j := 5) rfl rfl (by first | (simp; done) | (simp [undef]; done)) (by decide) ?_
       refine l_off (j := 5) rfl rfl (by first | (simp; done) | (simp [undef]; done)) (by decide) ?_
       refine l_off (j := 8) rfl rfl (by first | (simp; done) | (simp [undef]; done)) (by decide) ?_
       refine l_off (j := 8) rfl rfl (by first | (simp; done) | (simp [undef]; done)) (by decide) ?_
       refine l_off (j := 5) rfl rfl (by first | (simp; done) | (simp [undef]; done)) (by decide) ?_
       refine l_off (j := 5) rfl rfl (by first | (simp; done) | (simp [undef]; done)) (by decide) ?_
       refine l_off (j := 12) rfl rfl (by first | (simp; done) | (simp [undef]; done)) (by decide) ?_
       refine l_off (j := 12) rfl rfl (by first | (simp; done) | (simp [undef]; done)) (by decide) ?_
       refine l_off (j := 5) rfl rfl (by first | (simp; done) | (simp [undef]; done)) (by decide) ?_
       refine l_off (j := 5) rfl rfl (by first | (simp; done) | (simp [undef]; done)) (by decide) ?_
       refine l_off (j := 16) rfl rfl (by first | (simp; done) | (simp [undef]; done)) (by decide) ?_
       refine l_off (j := 16) rfl rfl (by first | (simp; done) | (simp [undef]; done)) (by decide) ?_
       refine l_off (j := 5) rfl rfl (by first | (simp; done) | (simp [undef]; done)) (by decide) ?_
       refine l_off (j := 5) rfl rfl (by first | (simp; done) | (simp [undef]; done)) (by decide) ?_
       refine l_off (j := 20) rfl rfl (by first | (simp; done) | (simp [undef]; done)) (by decide) ?_
       refine l_off (j := 20) rfl rfl (by first | (simp; done) | (simp [undef]; done)) (by decide) ?_
       refine l_off (j := 5) rfl rfl (by first | (simp; done) | (simp [undef]; done)) (by decide) ?_
       refine l_off (j := 5) rfl rfl (by first | (simp; done) | (simp [undef]; done)) (by decide) ?_
       refine l_g (j := 2) rfl rfl (by decide) (p_pick rfl rfl).q ?_
       refine l_q (by decide) (p_pick rfl rfl).q ?_
       refine l_nil ?_
       refine c_join (()) ?inv ?sub ?perm ?facts
       case sub => exact ⟨rfl, rfl, (by first | rfl | exact congrArg (fun b => some (Value.bool b)) (decide_eq_true (by omega)).symm | exact congrArg (fun b => some (Value.bool b)) (decide_eq_false (by omega)).symm | exact congrArg (fun b => some (Value.bool b)) (decide_eq_decide.2 (by omega))), trivial⟩
       case perm =>
        exact .refl _
       case facts => exact fun _ h => h
       case inv =>
        trivial
      ·skip
       refine l_g (j := 5) rfl rfl (by decide) (p_move rfl).q ?_
       first | refine l_g (j := 5) rfl rfl (by decide) (p_geq (j := 48) rfl rfl rfl rfl).q ?_ | refine l_g (j := 5) rfl rfl (by decide) (p_geqi rfl rfl).q ?_
       refine l_g (j := 5) rfl rfl (by decide) (p_move rfl).q ?_
       first | refine l_splitd (t := 45) rfl (fun h45 => ?_) (fun h45 => ?_) | refine l_splitb (t := 45) rfl (fun h45 => ?_) (fun h45 => ?_)
       ·skip
        refine l_g (j := 8) rfl rfl (by decide) (p_move rfl).q ?_
        first | refine l_g (j := 8) rfl rfl (by decide) (p_leq (j := 57) rfl rfl rfl rfl).q ?_ | refine l_g (j := 8) rfl rfl (by decide) (p_leqi rfl rfl).q ?_
        refine l_g (j := 5) rfl rfl (by decide) (p_pick rfl rfl).q ?_
        refine l_g (j := 5) rfl rfl (by decide) (p_move rfl).q ?_
        first | refine l_splitd (t := 49) rfl (fun h49 => ?_) (fun h49 => ?_) | refine l_splitb (t := 49) rfl (fun h49 => ?_) (fun h49 => ?_)
        ·skip
         refine l_off (j := 12) rfl rfl (by first | (simp; done) | (simp [undef]; done)) (by decide) ?_
         refine l_off (j := 12) rfl rfl (by first | (simp; done) | (simp [undef]; done)) (by decide) ?_
         refine l_g (j := 5) rfl rfl (by decide) (p_pick rfl rfl).q ?_
         refine l_g (j := 5) rfl rfl (by decide) (p_move rfl).q ?_
         refine l_off (j := 16) rfl rfl (by first | (simp; done) | (simp [undef]; done)) (by decide) ?_
         refine l_off (j := 16) rfl rfl (by first | (simp; done) | (simp [undef]; done)) (by decide) ?_
         refine l_g (j := 5) rfl rfl (by decide) (p_pick rfl rfl).q ?_
         refine l_g (j := 5) rfl rfl (by decide) (p_move rfl).q ?_
         refine l_off (j := 20) rfl rfl (by first | (simp; done) | (simp [undef]; done)) (by decide) ?_
         refine l_off (j := 20) rfl rfl (by first | (simp; done) | (simp [undef]; done)) (by decide) ?_
         refine l_g (j := 5) rfl rfl (by decide) (p_pick rfl rfl).q ?_
         refine l_g (j := 5) rfl rfl (by decide) (p_not rfl).q ?_
         refine l_g (j := 2) rfl rfl (by decide) (p_pick rfl rfl).q ?_
         refine l_q (by decide) (p_pick rfl rfl).q ?_
         refine l_nil ?_
         refine c_join (()) ?inv ?sub ?perm ?facts
         case sub => exact ⟨rfl, rfl, (by first | rfl | exact congrArg (fun b => some (Value.bool b)) (decide_eq_true (by omega)).symm | exact congrArg (fun b => some (Value.bool b)) (decide_eq_false (by omega)).symm | exact congrArg (fun b => some (Value.bool b)) (decide_eq_decide.2 (by omega))), trivial⟩
         case perm =>
          exact .refl _
         case facts => exact fun _ h => h
         case inv =>
          trivial
        ·skip
         refine l_g (j := 12) rfl rfl (by decide) (p_move rfl).q ?_
         first | refine l_g (j := 12) rfl rfl (by decide) (p_eql (j := 95) rfl rfl rfl rfl).q ?_ | refine l_g (j := 12) rfl rfl (by decide) (p_eqli rfl rfl).q ?_
         refine l_g (j := 5) rfl rfl (by decide) (p_pick rfl rfl).q ?_
         refine l_g (j := 5) rfl rfl (by decide) (p_move rfl).q ?_
         first | refine l_splitd (t := 53) rfl (fun h53 => ?_) (fun h53 => ?_) | refine l_splitb (t := 53) rfl (fun h53 => ?_) (fun h53 => ?_)
         ·skip
          refine l_off (j := 16) rfl rfl (by first | (simp; done) | (simp [undef]; done)) (by decide) ?_
          refine l_off (j := 16) rfl rfl (by first | (simp; done) | (simp [undef]; done)) (by decide) ?_
          refine l_g (j := 5) rfl rfl (by decide) (p_pick rfl rfl).q ?_
          refine l_g (j := 5) rfl rfl (by decide) (p_move rfl).q ?_
          refine l_off (j := 20) rfl rfl (by first | (simp; done) | (simp [undef]; done)) (by decide) ?_
          refine l_off (j := 20) rfl rfl (by first | (simp; done) | (simp [undef]; done)) (by decide) ?_
          refine l_g (j := 5) rfl rfl (by decide) (p_pick rfl rfl).q ?_
          refine l_g (j := 5) rfl rfl (by decide) (p_not rfl).q ?_
          refine l_g (j := 2) rfl rfl (by decide) (p_pick rfl rfl).q ?_
          refine l_q (by decide) (p_pick rfl rfl).q ?_
          refine l_nil ?_
          refine c_join (()) ?inv ?sub ?perm ?facts
          case sub => exact ⟨rfl, rfl, (by first | rfl | exact congrArg (fun b => some (Value.bool b)) (decide_eq_true (by omega)).symm | exact congrArg (fun b => some (Value.bool b)) (decide_eq_false (by omega)).symm | exact congrArg (fun b => some (Value.bool b)) (decide_eq_decide.2 (by omega))), trivial⟩
          case perm =>
           exact .refl _
          case facts => exact fun _ h => h
          case inv =>
           trivial
         ·skip
          refine l_g (j := 16) rfl rfl (by decide) (p_move rfl).q ?_
          first | refine l_g (j := 16) rfl rfl (by decide) (p_eql (j := 46) rfl rfl rfl rfl).q ?_ | refine l_g (j := 16) rfl rfl (by decide) (p_eqli rfl rfl).q ?_
          refine l_g (j := 5) rfl rfl (by decide) (p_pick rfl rfl).q ?_
          refine l_g (j := 5) rfl rfl (by decide) (p_move rfl).q ?_
          first | refine l_splitd (t := 57) rfl (fun h57 => ?_) (fun h57 => ?_) | refine l_splitb (t := 57) rfl (fun h57 => ?_) (fun h57 => ?_)
          ·skip
           refine l_off (j := 20) rfl rfl (by first | (simp; done) | (simp [undef]; done)) (by decide) ?_
           refine l_off (j := 20) rfl rfl (by first | (simp; done) | (simp [undef]; done)) (by decide) ?_
           refine l_g (j := 5) rfl rfl (by decide) (p_pick rfl rfl).q ?_
           refine l_g (j := 5) rfl rfl (by decide) (p_not rfl).q ?_
           refine l_g (j := 2) rfl rfl (by decide) (p_pick rfl rfl).q ?_
           refine l_q (by decide) (p_pick rfl rfl).q ?_
           refine l_nil ?_
           refine c_join (()) ?inv ?sub ?perm ?facts
           case sub => exact ⟨rfl, rfl, (by first | rfl | exact congrArg (fun b => some (Value.bool b)) (decide_eq_true (by omega)).symm | exact congrArg (fun b => some (Value.bool b)) (decide_eq_false (by omega)).symm | exact congrArg (fun b => some (Value.bool b)) (decide_eq_decide.2 (by omega))), trivial⟩
           case perm =>
            exact .refl _
           case facts => exact fun _ h => h
           case inv =>
            trivial
          ·skip
           refine l_g (j := 20) rfl rfl (by decide) (p_move rfl).q ?_
           first | refine l_g (j := 20) rfl rfl (by decide) (p_eql (j := 64) rfl rfl rfl rfl).q ?_ | refine l_g (j := 20) rfl rfl (by decide) (p_eqli rfl rfl).q ?_
           refine l_g (j := 5) rfl rfl (by decide) (p_pick rfl rfl).q ?_
           first | refine l_g (j := 5) rfl rfl (by decide) (p_notd rfl).q ?_ | refine l_g (j := 5) rfl rfl (by decide) (p_not rfl).q ?_
           refine l_g (j := 2) rfl rfl (by decide) (p_pick rfl rfl).q ?_
           refine l_q (by decide) (p_pick rfl rfl).q ?_
           refine l_nil ?_
           refine c_join (()) ?inv ?sub ?perm ?facts
           case sub => exact ⟨rfl, rfl, (by first | rfl | exact congrArg (fun b => some (Value.bool b)) (decide_eq_true (by omega)).symm | exact congrArg (fun b => some (Value.bool b)) (decide_eq_false (by omega)).symm | exact congrArg (fun b => some (Value.bool b)) (decide_eq_decide.2 (by omega))), trivial⟩
           case perm =>
            exact .refl _
           case facts => exact fun _ h => h
           case inv =>
            trivial
       ·skip
        refine l_off (j := 8) rfl rfl (by first | (simp; done) | (simp [undef]; done)) (by decide) ?_
        refine l_off (j := 8) rfl rfl (by first | (simp; done) | (simp [undef]; done)) (by decide) ?_
        refine l_g (j := 5) rfl rfl (by decide) (p_pick rfl rfl).q ?_
        refine l_g (j := 5) rfl rfl (by decide) (p_move rfl).q ?_
        refine l_g (j := 12) rfl rfl (by decide) (p_move rfl).q ?_
        first | refine l_g (j := 12) rfl rfl (by decide) (p_eql (j := 95) rfl rfl rfl rfl).q ?_ | refine l_g (j := 12) rfl rfl (by decide) (p_eqli rfl rfl).q ?_
        refine l_g (j := 5) rfl rfl (by decide) (p_pick rfl rfl).q ?_
        refine l_g (j := 5) rfl rfl (by decide) (p_move rfl).q ?_
        first | refine l_splitd (t := 53) rfl (fun h53 => ?_) (fun h53 => ?_) | refine l_splitb (t := 53) rfl (fun h53 => ?_) (fun h53 => ?_)
        ·skip
         refine l_off (j := 16) rfl rfl (by first | (simp; done) | (simp [undef]; done)) (by decide) ?_
         refine l_off (j := 16) rfl rfl (by first | (simp; done) | (simp [undef]; done)) (by decide) ?_
         refine l_g (j := 5) rfl rfl (by decide) (p_pick rfl rfl).q ?_
         refine l_g (j := 5) rfl rfl (by decide) (p_move rfl).q ?_
         refine l_off (j := 20) rfl rfl (by first | (simp; done) | (simp [undef]; done)) (by decide) ?_
         refine l_off (j := 20) rfl rfl (by first | (simp; done) | (simp [undef]; done)) (by decide) ?_
         refine l_g (j := 5) rfl rfl (by decide) (p_pick rfl rfl).q ?_
         refine l_g (j := 5) rfl rfl (by decide) (p_not rfl).q ?_
         refine l_g (j := 2) rfl rfl (by decide) (p_pick rfl rfl).q ?_
         refine l_q (by decide) (p_pick rfl rfl).q ?_
         refine l_nil ?_
         refine c_join (()) ?inv ?sub ?perm ?facts
         case sub => exact ⟨rfl, rfl, (by first | rfl | exact congrArg (fun b => some (Value.bool b)) (decide_eq_true (by omega)).symm | exact congrArg (fun b => some (Value.bool b)) (decide_eq_false (by omega)).symm | exact congrArg (fun b => some (Value.bool b)) (decide_eq_decide.2 (by omega))), trivial⟩
         case perm =>
          exact .refl _
         case facts => exact fun _ h => h
         case inv =>
          trivial
        ·skip
         refine l_g (j := 16) rfl rfl (by decide) (p_move rfl).q ?_
         first | refine l_g (j := 16) rfl rfl (by decide) (p_eql (j := 46) rfl rfl rfl rfl).q ?_ | refine l_g (j := 16) rfl rfl (by decide) (p_eqli rfl rfl).q ?_
         refine l_g (j := 5) rfl rfl (by decide) (p_pick rfl rfl).q ?_
         refine l_g (j := 5) rfl rfl (by decide) (p_move rfl).q ?_
         first | refine l_splitd (t := 57) rfl (fun h57 => ?_) (fun h57 => ?_) | refine l_splitb (t := 57) rfl (fun h57 => ?_) (fun h57 => ?_)
         ·skip
          refine l_off (j := 20) rfl rfl (by first | (simp; done) | (simp [undef]; done)) (by decide) ?_
          refine l_off (j := 20) rfl rfl (by first | (simp; done) | (simp [undef]; done)) (by decide) ?_
          refine l_g (j := 5) rfl rfl (by decide) (p_pick rfl rfl).q ?_
          refine l_g (j := 5) rfl rfl (by decide) (p_not rfl).q ?_
          refine l_g (j := 2) rfl rfl (by decide) (p_pick rfl rfl).q ?_
          refine l_q (by decide) (p_pick rfl rfl).q ?_
          refine l_nil ?_
          refine c_join (()) ?inv ?sub ?perm ?facts
          case sub => exact ⟨rfl, rfl, (by first | rfl | exact congrArg (fun b => some (Value.bool b)) (decide_eq_true (by omega)).symm | exact congrArg (fun b => some (Value.bool b)) (decide_eq_false (by omega)).symm | exact congrArg (fun b => some (Value.bool b)) (decide_eq_decide.2 (by omega))), trivial⟩
          case perm =>
           exact .refl _
          case facts => exact fun _ h => h
          case inv =>
           trivial
         ·skip
          refine l_g (j := 20) rfl rfl (by decide) (p_move rfl).q ?_
          first | refine l_g (j := 20) rfl rfl (by decide) (p_eql (j := 64) rfl rfl rfl rfl).q ?_ | refine l_g (j := 20) rfl rfl (by decide) (p_eqli rfl rfl).q ?_
          refine l_g (j := 5) rfl rfl (by decide) (p_pick rfl rfl).q ?_
          first | refine l_g (j := 5) rfl rfl (by decide) (p_notd rfl).q ?_ | refine l_g (j := 5) rfl rfl (by decide) (p_not rfl).q ?_
          refine l_g (j := 2) rfl rfl (by decide) (p_pick rfl rfl).q ?_
          refine l_q (by decide) (p_pick rfl rfl).q ?_
          refine l_nil ?_
          refine c_join (()) ?inv ?sub ?perm ?facts
          case sub => exact ⟨rfl, rfl, (by first | rfl | exact congrArg (fun b => some (Value.bool b)) (decide_eq_true (by omega)).symm | exact congrArg (fun b => some (Value.bool b)) (decide_eq_false (by omega)).symm | exact congrArg (fun b => some (Value.bool b)) (decide_eq_decide.2 (by omega))), trivial⟩
          case perm =>
           exact .refl _
          case facts => exact fun _ h => h
          case inv =>
           trivial
     ·skip
      refine l_off (j := 2) rfl rfl (by first | (simp; done) | (simp [undef]; done)) (by decide) ?_
      refine l_off (j := 2) rfl rfl (by first | (simp; done) | (simp [undef]; done)) (by decide) ?_
      refine l_off (j := 2) rfl rfl (by first | (simp; done) | (simp [undef]; done)) (by decide) ?_
      refine l_off (j := 5) rfl rfl (by first | (simp; done) | (simp [undef]; done)) (by decide) ?_
      refine l_off (j := 5) rfl rfl (by first | (simp; done) | (simp [undef]; done)) (by decide) ?_
      refine l_off (j := 5) rfl rfl (by first | (simp; done) | (simp [undef]; done)) (by decide) ?_
      refine l_off (j := 8) rfl rfl (by first | (simp; done) | (simp [undef]; done)) (by decide) ?_
      refine l_off (j := 8) rfl rfl (by first | (simp; done) | (simp [undef]; done)) (by decide) ?_
      refine l_off (j := 5) rfl rfl (by first | (simp; done) | (simp [undef]; done)) (by decide) ?_
      refine l_off (j := 5) rfl rfl (by first | (simp; done) | (simp [undef]; done)) (by decide) ?_
      refine l_off (j := 12) rfl rfl (by first | (simp; done) | (simp [undef]; done)) (by decide) ?_
      refine l_off (j := 12) rfl rfl (by first | (simp; done) | (simp [undef]; done)) (by decide) ?_
      refine l_off (j := 5) rfl rfl (by first | (simp; done) | (simp [undef]; done)) (by decide) ?_
      refine l_off (j := 5) rfl rfl (by first | (simp; done) | (simp [undef]; done)) (by decide) ?_
      refine l_off (j := 16) rfl rfl (by first | (simp; done) | (simp [undef]; done)) (by decide) ?_
      refine l_off (j := 16) rfl rfl (by first | (simp; done) | (simp [undef]; done)) (by decide) ?_
      refine l_off (j := 5) rfl rfl (by first | (simp; done) | (simp [undef]; done)) (by decide) ?_
      refine l_off (j := 5) rfl rfl (by first | (simp; done) | (simp [undef]; done)) (by decide) ?_
      refine l_off (j := 20) rfl rfl (by first | (simp; done) | (simp [undef]; done)) (by decide) ?_
      refine l_off (j := 20) rfl rfl (by first | (simp; done) | (simp [undef]; done)) (by decide) ?_
      refine l_off (j := 5) rfl rfl (by first | (simp; done) | (simp [undef]; done)) (by decide) ?_
      refine l_off (j := 5) rfl rfl (by first | (simp; done) | (simp [undef]; done)) (by decide) ?_
      refine l_off (j := 2) rfl rfl (by first | (simp; done) | (simp [undef]; done)) (by decide) ?_
      refine l_q (by decide) (p_pick rfl rfl).q ?_
      refine l_nil ?_
      refine c_join (()) ?inv ?sub ?perm ?facts
      case sub => exact ⟨rfl, rfl, (by first | rfl | exact congrArg (fun b => some (Value.bool b)) (decide_eq_true (by omega)).symm | exact congrArg (fun b => some (Value.bool b)) (decide_eq_false (by omega)).symm | exact congrArg (fun b => some (Value.bool b)) (decide_eq_decide.2 (by omega))), trivial⟩
      case perm =>
       exact .refl _
      case facts => exact fun _ h => h
      case inv =>
       trivial
    rintro uu hmeet
    show Cont _ _ _ _ [(0, str s), (3, .int .i64 (k : Int)), (63, .bool (decide (¬ ((97 ≤ u.toNat ∧ u.toNat ≤ 122) ∨ (65 ≤ u.toNat ∧ u.toNat ≤ 90)) ∧ (k = 0 ∨ ¬ (((((48 ≤ u.toNat ∧ u.toNat ≤ 57) ∨ u.toNat = 95) ∨ u.toNat = 46) ∨ u.toNat = 64))))))] ([]) []
    first | refine c_dec rfl (fun h63 => ?_) (fun h63 => ?_) | refine c_cond rfl (fun h63 => ?_) (fun h63 => ?_)
    ·skip
     refine c_seq ?_
     refine c_reg ?_
     refine l_q (by decide) (p_assign rfl).q ?_
     refine l_nil ?_
     refine c_ret ?_
     refine c_ret1 rfl rfl (fun w hs => ?_)
     exact ⟨⟨_, fun _ => trivial⟩, rfl, trivial, fun _ _ _ h => h, hs.ext⟩
    ·skip
     refine c_skip ?_
     refine c_reg ?_
     refine l_q (by decide) (p_move rfl).q ?_
     first | refine l_q (by decide) (p_add (j := 1) rfl rfl rfl rfl (by show _ ≤ (9223372036854775807 : Nat); omega)).q ?_ | refine l_q (by decide) (p_addi rfl rfl (by show (-9223372036854775808 : Int) ≤ _; omega) (by show _ ≤ ((9223372036854775807 : Nat) : Int); omega)).q ?_
     refine l_q (by decide) (p_assign rfl).q ?_
     refine l_nil ?_
     refine c_join ((k + 1)) ?_ ?_ ?_ ?_
     ·show ((k + 1) ≤ s.length) ∧ s.length - (k + 1) < s.length - k
      exact ⟨by omega, by omega⟩
     · exact ⟨rfl, rfl, trivial⟩
     ·show List.Perm _ ([])
      exact .refl _
     · exact fun _ h => absurd h List.not_mem_nil
   ·skip
    refine c_exit ?_
    refine c_here ?_
    refine c_seq ?_
    refine c_reg ?_
    refine l_q (by decide) (p_assign rfl).q ?_
    refine l_nil ?_
    refine c_ret ?_
    refine c_ret1 rfl rfl (fun w hs => ?_)
    exact ⟨⟨_, fun _ => trivial⟩, rfl, trivial, fun _ _ _ h => h, hs.ext⟩

theorem names_ok (A B : Option Addr) (c d : Nat) (l m : List (List UInt8)) (hl : l.length ≤ 120) (hm : m.length ≤ 120) (w : World) (hq : Sl 1 strF A l w) (hp : Sl 1 strF B m w) :
   Calls Try.prog 49 #[.slice A l.length c, .slice B m.length d] w (Ret fun v w' => ∃ x : BW True, v = .bool x.1 ∧ True ∧ Dep w.heap.size w'.heap.size (fun _ => True) ∧ Ext [] w w') := by
 refine calls_fx (l := [.slice A l.length c, .slice B m.length d]) Try.func49 rfl Try.ntmps49 (Nat.le_of_ble_eq_true rfl) (Holds.two hq (dep_sl (by decide) hq) hp (dep_sl (by decide) hp)) ?_
 refine c_seq ?_
 refine c_reg ?_
 refine l_q (by decide) (p_assign rfl).q ?_
 refine l_nil ?_
 refine c_seq ?_
 refine c_reg ?_
 refine l_q (by decide) (p_assign rfl).q ?_
 refine l_nil ?_
 refine c_seq ?_
 refine c_reg ?_
 refine l_q (by decide) (p_move rfl).q ?_
 refine l_q (by decide) (p_move rfl).q ?_
 refine l_sl0 9 1 strF ?_
 refine l_appendsl (f := strF) l (by decide) Try.underlying22 inf_9 rfl (by decide) rfl rfl rfl rfl (by repeat constructor) (fun e u h => by rw [List.mem_singleton.1 h]; rfl) (by simp only [List.length_nil]; omega) (by simp only [List.length_nil]; omega) (fun A10 c10 => ?_)
 refine l_q (by decide) (p_assign rfl).q ?_
 refine l_nil ?_
 refine c_seq ?_
 refine c_reg ?_
 refine l_q (by decide) (p_move rfl).q ?_
 refine l_q (by decide) (p_move rfl).q ?_
 refine l_appendsl (f := strF) m (by decide) Try.underlying22 inf_9 rfl (by decide) rfl rfl rfl rfl (by repeat constructor) (fun e u h => by rw [List.mem_singleton.1 h]; rfl) (by simp only [List.length_append, List.length_nil]; omega) (by simp only [List.length_append, List.length_nil]; omega) (fun A13 c13 => ?_)
 refine l_q (by decide) (p_assign rfl).q ?_
 refine l_nil ?_
 refine c_seq ?_
 refine c_seq ?_
 refine c_reg ?_
 refine l_q (by decide) (p_assign (v := .int .i64 ((0 : Nat) : Int)) rfl).q ?_
 refine l_nil ?_
 refine c_block ?_
 refine c_loop (S := Nat) (fun zs => zs ≤ (([] ++ l) ++ m).length) (fun zs => (([] ++ l) ++ m).length - zs) (fun zs => [(5, .slice A13 ((([] ++ l) ++ m)).length c13), (6, .int .i64 (zs : Int))]) (fun zs => [iSl 9 1 strF A13 c13 (([] ++ l) ++ m)]) (fun zs => [Sl 1 strF A l, Sl 1 strF B m]) (0) ?_ ?_ ?_ ?_ ?_
 · show (0) ≤ (([] ++ l) ++ m).length
   exact Nat.zero_le _
 · exact ⟨rfl, rfl, trivial⟩
 · exact .refl _
 · exact fun _ h => h
 rintro k hinv
 have hinv : k ≤ (([] ++ l) ++ m).length := hinv
 have hk := hinv
 show Cont _ _ _ _ [(5, .slice A13 ((([] ++ l) ++ m)).length c13), (6, .int .i64 (k : Int))] ([iSl 9 1 strF A13 c13 (([] ++ l) ++ m)]) [Sl 1 strF A l, Sl 1 strF B m]
 refine c_seq ?_
 refine c_seq ?_
 refine c_reg ?_
 refine l_q (by decide) (p_move rfl).q ?_
 refine l_q (by decide) (p_move rfl).q ?_
 refine l_q (by decide) (p_len_sl Try.underlying22 rfl).q ?_
 first | refine l_q (by decide) (p_lss rfl rfl rfl rfl).q ?_ | refine l_q (by decide) (p_lssi rfl rfl).q ?_
 refine l_nil ?_
 first | refine c_dec rfl (fun h17 => ?_) (fun h17 => ?_) | refine c_cond rfl (fun h17 => ?_) (fun h17 => ?_)
 ·skip
  obtain ⟨u, hu⟩ := at_some (l := ([] ++ l) ++ m) (n := k) (by omega)
  have hkl : (([] ++ l) ++ m).length = l.length + m.length := by simp only [List.length_append, List.length_nil]; omega
  refine c_skip ?_
  refine c_seq ?_
  refine c_block ?_
  refine c_seq ?_
  refine c_seq ?_
  refine c_reg ?_
  refine l_q (by decide) (p_move rfl).q ?_
  refine l_q (by decide) (p_move rfl).q ?_
  first | refine l_q (by decide) (r_index Try.underlying22 inf_9 rfl rfl rfl (by first | exact .fact (by repeat constructor) | exact .own (by repeat constructor) (by decide) (fun _ => rfl) | exact SlIn.body (by repeat constructor) (by assumption)) rfl (by omega)).q ?_ | refine l_q (by decide) (r_index Try.underlying22 inf_9 rfl rfl rfl (by first | exact .fact (by repeat constructor) | exact .own (by repeat constructor) (by decide) (fun _ => rfl) | exact SlIn.body (by repeat constructor) (by assumption)) rfl (by decide)).q ?_ | refine l_q (by decide) (p_indexo Try.underlying22 inf_9 rfl rfl rfl (by omega)).q ?_
  first | refine l_q (by decide) (r_loado Try.underlying9 rfl rfl (by repeat constructor) (by rfl)).q ?_ | refine l_q (by decide) (r_load1 Try.underlying9 rfl rfl (by first | exact .fact (by repeat constructor) | exact .own (by repeat constructor) (by decide) (fun _ => rfl) | exact SlIn.body (by repeat constructor) (by assumption)) (by first | assumption | rfl) (by rfl)).q ?_ | refine l_q (by decide) (r_loadf Try.underlying9 rfl rfl (by first | exact .fact (by repeat constructor) | exact .own (by repeat constructor) (by decide) (fun _ => rfl) | exact SlIn.body (by repeat constructor) (by assumption)) (by assumption) (by rfl)).q ?_
  refine l_call (X := BW (True)) (fun x => .bool x.1) (fun _ _ => True) (by decide) call_53 rfl (fun w hs => name_ok u w) (fun x24 => ?_)
  first | refine l_q (by decide) (p_notd rfl).q ?_ | refine l_q (by decide) (p_not rfl).q ?_
  refine l_nil ?_
  first | refine c_dec rfl (fun h25 => ?_) (fun h25 => ?_) | refine c_cond rfl (fun h25 => ?_) (fun h25 => ?_)
  ·skip
   refine c_seq ?_
   refine c_reg ?_
   refine l_q (by decide) (p_assign rfl).q ?_
   refine l_nil ?_
   refine c_ret ?_
   refine c_ret1 rfl rfl (fun w hs => ?_)
   exact ⟨⟨_, fun _ => trivial⟩, rfl, trivial, fun _ _ _ h => h, hs.ext⟩
  ·skip
   refine c_skip ?_
   refine c_seq ?_
   refine c_reg ?_
   refine l_q (by decide) (p_assign (v := .int .i64 ((0 : Nat) : Int)) rfl).q ?_
   refine l_nil ?_
   refine c_block ?_
   refine c_loop (S := Nat) (fun zs => zs ≤ k) (fun zs => k - zs) (fun zs => [(5, .slice A13 ((([] ++ l) ++ m)).length c13), (6, .int .i64 (k : Int)), (7, .int .i64 (zs : Int))]) (fun zs => [iSl 9 1 strF A13 c13 (([] ++ l) ++ m)]) (fun zs => [fun _ => True, Sl 1 strF A l, Sl 1 strF B m]) (0) ?_ ?_ ?_ ?_ ?_
   · show (0) ≤ k
     exact Nat.zero_le _
   · exact ⟨rfl, rfl, rfl, trivial⟩
   · exact .refl _
   · exact fun _ h => h
   rintro j hinv
   have hinv : j ≤ k := hinv
   have hj := hinv
   show Cont _ _ _ _ [(5, .slice A13 ((([] ++ l) ++ m)).length c13), (6, .int .i64 (k : Int)), (7, .int .i64 (j : Int))] ([iSl 9 1 strF A13 c13 (([] ++ l) ++ m)]) [fun _ => True, Sl 1 strF A l, Sl 1 strF B m]
   refine c_seq ?_
   refine c_seq ?_
   refine c_reg ?_
   refine l_q (by decide) (p_move rfl).q ?_
   refine l_q (by decide) (p_move rfl).q ?_
   first | refine l_q (by decide) (p_lss rfl rfl rfl rfl).q ?_ | refine l_q (by decide) (p_lssi rfl rfl).q ?_
   refine l_nil ?_
   first | refine c_dec rfl (fun h28 => ?_) (fun h28 => ?_) | refine c_cond rfl (fun h28 => ?_) (fun h28 => ?_)
   ·skip
    obtain ⟨u2, hu2⟩ := at_some (l := ([] ++ l) ++ m) (n := j) (by omega)
    refine c_skip ?_
    refine c_seq ?_
    refine c_block ?_
    refine c_seq ?_
    refine c_draw mixed (by decide +kernel) ?_
    refine q_q (by decide) (p_move rfl).q ?_
    refine q_q (by decide) (p_move rfl).q ?_
    first | refine q_q (by decide) (r_index Try.underlying22 inf_9 rfl rfl rfl (by first | exact .fact (by repeat constructor) | exact .own (by repeat constructor) (by decide) (fun _ => rfl) | exact SlIn.body (by repeat constructor) (by assumption)) rfl (by omega)).q ?_ | refine q_q (by decide) (r_index Try.underlying22 inf_9 rfl rfl rfl (by first | exact .fact (by repeat constructor) | exact .own (by repeat constructor) (by decide) (fun _ => rfl) | exact SlIn.body (by repeat constructor) (by assumption)) rfl (by decide)).q ?_ | refine q_q (by decide) (p_indexo Try.underlying22 inf_9 rfl rfl rfl (by omega)).q ?_
    first | refine q_q (by decide) (r_loado Try.underlying9 rfl rfl (by repeat constructor) (by rfl)).q ?_ | refine q_q (by decide) (r_load1 Try.underlying9 rfl rfl (by first | exact .fact (by repeat constructor) | exact .own (by repeat constructor) (by decide) (fun _ => rfl) | exact SlIn.body (by repeat constructor) (by assumption)) (by first | assumption | rfl) (by rfl)).q ?_ | refine q_q (by decide) (r_loadf Try.underlying9 rfl rfl (by first | exact .fact (by repeat constructor) | exact .own (by repeat constructor) (by decide) (fun _ => rfl) | exact SlIn.body (by repeat constructor) (by assumption)) (by assumption) (by rfl)).q ?_
    refine q_q (by decide) (p_move rfl).q ?_
    refine q_q (by decide) (p_move rfl).q ?_
    first | refine q_q (by decide) (r_index Try.underlying22 inf_9 rfl rfl rfl (by first | exact .fact (by repeat constructor) | exact .own (by repeat constructor) (by decide) (fun _ => rfl) | exact SlIn.body (by repeat constructor) (by assumption)) rfl (by omega)).q ?_ | refine q_q (by decide) (r_index Try.underlying22 inf_9 rfl rfl rfl (by first | exact .fact (by repeat constructor) | exact .own (by repeat constructor) (by decide) (fun _ => rfl) | exact SlIn.body (by repeat constructor) (by assumption)) rfl (by decide)).q ?_ | refine q_q (by decide) (p_indexo Try.underlying22 inf_9 rfl rfl rfl (by omega)).q ?_
    first | refine q_q (by decide) (r_loado Try.underlying9 rfl rfl (by repeat constructor) (by rfl)).q ?_ | refine q_q (by decide) (r_load1 Try.underlying9 rfl rfl (by first | exact .fact (by repeat constructor) | exact .own (by repeat constructor) (by decide) (fun _ => rfl) | exact SlIn.body (by repeat constructor) (by assumption)) (by first | assumption | rfl) (by rfl)).q ?_ | refine q_q (by decide) (r_loadf Try.underlying9 rfl rfl (by first | exact .fact (by repeat constructor) | exact .own (by repeat constructor) (by decide) (fun _ => rfl) | exact SlIn.body (by repeat constructor) (by assumption)) (by assumption) (by rfl)).q ?_
    refine q_q (by decide) (p_eqs rfl rfl).q ?_
    refine q_nil ?_
    first | refine c_dec rfl (fun h39 => ?_) (fun h39 => ?_) | refine c_cond rfl (fun h39 => ?_) (fun h39 => ?_)
    ·skip
     refine c_seq ?_
     refine c_reg ?_
     refine l_q (by decide) (p_assign rfl).q ?_
     refine l_nil ?_
     refine c_ret ?_
     refine c_ret1 rfl rfl (fun w hs => ?_)
     exact ⟨⟨_, fun _ => trivial⟩, rfl, trivial, fun _ _ _ h => h, hs.ext⟩
    ·skip
     refine c_skip ?_
     refine c_reg ?_
     refine l_q (by decide) (p_move rfl).q ?_
     first | refine l_q (by decide) (p_add (j := 1) rfl rfl rfl rfl (by show _ ≤ (9223372036854775807 : Nat); omega)).q ?_ | refine l_q (by decide) (p_addi rfl rfl (by show (-9223372036854775808 : Int) ≤ _; omega) (by show _ ≤ ((9223372036854775807 : Nat) : Int); omega)).q ?_
     refine l_q (by decide) (p_assign rfl).q ?_
     refine l_nil ?_
     refine c_join ((j + 1)) ?_ ?_ ?_ ?_
     ·show ((j + 1) ≤ k) ∧ k - (j + 1) < k - j
      exact ⟨by omega, by omega⟩
     · exact ⟨rfl, rfl, rfl, trivial⟩
     ·show List.Perm _ ([iSl 9 1 strF A13 c13 (([] ++ l) ++ m)])
      exact .refl _
     · exact fun _ h => h
   ·skip
    refine c_exit ?_
    refine c_here ?_
    refine c_reg ?_
    refine l_q (by decide) (p_move rfl).q ?_
    first | refine l_q (by decide) (p_add (j := 1) rfl rfl rfl rfl (by show _ ≤ (9223372036854775807 : Nat); omega)).q ?_ | refine l_q (by decide) (p_addi rfl rfl (by show (-9223372036854775808 : Int) ≤ _; omega) (by show _ ≤ ((9223372036854775807 : Nat) : Int); omega)).q ?_
    refine l_q (by decide) (p_assign rfl).q ?_
    refine l_nil ?_
    refine c_join ((k + 1)) ?_ ?_ ?_ ?_
    ·show ((k + 1) ≤ (([] ++ l) ++ m).length) ∧ (([] ++ l) ++ m).length - (k + 1) < (([] ++ l) ++ m).length - k
     exact ⟨by omega, by omega⟩
    · exact ⟨rfl, rfl, trivial⟩
    ·show List.Perm _ ([iSl 9 1 strF A13 c13 (([] ++ l) ++ m)])
     exact .refl _
    · (intro p hp; exact List.mem_cons_of_mem _ hp)
 ·skip
  refine c_exit ?_
  refine c_here ?_
  refine c_seq ?_
  refine c_reg ?_
  refine l_q (by decide) (p_assign rfl).q ?_
  refine l_nil ?_
  refine c_ret ?_
  refine c_ret1 rfl rfl (fun w hs => ?_)
  exact ⟨⟨_, fun _ => trivial⟩, rfl, trivial, fun _ _ _ h => h, hs.ext⟩

theorem valid_ok (X : GI) (hX : X.small) (w : World) (hM : X.mem w) :
   Calls Try.prog 33 #[.agg #[.slice X.At X.terms.length X.ct, .slice X.An X.nts.length X.cn, .int .i64 X.start, .slice X.Ar X.xs.length X.cr]] w (Ret fun v w' => ∃ x : BW (OkV X.g), v = .bool x.1 ∧ True ∧ Dep w.heap.size w'.heap.size (fun _ => True) ∧ Ext [] w w') := by
 refine calls_fx (l := [.agg #[.slice X.At X.terms.length X.ct, .slice X.An X.nts.length X.cn, .int .i64 X.start, .slice X.Ar X.xs.length X.cr]]) Try.func33 rfl Try.ntmps33 (Nat.le_of_ble_eq_true rfl) (X.begin hM) ?_
 refine c_seq ?_
 refine c_reg ?_
 refine l_box (by decide) rfl _ rfl (fun b1 => ?_)
 refine l_q (by decide) (p_assign rfl).q ?_
 refine l_nil ?_
 refine c_seq ?_
 refine c_seq ?_
 refine c_meetn (S := Unit) (fun zs => True) (fun zs => [(1, .pointer (some ⟨b1, 0, none⟩)), (33, .bool (decide (((((120 < X.terms.length ∨ X.nts.length < 1) ∨ 120 < X.nts.length) ∨ X.xs.length < 1) ∨ 120 < X.xs.length))))]) (fun zs => [iCells b1 25 [.slice X.At X.terms.length X.ct, .slice X.An X.nts.length X.cn, .int .i64 X.start, .slice X.Ar X.xs.length X.cr]]) (fun zs => [Bd X.xs, Sl 3 ruF X.Ar X.xs, Sl 1 strF X.An X.nts, Sl 1 strF X.At X.terms]) ?_ ?_
 ·skip
  refine c_reg ?_
  first | refine l_q (by decide) (p_faddr (i := 0) 0 Try.underlying25 rfl inf_22 (by decide) rfl rfl).q ?_ | refine l_q (by decide) (p_faddro (i := 0) 0 Try.underlying25 rfl inf_22 (by decide) rfl rfl).q ?_
  first | refine l_q (by decide) (r_loado Try.underlying22 rfl rfl (by repeat constructor) (by rfl)).q ?_ | refine l_q (by decide) (r_load1 Try.underlying22 rfl rfl (by first | exact .fact (by repeat constructor) | exact .own (by repeat constructor) (by decide) (fun _ => rfl) | exact SlIn.body (by repeat constructor) (by assumption)) (by first | assumption | rfl) (by rfl)).q ?_ | refine l_q (by decide) (r_loadf Try.underlying22 rfl rfl (by first | exact .fact (by repeat constructor) | exact .own (by repeat constructor) (by decide) (fun _ => rfl) | exact SlIn.body (by repeat constructor) (by assumption)) (by assumption) (by rfl)).q ?_
  refine l_q (by decide) (p_len_sl Try.underlying22 rfl).q ?_
  first | refine l_q (by decide) (p_gtr (j := 120) rfl rfl rfl rfl).q ?_ | refine l_q (by decide) (p_gtri rfl rfl).q ?_
  refine l_q (by decide) (p_move rfl).q ?_
  first | refine l_splitd (t := 10) rfl (fun h10 => ?_) (fun h10 => ?_) | refine l_splitb (t := 10) rfl (fun h10 => ?_) (fun h10 => ?_)
  ·skip
   refine l_off (j := 4) rfl rfl (by first | (simp; done) | (simp [undef]; done)) (by decide) ?_
   refine l_off (j := 4) rfl rfl (by first | (simp; done) | (simp [undef]; done)) (by decide) ?_
   refine l_off (j := 4) rfl rfl (by first | (simp; done) | (simp [undef]; done)) (by decide) ?_
   refine l_off (j := 4) rfl rfl (by first | (simp; done) | (simp [undef]; done)) (by decide) ?_
   refine l_q (by decide) (p_pick rfl rfl).q ?_
   refine l_q (by decide) (p_move rfl).q ?_
   refine l_off (j := 10) rfl rfl (by first | (simp; done) | (simp [undef]; done)) (by decide) ?_
   refine l_off (j := 10) rfl rfl (by first | (simp; done) | (simp [undef]; done)) (by decide) ?_
   refine l_off (j := 10) rfl rfl (by first | (simp; done) | (simp [undef]; done)) (by decide) ?_
   refine l_off (j := 10) rfl rfl (by first | (simp; done) | (simp [undef]; done)) (by decide) ?_
   refine l_q (by decide) (p_pick rfl rfl).q ?_
   refine l_q (by decide) (p_move rfl).q ?_
   refine l_off (j := 16) rfl rfl (by first | (simp; done) | (simp [undef]; done)) (by decide) ?_
   refine l_off (j := 16) rfl rfl (by first | (simp; done) | (simp [undef]; done)) (by decide) ?_
   refine l_off (j := 16) rfl rfl (by first | (simp; done) | (simp [undef]; done)) (by decide) ?_
   refine l_off (j := 16) rfl rfl (by first | (simp; done) | (simp [undef]; done)) (by decide) ?_
   refine l_q (by decide) (p_pick rfl rfl).q ?_
   refine l_q (by decide) (p_move rfl).q ?_
   refine l_off (j := 22) rfl rfl (by first | (simp; done) | (simp [undef]; done)) (by decide) ?_
   refine l_off (j := 22) rfl rfl (by first | (simp; done) | (simp [undef]; done)) (by decide) ?_
   refine l_off (j := 22) rfl rfl (by first | (simp; done) | (simp [undef]; done)) (by decide) ?_
   refine l_off (j := 22) rfl rfl (by first | (simp; done) | (simp [undef]; done)) (by decide) ?_
   refine l_q (by decide) (p_pick rfl rfl).q ?_
   refine l_nil ?_
   refine c_join (()) ?inv ?sub ?perm ?facts
   case sub => exact ⟨rfl, (by first | rfl | exact congrArg (fun b => some (Value.bool b)) (decide_eq_true (by omega)).symm | exact congrArg (fun b => some (Value.bool b)) (decide_eq_false (by omega)).symm | exact congrArg (fun b => some (Value.bool b)) (decide_eq_decide.2 (by omega))), trivial⟩
   case perm =>
    exact .refl _
   case facts => exact fun _ h => h
   case inv =>
    trivial
  ·skip
   first | refine l_g (j := 4) rfl rfl (by decide) (p_faddr (i := 1) 1 Try.underlying25 rfl inf_22 (by decide) rfl rfl).q ?_ | refine l_g (j := 4) rfl rfl (by decide) (p_faddro (i := 1) 1 Try.underlying25 rfl inf_22 (by decide) rfl rfl).q ?_
   first | refine l_g (j := 4) rfl rfl (by decide) (r_loado Try.underlying22 rfl rfl (by repeat constructor) (by rfl)).q ?_ | refine l_g (j := 4) rfl rfl (by decide) (r_load1 Try.underlying22 rfl rfl (by first | exact .fact (by repeat constructor) | exact .own (by repeat constructor) (by decide) (fun _ => rfl) | exact SlIn.body (by repeat constructor) (by assumption)) (by first | assumption | rfl) (by rfl)).q ?_ | refine l_g (j := 4) rfl rfl (by decide) (r_loadf Try.underlying22 rfl rfl (by first | exact .fact (by repeat constructor) | exact .own (by repeat constructor) (by decide) (fun _ => rfl) | exact SlIn.body (by repeat constructor) (by assumption)) (by assumption) (by rfl)).q ?_
   refine l_g (j := 4) rfl rfl (by decide) (p_len_sl Try.underlying22 rfl).q ?_
   first | refine l_g (j := 4) rfl rfl (by decide) (p_lss (j := 1) rfl rfl rfl rfl).q ?_ | refine l_g (j := 4) rfl rfl (by decide) (p_lssi rfl rfl).q ?_
   refine l_q (by decide) (p_pick rfl rfl).q ?_
   refine l_q (by decide) (p_move rfl).q ?_
   first | refine l_splitd (t := 16) rfl (fun h16 => ?_) (fun h16 => ?_) | refine l_splitb (t := 16) rfl (fun h16 => ?_) (fun h16 => ?_)
   ·skip
    refine l_off (j := 10) rfl rfl (by first | (simp; done) | (simp [undef]; done)) (by decide) ?_
    refine l_off (j := 10) rfl rfl (by first | (simp; done) | (simp [undef]; done)) (by decide) ?_
    refine l_off (j := 10) rfl rfl (by first | (simp; done) | (simp [undef]; done)) (by decide) ?_
    refine l_off (j := 10) rfl rfl (by first | (simp; done) | (simp [undef]; done)) (by decide) ?_
    refine l_q (by decide) (p_pick rfl rfl).q ?_
    refine l_q (by decide) (p_move rfl).q ?_
    refine l_off (j := 16) rfl rfl (by first | (simp; done) | (simp [undef]; done)) (by decide) ?_
    refine l_off (j := 16) rfl rfl (by first | (simp; done) | (simp [undef]; done)) (by decide) ?_
    refine l_off (j := 16) rfl rfl (by first | (simp; done) | (simp [undef]; done)) (by decide) ?_
    refine l_off (j := 16) rfl rfl (by first | (simp; done) | (simp [undef]; done)) (by decide) ?_
    refine l_q (by decide) (p_pick rfl rfl).q ?_
    refine l_q (by decide) (p_move rfl).q ?_
    refine l_off (j := 22) rfl rfl (by first | (simp; done) | (simp [undef]; done)) (by decide) ?_
    refine l_off (j := 22) rfl rfl (by first | (simp; done) | (simp [undef]; done)) (by decide) ?_
    refine l_off (j := 22) rfl rfl (by first | (simp; done) | (simp [undef]; done)) (by decide) ?_
    refine l_off (j := 22) rfl rfl (by first | (simp; done) | (simp [undef]; done)) (by decide) ?_
    refine l_q (by decide) (p_pick rfl rfl).q ?_
    refine l_nil ?_
    refine c_join (()) ?inv ?sub ?perm ?facts
    case sub => exact ⟨rfl, (by first | rfl | exact congrArg (fun b => some (Value.bool b)) (decide_eq_true (by omega)).symm | exact congrArg (fun b => some (Value.bool b)) (decide_eq_false (by omega)).symm | exact congrArg (fun b => some (Value.bool b)) (decide_eq_decide.2 (by omega))), trivial⟩
    case perm =>
     exact .refl _
    case facts => exact fun _ h => h
    case inv =>
     trivial
   ·skip
    first | refine l_g (j := 10) rfl rfl (by decide) (p_faddr (i := 1) 1 Try.underlying25 rfl inf_22 (by decide) rfl rfl).q ?_ | refine l_g (j := 10) rfl rfl (by decide) (p_faddro (i := 1) 1 Try.underlying25 rfl inf_22 (by decide) rfl rfl).q ?_
    first | refine l_g (j := 10) rfl rfl (by decide) (r_loado Try.underlying22 rfl rfl (by repeat constructor) (by rfl)).q ?_ | refine l_g (j := 10) rfl rfl (by decide) (r_load1 Try.underlying22 rfl rfl (by first | exact .fact (by repeat constructor) | exact .own (by repeat constructor) (by decide) (fun _ => rfl) | exact SlIn.body (by repeat constructor) (by assumption)) (by first | assumption | rfl) (by rfl)).q ?_ | refine l_g (j := 10) rfl rfl (by decide) (r_loadf Try.underlying22 rfl rfl (by first | exact .fact (by repeat constructor) | exact .own (by repeat constructor) (by decide) (fun _ => rfl) | exact SlIn.body (by repeat constructor) (by assumption)) (by assumption) (by rfl)).q ?_
    refine l_g (j := 10) rfl rfl (by decide) (p_len_sl Try.underlying22 rfl).q ?_
    first | refine l_g (j := 10) rfl rfl (by decide) (p_gtr (j := 120) rfl rfl rfl rfl).q ?_ | refine l_g (j := 10) rfl rfl (by decide) (p_gtri rfl rfl).q ?_
    refine l_q (by decide) (p_pick rfl rfl).q ?_
    refine l_q (by decide) (p_move rfl).q ?_
    first | refine l_splitd (t := 22) rfl (fun h22 => ?_) (fun h22 => ?_) | refine l_splitb (t := 22) rfl (fun h22 => ?_) (fun h22 => ?_)
    ·skip
     refine l_off (j := 16) rfl rfl (by first | (simp; done) | (simp [undef]; done)) (by decide) ?_
     refine l_off (j := 16) rfl rfl (by first | (simp; done) | (simp [undef]; done)) (by decide) ?_
     refine l_off (j := 16) rfl rfl (by first | (simp; done) | (simp [undef]; done)) (by decide) ?_
     refine l_off (j := 16) rfl rfl (by first | (simp; done) | (simp [undef]; done)) (by decide) ?_
     refine l_q (by decide) (p_pick rfl rfl).q ?_
     refine l_q (by decide) (p_move rfl).q ?_
     refine l_off (j := 22) rfl rfl (by first | (simp; done) | (simp [undef]; done)) (by decide) ?_
     refine l_off (j := 22) rfl rfl (by first | (simp; done) | (simp [undef]; done)) (by decide) ?_
     refine l_off (j := 22) rfl rfl (by first | (simp; done) | (simp [undef]; done)) (by decide) ?_
     refine l_off (j := 22) rfl rfl (by first | (simp; done) | (simp [undef]; done)) (by decide) ?_
     refine l_q (by decide) (p_pick rfl rfl).q ?_
     refine l_nil ?_
     refine c_join (()) ?inv ?sub ?perm ?facts
     case sub => exact ⟨rfl, (by first | rfl | exact congrArg (fun b => some (Value.bool b)) (decide_eq_true (by omega)).symm | exact congrArg (fun b => some (Value.bool b)) (decide_eq_false (by omega)).symm | exact congrArg (fun b => some (Value.bool b)) (decide_eq_decide.2 (by omega))), trivial⟩
     case perm =>
      exact .refl _
     case facts => exact fun _ h => h
     case inv =>
      trivial
    ·skip
     first | refine l_g (j := 16) rfl rfl (by decide) (p_faddr (i := 3) 3 Try.underlying25 rfl inf_23 (by decide) rfl rfl).q ?_ | refine l_g (j := 16) rfl rfl (by decide) (p_faddro (i := 3) 3 Try.underlying25 rfl inf_23 (by decide) rfl rfl).q ?_
     first | refine l_g (j := 16) rfl rfl (by decide) (r_loado Try.underlying23 rfl rfl (by repeat constructor) (by rfl)).q ?_ | refine l_g (j := 16) rfl rfl (by decide) (r_load1 Try.underlying23 rfl rfl (by first | exact .fact (by repeat constructor) | exact .own (by repeat constructor) (by decide) (fun _ => rfl) | exact SlIn.body (by repeat constructor) (by assumption)) (by first | assumption | rfl) (by rfl)).q ?_ | refine l_g (j := 16) rfl rfl (by decide) (r_loadf Try.underlying23 rfl rfl (by first | exact .fact (by repeat constructor) | exact .own (by repeat constructor) (by decide) (fun _ => rfl) | exact SlIn.body (by repeat constructor) (by assumption)) (by assumption) (by rfl)).q ?_
     refine l_g (j := 16) rfl rfl (by decide) (p_len_sl Try.underlying23 rfl).q ?_
     first | refine l_g (j := 16) rfl rfl (by decide) (p_lss (j := 1) rfl rfl rfl rfl).q ?_ | refine l_g (j := 16) rfl rfl (by decide) (p_lssi rfl rfl).q ?_
     refine l_q (by decide) (p_pick rfl rfl).q ?_
     refine l_q (by decide) (p_move rfl).q ?_
     first | refine l_splitd (t := 28) rfl (fun h28 => ?_) (fun h28 => ?_) | refine l_splitb (t := 28) rfl (fun h28 => ?_) (fun h28 => ?_)
     ·skip
      refine l_off (j := 22) rfl rfl (by first | (simp; done) | (simp [undef]; done)) (by decide) ?_
      refine l_off (j := 22) rfl rfl (by first | (simp; done) | (simp [undef]; done)) (by decide) ?_
      refine l_off (j := 22) rfl rfl (by first | (simp; done) | (simp [undef]; done)) (by decide) ?_
      refine l_off (j := 22) rfl rfl (by first | (simp; done) | (simp [undef]; done)) (by decide) ?_
      refine l_q (by decide) (p_pick rfl rfl).q ?_
      refine l_nil ?_
      refine c_join (()) ?inv ?sub ?perm ?facts
      case sub => exact ⟨rfl, (by first | rfl | exact congrArg (fun b => some (Value.bool b)) (decide_eq_true (by omega)).symm | exact congrArg (fun b => some (Value.bool b)) (decide_eq_false (by omega)).symm | exact congrArg (fun b => some (Value.bool b)) (decide_eq_decide.2 (by omega))), trivial⟩
      case perm =>
       exact .refl _
      case facts => exact fun _ h => h
      case inv =>
       trivial
     ·skip
      first | refine l_g (j := 22) rfl rfl (by decide) (p_faddr (i := 3) 3 Try.underlying25 rfl inf_23 (by decide) rfl rfl).q ?_ | refine l_g (j := 22) rfl rfl (by decide) (p_faddro (i := 3) 3 Try.underlying25 rfl inf_23 (by decide) rfl rfl).q ?_
      first | refine l_g (j := 22) rfl rfl (by decide) (r_loado Try.underlying23 rfl rfl (by repeat constructor) (by rfl)).q ?_ | refine l_g (j := 22) rfl rfl (by decide) (r_load1 Try.underlying23 rfl rfl (by first | exact .fact (by repeat constructor) | exact .own (by repeat constructor) (by decide) (fun _ => rfl) | exact SlIn.body (by repeat constructor) (by assumption)) (by first | assumption | rfl) (by rfl)).q ?_ | refine l_g (j := 22) rfl rfl (by decide) (r_loadf Try.underlying23 rfl rfl (by first | exact .fact (by repeat constructor) | exact .own (by repeat constructor) (by decide) (fun _ => rfl) | exact SlIn.body (by repeat constructor) (by assumption)) (by assumption) (by rfl)).q ?_
      refine l_g (j := 22) rfl rfl (by decide) (p_len_sl Try.underlying23 rfl).q ?_
      first | refine l_g (j := 22) rfl rfl (by decide) (p_gtr (j := 120) rfl rfl rfl rfl).q ?_ | refine l_g (j := 22) rfl rfl (by decide) (p_gtri rfl rfl).q ?_
      refine l_q (by decide) (p_pick rfl rfl).q ?_
      refine l_nil ?_
      refine c_join (()) ?inv ?sub ?perm ?facts
      case sub => exact ⟨rfl, (by first | rfl | exact congrArg (fun b => some (Value.bool b)) (decide_eq_true (by omega)).symm | exact congrArg (fun b => some (Value.bool b)) (decide_eq_false (by omega)).symm | exact congrArg (fun b => some (Value.bool b)) (decide_eq_decide.2 (by omega))), trivial⟩
      case perm =>
       exact .refl _
      case facts => exact fun _ h => h
      case inv =>
       trivial
 rintro uu hmeet
 show Cont _ _ _ _ [(1, .pointer (some ⟨b1, 0, none⟩)), (33, .bool (decide (((((120 < X.terms.length ∨ X.nts.length < 1) ∨ 120 < X.nts.length) ∨ X.xs.length < 1) ∨ 120 < X.xs.length))))] ([iCells b1 25 [.slice X.At X.terms.length X.ct, .slice X.An X.nts.length X.cn, .int .i64 X.start, .slice X.Ar X.xs.length X.cr]]) [Bd X.xs, Sl 3 ruF X.Ar X.xs, Sl 1 strF X.An X.nts, Sl 1 strF X.At X.terms]
 first | refine c_dec rfl (fun h33 => ?_) (fun h33 => ?_) | refine c_cond rfl (fun h33 => ?_) (fun h33 => ?_)
 ·skip
  refine c_seq ?_
  refine c_reg ?_
  refine l_q (by decide) (p_assign rfl).q ?_
  refine l_nil ?_
  refine c_ret ?_
  refine c_ret1 rfl rfl (fun w hs => ?_)
  exact ⟨⟨false, fun h => by cases h⟩, rfl, trivial, fun _ _ _ h => h, hs.ext⟩
 ·skip
  refine c_skip ?_
  refine c_seq ?_
  refine c_seq ?_
  refine c_reg ?_
  first | refine l_q (by decide) (p_faddr (i := 2) 2 Try.underlying25 rfl inf_3 (by decide) rfl rfl).q ?_ | refine l_q (by decide) (p_faddro (i := 2) 2 Try.underlying25 rfl inf_3 (by decide) rfl rfl).q ?_
  first | refine l_q (by decide) (r_loado Try.underlying3 rfl rfl (by repeat constructor) (by rfl)).q ?_ | refine l_q (by decide) (r_load1 Try.underlying3 rfl rfl (by first | exact .fact (by repeat constructor) | exact .own (by repeat constructor) (by decide) (fun _ => rfl) | exact SlIn.body (by repeat constructor) (by assumption)) (by first | assumption | rfl) (by rfl)).q ?_ | refine l_q (by decide) (r_loadf Try.underlying3 rfl rfl (by first | exact .fact (by repeat constructor) | exact .own (by repeat constructor) (by decide) (fun _ => rfl) | exact SlIn.body (by repeat constructor) (by assumption)) (by assumption) (by rfl)).q ?_
  first | refine l_q (by decide) (p_lss (j := 0) rfl rfl rfl rfl).q ?_ | refine l_q (by decide) (p_lssi rfl rfl).q ?_
  refine l_q (by decide) (p_move rfl).q ?_
  first | refine l_splitd (t := 37) rfl (fun h37 => ?_) (fun h37 => ?_) | refine l_splitb (t := 37) rfl (fun h37 => ?_) (fun h37 => ?_)
  ·skip
   refine l_off (j := 3) rfl rfl (by first | (simp; done) | (simp [undef]; done)) (by decide) ?_
   refine l_off (j := 3) rfl rfl (by first | (simp; done) | (simp [undef]; done)) (by decide) ?_
   refine l_off (j := 3) rfl rfl (by first | (simp; done) | (simp [undef]; done)) (by decide) ?_
   refine l_off (j := 3) rfl rfl (by first | (simp; done) | (simp [undef]; done)) (by decide) ?_
   refine l_off (j := 3) rfl rfl (by first | (simp; done) | (simp [undef]; done)) (by decide) ?_
   refine l_off (j := 3) rfl rfl (by first | (simp; done) | (simp [undef]; done)) (by decide) ?_
   refine l_q (by decide) (p_pick rfl rfl).q ?_
   refine l_q (by decide) (p_move rfl).q ?_
   refine l_off (j := 11) rfl rfl (by first | (simp; done) | (simp [undef]; done)) (by decide) ?_
   refine l_off (j := 11) rfl rfl (by first | (simp; done) | (simp [undef]; done)) (by decide) ?_
   refine l_off (j := 11) rfl rfl (by first | (simp; done) | (simp [undef]; done)) (by decide) ?_
   refine l_off (j := 11) rfl rfl (by first | (simp; done) | (simp [undef]; done)) (by decide) ?_
   refine l_off (j := 11) rfl rfl (by first | (simp; done) | (simp [undef]; done)) (by decide) ?_
   refine l_off (j := 11) rfl rfl (by first | (simp; done) | (simp [undef]; done)) (by decide) ?_
   refine l_q (by decide) (p_pick rfl rfl).q ?_
   refine l_nil ?_
   refine c_true rfl ?_
   refine c_seq ?_
   refine c_reg ?_
   refine l_q (by decide) (p_assign rfl).q ?_
   refine l_nil ?_
   refine c_ret ?_
   refine c_ret1 rfl rfl (fun w hs => ?_)
   exact ⟨⟨false, fun h => by cases h⟩, rfl, trivial, fun _ _ _ h => h, hs.ext⟩
  ·skip
   first | refine l_g (j := 3) rfl rfl (by decide) (p_faddr (i := 2) 2 Try.underlying25 rfl inf_3 (by decide) rfl rfl).q ?_ | refine l_g (j := 3) rfl rfl (by decide) (p_faddro (i := 2) 2 Try.underlying25 rfl inf_3 (by decide) rfl rfl).q ?_
   first | refine l_g (j := 3) rfl rfl (by decide) (r_loado Try.underlying3 rfl rfl (by repeat constructor) (by rfl)).q ?_ | refine l_g (j := 3) rfl rfl (by decide) (r_load1 Try.underlying3 rfl rfl (by first | exact .fact (by repeat constructor) | exact .own (by repeat constructor) (by decide) (fun _ => rfl) | exact SlIn.body (by repeat constructor) (by assumption)) (by first | assumption | rfl) (by rfl)).q ?_ | refine l_g (j := 3) rfl rfl (by decide) (r_loadf Try.underlying3 rfl rfl (by first | exact .fact (by repeat constructor) | exact .own (by repeat constructor) (by decide) (fun _ => rfl) | exact SlIn.body (by repeat constructor) (by assumption)) (by assumption) (by rfl)).q ?_
   first | refine l_g (j := 3) rfl rfl (by decide) (p_faddr (i := 1) 1 Try.underlying25 rfl inf_22 (by decide) rfl rfl).q ?_ | refine l_g (j := 3) rfl rfl (by decide) (p_faddro (i := 1) 1 Try.underlying25 rfl inf_22 (by decide) rfl rfl).q ?_
   first | refine l_g (j := 3) rfl rfl (by decide) (r_loado Try.underlying22 rfl rfl (by repeat constructor) (by rfl)).q ?_ | refine l_g (j := 3) rfl rfl (by decide) (r_load1 Try.underlying22 rfl rfl (by first | exact .fact (by repeat constructor) | exact .own (by repeat constructor) (by decide) (fun _ => rfl) | exact SlIn.body (by repeat constructor) (by assumption)) (by first | assumption | rfl) (by rfl)).q ?_ | refine l_g (j := 3) rfl rfl (by decide) (r_loadf Try.underlying22 rfl rfl (by first | exact .fact (by repeat constructor) | exact .own (by repeat constructor) (by decide) (fun _ => rfl) | exact SlIn.body (by repeat constructor) (by assumption)) (by assumption) (by rfl)).q ?_
   refine l_g (j := 3) rfl rfl (by decide) (p_len_sl Try.underlying22 rfl).q ?_
   first | refine l_g (j := 3) rfl rfl (by decide) (p_geq rfl rfl rfl rfl).q ?_ | refine l_g (j := 3) rfl rfl (by decide) (p_geqi rfl rfl).q ?_
   refine l_q (by decide) (p_pick rfl rfl).q ?_
   refine l_q (by decide) (p_move rfl).q ?_
   first | refine l_splitd (t := 45) rfl (fun h45 => ?_) (fun h45 => ?_) | refine l_splitb (t := 45) rfl (fun h45 => ?_) (fun h45 => ?_)
   ·skip
    refine l_off (j := 11) rfl rfl (by first | (simp; done) | (simp [undef]; done)) (by decide) ?_
    refine l_off (j := 11) rfl rfl (by first | (simp; done) | (simp [undef]; done)) (by decide) ?_
    refine l_off (j := 11) rfl rfl (by first | (simp; done) | (simp [undef]; done)) (by decide) ?_
    refine l_off (j := 11) rfl rfl (by first | (simp; done) | (simp [undef]; done)) (by decide) ?_
    refine l_off (j := 11) rfl rfl (by first | (simp; done) | (simp [undef]; done)) (by decide) ?_
    refine l_off (j := 11) rfl rfl (by first | (simp; done) | (simp [undef]; done)) (by decide) ?_
    refine l_q (by decide) (p_pick rfl rfl).q ?_
    refine l_nil ?_
    refine c_true rfl ?_
    refine c_seq ?_
    refine c_reg ?_
    refine l_q (by decide) (p_assign rfl).q ?_
    refine l_nil ?_
    refine c_ret ?_
    refine c_ret1 rfl rfl (fun w hs => ?_)
    exact ⟨⟨false, fun h => by cases h⟩, rfl, trivial, fun _ _ _ h => h, hs.ext⟩
   ·skip
    first | refine l_g (j := 11) rfl rfl (by decide) (p_faddr (i := 0) 0 Try.underlying25 rfl inf_22 (by decide) rfl rfl).q ?_ | refine l_g (j := 11) rfl rfl (by decide) (p_faddro (i := 0) 0 Try.underlying25 rfl inf_22 (by decide) rfl rfl).q ?_
    first | refine l_g (j := 11) rfl rfl (by decide) (r_loado Try.underlying22 rfl rfl (by repeat constructor) (by rfl)).q ?_ | refine l_g (j := 11) rfl rfl (by decide) (r_load1 Try.underlying22 rfl rfl (by first | exact .fact (by repeat constructor) | exact .own (by repeat constructor) (by decide) (fun _ => rfl) | exact SlIn.body (by repeat constructor) (by assumption)) (by first | assumption | rfl) (by rfl)).q ?_ | refine l_g (j := 11) rfl rfl (by decide) (r_loadf Try.underlying22 rfl rfl (by first | exact .fact (by repeat constructor) | exact .own (by repeat constructor) (by decide) (fun _ => rfl) | exact SlIn.body (by repeat constructor) (by assumption)) (by assumption) (by rfl)).q ?_
    first | refine l_g (j := 11) rfl rfl (by decide) (p_faddr (i := 1) 1 Try.underlying25 rfl inf_22 (by decide) rfl rfl).q ?_ | refine l_g (j := 11) rfl rfl (by decide) (p_faddro (i := 1) 1 Try.underlying25 rfl inf_22 (by decide) rfl rfl).q ?_
    first | refine l_g (j := 11) rfl rfl (by decide) (r_loado Try.underlying22 rfl rfl (by repeat constructor) (by rfl)).q ?_ | refine l_g (j := 11) rfl rfl (by decide) (r_load1 Try.underlying22 rfl rfl (by first | exact .fact (by repeat constructor) | exact .own (by repeat constructor) (by decide) (fun _ => rfl) | exact SlIn.body (by repeat constructor) (by assumption)) (by first | assumption | rfl) (by rfl)).q ?_ | refine l_g (j := 11) rfl rfl (by decide) (r_loadf Try.underlying22 rfl rfl (by first | exact .fact (by repeat constructor) | exact .own (by repeat constructor) (by decide) (fun _ => rfl) | exact SlIn.body (by repeat constructor) (by assumption)) (by assumption) (by rfl)).q ?_
    refine l_strip (j := 11) rfl rfl ?_
    refine l_call (X := BW (True)) (fun x => .bool x.1) (fun _ _ => True) (by decide) call_49 rfl (fun w hs => names_ok X.At X.An X.ct X.cn X.terms X.nts (by omega) (by omega) w (hs.facts (Sl 1 strF X.At X.terms) (by repeat constructor)).1 (hs.facts (Sl 1 strF X.An X.nts) (by repeat constructor)).1) (fun x50 => ?_)
    first | refine l_g (j := 11) rfl rfl (by decide) (p_notd rfl).q ?_ | refine l_g (j := 11) rfl rfl (by decide) (p_not rfl).q ?_
    refine l_q (by decide) (p_pick rfl rfl).q ?_
    refine l_nil ?_
    first | refine c_dec rfl (fun h52 => ?_) (fun h52 => ?_) | refine c_cond rfl (fun h52 => ?_) (fun h52 => ?_)
    ·skip
     refine c_seq ?_
     refine c_reg ?_
     refine l_q (by decide) (p_assign rfl).q ?_
     refine l_nil ?_
     refine c_ret ?_
     refine c_ret1 rfl rfl (fun w hs => ?_)
     exact ⟨⟨false, fun h => by cases h⟩, rfl, trivial, fun _ _ _ h => h, hs.ext⟩
    ·skip
     refine c_skip ?_
     refine c_seq ?_
     refine c_seq ?_
     refine c_reg ?_
     refine l_q (by decide) (p_assign (v := .int .i64 ((0 : Nat) : Int)) rfl).q ?_
     refine l_nil ?_
     refine c_block ?_
     refine c_loop (S := Nat) (fun zs => zs ≤ X.xs.length ∧ ∀ z, z ∈ X.xs.take zs → okR X.g z.r) (fun zs => X.xs.length - zs) (fun zs => [(1, .pointer (some ⟨b1, 0, none⟩)), (3, .int .i64 (zs : Int))]) (fun zs => [iCells b1 25 [.slice X.At X.terms.length X.ct, .slice X.An X.nts.length X.cn, .int .i64 X.start, .slice X.Ar X.xs.length X.cr]]) (fun zs => [fun _ => True, Bd X.xs, Sl 3 ruF X.Ar X.xs, Sl 1 strF X.An X.nts, Sl 1 strF X.At X.terms]) (0) ?_ ?_ ?_ ?_ ?_
     · show (0) ≤ X.xs.length ∧ ∀ z, z ∈ X.xs.take (0) → okR X.g z.r
       exact ⟨Nat.zero_le _, fun z h => absurd h (by simp)⟩
     · exact ⟨rfl, rfl, trivial⟩
     · exact .refl _
     · exact fun _ h => h
     rintro k hinv
     have hinv : k ≤ X.xs.length ∧ ∀ z, z ∈ X.xs.take k → okR X.g z.r := hinv
     obtain ⟨hk, he⟩ := hinv
     show Cont _ _ _ _ [(1, .pointer (some ⟨b1, 0, none⟩)), (3, .int .i64 (k : Int))] ([iCells b1 25 [.slice X.At X.terms.length X.ct, .slice X.An X.nts.length X.cn, .int .i64 X.start, .slice X.Ar X.xs.length X.cr]]) [fun _ => True, Bd X.xs, Sl 3 ruF X.Ar X.xs, Sl 1 strF X.An X.nts, Sl 1 strF X.At X.terms]
     refine c_seq ?_
     refine c_seq ?_
     refine c_reg ?_
     refine l_q (by decide) (p_move rfl).q ?_
     first | refine l_q (by decide) (p_faddr (i := 3) 3 Try.underlying25 rfl inf_23 (by decide) rfl rfl).q ?_ | refine l_q (by decide) (p_faddro (i := 3) 3 Try.underlying25 rfl inf_23 (by decide) rfl rfl).q ?_
     first | refine l_q (by decide) (r_loado Try.underlying23 rfl rfl (by repeat constructor) (by rfl)).q ?_ | refine l_q (by decide) (r_load1 Try.underlying23 rfl rfl (by first | exact .fact (by repeat constructor) | exact .own (by repeat constructor) (by decide) (fun _ => rfl) | exact SlIn.body (by repeat constructor) (by assumption)) (by first | assumption | rfl) (by rfl)).q ?_ | refine l_q (by decide) (r_loadf Try.underlying23 rfl rfl (by first | exact .fact (by repeat constructor) | exact .own (by repeat constructor) (by decide) (fun _ => rfl) | exact SlIn.body (by repeat constructor) (by assumption)) (by assumption) (by rfl)).q ?_
     refine l_q (by decide) (p_len_sl Try.underlying23 rfl).q ?_
     first | refine l_q (by decide) (p_lss rfl rfl rfl rfl).q ?_ | refine l_q (by decide) (p_lssi rfl rfl).q ?_
     refine l_nil ?_
     first | refine c_dec rfl (fun h57 => ?_) (fun h57 => ?_) | refine c_cond rfl (fun h57 => ?_) (fun h57 => ?_)
     ·skip
      obtain ⟨x, hx⟩ := at_some (l := X.xs) (n := k) (by omega)
      have hxb := hX.b x (List.mem_of_getElem? hx)
      refine c_skip ?_
      refine c_seq ?_
      refine c_block ?_
      refine c_seq ?_
      refine c_reg ?_
      first | refine l_q (by decide) (p_faddr (i := 3) 3 Try.underlying25 rfl inf_23 (by decide) rfl rfl).q ?_ | refine l_q (by decide) (p_faddro (i := 3) 3 Try.underlying25 rfl inf_23 (by decide) rfl rfl).q ?_
      first | refine l_q (by decide) (r_loado Try.underlying23 rfl rfl (by repeat constructor) (by rfl)).q ?_ | refine l_q (by decide) (r_load1 Try.underlying23 rfl rfl (by first | exact .fact (by repeat constructor) | exact .own (by repeat constructor) (by decide) (fun _ => rfl) | exact SlIn.body (by repeat constructor) (by assumption)) (by first | assumption | rfl) (by rfl)).q ?_ | refine l_q (by decide) (r_loadf Try.underlying23 rfl rfl (by first | exact .fact (by repeat constructor) | exact .own (by repeat constructor) (by decide) (fun _ => rfl) | exact SlIn.body (by repeat constructor) (by assumption)) (by assumption) (by rfl)).q ?_
      refine l_q (by decide) (p_move rfl).q ?_
      first | refine l_q (by decide) (r_index Try.underlying23 inf_41 rfl rfl rfl (by first | exact .fact (by repeat constructor) | exact .own (by repeat constructor) (by decide) (fun _ => rfl) | exact SlIn.body (by repeat constructor) (by assumption)) rfl (by omega)).q ?_ | refine l_q (by decide) (r_index Try.underlying23 inf_41 rfl rfl rfl (by first | exact .fact (by repeat constructor) | exact .own (by repeat constructor) (by decide) (fun _ => rfl) | exact SlIn.body (by repeat constructor) (by assumption)) rfl (by decide)).q ?_ | refine l_q (by decide) (p_indexo Try.underlying23 inf_41 rfl rfl rfl (by omega)).q ?_
      first | refine l_q (by decide) (r_loada Try.underlying41 rfl inf_41 rfl (by first | exact .fact (by repeat constructor) | exact .own (by repeat constructor) (by decide) (fun _ => rfl) | exact SlIn.body (by repeat constructor) (by assumption)) (by assumption)).q ?_ | refine l_q (by decide) (r_loadow Try.underlying41 rfl inf_41 rfl (by repeat constructor) (by rfl)).q ?_ | refine l_q (by decide) (r_loadoa Try.underlying41 rfl inf_41 rfl (by repeat constructor) (by rfl) (fun j u h => h)).q ?_
      refine l_alloc (by decide) inf_41 _ rfl (fun b4 => ?_)
      first | (refine l_storew inf_41 rfl rfl rfl rfl rfl ?_) | (refine l_perm (front1 _ _ _) ?_; refine l_storew inf_41 rfl rfl rfl rfl rfl ?_) | (refine l_perm (front2 _ _ _ _) ?_; refine l_storew inf_41 rfl rfl rfl rfl rfl ?_) | (refine l_perm (front3 _ _ _ _ _) ?_; refine l_storew inf_41 rfl rfl rfl rfl rfl ?_) | (refine l_perm (front4 _ _ _ _ _ _) ?_; refine l_storew inf_41 rfl rfl rfl rfl rfl ?_) | (refine l_storea inf_41 rfl rfl rfl rfl (by decide) ?_) | (refine l_perm (front1 _ _ _) ?_; refine l_storea inf_41 rfl rfl rfl rfl (by decide) ?_) | (refine l_perm (front2 _ _ _ _) ?_; refine l_storea inf_41 rfl rfl rfl rfl (by decide) ?_)
      refine l_nil ?_
      refine c_seq ?_
      refine c_seq ?_
      refine c_meetn (S := Unit) (fun zs => True) (fun zs => [(1, .pointer (some ⟨b1, 0, none⟩)), (3, .int .i64 (k : Int)), (4, .pointer (some ⟨b4, 0, none⟩)), (91, .bool (decide (((((x.r.head < 0 ∨ x.r.head ≥ (X.nts.length : Int)) ∨ 12 < x.r.body.length) ∨ x.r.price < 0) ∨ x.r.price > 1000))))]) (fun zs => [iCells b4 41 (ruF x), iCells b1 25 [.slice X.At X.terms.length X.ct, .slice X.An X.nts.length X.cn, .int .i64 X.start, .slice X.Ar X.xs.length X.cr]]) (fun zs => [fun _ => True, Bd X.xs, Sl 3 ruF X.Ar X.xs, Sl 1 strF X.An X.nts, Sl 1 strF X.At X.terms]) ?_ ?_
      ·skip
       refine c_reg ?_
       first | refine l_q (by decide) (p_faddr (i := 0) 0 Try.underlying41 rfl inf_3 (by decide) rfl rfl).q ?_ | refine l_q (by decide) (p_faddro (i := 0) 0 Try.underlying41 rfl inf_3 (by decide) rfl rfl).q ?_
       first | refine l_q (by decide) (r_loado Try.underlying3 rfl rfl (by repeat constructor) (by rfl)).q ?_ | refine l_q (by decide) (r_load1 Try.underlying3 rfl rfl (by first | exact .fact (by repeat constructor) | exact .own (by repeat constructor) (by decide) (fun _ => rfl) | exact SlIn.body (by repeat constructor) (by assumption)) (by first | assumption | rfl) (by rfl)).q ?_ | refine l_q (by decide) (r_loadf Try.underlying3 rfl rfl (by first | exact .fact (by repeat constructor) | exact .own (by repeat constructor) (by decide) (fun _ => rfl) | exact SlIn.body (by repeat constructor) (by assumption)) (by assumption) (by rfl)).q ?_
       first | refine l_q (by decide) (p_lss (j := 0) rfl rfl rfl rfl).q ?_ | refine l_q (by decide) (p_lssi rfl rfl).q ?_
       refine l_q (by decide) (p_move rfl).q ?_
       first | refine l_splitd (t := 68) rfl (fun h68 => ?_) (fun h68 => ?_) | refine l_splitb (t := 68) rfl (fun h68 => ?_) (fun h68 => ?_)
       ·skip
        refine l_off (j := 3) rfl rfl (by first | (simp; done) | (simp [undef]; done)) (by decide) ?_
        refine l_off (j := 3) rfl rfl (by first | (simp; done) | (simp [undef]; done)) (by decide) ?_
        refine l_off (j := 3) rfl rfl (by first | (simp; done) | (simp [undef]; done)) (by decide) ?_
        refine l_off (j := 3) rfl rfl (by first | (simp; done) | (simp [undef]; done)) (by decide) ?_
        refine l_off (j := 3) rfl rfl (by first | (simp; done) | (simp [undef]; done)) (by decide) ?_
        refine l_off (j := 3) rfl rfl (by first | (simp; done) | (simp [undef]; done)) (by decide) ?_
        refine l_q (by decide) (p_pick rfl rfl).q ?_
        refine l_q (by decide) (p_move rfl).q ?_
        refine l_off (j := 11) rfl rfl (by first | (simp; done) | (simp [undef]; done)) (by decide) ?_
        refine l_off (j := 11) rfl rfl (by first | (simp; done) | (simp [undef]; done)) (by decide) ?_
        refine l_off (j := 11) rfl rfl (by first | (simp; done) | (simp [undef]; done)) (by decide) ?_
        refine l_off (j := 11) rfl rfl (by first | (simp; done) | (simp [undef]; done)) (by decide) ?_
        refine l_q (by decide) (p_pick rfl rfl).q ?_
        refine l_q (by decide) (p_move rfl).q ?_
        refine l_off (j := 17) rfl rfl (by first | (simp; done) | (simp [undef]; done)) (by decide) ?_
        refine l_off (j := 17) rfl rfl (by first | (simp; done) | (simp [undef]; done)) (by decide) ?_
        refine l_off (j := 17) rfl rfl (by first | (simp; done) | (simp [undef]; done)) (by decide) ?_
        refine l_q (by decide) (p_pick rfl rfl).q ?_
        refine l_q (by decide) (p_move rfl).q ?_
        refine l_off (j := 22) rfl rfl (by first | (simp; done) | (simp [undef]; done)) (by decide) ?_
        refine l_off (j := 22) rfl rfl (by first | (simp; done) | (simp [undef]; done)) (by decide) ?_
        refine l_off (j := 22) rfl rfl (by first | (simp; done) | (simp [undef]; done)) (by decide) ?_
        refine l_q (by decide) (p_pick rfl rfl).q ?_
        refine l_nil ?_
        refine c_join (()) ?inv ?sub ?perm ?facts
        case sub => exact ⟨rfl, rfl, rfl, (by first | rfl | exact congrArg (fun b => some (Value.bool b)) (decide_eq_true (by omega)).symm | exact congrArg (fun b => some (Value.bool b)) (decide_eq_false (by omega)).symm | exact congrArg (fun b => some (Value.bool b)) (decide_eq_decide.2 (by omega))), trivial⟩
        case perm =>
         exact .refl _
        case facts => exact fun _ h => h
        case inv =>
         trivial
       ·skip
        first | refine l_g (j := 3) rfl rfl (by decide) (p_faddr (i := 0) 0 Try.underlying41 rfl inf_3 (by decide) rfl rfl).q ?_ | refine l_g (j := 3) rfl rfl (by decide) (p_faddro (i := 0) 0 Try.underlying41 rfl inf_3 (by decide) rfl rfl).q ?_
        first | refine l_g (j := 3) rfl rfl (by decide) (r_loado Try.underlying3 rfl rfl (by repeat constructor) (by rfl)).q ?_ | refine l_g (j := 3) rfl rfl (by decide) (r_load1 Try.underlying3 rfl rfl (by first | exact .fact (by repeat constructor) | exact .own (by repeat constructor) (by decide) (fun _ => rfl) | exact SlIn.body (by repeat constructor) (by assumption)) (by first | assumption | rfl) (by rfl)).q ?_ | refine l_g (j := 3) rfl rfl (by decide) (r_loadf Try.underlying3 rfl rfl (by first | exact .fact (by repeat constructor) | exact .own (by repeat constructor) (by decide) (fun _ => rfl) | exact SlIn.body (by repeat constructor) (by assumption)) (by assumption) (by rfl)).q ?_
        first | refine l_g (j := 3) rfl rfl (by decide) (p_faddr (i := 1) 1 Try.underlying25 rfl inf_22 (by decide) rfl rfl).q ?_ | refine l_g (j := 3) rfl rfl (by decide) (p_faddro (i := 1) 1 Try.underlying25 rfl inf_22 (by decide) rfl rfl).q ?_
        first | refine l_g (j := 3) rfl rfl (by decide) (r_loado Try.underlying22 rfl rfl (by repeat constructor) (by rfl)).q ?_ | refine l_g (j := 3) rfl rfl (by decide) (r_load1 Try.underlying22 rfl rfl (by first | exact .fact (by repeat constructor) | exact .own (by repeat constructor) (by decide) (fun _ => rfl) | exact SlIn.body (by repeat constructor) (by assumption)) (by first | assumption | rfl) (by rfl)).q ?_ | refine l_g (j := 3) rfl rfl (by decide) (r_loadf Try.underlying22 rfl rfl (by first | exact .fact (by repeat constructor) | exact .own (by repeat constructor) (by decide) (fun _ => rfl) | exact SlIn.body (by repeat constructor) (by assumption)) (by assumption) (by rfl)).q ?_
        refine l_g (j := 3) rfl rfl (by decide) (p_len_sl Try.underlying22 rfl).q ?_
        first | refine l_g (j := 3) rfl rfl (by decide) (p_geq rfl rfl rfl rfl).q ?_ | refine l_g (j := 3) rfl rfl (by decide) (p_geqi rfl rfl).q ?_
        refine l_q (by decide) (p_pick rfl rfl).q ?_
        refine l_q (by decide) (p_move rfl).q ?_
        first | refine l_splitd (t := 76) rfl (fun h76 => ?_) (fun h76 => ?_) | refine l_splitb (t := 76) rfl (fun h76 => ?_) (fun h76 => ?_)
        ·skip
         refine l_off (j := 11) rfl rfl (by first | (simp; done) | (simp [undef]; done)) (by decide) ?_
         refine l_off (j := 11) rfl rfl (by first | (simp; done) | (simp [undef]; done)) (by decide) ?_
         refine l_off (j := 11) rfl rfl (by first | (simp; done) | (simp [undef]; done)) (by decide) ?_
         refine l_off (j := 11) rfl rfl (by first | (simp; done) | (simp [undef]; done)) (by decide) ?_
         refine l_q (by decide) (p_pick rfl rfl).q ?_
         refine l_q (by decide) (p_move rfl).q ?_
         refine l_off (j := 17) rfl rfl (by first | (simp; done) | (simp [undef]; done)) (by decide) ?_
         refine l_off (j := 17) rfl rfl (by first | (simp; done) | (simp [undef]; done)) (by decide) ?_
         refine l_off (j := 17) rfl rfl (by first | (simp; done) | (simp [undef]; done)) (by decide) ?_
         refine l_q (by decide) (p_pick rfl rfl).q ?_
         refine l_q (by decide) (p_move rfl).q ?_
         refine l_off (j := 22) rfl rfl (by first | (simp; done) | (simp [undef]; done)) (by decide) ?_
         refine l_off (j := 22) rfl rfl (by first | (simp; done) | (simp [undef]; done)) (by decide) ?_
         refine l_off (j := 22) rfl rfl (by first | (simp; done) | (simp [undef]; done)) (by decide) ?_
         refine l_q (by decide) (p_pick rfl rfl).q ?_
         refine l_nil ?_
         refine c_join (()) ?inv ?sub ?perm ?facts
         case sub => exact ⟨rfl, rfl, rfl, (by first | rfl | exact congrArg (fun b => some (Value.bool b)) (decide_eq_true (by omega)).symm | exact congrArg (fun b => some (Value.bool b)) (decide_eq_false (by omega)).symm | exact congrArg (fun b => some (Value.bool b)) (decide_eq_decide.2 (by omega))), trivial⟩
         case perm =>
          exact .refl _
         case facts => exact fun _ h => h
         case inv =>
          trivial
        ·skip
         first | refine l_g (j := 11) rfl rfl (by decide) (p_faddr (i := 1) 1 Try.underlying41 rfl inf_39 (by decide) rfl rfl).q ?_ | refine l_g (j := 11) rfl rfl (by decide) (p_faddro (i := 1) 1 Try.underlying41 rfl inf_39 (by decide) rfl rfl).q ?_
         first | refine l_g (j := 11) rfl rfl (by decide) (r_loado Try.underlying39 rfl rfl (by repeat constructor) (by rfl)).q ?_ | refine l_g (j := 11) rfl rfl (by decide) (r_load1 Try.underlying39 rfl rfl (by first | exact .fact (by repeat constructor) | exact .own (by repeat constructor) (by decide) (fun _ => rfl) | exact SlIn.body (by repeat constructor) (by assumption)) (by first | assumption | rfl) (by rfl)).q ?_ | refine l_g (j := 11) rfl rfl (by decide) (r_loadf Try.underlying39 rfl rfl (by first | exact .fact (by repeat constructor) | exact .own (by repeat constructor) (by decide) (fun _ => rfl) | exact SlIn.body (by repeat constructor) (by assumption)) (by assumption) (by rfl)).q ?_
         refine l_g (j := 11) rfl rfl (by decide) (p_len_sl Try.underlying39 rfl).q ?_
         first | refine l_g (j := 11) rfl rfl (by decide) (p_gtr (j := 12) rfl rfl rfl rfl).q ?_ | refine l_g (j := 11) rfl rfl (by decide) (p_gtri rfl rfl).q ?_
         refine l_q (by decide) (p_pick rfl rfl).q ?_
         refine l_q (by decide) (p_move rfl).q ?_
         first | refine l_splitd (t := 82) rfl (fun h82 => ?_) (fun h82 => ?_) | refine l_splitb (t := 82) rfl (fun h82 => ?_) (fun h82 => ?_)
         ·skip
          refine l_off (j := 17) rfl rfl (by first | (simp; done) | (simp [undef]; done)) (by decide) ?_
          refine l_off (j := 17) rfl rfl (by first | (simp; done) | (simp [undef]; done)) (by decide) ?_
          refine l_off (j := 17) rfl rfl (by first | (simp; done) | (simp [undef]; done)) (by decide) ?_
          refine l_q (by decide) (p_pick rfl rfl).q ?_
          refine l_q (by decide) (p_move rfl).q ?_
          refine l_off (j := 22) rfl rfl (by first | (simp; done) | (simp [undef]; done)) (by decide) ?_
          refine l_off (j := 22) rfl rfl (by first | (simp; done) | (simp [undef]; done)) (by decide) ?_
          refine l_off (j := 22) rfl rfl (by first | (simp; done) | (simp [undef]; done)) (by decide) ?_
          refine l_q (by decide) (p_pick rfl rfl).q ?_
          refine l_nil ?_
          refine c_join (()) ?inv ?sub ?perm ?facts
          case sub => exact ⟨rfl, rfl, rfl, (by first | rfl | exact congrArg (fun b => some (Value.bool b)) (decide_eq_true (by omega)).symm | exact congrArg (fun b => some (Value.bool b)) (decide_eq_false (by omega)).symm | exact congrArg (fun b => some (Value.bool b)) (decide_eq_decide.2 (by omega))), trivial⟩
          case perm =>
           exact .refl _
          case facts => exact fun _ h => h
          case inv =>
           trivial
         ·skip
          first | refine l_g (j := 17) rfl rfl (by decide) (p_faddr (i := 2) 2 Try.underlying41 rfl inf_3 (by decide) rfl rfl).q ?_ | refine l_g (j := 17) rfl rfl (by decide) (p_faddro (i := 2) 2 Try.underlying41 rfl inf_3 (by decide) rfl rfl).q ?_
          first | refine l_g (j := 17) rfl rfl (by decide) (r_loado Try.underlying3 rfl rfl (by repeat constructor) (by rfl)).q ?_ | refine l_g (j := 17) rfl rfl (by decide) (r_load1 Try.underlying3 rfl rfl (by first | exact .fact (by repeat constructor) | exact .own (by repeat constructor) (by decide) (fun _ => rfl) | exact SlIn.body (by repeat constructor) (by assumption)) (by first | assumption | rfl) (by rfl)).q ?_ | refine l_g (j := 17) rfl rfl (by decide) (r_loadf Try.underlying3 rfl rfl (by first | exact .fact (by repeat constructor) | exact .own (by repeat constructor) (by decide) (fun _ => rfl) | exact SlIn.body (by repeat constructor) (by assumption)) (by assumption) (by rfl)).q ?_
          first | refine l_g (j := 17) rfl rfl (by decide) (p_lss (j := 0) rfl rfl rfl rfl).q ?_ | refine l_g (j := 17) rfl rfl (by decide) (p_lssi rfl rfl).q ?_
          refine l_q (by decide) (p_pick rfl rfl).q ?_
          refine l_q (by decide) (p_move rfl).q ?_
          first | refine l_splitd (t := 87) rfl (fun h87 => ?_) (fun h87 => ?_) | refine l_splitb (t := 87) rfl (fun h87 => ?_) (fun h87 => ?_)
          ·skip
           refine l_off (j := 22) rfl rfl (by first | (simp; done) | (simp [undef]; done)) (by decide) ?_
           refine l_off (j := 22) rfl rfl (by first | (simp; done) | (simp [undef]; done)) (by decide) ?_
           refine l_off (j := 22) rfl rfl (by first | (simp; done) | (simp [undef]; done)) (by decide) ?_
           refine l_q (by decide) (p_pick rfl rfl).q ?_
           refine l_nil ?_
           refine c_join (()) ?inv ?sub ?perm ?facts
           case sub => exact ⟨rfl, rfl, rfl, (by first | rfl | exact congrArg (fun b => some (Value.bool b)) (decide_eq_true (by omega)).symm | exact congrArg (fun b => some (Value.bool b)) (decide_eq_false (by omega)).symm | exact congrArg (fun b => some (Value.bool b)) (decide_eq_decide.2 (by omega))), trivial⟩
           case perm =>
            exact .refl _
           case facts => exact fun _ h => h
           case inv =>
            trivial
          ·skip
           first | refine l_g (j := 22) rfl rfl (by decide) (p_faddr (i := 2) 2 Try.underlying41 rfl inf_3 (by decide) rfl rfl).q ?_ | refine l_g (j := 22) rfl rfl (by decide) (p_faddro (i := 2) 2 Try.underlying41 rfl inf_3 (by decide) rfl rfl).q ?_
           first | refine l_g (j := 22) rfl rfl (by decide) (r_loado Try.underlying3 rfl rfl (by repeat constructor) (by rfl)).q ?_ | refine l_g (j := 22) rfl rfl (by decide) (r_load1 Try.underlying3 rfl rfl (by first | exact .fact (by repeat constructor) | exact .own (by repeat constructor) (by decide) (fun _ => rfl) | exact SlIn.body (by repeat constructor) (by assumption)) (by first | assumption | rfl) (by rfl)).q ?_ | refine l_g (j := 22) rfl rfl (by decide) (r_loadf Try.underlying3 rfl rfl (by first | exact .fact (by repeat constructor) | exact .own (by repeat constructor) (by decide) (fun _ => rfl) | exact SlIn.body (by repeat constructor) (by assumption)) (by assumption) (by rfl)).q ?_
           first | refine l_g (j := 22) rfl rfl (by decide) (p_gtr (j := 1000) rfl rfl rfl rfl).q ?_ | refine l_g (j := 22) rfl rfl (by decide) (p_gtri rfl rfl).q ?_
           refine l_q (by decide) (p_pick rfl rfl).q ?_
           refine l_nil ?_
           refine c_join (()) ?inv ?sub ?perm ?facts
           case sub => exact ⟨rfl, rfl, rfl, (by first | rfl | exact congrArg (fun b => some (Value.bool b)) (decide_eq_true (by omega)).symm | exact congrArg (fun b => some (Value.bool b)) (decide_eq_false (by omega)).symm | exact congrArg (fun b => some (Value.bool b)) (decide_eq_decide.2 (by omega))), trivial⟩
           case perm =>
            exact .refl _
           case facts => exact fun _ h => h
           case inv =>
            trivial
      rintro uu hmeet
      show Cont _ _ _ _ [(1, .pointer (some ⟨b1, 0, none⟩)), (3, .int .i64 (k : Int)), (4, .pointer (some ⟨b4, 0, none⟩)), (91, .bool (decide (((((x.r.head < 0 ∨ x.r.head ≥ (X.nts.length : Int)) ∨ 12 < x.r.body.length) ∨ x.r.price < 0) ∨ x.r.price > 1000))))] ([iCells b4 41 (ruF x), iCells b1 25 [.slice X.At X.terms.length X.ct, .slice X.An X.nts.length X.cn, .int .i64 X.start, .slice X.Ar X.xs.length X.cr]]) [fun _ => True, Bd X.xs, Sl 3 ruF X.Ar X.xs, Sl 1 strF X.An X.nts, Sl 1 strF X.At X.terms]
      first | refine c_dec rfl (fun h91 => ?_) (fun h91 => ?_) | refine c_cond rfl (fun h91 => ?_) (fun h91 => ?_)
      ·skip
       refine c_seq ?_
       refine c_reg ?_
       refine l_q (by decide) (p_assign rfl).q ?_
       refine l_nil ?_
       refine c_ret ?_
       refine c_ret1 rfl rfl (fun w hs => ?_)
       exact ⟨⟨false, fun h => by cases h⟩, rfl, trivial, fun _ _ _ h => h, hs.ext⟩
      ·skip
       refine c_skip ?_
       refine c_seq ?_
       refine c_reg ?_
       refine l_q (by decide) (p_assign (v := .int .i64 ((0 : Nat) : Int)) rfl).q ?_
       refine l_nil ?_
       refine c_block ?_
       refine c_loop (S := Nat) (fun zs => zs ≤ x.r.body.length ∧ ∀ y, y ∈ x.r.body.take zs → y < (X.terms.length : Int) ∧ -(X.nts.length : Int) ≤ y) (fun zs => x.r.body.length - zs) (fun zs => [(1, .pointer (some ⟨b1, 0, none⟩)), (3, .int .i64 (k : Int)), (4, .pointer (some ⟨b4, 0, none⟩)), (5, .int .i64 (zs : Int))]) (fun zs => [iCells b4 41 (ruF x), iCells b1 25 [.slice X.At X.terms.length X.ct, .slice X.An X.nts.length X.cn, .int .i64 X.start, .slice X.Ar X.xs.length X.cr]]) (fun zs => [fun _ => True, Bd X.xs, Sl 3 ruF X.Ar X.xs, Sl 1 strF X.An X.nts, Sl 1 strF X.At X.terms]) (0) ?_ ?_ ?_ ?_ ?_
       · show (0) ≤ x.r.body.length ∧ ∀ y, y ∈ x.r.body.take (0) → y < (X.terms.length : Int) ∧ -(X.nts.length : Int) ≤ y
         exact ⟨Nat.zero_le _, fun z h => absurd h (by simp)⟩
       · exact ⟨rfl, rfl, rfl, rfl, trivial⟩
       · exact .refl _
       · exact fun _ h => h
       rintro j hinv
       have hinv : j ≤ x.r.body.length ∧ ∀ y, y ∈ x.r.body.take j → y < (X.terms.length : Int) ∧ -(X.nts.length : Int) ≤ y := hinv
       obtain ⟨hj, hej⟩ := hinv
       show Cont _ _ _ _ [(1, .pointer (some ⟨b1, 0, none⟩)), (3, .int .i64 (k : Int)), (4, .pointer (some ⟨b4, 0, none⟩)), (5, .int .i64 (j : Int))] ([iCells b4 41 (ruF x), iCells b1 25 [.slice X.At X.terms.length X.ct, .slice X.An X.nts.length X.cn, .int .i64 X.start, .slice X.Ar X.xs.length X.cr]]) [fun _ => True, Bd X.xs, Sl 3 ruF X.Ar X.xs, Sl 1 strF X.An X.nts, Sl 1 strF X.At X.terms]
       refine c_seq ?_
       refine c_seq ?_
       refine c_reg ?_
       refine l_q (by decide) (p_move rfl).q ?_
       first | refine l_q (by decide) (p_faddr (i := 1) 1 Try.underlying41 rfl inf_39 (by decide) rfl rfl).q ?_ | refine l_q (by decide) (p_faddro (i := 1) 1 Try.underlying41 rfl inf_39 (by decide) rfl rfl).q ?_
       first | refine l_q (by decide) (r_loado Try.underlying39 rfl rfl (by repeat constructor) (by rfl)).q ?_ | refine l_q (by decide) (r_load1 Try.underlying39 rfl rfl (by first | exact .fact (by repeat constructor) | exact .own (by repeat constructor) (by decide) (fun _ => rfl) | exact SlIn.body (by repeat constructor) (by assumption)) (by first | assumption | rfl) (by rfl)).q ?_ | refine l_q (by decide) (r_loadf Try.underlying39 rfl rfl (by first | exact .fact (by repeat constructor) | exact .own (by repeat constructor) (by decide) (fun _ => rfl) | exact SlIn.body (by repeat constructor) (by assumption)) (by assumption) (by rfl)).q ?_
       refine l_q (by decide) (p_len_sl Try.underlying39 rfl).q ?_
       first | refine l_q (by decide) (p_lss rfl rfl rfl rfl).q ?_ | refine l_q (by decide) (p_lssi rfl rfl).q ?_
       refine l_nil ?_
       first | refine c_dec rfl (fun h96 => ?_) (fun h96 => ?_) | refine c_cond rfl (fun h96 => ?_) (fun h96 => ?_)
       ·skip
        obtain ⟨y, hy⟩ := at_some (l := x.r.body) (n := j) (by omega)
        refine c_skip ?_
        refine c_seq ?_
        refine c_block ?_
        refine c_seq ?_
        refine c_meetn (S := Unit) (fun zs => True) (fun zs => [(1, .pointer (some ⟨b1, 0, none⟩)), (3, .int .i64 (k : Int)), (4, .pointer (some ⟨b4, 0, none⟩)), (5, .int .i64 (j : Int)), (119, .bool (decide ((y ≥ (X.terms.length : Int) ∨ y < -(X.nts.length : Int)))))]) (fun zs => [iCells b4 41 (ruF x), iCells b1 25 [.slice X.At X.terms.length X.ct, .slice X.An X.nts.length X.cn, .int .i64 X.start, .slice X.Ar X.xs.length X.cr]]) (fun zs => [fun _ => True, Bd X.xs, Sl 3 ruF X.Ar X.xs, Sl 1 strF X.An X.nts, Sl 1 strF X.At X.terms]) ?_ ?_
        ·skip
         refine c_draw mixed (by decide +kernel) ?_
         first | refine q_q (by decide) (p_faddr (i := 1) 1 Try.underlying41 rfl inf_39 (by decide) rfl rfl).q ?_ | refine q_q (by decide) (p_faddro (i := 1) 1 Try.underlying41 rfl inf_39 (by decide) rfl rfl).q ?_
         first | refine q_q (by decide) (r_loado Try.underlying39 rfl rfl (by repeat constructor) (by rfl)).q ?_ | refine q_q (by decide) (r_load1 Try.underlying39 rfl rfl (by first | exact .fact (by repeat constructor) | exact .own (by repeat constructor) (by decide) (fun _ => rfl) | exact SlIn.body (by repeat constructor) (by assumption)) (by first | assumption | rfl) (by rfl)).q ?_ | refine q_q (by decide) (r_loadf Try.underlying39 rfl rfl (by first | exact .fact (by repeat constructor) | exact .own (by repeat constructor) (by decide) (fun _ => rfl) | exact SlIn.body (by repeat constructor) (by assumption)) (by assumption) (by rfl)).q ?_
         refine q_q (by decide) (p_move rfl).q ?_
         first | refine q_q (by decide) (r_index Try.underlying39 inf_3 rfl rfl rfl (by first | exact .fact (by repeat constructor) | exact .own (by repeat constructor) (by decide) (fun _ => rfl) | exact SlIn.body (by repeat constructor) (by assumption)) rfl (by omega)).q ?_ | refine q_q (by decide) (r_index Try.underlying39 inf_3 rfl rfl rfl (by first | exact .fact (by repeat constructor) | exact .own (by repeat constructor) (by decide) (fun _ => rfl) | exact SlIn.body (by repeat constructor) (by assumption)) rfl (by decide)).q ?_ | refine q_q (by decide) (p_indexo Try.underlying39 inf_3 rfl rfl rfl (by omega)).q ?_
         first | refine q_q (by decide) (r_loado Try.underlying3 rfl rfl (by repeat constructor) (by rfl)).q ?_ | refine q_q (by decide) (r_load1 Try.underlying3 rfl rfl (by first | exact .fact (by repeat constructor) | exact .own (by repeat constructor) (by decide) (fun _ => rfl) | exact SlIn.body (by repeat constructor) (by assumption)) (by first | assumption | rfl) (by rfl)).q ?_ | refine q_q (by decide) (r_loadf Try.underlying3 rfl rfl (by first | exact .fact (by repeat constructor) | exact .own (by repeat constructor) (by decide) (fun _ => rfl) | exact SlIn.body (by repeat constructor) (by assumption)) (by assumption) (by rfl)).q ?_
         first | refine q_q (by decide) (p_faddr (i := 0) 0 Try.underlying25 rfl inf_22 (by decide) rfl rfl).q ?_ | refine q_q (by decide) (p_faddro (i := 0) 0 Try.underlying25 rfl inf_22 (by decide) rfl rfl).q ?_
         first | refine q_q (by decide) (r_loado Try.underlying22 rfl rfl (by repeat constructor) (by rfl)).q ?_ | refine q_q (by decide) (r_load1 Try.underlying22 rfl rfl (by first | exact .fact (by repeat constructor) | exact .own (by repeat constructor) (by decide) (fun _ => rfl) | exact SlIn.body (by repeat constructor) (by assumption)) (by first | assumption | rfl) (by rfl)).q ?_ | refine q_q (by decide) (r_loadf Try.underlying22 rfl rfl (by first | exact .fact (by repeat constructor) | exact .own (by repeat constructor) (by decide) (fun _ => rfl) | exact SlIn.body (by repeat constructor) (by assumption)) (by assumption) (by rfl)).q ?_
         refine q_q (by decide) (p_len_sl Try.underlying22 rfl).q ?_
         first | refine q_q (by decide) (p_geq rfl rfl rfl rfl).q ?_ | refine q_q (by decide) (p_geqi rfl rfl).q ?_
         refine q_q (by decide) (p_move rfl).q ?_
         first | refine q_splitd (t := 108) rfl (fun h108 => ?_) (fun h108 => ?_) | refine q_splitb (t := 108) rfl (fun h108 => ?_) (fun h108 => ?_)
         ·skip
          refine q_off (j := 9) rfl rfl (by first | (simp; done) | (simp [undef]; done)) (by decide) ?_
          refine q_off (j := 9) rfl rfl (by first | (simp; done) | (simp [undef]; done)) (by decide) ?_
          refine q_off (j := 9) rfl rfl (by first | (simp; done) | (simp [undef]; done)) (by decide) ?_
          refine q_off (j := 9) rfl rfl (by first | (simp; done) | (simp [undef]; done)) (by decide) ?_
          refine q_off (j := 9) rfl rfl (by first | (simp; done) | (simp [undef]; done)) (by decide) ?_
          refine q_off (j := 9) rfl rfl (by first | (simp; done) | (simp [undef]; done)) (by decide) ?_
          refine q_off (j := 9) rfl rfl (by first | (simp; done) | (simp [undef]; done)) (by decide) ?_
          refine q_off (j := 9) rfl rfl (by first | (simp; done) | (simp [undef]; done)) (by decide) ?_
          refine q_off (j := 9) rfl rfl (by first | (simp; done) | (simp [undef]; done)) (by decide) ?_
          refine q_off (j := 9) rfl rfl (by first | (simp; done) | (simp [undef]; done)) (by decide) ?_
          refine q_q (by decide) (p_pick rfl rfl).q ?_
          refine q_nil ?_
          refine c_join (()) ?inv ?sub ?perm ?facts
          case sub => exact ⟨rfl, rfl, rfl, rfl, (by first | rfl | exact congrArg (fun b => some (Value.bool b)) (decide_eq_true (by omega)).symm | exact congrArg (fun b => some (Value.bool b)) (decide_eq_false (by omega)).symm | exact congrArg (fun b => some (Value.bool b)) (decide_eq_decide.2 (by omega))), trivial⟩
          case perm =>
           exact .refl _
          case facts => exact fun _ h => h
          case inv =>
           trivial
         ·skip
          first | refine q_g (j := 9) rfl rfl (by decide) (p_faddr (i := 1) 1 Try.underlying41 rfl inf_39 (by decide) rfl rfl).q ?_ | refine q_g (j := 9) rfl rfl (by decide) (p_faddro (i := 1) 1 Try.underlying41 rfl inf_39 (by decide) rfl rfl).q ?_
          first | refine q_g (j := 9) rfl rfl (by decide) (r_loado Try.underlying39 rfl rfl (by repeat constructor) (by rfl)).q ?_ | refine q_g (j := 9) rfl rfl (by decide) (r_load1 Try.underlying39 rfl rfl (by first | exact .fact (by repeat constructor) | exact .own (by repeat constructor) (by decide) (fun _ => rfl) | exact SlIn.body (by repeat constructor) (by assumption)) (by first | assumption | rfl) (by rfl)).q ?_ | refine q_g (j := 9) rfl rfl (by decide) (r_loadf Try.underlying39 rfl rfl (by first | exact .fact (by repeat constructor) | exact .own (by repeat constructor) (by decide) (fun _ => rfl) | exact SlIn.body (by repeat constructor) (by assumption)) (by assumption) (by rfl)).q ?_
          refine q_g (j := 9) rfl rfl (by decide) (p_move rfl).q ?_
          first | refine q_g (j := 9) rfl rfl (by decide) (r_index Try.underlying39 inf_3 rfl rfl rfl (by first | exact .fact (by repeat constructor) | exact .own (by repeat constructor) (by decide) (fun _ => rfl) | exact SlIn.body (by repeat constructor) (by assumption)) rfl (by omega)).q ?_ | refine q_g (j := 9) rfl rfl (by decide) (r_index Try.underlying39 inf_3 rfl rfl rfl (by first | exact .fact (by repeat constructor) | exact .own (by repeat constructor) (by decide) (fun _ => rfl) | exact SlIn.body (by repeat constructor) (by assumption)) rfl (by decide)).q ?_ | refine q_g (j := 9) rfl rfl (by decide) (p_indexo Try.underlying39 inf_3 rfl rfl rfl (by omega)).q ?_
          first | refine q_g (j := 9) rfl rfl (by decide) (r_loado Try.underlying3 rfl rfl (by repeat constructor) (by rfl)).q ?_ | refine q_g (j := 9) rfl rfl (by decide) (r_load1 Try.underlying3 rfl rfl (by first | exact .fact (by repeat constructor) | exact .own (by repeat constructor) (by decide) (fun _ => rfl) | exact SlIn.body (by repeat constructor) (by assumption)) (by first | assumption | rfl) (by rfl)).q ?_ | refine q_g (j := 9) rfl rfl (by decide) (r_loadf Try.underlying3 rfl rfl (by first | exact .fact (by repeat constructor) | exact .own (by repeat constructor) (by decide) (fun _ => rfl) | exact SlIn.body (by repeat constructor) (by assumption)) (by assumption) (by rfl)).q ?_
          first | refine q_g (j := 9) rfl rfl (by decide) (p_faddr (i := 1) 1 Try.underlying25 rfl inf_22 (by decide) rfl rfl).q ?_ | refine q_g (j := 9) rfl rfl (by decide) (p_faddro (i := 1) 1 Try.underlying25 rfl inf_22 (by decide) rfl rfl).q ?_
          first | refine q_g (j := 9) rfl rfl (by decide) (r_loado Try.underlying22 rfl rfl (by repeat constructor) (by rfl)).q ?_ | refine q_g (j := 9) rfl rfl (by decide) (r_load1 Try.underlying22 rfl rfl (by first | exact .fact (by repeat constructor) | exact .own (by repeat constructor) (by decide) (fun _ => rfl) | exact SlIn.body (by repeat constructor) (by assumption)) (by first | assumption | rfl) (by rfl)).q ?_ | refine q_g (j := 9) rfl rfl (by decide) (r_loadf Try.underlying22 rfl rfl (by first | exact .fact (by repeat constructor) | exact .own (by repeat constructor) (by decide) (fun _ => rfl) | exact SlIn.body (by repeat constructor) (by assumption)) (by assumption) (by rfl)).q ?_
          refine q_g (j := 9) rfl rfl (by decide) (p_len_sl Try.underlying22 rfl).q ?_
          refine q_g (j := 9) rfl rfl (by decide) (p_neg rfl (by show (-9223372036854775808 : Int) ≤ _; omega) (by show _ ≤ ((9223372036854775807 : Nat) : Int); omega)).q ?_
          first | refine q_g (j := 9) rfl rfl (by decide) (p_lss rfl rfl rfl rfl).q ?_ | refine q_g (j := 9) rfl rfl (by decide) (p_lssi rfl rfl).q ?_
          refine q_q (by decide) (p_pick rfl rfl).q ?_
          refine q_nil ?_
          refine c_join (()) ?inv ?sub ?perm ?facts
          case sub => exact ⟨rfl, rfl, rfl, rfl, (by first | rfl | exact congrArg (fun b => some (Value.bool b)) (decide_eq_true (by omega)).symm | exact congrArg (fun b => some (Value.bool b)) (decide_eq_false (by omega)).symm | exact congrArg (fun b => some (Value.bool b)) (decide_eq_decide.2 (by omega))), trivial⟩
          case perm =>
           exact .refl _
          case facts => exact fun _ h => h
          case inv =>
           trivial
        rintro uu hmeet
        show Cont _ _ _ _ [(1, .pointer (some ⟨b1, 0, none⟩)), (3, .int .i64 (k : Int)), (4, .pointer (some ⟨b4, 0, none⟩)), (5, .int .i64 (j : Int)), (119, .bool (decide ((y ≥ (X.terms.length : Int) ∨ y < -(X.nts.length : Int)))))] ([iCells b4 41 (ruF x), iCells b1 25 [.slice X.At X.terms.length X.ct, .slice X.An X.nts.length X.cn, .int .i64 X.start, .slice X.Ar X.xs.length X.cr]]) [fun _ => True, Bd X.xs, Sl 3 ruF X.Ar X.xs, Sl 1 strF X.An X.nts, Sl 1 strF X.At X.terms]
        first | refine c_dec rfl (fun h119 => ?_) (fun h119 => ?_) | refine c_cond rfl (fun h119 => ?_) (fun h119 => ?_)
        ·skip
         refine c_seq ?_
         refine c_reg ?_
         refine l_q (by decide) (p_assign rfl).q ?_
         refine l_nil ?_
         refine c_ret ?_
         refine c_ret1 rfl rfl (fun w hs => ?_)
         exact ⟨⟨false, fun h => by cases h⟩, rfl, trivial, fun _ _ _ h => h, hs.ext⟩
        ·skip
         refine c_skip ?_
         refine c_reg ?_
         refine l_q (by decide) (p_move rfl).q ?_
         first | refine l_q (by decide) (p_add (j := 1) rfl rfl rfl rfl (by show _ ≤ (9223372036854775807 : Nat); omega)).q ?_ | refine l_q (by decide) (p_addi rfl rfl (by show (-9223372036854775808 : Int) ≤ _; omega) (by show _ ≤ ((9223372036854775807 : Nat) : Int); omega)).q ?_
         refine l_q (by decide) (p_assign rfl).q ?_
         refine l_nil ?_
         refine c_join ((j + 1)) ?_ ?_ ?_ ?_
         ·show ((j + 1) ≤ x.r.body.length ∧ ∀ y, y ∈ x.r.body.take (j + 1) → y < (X.terms.length : Int) ∧ -(X.nts.length : Int) ≤ y) ∧ x.r.body.length - (j + 1) < x.r.body.length - j
          refine ⟨⟨by omega, fun z hz => ?_⟩, by omega⟩
          rw [take_at hy] at hz
          rcases List.mem_append.1 hz with h | h
          · exact hej z h
          · rw [List.mem_singleton.1 h]; omega
         · exact ⟨rfl, rfl, rfl, rfl, trivial⟩
         ·show List.Perm _ ([iCells b4 41 (ruF x), iCells b1 25 [.slice X.At X.terms.length X.ct, .slice X.An X.nts.length X.cn, .int .i64 X.start, .slice X.Ar X.xs.length X.cr]])
          exact .refl _
         · exact fun _ h => h
       ·skip
        refine c_exit ?_
        refine c_here ?_
        refine c_reg ?_
        refine l_q (by decide) (p_move rfl).q ?_
        first | refine l_q (by decide) (p_add (j := 1) rfl rfl rfl rfl (by show _ ≤ (9223372036854775807 : Nat); omega)).q ?_ | refine l_q (by decide) (p_addi rfl rfl (by show (-9223372036854775808 : Int) ≤ _; omega) (by show _ ≤ ((9223372036854775807 : Nat) : Int); omega)).q ?_
        refine l_q (by decide) (p_assign rfl).q ?_
        refine l_nil ?_
        first | (refine c_drop (x := iCells b4 _ _) ?_) | (refine c_perm (front1 _ _ _) ?_; refine c_drop (x := iCells b4 _ _) ?_) | (refine c_perm (front2 _ _ _ _) ?_; refine c_drop (x := iCells b4 _ _) ?_) | (refine c_perm (front3 _ _ _ _ _) ?_; refine c_drop (x := iCells b4 _ _) ?_) | (refine c_perm (front4 _ _ _ _ _ _) ?_; refine c_drop (x := iCells b4 _ _) ?_)
        refine c_join ((k + 1)) ?_ ?_ ?_ ?_
        ·show ((k + 1) ≤ X.xs.length ∧ ∀ z, z ∈ X.xs.take (k + 1) → okR X.g z.r) ∧ X.xs.length - (k + 1) < X.xs.length - k
         refine ⟨⟨by omega, fun z hz => ?_⟩, by omega⟩
         rw [take_at hx] at hz
         rcases List.mem_append.1 hz with h | h
         · exact he z h
         · rw [List.mem_singleton.1 h]
           rw [List.take_of_length_le (by omega)] at hej
           exact ⟨by show 0 ≤ x.r.head ∧ x.r.head < (X.nts.length : Int) ∧ x.r.body.length ≤ 12; omega, hej⟩
        · exact ⟨rfl, rfl, trivial⟩
        ·show List.Perm _ ([iCells b1 25 [.slice X.At X.terms.length X.ct, .slice X.An X.nts.length X.cn, .int .i64 X.start, .slice X.Ar X.xs.length X.cr]])
         exact .refl _
        · exact fun _ h => h
     ·skip
      refine c_exit ?_
      refine c_here ?_
      refine c_seq ?_
      refine c_reg ?_
      refine l_q (by decide) (p_assign rfl).q ?_
      refine l_nil ?_
      refine c_ret ?_
      refine c_ret1 rfl rfl (fun w hs => ?_)
      rw [List.take_of_length_le (by omega)] at he
      exact ⟨⟨true, fun _ => ⟨by show X.terms.length ≤ _; omega, by show 1 ≤ X.nts.length; omega, by show X.nts.length ≤ _; omega, by show (X.xs.map _).length ≤ _; rw [List.length_map]; omega, by show 0 ≤ X.start; omega, by show X.start < (X.nts.length : Int); omega, fun r hr => by obtain ⟨z, hz, rfl⟩ := List.mem_map.1 hr; exact he z hz⟩⟩, rfl, trivial, fun _ _ _ h => h, hs.ext⟩

theorem small_ok (X : GI) (hX : X.small) (w : World) (hM : X.mem w) :
   Calls Try.prog 11 #[.agg #[.slice X.At X.terms.length X.ct, .slice X.An X.nts.length X.cn, .int .i64 X.start, .slice X.Ar X.xs.length X.cr]] w (Ret fun v w' => ∃ x : BW (Ana.Ok X.g), v = .bool x.1 ∧ True ∧ Dep w.heap.size w'.heap.size (fun _ => True) ∧ Ext [] w w') := by
 refine calls_fx (l := [.agg #[.slice X.At X.terms.length X.ct, .slice X.An X.nts.length X.cn, .int .i64 X.start, .slice X.Ar X.xs.length X.cr]]) Try.func11 rfl Try.ntmps11 (Nat.le_of_ble_eq_true rfl) (X.begin hM) ?_
 refine c_seq ?_
 refine c_reg ?_
 refine l_box (by decide) rfl _ rfl (fun b1 => ?_)
 refine l_q (by decide) (p_assign rfl).q ?_
 refine l_nil ?_
 refine c_seq ?_
 refine c_reg ?_
 first | refine l_q (by decide) (p_faddr (i := 0) 0 Try.underlying25 rfl inf_22 (by decide) rfl rfl).q ?_ | refine l_q (by decide) (p_faddro (i := 0) 0 Try.underlying25 rfl inf_22 (by decide) rfl rfl).q ?_
 first | refine l_q (by decide) (r_loado Try.underlying22 rfl rfl (by repeat constructor) (by rfl)).q ?_ | refine l_q (by decide) (r_load1 Try.underlying22 rfl rfl (by first | exact .fact (by repeat constructor) | exact .own (by repeat constructor) (by decide) (fun _ => rfl) | exact SlIn.body (by repeat constructor) (by assumption)) (by first | assumption | rfl) (by rfl)).q ?_ | refine l_q (by decide) (r_loadf Try.underlying22 rfl rfl (by first | exact .fact (by repeat constructor) | exact .own (by repeat constructor) (by decide) (fun _ => rfl) | exact SlIn.body (by repeat constructor) (by assumption)) (by assumption) (by rfl)).q ?_
 refine l_q (by decide) (p_len_sl Try.underlying22 rfl).q ?_
 first | refine l_q (by decide) (p_leq (j := 6) rfl rfl rfl rfl).q ?_ | refine l_q (by decide) (p_leqi rfl rfl).q ?_
 refine l_q (by decide) (p_move rfl).q ?_
 first | refine l_splitd (t := 7) rfl (fun h7 => ?_) (fun h7 => ?_) | refine l_splitb (t := 7) rfl (fun h7 => ?_) (fun h7 => ?_)
 ·skip
  first | refine l_g (j := 4) rfl rfl (by decide) (p_faddr (i := 1) 1 Try.underlying25 rfl inf_22 (by decide) rfl rfl).q ?_ | refine l_g (j := 4) rfl rfl (by decide) (p_faddro (i := 1) 1 Try.underlying25 rfl inf_22 (by decide) rfl rfl).q ?_
  first | refine l_g (j := 4) rfl rfl (by decide) (r_loado Try.underlying22 rfl rfl (by repeat constructor) (by rfl)).q ?_ | refine l_g (j := 4) rfl rfl (by decide) (r_load1 Try.underlying22 rfl rfl (by first | exact .fact (by repeat constructor) | exact .own (by repeat constructor) (by decide) (fun _ => rfl) | exact SlIn.body (by repeat constructor) (by assumption)) (by first | assumption | rfl) (by rfl)).q ?_ | refine l_g (j := 4) rfl rfl (by decide) (r_loadf Try.underlying22 rfl rfl (by first | exact .fact (by repeat constructor) | exact .own (by repeat constructor) (by decide) (fun _ => rfl) | exact SlIn.body (by repeat constructor) (by assumption)) (by assumption) (by rfl)).q ?_
  refine l_g (j := 4) rfl rfl (by decide) (p_len_sl Try.underlying22 rfl).q ?_
  first | refine l_g (j := 4) rfl rfl (by decide) (p_leq (j := 8) rfl rfl rfl rfl).q ?_ | refine l_g (j := 4) rfl rfl (by decide) (p_leqi rfl rfl).q ?_
  refine l_q (by decide) (p_pick rfl rfl).q ?_
  refine l_q (by decide) (p_move rfl).q ?_
  first | refine l_splitd (t := 13) rfl (fun h13 => ?_) (fun h13 => ?_) | refine l_splitb (t := 13) rfl (fun h13 => ?_) (fun h13 => ?_)
  ·skip
   first | refine l_g (j := 10) rfl rfl (by decide) (p_faddr (i := 3) 3 Try.underlying25 rfl inf_23 (by decide) rfl rfl).q ?_ | refine l_g (j := 10) rfl rfl (by decide) (p_faddro (i := 3) 3 Try.underlying25 rfl inf_23 (by decide) rfl rfl).q ?_
   first | refine l_g (j := 10) rfl rfl (by decide) (r_loado Try.underlying23 rfl rfl (by repeat constructor) (by rfl)).q ?_ | refine l_g (j := 10) rfl rfl (by decide) (r_load1 Try.underlying23 rfl rfl (by first | exact .fact (by repeat constructor) | exact .own (by repeat constructor) (by decide) (fun _ => rfl) | exact SlIn.body (by repeat constructor) (by assumption)) (by first | assumption | rfl) (by rfl)).q ?_ | refine l_g (j := 10) rfl rfl (by decide) (r_loadf Try.underlying23 rfl rfl (by first | exact .fact (by repeat constructor) | exact .own (by repeat constructor) (by decide) (fun _ => rfl) | exact SlIn.body (by repeat constructor) (by assumption)) (by assumption) (by rfl)).q ?_
   refine l_g (j := 10) rfl rfl (by decide) (p_len_sl Try.underlying23 rfl).q ?_
   first | refine l_g (j := 10) rfl rfl (by decide) (p_leq (j := 16) rfl rfl rfl rfl).q ?_ | refine l_g (j := 10) rfl rfl (by decide) (p_leqi rfl rfl).q ?_
   refine l_q (by decide) (p_pick rfl rfl).q ?_
   refine l_q (by decide) (p_move rfl).q ?_
   first | refine l_splitd (t := 19) rfl (fun h19 => ?_) (fun h19 => ?_) | refine l_splitb (t := 19) rfl (fun h19 => ?_) (fun h19 => ?_)
   ·skip
    first | refine l_g (j := 16) rfl rfl (by decide) (r_loada Try.underlying25 rfl inf_25 rfl (by first | exact .fact (by repeat constructor) | exact .own (by repeat constructor) (by decide) (fun _ => rfl) | exact SlIn.body (by repeat constructor) (by assumption)) (by assumption)).q ?_ | refine l_g (j := 16) rfl rfl (by decide) (r_loadow Try.underlying25 rfl inf_25 rfl (by repeat constructor) (by rfl)).q ?_ | refine l_g (j := 16) rfl rfl (by decide) (r_loadoa Try.underlying25 rfl inf_25 rfl (by repeat constructor) (by rfl) (fun j u h => h)).q ?_
    refine l_strip (j := 16) rfl rfl ?_
    refine l_call (X := BW (OkV X.g)) (fun x => .bool x.1) (fun _ _ => True) (by decide) call_33 rfl (fun w hs => valid_ok X hX w (GI.of hs (by repeat constructor) (by repeat constructor) (by repeat constructor) (by repeat constructor))) (fun x21 => ?_)
    refine l_q (by decide) (p_pick rfl rfl).q ?_
    refine l_q (by decide) (p_assign rfl).q ?_
    refine l_nil ?_
    refine c_ret ?_
    refine c_ret1 rfl rfl (fun w hs => ?_)
    exact ⟨⟨x21.1, fun h => (x21.2 h).ok (by show X.terms.length ≤ _; omega) (by show X.nts.length ≤ _; omega) (by show (X.xs.map _).length ≤ _; rw [List.length_map]; omega)⟩, rfl, trivial, fun _ _ _ h => h, hs.ext⟩
   ·skip
    refine l_off (j := 16) rfl rfl (by first | (simp; done) | (simp [undef]; done)) (by decide) ?_
    refine l_off (j := 16) rfl rfl (by first | (simp; done) | (simp [undef]; done)) (by decide) ?_
    refine l_q (by decide) (p_pick rfl rfl).q ?_
    refine l_q (by decide) (p_assign rfl).q ?_
    refine l_nil ?_
    refine c_ret ?_
    refine c_ret1 rfl rfl (fun w hs => ?_)
    exact ⟨⟨false, fun h => by cases h⟩, rfl, trivial, fun _ _ _ h => h, hs.ext⟩
  ·skip
   refine l_off (j := 10) rfl rfl (by first | (simp; done) | (simp [undef]; done)) (by decide) ?_
   refine l_off (j := 10) rfl rfl (by first | (simp; done) | (simp [undef]; done)) (by decide) ?_
   refine l_off (j := 10) rfl rfl (by first | (simp; done) | (simp [undef]; done)) (by decide) ?_
   refine l_off (j := 10) rfl rfl (by first | (simp; done) | (simp [undef]; done)) (by decide) ?_
   refine l_q (by decide) (p_pick rfl rfl).q ?_
   refine l_q (by decide) (p_move rfl).q ?_
   refine l_off (j := 16) rfl rfl (by first | (simp; done) | (simp [undef]; done)) (by decide) ?_
   refine l_off (j := 16) rfl rfl (by first | (simp; done) | (simp [undef]; done)) (by decide) ?_
   refine l_q (by decide) (p_pick rfl rfl).q ?_
   refine l_q (by decide) (p_assign rfl).q ?_
   refine l_nil ?_
   refine c_ret ?_
   refine c_ret1 rfl rfl (fun w hs => ?_)
   exact ⟨⟨false, fun h => by cases h⟩, rfl, trivial, fun _ _ _ h => h, hs.ext⟩
 ·skip
  refine l_off (j := 4) rfl rfl (by first | (simp; done) | (simp [undef]; done)) (by decide) ?_
  refine l_off (j := 4) rfl rfl (by first | (simp; done) | (simp [undef]; done)) (by decide) ?_
  refine l_off (j := 4) rfl rfl (by first | (simp; done) | (simp [undef]; done)) (by decide) ?_
  refine l_off (j := 4) rfl rfl (by first | (simp; done) | (simp [undef]; done)) (by decide) ?_
  refine l_q (by decide) (p_pick rfl rfl).q ?_
  refine l_q (by decide) (p_move rfl).q ?_
  refine l_off (j := 10) rfl rfl (by first | (simp; done) | (simp [undef]; done)) (by decide) ?_
  refine l_off (j := 10) rfl rfl (by first | (simp; done) | (simp [undef]; done)) (by decide) ?_
  refine l_off (j := 10) rfl rfl (by first | (simp; done) | (simp [undef]; done)) (by decide) ?_
  refine l_off (j := 10) rfl rfl (by first | (simp; done) | (simp [undef]; done)) (by decide) ?_
  refine l_q (by decide) (p_pick rfl rfl).q ?_
  refine l_q (by decide) (p_move rfl).q ?_
  refine l_off (j := 16) rfl rfl (by first | (simp; done) | (simp [undef]; done)) (by decide) ?_
  refine l_off (j := 16) rfl rfl (by first | (simp; done) | (simp [undef]; done)) (by decide) ?_
  refine l_q (by decide) (p_pick rfl rfl).q ?_
  refine l_q (by decide) (p_assign rfl).q ?_
  refine l_nil ?_
  refine c_ret ?_
  refine c_ret1 rfl rfl (fun w hs => ?_)
  exact ⟨⟨false, fun h => by cases h⟩, rfl, trivial, fun _ _ _ h => h, hs.ext⟩

theorem samebools_ok (A B : Option Addr) (c d : Nat) (l m : List Bool) (hl : l.length ≤ 140737488355328) (w : World) (hq : Sl 1 boolF A l w) (hp : Sl 1 boolF B m w) :
   Calls Try.prog 12 #[.slice A l.length c, .slice B m.length d] w (Ret fun v w' => v = .bool (decide (l = m)) ∧ Ext [] w w') := by
 refine calls_fx (l := [.slice A l.length c, .slice B m.length d]) Try.func12 rfl Try.ntmps12 (Nat.le_of_ble_eq_true rfl) (Holds.two hq (dep_sl (by decide) hq) hp (dep_sl (by decide) hp)) ?_
 refine c_seq ?_
 refine c_reg ?_
 refine l_q (by decide) (p_assign rfl).q ?_
 refine l_nil ?_
 refine c_seq ?_
 refine c_seq ?_
 refine c_reg ?_
 refine l_q (by decide) (p_move rfl).q ?_
 refine l_q (by decide) (p_len_sl Try.underlying29 rfl).q ?_
 refine l_q (by decide) (p_move rfl).q ?_
 refine l_q (by decide) (p_len_sl Try.underlying29 rfl).q ?_
 first | refine l_q (by decide) (p_neq rfl rfl rfl rfl).q ?_ | refine l_q (by decide) (p_neqi rfl rfl).q ?_
 refine l_nil ?_
 first | refine c_dec rfl (fun h10 => ?_) (fun h10 => ?_) | refine c_cond rfl (fun h10 => ?_) (fun h10 => ?_)
 ·skip
  refine c_seq ?_
  refine c_reg ?_
  refine l_q (by decide) (p_assign rfl).q ?_
  refine l_nil ?_
  refine c_ret ?_
  refine c_ret1 rfl rfl (fun w hs => ?_)
  exact ⟨by rw [decide_eq_false (fun h => h10 (by rw [h]))], hs.ext⟩
 ·skip
  refine c_skip ?_
  refine c_seq ?_
  refine c_seq ?_
  refine c_reg ?_
  refine l_q (by decide) (p_assign (v := .int .i64 ((0 : Nat) : Int)) rfl).q ?_
  refine l_nil ?_
  refine c_block ?_
  refine c_loop (S := Nat) (fun zs => zs ≤ l.length ∧ l.take zs = m.take zs) (fun zs => l.length - zs) (fun zs => [(0, .slice A l.length c), (1, .slice B m.length d), (5, .int .i64 (zs : Int))]) (fun zs => []) (fun zs => [Sl 1 boolF A l, Sl 1 boolF B m]) (0) ?_ ?_ ?_ ?_ ?_
  · show (0) ≤ l.length ∧ l.take (0) = m.take (0)
    exact ⟨Nat.zero_le _, rfl⟩
  · exact ⟨rfl, rfl, rfl, trivial⟩
  · exact .refl _
  · simp
  rintro k hinv
  have hinv : k ≤ l.length ∧ l.take k = m.take k := hinv
  obtain ⟨hk, he⟩ := hinv
  show Cont _ _ _ _ [(0, .slice A l.length c), (1, .slice B m.length d), (5, .int .i64 (k : Int))] ([]) [Sl 1 boolF A l, Sl 1 boolF B m]
  refine c_seq ?_
  refine c_seq ?_
  refine c_reg ?_
  refine l_q (by decide) (p_move rfl).q ?_
  refine l_q (by decide) (p_move rfl).q ?_
  refine l_q (by decide) (p_len_sl Try.underlying29 rfl).q ?_
  first | refine l_q (by decide) (p_lss rfl rfl rfl rfl).q ?_ | refine l_q (by decide) (p_lssi rfl rfl).q ?_
  refine l_nil ?_
  first | refine c_dec rfl (fun h14 => ?_) (fun h14 => ?_) | refine c_cond rfl (fun h14 => ?_) (fun h14 => ?_)
  ·skip
   have h10 := Classical.not_not.1 h10
   obtain ⟨u, hu⟩ := at_some (l := l) (n := k) (by omega)
   obtain ⟨u2, hu2⟩ := at_some (l := m) (n := k) (by omega)
   refine c_skip ?_
   refine c_seq ?_
   refine c_block ?_
   refine c_seq ?_
   refine c_draw mixed (by decide +kernel) ?_
   refine q_q (by decide) (p_move rfl).q ?_
   refine q_q (by decide) (p_move rfl).q ?_
   first | refine q_q (by decide) (r_index Try.underlying29 inf_4 rfl rfl rfl (by first | exact .fact (by repeat constructor) | exact .own (by repeat constructor) (by decide) (fun _ => rfl) | exact SlIn.body (by repeat constructor) (by assumption)) rfl (by omega)).q ?_ | refine q_q (by decide) (r_index Try.underlying29 inf_4 rfl rfl rfl (by first | exact .fact (by repeat constructor) | exact .own (by repeat constructor) (by decide) (fun _ => rfl) | exact SlIn.body (by repeat constructor) (by assumption)) rfl (by decide)).q ?_ | refine q_q (by decide) (p_indexo Try.underlying29 inf_4 rfl rfl rfl (by omega)).q ?_
   first | refine q_q (by decide) (r_loado Try.underlying4 rfl rfl (by repeat constructor) (by rfl)).q ?_ | refine q_q (by decide) (r_load1 Try.underlying4 rfl rfl (by first | exact .fact (by repeat constructor) | exact .own (by repeat constructor) (by decide) (fun _ => rfl) | exact SlIn.body (by repeat constructor) (by assumption)) (by first | assumption | rfl) (by rfl)).q ?_ | refine q_q (by decide) (r_loadf Try.underlying4 rfl rfl (by first | exact .fact (by repeat constructor) | exact .own (by repeat constructor) (by decide) (fun _ => rfl) | exact SlIn.body (by repeat constructor) (by assumption)) (by assumption) (by rfl)).q ?_
   refine q_q (by decide) (p_move rfl).q ?_
   refine q_q (by decide) (p_move rfl).q ?_
   first | refine q_q (by decide) (r_index Try.underlying29 inf_4 rfl rfl rfl (by first | exact .fact (by repeat constructor) | exact .own (by repeat constructor) (by decide) (fun _ => rfl) | exact SlIn.body (by repeat constructor) (by assumption)) rfl (by omega)).q ?_ | refine q_q (by decide) (r_index Try.underlying29 inf_4 rfl rfl rfl (by first | exact .fact (by repeat constructor) | exact .own (by repeat constructor) (by decide) (fun _ => rfl) | exact SlIn.body (by repeat constructor) (by assumption)) rfl (by decide)).q ?_ | refine q_q (by decide) (p_indexo Try.underlying29 inf_4 rfl rfl rfl (by omega)).q ?_
   first | refine q_q (by decide) (r_loado Try.underlying4 rfl rfl (by repeat constructor) (by rfl)).q ?_ | refine q_q (by decide) (r_load1 Try.underlying4 rfl rfl (by first | exact .fact (by repeat constructor) | exact .own (by repeat constructor) (by decide) (fun _ => rfl) | exact SlIn.body (by repeat constructor) (by assumption)) (by first | assumption | rfl) (by rfl)).q ?_ | refine q_q (by decide) (r_loadf Try.underlying4 rfl rfl (by first | exact .fact (by repeat constructor) | exact .own (by repeat constructor) (by decide) (fun _ => rfl) | exact SlIn.body (by repeat constructor) (by assumption)) (by assumption) (by rfl)).q ?_
   refine q_q (by decide) (p_neqb Try.underlying4 rfl rfl).q ?_
   refine q_nil ?_
   first | refine c_dec rfl (fun h25 => ?_) (fun h25 => ?_) | refine c_cond rfl (fun h25 => ?_) (fun h25 => ?_)
   ·skip
    refine c_seq ?_
    refine c_reg ?_
    refine l_q (by decide) (p_assign rfl).q ?_
    refine l_nil ?_
    refine c_ret ?_
    refine c_ret1 rfl rfl (fun w hs => ?_)
    exact ⟨by rw [decide_eq_false (fun h => by subst h; rw [hu] at hu2; injection hu2 with e; subst e; simp at h25)], hs.ext⟩
   ·skip
    refine c_skip ?_
    refine c_reg ?_
    refine l_q (by decide) (p_move rfl).q ?_
    first | refine l_q (by decide) (p_add (j := 1) rfl rfl rfl rfl (by show _ ≤ (9223372036854775807 : Nat); omega)).q ?_ | refine l_q (by decide) (p_addi rfl rfl (by show (-9223372036854775808 : Int) ≤ _; omega) (by show _ ≤ ((9223372036854775807 : Nat) : Int); omega)).q ?_
    refine l_q (by decide) (p_assign rfl).q ?_
    refine l_nil ?_
    refine c_join ((k + 1)) ?_ ?_ ?_ ?_
    ·show ((k + 1) ≤ l.length ∧ l.take (k + 1) = m.take (k + 1)) ∧ l.length - (k + 1) < l.length - k
     exact ⟨⟨by omega, by rw [take_at hu, take_at hu2, he, show u = u2 by simpa using h25]⟩, by omega⟩
    · exact ⟨rfl, rfl, rfl, trivial⟩
    ·show List.Perm _ ([])
     exact .refl _
    · exact fun _ h => h
  ·skip
   refine c_exit ?_
   refine c_here ?_
   refine c_seq ?_
   refine c_reg ?_
   refine l_q (by decide) (p_assign rfl).q ?_
   refine l_nil ?_
   refine c_ret ?_
   refine c_ret1 rfl rfl (fun w hs => ?_)
   have h10 := Classical.not_not.1 h10
   exact ⟨by rw [List.take_of_length_le (by omega), List.take_of_length_le (by omega)] at he; rw [decide_eq_true he], hs.ext⟩
end Go.Proofs.Ytidbhgolhiaijaa
