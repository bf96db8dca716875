/- The walks of edit scripts, fourth part; conditions: lengths. -/
import Derived.Test.YtlefheiohblgdaaDoorWalksC
namespace Go.Proofs.YtlefheiohblgdaaDoor
open Go Go.Fx Go.Proofs

def stpF (s : Ed.Stp) : List Value := [.int .i64 s.op.kind, .int .i64 s.op.term, .int .i64 s.cost, .int .i64 (s.tok : Int), .int .i64 (s.emi : Int)]
theorem len_stpF (s : Ed.Stp) : (stpF s).length = 5 := rfl
theorem pl_swap (X : Inp) : X.pl.swap = X.sw := rfl
theorem pl_ins (X : Inp) : X.pl.ins = X.ins := rfl
theorem at_nat {l : List Int} {t : Nat} : Ed.at_ l (t : Int) = l[t]? := by unfold Ed.at_; rw [if_neg (by omega)]; rfl
theorem drop_none {α : Type} {l : List α} {k : Nat} (h : l.length ≤ k) : l.drop k = [] := List.drop_eq_nil_of_le h
variable {X : Inp} {i j t : Nat} {x x2 : XCol} {y : List Int} {r q u2 : Int}
theorem st1_eq (hx : i < X.xs.length → X.xs[i]? = some x) (hu : j < y.length → y[j]? = some (t : Int)) (hr : i < X.xs.length → j < y.length → x.o.read[t]? = some r) : Ed.st1 X.pl i (y.drop j) = if i < X.xs.length ∧ j < y.length ∧ 0 ≤ r then [⟨⟨1, (t : Int)⟩, r, 1, 1⟩] else [] := by
  unfold Ed.st1
  by_cases hi : i < X.xs.length
  · rw [pl_at (hx hi)]
    by_cases hj : j < y.length
    · rw [drop_at (hu hj)]; simp only
      rw [at_nat, hr hi hj]; simp only
      by_cases h0 : 0 ≤ r
      · rw [if_pos h0, if_pos ⟨hi, hj, h0⟩]
      · rw [if_neg h0, if_neg (fun h => h0 h.2.2)]
    · rw [drop_none (by omega), if_neg (fun h => hj h.2.1)]
  · rw [pl_none (by omega), if_neg (fun h => hi h.1)]
theorem st2_eq (hx : i < X.xs.length → X.xs[i]? = some x) : Ed.st2 X.pl i = if i < X.xs.length ∧ x.o.del < 1099511627776 then [⟨⟨2, 0⟩, x.o.del, 1, 0⟩] else [] := by
  unfold Ed.st2
  by_cases hi : i < X.xs.length
  · rw [pl_at (hx hi)]
    by_cases h0 : x.o.del < 1099511627776
    · rw [if_pos ⟨hi, h0⟩]; exact if_pos h0
    · rw [if_neg (fun h => h0 h.2)]; exact if_neg h0
  · rw [pl_none (by omega), if_neg (fun h => hi h.1)]
theorem st3_eq (hu : j < y.length → y[j]? = some (t : Int)) (hq : j < y.length → X.ins[t]? = some q) : Ed.st3 X.pl (y.drop j) = if j < y.length then [⟨⟨3, (t : Int)⟩, q, 0, 1⟩] else [] := by
  unfold Ed.st3
  by_cases hj : j < y.length
  · rw [drop_at (hu hj), if_pos hj]; simp only; rw [at_nat, pl_ins, hq hj]
  · rw [drop_none (by omega), if_neg hj]
def Sw4 (X : Inp) (i j : Nat) (y : List Int) : Prop := j + 1 < y.length ∧ (Ed.swp X.pl i).isSome = true ∧ ∀ x x2 u u2, X.xs[i]? = some x → X.xs[i + 1]? = some x2 → y[j]? = some u → y[j + 1]? = some u2 → x2.o.kind = u ∧ x.o.kind = u2
theorem swp_at {a b : Int} (h : Ed.swp X.pl i = some (a, b)) : ∃ x x2, X.xs[i]? = some x ∧ X.xs[i + 1]? = some x2 ∧ a = x.o.kind ∧ b = x2.o.kind := by
  by_cases hi : i + 1 < X.xs.length
  · obtain ⟨x, hx⟩ := at_some (l := X.xs) (n := i) (by omega)
    obtain ⟨y, hy⟩ := at_some (l := X.xs) (n := i + 1) hi
    unfold Ed.swp at h
    rw [pl_at hx, pl_at hy] at h; simp only at h
    split at h
    · injection h with h; injection h with h1 h2; exact ⟨x, y, hx, hy, h1.symm, h2.symm⟩
    · cases h
  · rw [swp_none (fun x y _ h2 => absurd (at_lt h2) hi)] at h; cases h
theorem st4_eq : Ed.st4 X.pl i (y.drop j) = if dec (Sw4 X i j y) then [⟨⟨4, 0⟩, X.sw, 2, 2⟩] else [] := by
  unfold Ed.st4
  cases hs : Ed.swp X.pl i with
  | none => rw [if_neg]; intro h; have := (of_dec h).2.1; rw [hs] at this; cases this
  | some p =>
    obtain ⟨a, b⟩ := p
    obtain ⟨x, x2, hx, hx2, rfl, rfl⟩ := swp_at hs
    by_cases hj : j + 1 < y.length
    · obtain ⟨u, hu⟩ := at_some (l := y) (n := j) (by omega)
      obtain ⟨u2, hu2⟩ := at_some (l := y) (n := j + 1) hj
      rw [drop_at hu, drop_at hu2]; simp only
      by_cases hk : x2.o.kind = u ∧ x.o.kind = u2
      · rw [if_pos hk, if_pos (dec_true ⟨hj, by rw [hs]; rfl, fun a b c d h1 h2 h3 h4 => by rw [hx] at h1; rw [hx2] at h2; rw [hu] at h3; rw [hu2] at h4; injection h1 with h1; injection h2 with h2; injection h3 with h3; injection h4 with h4; subst h1; subst h2; subst h3; subst h4; exact hk⟩)]; rfl
      · rw [if_neg hk, if_neg (fun h => hk ((of_dec h).2.2 _ _ _ _ hx hx2 hu hu2))]
    · rw [if_neg (fun h => hj (of_dec h).1)]
      by_cases hj2 : j < y.length
      · obtain ⟨u, hu⟩ := at_some (l := y) (n := j) hj2
        rw [drop_at hu, drop_none (l := y) (k := j + 1) (by omega)]
      · rw [drop_none (by omega)]
theorem opt_at {α : Type} (l : List α) (k : Nat) (d : α) : ∃ u, k < l.length → l[k]? = some u := by
  by_cases h : k < l.length
  · obtain ⟨u, hu⟩ := at_some h; exact ⟨u, fun _ => hu⟩
  · exact ⟨d, fun h2 => absurd h2 h⟩
theorem decb {p q : Prop} [Decidable p] (h : p ↔ q) : some (Value.bool (decide p)) = some (Value.bool (dec q)) := by
  by_cases hp : p
  · rw [dec_true (h.1 hp), decide_eq_true hp]
  · rw [dec_false (fun hq => hp (h.2 hq)), decide_eq_false hp]
theorem decn {q : Prop} (h : ¬ q) : some (Value.bool false) = some (Value.bool (dec q)) := by rw [dec_false h]
abbrev StR (w w' : World) (v : Value) (l : List Ed.Stp) : Prop := ∃ x : Option Addr × Nat, v = .slice x.1 l.length x.2 ∧ Sl 5 stpF x.1 l w' ∧ Dep w.heap.size w'.heap.size (Sl 5 stpF x.1 l) ∧ Ext [] w w'
theorem inf_64 : InfoIs Tryd.prog 64 5 40 (.agg #[.int .i64 0, .int .i64 0, .int .i64 0, .int .i64 0, .int .i64 0]) := by unfold InfoIs; kernel_rfl
theorem pl_46 : PlacesIs Tryd.prog 46 [(0, 1), (1, 1)] := ⟨_, Tryd.underlying46, by kernel_rfl⟩
theorem pl_64 : PlacesIs Tryd.prog 64 [(0, 2), (2, 1), (3, 1), (4, 1)] := ⟨_, Tryd.underlying64, by kernel_rfl⟩
theorem call_39 : Callable Tryd.prog 39 := ⟨_, Tryd.func39, by kernel_rfl, rfl⟩
theorem steps_ok (X : Inp) (hX : X.small) (w : World) (hM : X.mem w) (hO : Ed.Okin X.pl) (C : Option Addr) (e : Nat) (y : List Int) (hl : y.length ≤ 1000000) (hY : Sl 1 intF C y w) (hy : ∀ t, t ∈ y → 0 ≤ t ∧ t < X.ins.length) (i j : Nat) (hi : i ≤ X.xs.length) (hj : j ≤ y.length) :
   Calls Tryd.prog 35 #[.agg #[.slice X.A X.xs.length X.c, .slice X.B X.ins.length X.d, .int .i64 X.sw], .slice C y.length e, .int .i64 (i : Int), .int .i64 (j : Int)] w (Ret fun v w' => StR w w' v (Ed.steps X.pl i (y.drop j))) := by
 refine calls_fx (l := [.agg #[.slice X.A X.xs.length X.c, .slice X.B X.ins.length X.d, .int .i64 X.sw], .slice C y.length e, .int .i64 (i : Int), .int .i64 (j : Int)]) Tryd.func35 rfl Tryd.ntmps35 (Nat.le_of_ble_eq_true rfl) ((X.start hM).old hY (dep_sl (by decide) hY)) ?_
 refine c_seq ?_
 have hxl := hX.xs
 have hil := hX.ins
 obtain ⟨x, hx0⟩ : ∃ x : XCol, i < X.xs.length → X.xs[i]? = some x := opt_at _ _ ⟨none, 0, ⟨0, [], 0⟩⟩
 obtain ⟨x2, hx20⟩ : ∃ x : XCol, i + 1 < X.xs.length → X.xs[i + 1]? = some x := opt_at _ _ ⟨none, 0, ⟨0, [], 0⟩⟩
 obtain ⟨t, hu0⟩ : ∃ t : Nat, j < y.length → y[j]? = some (t : Int) := by
   by_cases h : j < y.length
   · obtain ⟨u, hu⟩ := at_some h
     exact ⟨u.toNat, fun _ => by rw [hu, Int.toNat_of_nonneg (hy u (List.mem_of_getElem? hu)).1]⟩
   · exact ⟨0, fun h2 => absurd h2 h⟩
 obtain ⟨u2, hu20⟩ := opt_at y (j + 1) 0
 have htl : j < y.length → t < X.ins.length := fun h => by have := hy _ (List.mem_of_getElem? (hu0 h)); omega
 obtain ⟨q, hq0⟩ : ∃ q, j < y.length → X.ins[t]? = some q := by
   obtain ⟨q, hq⟩ := opt_at X.ins t 0
   exact ⟨q, fun h => hq (htl h)⟩
 obtain ⟨r, hr0⟩ : ∃ r, i < X.xs.length → j < y.length → x.o.read[t]? = some r := by
   obtain ⟨r, hr⟩ := opt_at x.o.read t 0
   refine ⟨r, fun h h2 => hr ?_⟩
   rw [(okin_cols hO x (List.mem_of_getElem? (hx0 h))).len]; exact htl h2
 refine c_reg ?_
 refine l_box (by decide) rfl _ rfl (fun b4 => ?_)
 refine l_q (by decide) (p_assign rfl).q ?_
 refine l_nil ?_
 refine c_seq ?_
 refine c_reg ?_
 refine l_q (by decide) (p_assign rfl).q ?_
 refine l_nil ?_
 refine c_seq ?_
 refine c_sl0 64 5 stpF ?_
 refine c_reg ?_
 refine l_q (by decide) (p_move rfl).q ?_
 first | refine l_q (by decide) (p_faddr (i := 0) 0 Tryd.underlying25 rfl inf_22 (by decide) rfl rfl).q ?_ | refine l_q (by decide) (p_faddro (i := 0) 0 Tryd.underlying25 rfl inf_22 (by decide) rfl rfl).q ?_
 first | refine l_q (by decide) (r_loado Tryd.underlying22 rfl rfl (by repeat constructor) (by rfl)).q ?_ | refine l_q (by decide) (r_load1 Tryd.underlying22 rfl rfl (by first | exact .fact (by repeat constructor) | exact .own (by repeat constructor) (by decide) (fun _ => rfl) | exact SlIn.reads (by repeat constructor) (by assumption)) (by first | assumption | rfl) (by rfl)).q ?_ | refine l_q (by decide) (r_loadf Tryd.underlying22 rfl rfl (by first | exact .fact (by repeat constructor) | exact .own (by repeat constructor) (by decide) (fun _ => rfl) | exact SlIn.reads (by repeat constructor) (by assumption)) (by assumption) (by rfl)).q ?_
 refine l_q (by decide) (p_len_sl Tryd.underlying22 rfl).q ?_
 first | refine l_q (by decide) (p_lss rfl rfl rfl rfl).q ?_ | refine l_q (by decide) (p_lssi rfl rfl).q ?_
 refine l_q (by decide) (p_move rfl).q ?_
 refine l_q (by decide) (p_len_sl Tryd.underlying23 rfl).q ?_
 refine l_q (by decide) (p_move rfl).q ?_
 first | refine l_q (by decide) (p_sub rfl rfl rfl rfl (by omega) (by show _ ≤ (9223372036854775807 : Nat); omega)).q ?_ | refine l_q (by decide) (p_subi rfl rfl (by show (-9223372036854775808 : Int) ≤ _; omega) (by show _ ≤ ((9223372036854775807 : Nat) : Int); omega)).q ?_
 refine l_q (by decide) (p_assign rfl).q ?_
 refine l_q (by decide) (p_assign rfl).q ?_
 refine l_nil ?_
 refine c_seq ?_
 refine c_seq ?_
 refine c_meetn (S := Unit) (fun zs => True) (fun zs => [(1, .slice C y.length e), (2, .int .i64 (i : Int)), (3, .int .i64 (j : Int)), (4, .pointer (some ⟨b4, 0, none⟩)), (9, .slice none 0 0), (10, .bool (decide (i < X.xs.length))), (11, .int .i64 ((y.length - j : Nat) : Int)), (40, .bool (decide (i < X.xs.length ∧ j < y.length ∧ 0 ≤ r)))]) (fun zs => [iSl 64 5 stpF none 0 [], iCells b4 25 [.slice X.A X.xs.length X.c, .slice X.B X.ins.length X.d, .int .i64 X.sw]]) (fun zs => (Sl 1 intF C y :: [Rd X.xs, Sl 1 intF X.B X.ins, Sl 3 colF X.A X.xs])) ?_ ?_
 ·skip
  refine c_draw mixed (by decide +kernel) ?_
  refine q_q (by decide) (p_move rfl).q ?_
  refine q_q (by decide) (p_move rfl).q ?_
  first | refine q_splitd (t := 22) rfl (fun h22 => ?_) (fun h22 => ?_) | refine q_splitb (t := 22) rfl (fun h22 => ?_) (fun h22 => ?_)
  ·skip
   have hx := hx0 (by omega)
   refine q_g (j := 1) rfl rfl (by decide) (p_move rfl).q ?_
   first | refine q_g (j := 1) rfl rfl (by decide) (p_gtr (j := 0) rfl rfl rfl rfl).q ?_ | refine q_g (j := 1) rfl rfl (by decide) (p_gtri rfl rfl).q ?_
   refine q_q (by decide) (p_pick rfl rfl).q ?_
   refine q_q (by decide) (p_move rfl).q ?_
   first | refine q_splitd (t := 26) rfl (fun h26 => ?_) (fun h26 => ?_) | refine q_splitb (t := 26) rfl (fun h26 => ?_) (fun h26 => ?_)
   ·skip
    have hu := hu0 (by omega)
    have hr := hr0 (by omega) (by omega)
    have ht := htl (by omega)
    have hrl := at_lt hr
    first | refine q_g (j := 5) rfl rfl (by decide) (p_faddr (i := 0) 0 Tryd.underlying25 rfl inf_22 (by decide) rfl rfl).q ?_ | refine q_g (j := 5) rfl rfl (by decide) (p_faddro (i := 0) 0 Tryd.underlying25 rfl inf_22 (by decide) rfl rfl).q ?_
    first | refine q_g (j := 5) rfl rfl (by decide) (r_loado Tryd.underlying22 rfl rfl (by repeat constructor) (by rfl)).q ?_ | refine q_g (j := 5) rfl rfl (by decide) (r_load1 Tryd.underlying22 rfl rfl (by first | exact .fact (by repeat constructor) | exact .own (by repeat constructor) (by decide) (fun _ => rfl) | exact SlIn.reads (by repeat constructor) (by assumption)) (by first | assumption | rfl) (by rfl)).q ?_ | refine q_g (j := 5) rfl rfl (by decide) (r_loadf Tryd.underlying22 rfl rfl (by first | exact .fact (by repeat constructor) | exact .own (by repeat constructor) (by decide) (fun _ => rfl) | exact SlIn.reads (by repeat constructor) (by assumption)) (by assumption) (by rfl)).q ?_
    refine q_g (j := 5) rfl rfl (by decide) (p_move rfl).q ?_
    first | refine q_g (j := 5) rfl rfl (by decide) (r_index Tryd.underlying22 inf_44 rfl rfl rfl (by first | exact .fact (by repeat constructor) | exact .own (by repeat constructor) (by decide) (fun _ => rfl) | exact SlIn.reads (by repeat constructor) (by assumption)) rfl (by omega)).q ?_ | refine q_g (j := 5) rfl rfl (by decide) (r_index Tryd.underlying22 inf_44 rfl rfl rfl (by first | exact .fact (by repeat constructor) | exact .own (by repeat constructor) (by decide) (fun _ => rfl) | exact SlIn.reads (by repeat constructor) (by assumption)) rfl (by decide)).q ?_ | refine q_g (j := 5) rfl rfl (by decide) (p_indexo Tryd.underlying22 inf_44 rfl rfl rfl (by omega)).q ?_
    first | refine q_g (j := 5) rfl rfl (by decide) (p_faddr (i := 1) 1 Tryd.underlying44 rfl inf_23 (by decide) rfl rfl).q ?_ | refine q_g (j := 5) rfl rfl (by decide) (p_faddro (i := 1) 1 Tryd.underlying44 rfl inf_23 (by decide) rfl rfl).q ?_
    first | refine q_g (j := 5) rfl rfl (by decide) (r_loado Tryd.underlying23 rfl rfl (by repeat constructor) (by rfl)).q ?_ | refine q_g (j := 5) rfl rfl (by decide) (r_load1 Tryd.underlying23 rfl rfl (by first | exact .fact (by repeat constructor) | exact .own (by repeat constructor) (by decide) (fun _ => rfl) | exact SlIn.reads (by repeat constructor) (by assumption)) (by first | assumption | rfl) (by rfl)).q ?_ | refine q_g (j := 5) rfl rfl (by decide) (r_loadf Tryd.underlying23 rfl rfl (by first | exact .fact (by repeat constructor) | exact .own (by repeat constructor) (by decide) (fun _ => rfl) | exact SlIn.reads (by repeat constructor) (by assumption)) (by assumption) (by rfl)).q ?_
    refine q_g (j := 5) rfl rfl (by decide) (p_move rfl).q ?_
    refine q_g (j := 5) rfl rfl (by decide) (p_move rfl).q ?_
    first | refine q_g (j := 5) rfl rfl (by decide) (r_index Tryd.underlying23 inf_3 rfl rfl rfl (by first | exact .fact (by repeat constructor) | exact .own (by repeat constructor) (by decide) (fun _ => rfl) | exact SlIn.reads (by repeat constructor) (by assumption)) rfl (by omega)).q ?_ | refine q_g (j := 5) rfl rfl (by decide) (r_index Tryd.underlying23 inf_3 rfl rfl rfl (by first | exact .fact (by repeat constructor) | exact .own (by repeat constructor) (by decide) (fun _ => rfl) | exact SlIn.reads (by repeat constructor) (by assumption)) rfl (by decide)).q ?_ | refine q_g (j := 5) rfl rfl (by decide) (p_indexo Tryd.underlying23 inf_3 rfl rfl rfl (by omega)).q ?_
    first | refine q_g (j := 5) rfl rfl (by decide) (r_loado Tryd.underlying3 rfl rfl (by repeat constructor) (by rfl)).q ?_ | refine q_g (j := 5) rfl rfl (by decide) (r_load1 Tryd.underlying3 rfl rfl (by first | exact .fact (by repeat constructor) | exact .own (by repeat constructor) (by decide) (fun _ => rfl) | exact SlIn.reads (by repeat constructor) (by assumption)) (by first | assumption | rfl) (by rfl)).q ?_ | refine q_g (j := 5) rfl rfl (by decide) (r_loadf Tryd.underlying3 rfl rfl (by first | exact .fact (by repeat constructor) | exact .own (by repeat constructor) (by decide) (fun _ => rfl) | exact SlIn.reads (by repeat constructor) (by assumption)) (by assumption) (by rfl)).q ?_
    first | refine q_g (j := 5) rfl rfl (by decide) (r_index Tryd.underlying23 inf_3 rfl rfl rfl (by first | exact .fact (by repeat constructor) | exact .own (by repeat constructor) (by decide) (fun _ => rfl) | exact SlIn.reads (by repeat constructor) (by assumption)) rfl (by omega)).q ?_ | refine q_g (j := 5) rfl rfl (by decide) (r_index Tryd.underlying23 inf_3 rfl rfl rfl (by first | exact .fact (by repeat constructor) | exact .own (by repeat constructor) (by decide) (fun _ => rfl) | exact SlIn.reads (by repeat constructor) (by assumption)) rfl (by decide)).q ?_ | refine q_g (j := 5) rfl rfl (by decide) (p_indexo Tryd.underlying23 inf_3 rfl rfl rfl (by omega)).q ?_
    first | refine q_g (j := 5) rfl rfl (by decide) (r_loado Tryd.underlying3 rfl rfl (by repeat constructor) (by rfl)).q ?_ | refine q_g (j := 5) rfl rfl (by decide) (r_load1 Tryd.underlying3 rfl rfl (by first | exact .fact (by repeat constructor) | exact .own (by repeat constructor) (by decide) (fun _ => rfl) | exact SlIn.reads (by repeat constructor) (by assumption)) (by first | assumption | rfl) (by rfl)).q ?_ | refine q_g (j := 5) rfl rfl (by decide) (r_loadf Tryd.underlying3 rfl rfl (by first | exact .fact (by repeat constructor) | exact .own (by repeat constructor) (by decide) (fun _ => rfl) | exact SlIn.reads (by repeat constructor) (by assumption)) (by assumption) (by rfl)).q ?_
    first | refine q_g (j := 5) rfl rfl (by decide) (p_geq (j := 0) rfl rfl rfl rfl).q ?_ | refine q_g (j := 5) rfl rfl (by decide) (p_geqi rfl rfl).q ?_
    refine q_q (by decide) (p_pick rfl rfl).q ?_
    refine q_nil ?_
    refine c_join (()) ?inv ?sub ?perm ?facts
    case sub => exact ⟨rfl, rfl, rfl, rfl, rfl, rfl, rfl, (by first | rfl | exact congrArg (fun b => some (Value.bool b)) (decide_eq_true (by omega)).symm | exact congrArg (fun b => some (Value.bool b)) (decide_eq_false (by omega)).symm | exact congrArg (fun b => some (Value.bool b)) (decide_eq_decide.2 (by omega))), trivial⟩
    case perm =>
     exact .refl _
    case facts => exact fun _ h => h
    case inv =>
     trivial
   ·skip
    refine q_off (j := 5) rfl rfl (by first | (simp; done) | (simp [undef]; done)) (by decide) ?_
    refine q_off (j := 5) rfl rfl (by first | (simp; done) | (simp [undef]; done)) (by decide) ?_
    refine q_off (j := 5) rfl rfl (by first | (simp; done) | (simp [undef]; done)) (by decide) ?_
    refine q_off (j := 5) rfl rfl (by first | (simp; done) | (simp [undef]; done)) (by decide) ?_
    refine q_off (j := 5) rfl rfl (by first | (simp; done) | (simp [undef]; done)) (by decide) ?_
    refine q_off (j := 5) rfl rfl (by first | (simp; done) | (simp [undef]; done)) (by decide) ?_
    refine q_off (j := 5) rfl rfl (by first | (simp; done) | (simp [undef]; done)) (by decide) ?_
    refine q_off (j := 5) rfl rfl (by first | (simp; done) | (simp [undef]; done)) (by decide) ?_
    refine q_off (j := 5) rfl rfl (by first | (simp; done) | (simp [undef]; done)) (by decide) ?_
    refine q_off (j := 5) rfl rfl (by first | (simp; done) | (simp [undef]; done)) (by decide) ?_
    refine q_off (j := 5) rfl rfl (by first | (simp; done) | (simp [undef]; done)) (by decide) ?_
    refine q_off (j := 5) rfl rfl (by first | (simp; done) | (simp [undef]; done)) (by decide) ?_
    refine q_off (j := 5) rfl rfl (by first | (simp; done) | (simp [undef]; done)) (by decide) ?_
    refine q_q (by decide) (p_pick rfl rfl).q ?_
    refine q_nil ?_
    refine c_join (()) ?inv ?sub ?perm ?facts
    case sub => exact ⟨rfl, rfl, rfl, rfl, rfl, rfl, rfl, (by first | rfl | exact congrArg (fun b => some (Value.bool b)) (decide_eq_true (by omega)).symm | exact congrArg (fun b => some (Value.bool b)) (decide_eq_false (by omega)).symm | exact congrArg (fun b => some (Value.bool b)) (decide_eq_decide.2 (by omega))), trivial⟩
    case perm =>
     exact .refl _
    case facts => exact fun _ h => h
    case inv =>
     trivial
  ·skip
   refine q_off (j := 1) rfl rfl (by first | (simp; done) | (simp [undef]; done)) (by decide) ?_
   refine q_off (j := 1) rfl rfl (by first | (simp; done) | (simp [undef]; done)) (by decide) ?_
   refine q_q (by decide) (p_pick rfl rfl).q ?_
   refine q_q (by decide) (p_move rfl).q ?_
   refine q_off (j := 5) rfl rfl (by first | (simp; done) | (simp [undef]; done)) (by decide) ?_
   refine q_off (j := 5) rfl rfl (by first | (simp; done) | (simp [undef]; done)) (by decide) ?_
   refine q_off (j := 5) rfl rfl (by first | (simp; done) | (simp [undef]; done)) (by decide) ?_
   refine q_off (j := 5) rfl rfl (by first | (simp; done) | (simp [undef]; done)) (by decide) ?_
   refine q_off (j := 5) rfl rfl (by first | (simp; done) | (simp [undef]; done)) (by decide) ?_
   refine q_off (j := 5) rfl rfl (by first | (simp; done) | (simp [undef]; done)) (by decide) ?_
   refine q_off (j := 5) rfl rfl (by first | (simp; done) | (simp [undef]; done)) (by decide) ?_
   refine q_off (j := 5) rfl rfl (by first | (simp; done) | (simp [undef]; done)) (by decide) ?_
   refine q_off (j := 5) rfl rfl (by first | (simp; done) | (simp [undef]; done)) (by decide) ?_
   refine q_off (j := 5) rfl rfl (by first | (simp; done) | (simp [undef]; done)) (by decide) ?_
   refine q_off (j := 5) rfl rfl (by first | (simp; done) | (simp [undef]; done)) (by decide) ?_
   refine q_off (j := 5) rfl rfl (by first | (simp; done) | (simp [undef]; done)) (by decide) ?_
   refine q_off (j := 5) rfl rfl (by first | (simp; done) | (simp [undef]; done)) (by decide) ?_
   refine q_q (by decide) (p_pick rfl rfl).q ?_
   refine q_nil ?_
   refine c_join (()) ?inv ?sub ?perm ?facts
   case sub => exact ⟨rfl, rfl, rfl, rfl, rfl, rfl, rfl, (by first | rfl | exact congrArg (fun b => some (Value.bool b)) (decide_eq_true (by omega)).symm | exact congrArg (fun b => some (Value.bool b)) (decide_eq_false (by omega)).symm | exact congrArg (fun b => some (Value.bool b)) (decide_eq_decide.2 (by omega))), trivial⟩
   case perm =>
    exact .refl _
   case facts => exact fun _ h => h
   case inv =>
    trivial
 rintro uu hmeet
 show Cont _ _ _ _ [(1, .slice C y.length e), (2, .int .i64 (i : Int)), (3, .int .i64 (j : Int)), (4, .pointer (some ⟨b4, 0, none⟩)), (9, .slice none 0 0), (10, .bool (decide (i < X.xs.length))), (11, .int .i64 ((y.length - j : Nat) : Int)), (40, .bool (decide (i < X.xs.length ∧ j < y.length ∧ 0 ≤ r)))] ([iSl 64 5 stpF none 0 [], iCells b4 25 [.slice X.A X.xs.length X.c, .slice X.B X.ins.length X.d, .int .i64 X.sw]]) (Sl 1 intF C y :: [Rd X.xs, Sl 1 intF X.B X.ins, Sl 3 colF X.A X.xs])
 refine c_meetn (S := Option Addr × Nat) (fun zs => True) (fun zs => [(1, .slice C y.length e), (2, .int .i64 (i : Int)), (3, .int .i64 (j : Int)), (4, .pointer (some ⟨b4, 0, none⟩)), (9, .slice zs.1 (Ed.st1 X.pl i (y.drop j)).length zs.2), (10, .bool (decide (i < X.xs.length))), (11, .int .i64 ((y.length - j : Nat) : Int))]) (fun zs => [iSl 64 5 stpF zs.1 zs.2 (Ed.st1 X.pl i (y.drop j)), iCells b4 25 [.slice X.A X.xs.length X.c, .slice X.B X.ins.length X.d, .int .i64 X.sw]]) (fun zs => (Sl 1 intF C y :: [Rd X.xs, Sl 1 intF X.B X.ins, Sl 3 colF X.A X.xs])) ?_ ?_
 ·skip
  first | refine c_dec rfl (fun h40 => ?_) (fun h40 => ?_) | refine c_cond rfl (fun h40 => ?_) (fun h40 => ?_)
  ·skip
   have hx := hx0 (by omega)
   have hu := hu0 (by omega)
   have hr := hr0 (by omega) (by omega)
   have hrl := at_lt hr
   refine m_draw [20] mixed ?_
   refine m_takep 0 rfl (by kernel_rfl) (by decide) (p_move rfl) ?_
   refine m_takep 1 rfl (by kernel_rfl) (by decide) (p_move rfl) ?_
   refine m_takep 2 rfl (by kernel_rfl) (by decide) (p_move rfl) ?_
   first | refine m_take 3 rfl (by kernel_rfl) (by decide) (by first | exact (List.Perm.refl _ : List.Perm _ ([] ++ _)) | exact (List.Perm.refl _ : List.Perm _ ([_] ++ _)) | exact (List.Perm.refl _ : List.Perm _ ([_, _] ++ _)) | exact (List.Perm.refl _ : List.Perm _ ([_, _, _] ++ _)) | exact (List.Perm.refl _ : List.Perm _ ([_, _, _, _] ++ _)) | exact (List.Perm.refl _ : List.Perm _ ([_, _, _, _, _] ++ _))) (by first | exact fun _ h => h | exact fun _ h => List.mem_cons_of_mem _ h | exact fun _ h => List.mem_cons_of_mem _ (List.mem_cons_of_mem _ h)) (r_index Tryd.underlying23 inf_3 rfl rfl rfl (by first | exact .fact (by repeat constructor) | exact .own (by repeat constructor) (by decide) (fun _ => rfl) | exact SlIn.reads (by repeat constructor) (by assumption)) rfl (by omega)).r ?_ | refine m_take 3 rfl (by kernel_rfl) (by decide) (by first | exact (List.Perm.refl _ : List.Perm _ ([] ++ _)) | exact (List.Perm.refl _ : List.Perm _ ([_] ++ _)) | exact (List.Perm.refl _ : List.Perm _ ([_, _] ++ _)) | exact (List.Perm.refl _ : List.Perm _ ([_, _, _] ++ _)) | exact (List.Perm.refl _ : List.Perm _ ([_, _, _, _] ++ _)) | exact (List.Perm.refl _ : List.Perm _ ([_, _, _, _, _] ++ _))) (by first | exact fun _ h => h | exact fun _ h => List.mem_cons_of_mem _ h | exact fun _ h => List.mem_cons_of_mem _ (List.mem_cons_of_mem _ h)) (r_index Tryd.underlying23 inf_3 rfl rfl rfl (by first | exact .fact (by repeat constructor) | exact .own (by repeat constructor) (by decide) (fun _ => rfl) | exact SlIn.reads (by repeat constructor) (by assumption)) rfl (by decide)).r ?_ | refine m_takep 3 rfl (by kernel_rfl) (by decide) (p_indexo Tryd.underlying23 inf_3 rfl rfl rfl (by omega)) ?_
   first | refine m_take 4 rfl (by kernel_rfl) (by decide) (by first | exact (List.Perm.refl _ : List.Perm _ ([] ++ _)) | exact (List.Perm.refl _ : List.Perm _ ([_] ++ _)) | exact (List.Perm.refl _ : List.Perm _ ([_, _] ++ _)) | exact (List.Perm.refl _ : List.Perm _ ([_, _, _] ++ _)) | exact (List.Perm.refl _ : List.Perm _ ([_, _, _, _] ++ _)) | exact (List.Perm.refl _ : List.Perm _ ([_, _, _, _, _] ++ _))) (by first | exact fun _ h => h | exact fun _ h => List.mem_cons_of_mem _ h | exact fun _ h => List.mem_cons_of_mem _ (List.mem_cons_of_mem _ h)) (r_loado Tryd.underlying3 rfl rfl (by repeat constructor) (by rfl)).r ?_ | refine m_take 4 rfl (by kernel_rfl) (by decide) (by first | exact (List.Perm.refl _ : List.Perm _ ([] ++ _)) | exact (List.Perm.refl _ : List.Perm _ ([_] ++ _)) | exact (List.Perm.refl _ : List.Perm _ ([_, _] ++ _)) | exact (List.Perm.refl _ : List.Perm _ ([_, _, _] ++ _)) | exact (List.Perm.refl _ : List.Perm _ ([_, _, _, _] ++ _)) | exact (List.Perm.refl _ : List.Perm _ ([_, _, _, _, _] ++ _))) (by first | exact fun _ h => h | exact fun _ h => List.mem_cons_of_mem _ h | exact fun _ h => List.mem_cons_of_mem _ (List.mem_cons_of_mem _ h)) (r_load1 Tryd.underlying3 rfl rfl (by first | exact .fact (by repeat constructor) | exact .own (by repeat constructor) (by decide) (fun _ => rfl) | exact SlIn.reads (by repeat constructor) (by assumption)) (by first | assumption | rfl) (by rfl)).r ?_ | refine m_take 4 rfl (by kernel_rfl) (by decide) (by first | exact (List.Perm.refl _ : List.Perm _ ([] ++ _)) | exact (List.Perm.refl _ : List.Perm _ ([_] ++ _)) | exact (List.Perm.refl _ : List.Perm _ ([_, _] ++ _)) | exact (List.Perm.refl _ : List.Perm _ ([_, _, _] ++ _)) | exact (List.Perm.refl _ : List.Perm _ ([_, _, _, _] ++ _)) | exact (List.Perm.refl _ : List.Perm _ ([_, _, _, _, _] ++ _))) (by first | exact fun _ h => h | exact fun _ h => List.mem_cons_of_mem _ h | exact fun _ h => List.mem_cons_of_mem _ (List.mem_cons_of_mem _ h)) (r_loadf Tryd.underlying3 rfl rfl (by first | exact .fact (by repeat constructor) | exact .own (by repeat constructor) (by decide) (fun _ => rfl) | exact SlIn.reads (by repeat constructor) (by assumption)) (by assumption) (by rfl)).r ?_
   refine m_takep 5 rfl (by kernel_rfl) (by decide) (((p_build (cells := #[_, _]) inf_46 pl_46 rfl rfl)).to (u := .agg #[.int .i64 1, .int .i64 (t : Int)]) (rfl)) ?_
   first | refine m_takep 6 rfl (by kernel_rfl) (by decide) (p_faddr (i := 0) 0 Tryd.underlying25 rfl inf_22 (by decide) rfl rfl) ?_ | refine m_takep 6 rfl (by kernel_rfl) (by decide) (p_faddro (i := 0) 0 Tryd.underlying25 rfl inf_22 (by decide) rfl rfl) ?_
   first | refine m_take 7 rfl (by kernel_rfl) (by decide) (by first | exact (List.Perm.refl _ : List.Perm _ ([] ++ _)) | exact (List.Perm.refl _ : List.Perm _ ([_] ++ _)) | exact (List.Perm.refl _ : List.Perm _ ([_, _] ++ _)) | exact (List.Perm.refl _ : List.Perm _ ([_, _, _] ++ _)) | exact (List.Perm.refl _ : List.Perm _ ([_, _, _, _] ++ _)) | exact (List.Perm.refl _ : List.Perm _ ([_, _, _, _, _] ++ _))) (by first | exact fun _ h => h | exact fun _ h => List.mem_cons_of_mem _ h | exact fun _ h => List.mem_cons_of_mem _ (List.mem_cons_of_mem _ h)) (r_loado Tryd.underlying22 rfl rfl (by repeat constructor) (by rfl)).r ?_ | refine m_take 7 rfl (by kernel_rfl) (by decide) (by first | exact (List.Perm.refl _ : List.Perm _ ([] ++ _)) | exact (List.Perm.refl _ : List.Perm _ ([_] ++ _)) | exact (List.Perm.refl _ : List.Perm _ ([_, _] ++ _)) | exact (List.Perm.refl _ : List.Perm _ ([_, _, _] ++ _)) | exact (List.Perm.refl _ : List.Perm _ ([_, _, _, _] ++ _)) | exact (List.Perm.refl _ : List.Perm _ ([_, _, _, _, _] ++ _))) (by first | exact fun _ h => h | exact fun _ h => List.mem_cons_of_mem _ h | exact fun _ h => List.mem_cons_of_mem _ (List.mem_cons_of_mem _ h)) (r_load1 Tryd.underlying22 rfl rfl (by first | exact .fact (by repeat constructor) | exact .own (by repeat constructor) (by decide) (fun _ => rfl) | exact SlIn.reads (by repeat constructor) (by assumption)) (by first | assumption | rfl) (by rfl)).r ?_ | refine m_take 7 rfl (by kernel_rfl) (by decide) (by first | exact (List.Perm.refl _ : List.Perm _ ([] ++ _)) | exact (List.Perm.refl _ : List.Perm _ ([_] ++ _)) | exact (List.Perm.refl _ : List.Perm _ ([_, _] ++ _)) | exact (List.Perm.refl _ : List.Perm _ ([_, _, _] ++ _)) | exact (List.Perm.refl _ : List.Perm _ ([_, _, _, _] ++ _)) | exact (List.Perm.refl _ : List.Perm _ ([_, _, _, _, _] ++ _))) (by first | exact fun _ h => h | exact fun _ h => List.mem_cons_of_mem _ h | exact fun _ h => List.mem_cons_of_mem _ (List.mem_cons_of_mem _ h)) (r_loadf Tryd.underlying22 rfl rfl (by first | exact .fact (by repeat constructor) | exact .own (by repeat constructor) (by decide) (fun _ => rfl) | exact SlIn.reads (by repeat constructor) (by assumption)) (by assumption) (by rfl)).r ?_
   refine m_takep 8 rfl (by kernel_rfl) (by decide) (p_move rfl) ?_
   first | refine m_take 9 rfl (by kernel_rfl) (by decide) (by first | exact (List.Perm.refl _ : List.Perm _ ([] ++ _)) | exact (List.Perm.refl _ : List.Perm _ ([_] ++ _)) | exact (List.Perm.refl _ : List.Perm _ ([_, _] ++ _)) | exact (List.Perm.refl _ : List.Perm _ ([_, _, _] ++ _)) | exact (List.Perm.refl _ : List.Perm _ ([_, _, _, _] ++ _)) | exact (List.Perm.refl _ : List.Perm _ ([_, _, _, _, _] ++ _))) (by first | exact fun _ h => h | exact fun _ h => List.mem_cons_of_mem _ h | exact fun _ h => List.mem_cons_of_mem _ (List.mem_cons_of_mem _ h)) (r_index Tryd.underlying22 inf_44 rfl rfl rfl (by first | exact .fact (by repeat constructor) | exact .own (by repeat constructor) (by decide) (fun _ => rfl) | exact SlIn.reads (by repeat constructor) (by assumption)) rfl (by omega)).r ?_ | refine m_take 9 rfl (by kernel_rfl) (by decide) (by first | exact (List.Perm.refl _ : List.Perm _ ([] ++ _)) | exact (List.Perm.refl _ : List.Perm _ ([_] ++ _)) | exact (List.Perm.refl _ : List.Perm _ ([_, _] ++ _)) | exact (List.Perm.refl _ : List.Perm _ ([_, _, _] ++ _)) | exact (List.Perm.refl _ : List.Perm _ ([_, _, _, _] ++ _)) | exact (List.Perm.refl _ : List.Perm _ ([_, _, _, _, _] ++ _))) (by first | exact fun _ h => h | exact fun _ h => List.mem_cons_of_mem _ h | exact fun _ h => List.mem_cons_of_mem _ (List.mem_cons_of_mem _ h)) (r_index Tryd.underlying22 inf_44 rfl rfl rfl (by first | exact .fact (by repeat constructor) | exact .own (by repeat constructor) (by decide) (fun _ => rfl) | exact SlIn.reads (by repeat constructor) (by assumption)) rfl (by decide)).r ?_ | refine m_takep 9 rfl (by kernel_rfl) (by decide) (p_indexo Tryd.underlying22 inf_44 rfl rfl rfl (by omega)) ?_
   first | refine m_takep 10 rfl (by kernel_rfl) (by decide) (p_faddr (i := 1) 1 Tryd.underlying44 rfl inf_23 (by decide) rfl rfl) ?_ | refine m_takep 10 rfl (by kernel_rfl) (by decide) (p_faddro (i := 1) 1 Tryd.underlying44 rfl inf_23 (by decide) rfl rfl) ?_
   first | refine m_take 11 rfl (by kernel_rfl) (by decide) (by first | exact (List.Perm.refl _ : List.Perm _ ([] ++ _)) | exact (List.Perm.refl _ : List.Perm _ ([_] ++ _)) | exact (List.Perm.refl _ : List.Perm _ ([_, _] ++ _)) | exact (List.Perm.refl _ : List.Perm _ ([_, _, _] ++ _)) | exact (List.Perm.refl _ : List.Perm _ ([_, _, _, _] ++ _)) | exact (List.Perm.refl _ : List.Perm _ ([_, _, _, _, _] ++ _))) (by first | exact fun _ h => h | exact fun _ h => List.mem_cons_of_mem _ h | exact fun _ h => List.mem_cons_of_mem _ (List.mem_cons_of_mem _ h)) (r_loado Tryd.underlying23 rfl rfl (by repeat constructor) (by rfl)).r ?_ | refine m_take 11 rfl (by kernel_rfl) (by decide) (by first | exact (List.Perm.refl _ : List.Perm _ ([] ++ _)) | exact (List.Perm.refl _ : List.Perm _ ([_] ++ _)) | exact (List.Perm.refl _ : List.Perm _ ([_, _] ++ _)) | exact (List.Perm.refl _ : List.Perm _ ([_, _, _] ++ _)) | exact (List.Perm.refl _ : List.Perm _ ([_, _, _, _] ++ _)) | exact (List.Perm.refl _ : List.Perm _ ([_, _, _, _, _] ++ _))) (by first | exact fun _ h => h | exact fun _ h => List.mem_cons_of_mem _ h | exact fun _ h => List.mem_cons_of_mem _ (List.mem_cons_of_mem _ h)) (r_load1 Tryd.underlying23 rfl rfl (by first | exact .fact (by repeat constructor) | exact .own (by repeat constructor) (by decide) (fun _ => rfl) | exact SlIn.reads (by repeat constructor) (by assumption)) (by first | assumption | rfl) (by rfl)).r ?_ | refine m_take 11 rfl (by kernel_rfl) (by decide) (by first | exact (List.Perm.refl _ : List.Perm _ ([] ++ _)) | exact (List.Perm.refl _ : List.Perm _ ([_] ++ _)) | exact (List.Perm.refl _ : List.Perm _ ([_, _] ++ _)) | exact (List.Perm.refl _ : List.Perm _ ([_, _, _] ++ _)) | exact (List.Perm.refl _ : List.Perm _ ([_, _, _, _] ++ _)) | exact (List.Perm.refl _ : List.Perm _ ([_, _, _, _, _] ++ _))) (by first | exact fun _ h => h | exact fun _ h => List.mem_cons_of_mem _ h | exact fun _ h => List.mem_cons_of_mem _ (List.mem_cons_of_mem _ h)) (r_loadf Tryd.underlying23 rfl rfl (by first | exact .fact (by repeat constructor) | exact .own (by repeat constructor) (by decide) (fun _ => rfl) | exact SlIn.reads (by repeat constructor) (by assumption)) (by assumption) (by rfl)).r ?_
   refine m_takep 12 rfl (by kernel_rfl) (by decide) (p_move rfl) ?_
   refine m_takep 13 rfl (by kernel_rfl) (by decide) (p_move rfl) ?_
   first | refine m_take 14 rfl (by kernel_rfl) (by decide) (by first | exact (List.Perm.refl _ : List.Perm _ ([] ++ _)) | exact (List.Perm.refl _ : List.Perm _ ([_] ++ _)) | exact (List.Perm.refl _ : List.Perm _ ([_, _] ++ _)) | exact (List.Perm.refl _ : List.Perm _ ([_, _, _] ++ _)) | exact (List.Perm.refl _ : List.Perm _ ([_, _, _, _] ++ _)) | exact (List.Perm.refl _ : List.Perm _ ([_, _, _, _, _] ++ _))) (by first | exact fun _ h => h | exact fun _ h => List.mem_cons_of_mem _ h | exact fun _ h => List.mem_cons_of_mem _ (List.mem_cons_of_mem _ h)) (r_index Tryd.underlying23 inf_3 rfl rfl rfl (by first | exact .fact (by repeat constructor) | exact .own (by repeat constructor) (by decide) (fun _ => rfl) | exact SlIn.reads (by repeat constructor) (by assumption)) rfl (by omega)).r ?_ | refine m_take 14 rfl (by kernel_rfl) (by decide) (by first | exact (List.Perm.refl _ : List.Perm _ ([] ++ _)) | exact (List.Perm.refl _ : List.Perm _ ([_] ++ _)) | exact (List.Perm.refl _ : List.Perm _ ([_, _] ++ _)) | exact (List.Perm.refl _ : List.Perm _ ([_, _, _] ++ _)) | exact (List.Perm.refl _ : List.Perm _ ([_, _, _, _] ++ _)) | exact (List.Perm.refl _ : List.Perm _ ([_, _, _, _, _] ++ _))) (by first | exact fun _ h => h | exact fun _ h => List.mem_cons_of_mem _ h | exact fun _ h => List.mem_cons_of_mem _ (List.mem_cons_of_mem _ h)) (r_index Tryd.underlying23 inf_3 rfl rfl rfl (by first | exact .fact (by repeat constructor) | exact .own (by repeat constructor) (by decide) (fun _ => rfl) | exact SlIn.reads (by repeat constructor) (by assumption)) rfl (by decide)).r ?_ | refine m_takep 14 rfl (by kernel_rfl) (by decide) (p_indexo Tryd.underlying23 inf_3 rfl rfl rfl (by omega)) ?_
   first | refine m_take 15 rfl (by kernel_rfl) (by decide) (by first | exact (List.Perm.refl _ : List.Perm _ ([] ++ _)) | exact (List.Perm.refl _ : List.Perm _ ([_] ++ _)) | exact (List.Perm.refl _ : List.Perm _ ([_, _] ++ _)) | exact (List.Perm.refl _ : List.Perm _ ([_, _, _] ++ _)) | exact (List.Perm.refl _ : List.Perm _ ([_, _, _, _] ++ _)) | exact (List.Perm.refl _ : List.Perm _ ([_, _, _, _, _] ++ _))) (by first | exact fun _ h => h | exact fun _ h => List.mem_cons_of_mem _ h | exact fun _ h => List.mem_cons_of_mem _ (List.mem_cons_of_mem _ h)) (r_loado Tryd.underlying3 rfl rfl (by repeat constructor) (by rfl)).r ?_ | refine m_take 15 rfl (by kernel_rfl) (by decide) (by first | exact (List.Perm.refl _ : List.Perm _ ([] ++ _)) | exact (List.Perm.refl _ : List.Perm _ ([_] ++ _)) | exact (List.Perm.refl _ : List.Perm _ ([_, _] ++ _)) | exact (List.Perm.refl _ : List.Perm _ ([_, _, _] ++ _)) | exact (List.Perm.refl _ : List.Perm _ ([_, _, _, _] ++ _)) | exact (List.Perm.refl _ : List.Perm _ ([_, _, _, _, _] ++ _))) (by first | exact fun _ h => h | exact fun _ h => List.mem_cons_of_mem _ h | exact fun _ h => List.mem_cons_of_mem _ (List.mem_cons_of_mem _ h)) (r_load1 Tryd.underlying3 rfl rfl (by first | exact .fact (by repeat constructor) | exact .own (by repeat constructor) (by decide) (fun _ => rfl) | exact SlIn.reads (by repeat constructor) (by assumption)) (by first | assumption | rfl) (by rfl)).r ?_ | refine m_take 15 rfl (by kernel_rfl) (by decide) (by first | exact (List.Perm.refl _ : List.Perm _ ([] ++ _)) | exact (List.Perm.refl _ : List.Perm _ ([_] ++ _)) | exact (List.Perm.refl _ : List.Perm _ ([_, _] ++ _)) | exact (List.Perm.refl _ : List.Perm _ ([_, _, _] ++ _)) | exact (List.Perm.refl _ : List.Perm _ ([_, _, _, _] ++ _)) | exact (List.Perm.refl _ : List.Perm _ ([_, _, _, _, _] ++ _))) (by first | exact fun _ h => h | exact fun _ h => List.mem_cons_of_mem _ h | exact fun _ h => List.mem_cons_of_mem _ (List.mem_cons_of_mem _ h)) (r_loadf Tryd.underlying3 rfl rfl (by first | exact .fact (by repeat constructor) | exact .own (by repeat constructor) (by decide) (fun _ => rfl) | exact SlIn.reads (by repeat constructor) (by assumption)) (by assumption) (by rfl)).r ?_
   first | refine m_take 16 rfl (by kernel_rfl) (by decide) (by first | exact (List.Perm.refl _ : List.Perm _ ([] ++ _)) | exact (List.Perm.refl _ : List.Perm _ ([_] ++ _)) | exact (List.Perm.refl _ : List.Perm _ ([_, _] ++ _)) | exact (List.Perm.refl _ : List.Perm _ ([_, _, _] ++ _)) | exact (List.Perm.refl _ : List.Perm _ ([_, _, _, _] ++ _)) | exact (List.Perm.refl _ : List.Perm _ ([_, _, _, _, _] ++ _))) (by first | exact fun _ h => h | exact fun _ h => List.mem_cons_of_mem _ h | exact fun _ h => List.mem_cons_of_mem _ (List.mem_cons_of_mem _ h)) (r_index Tryd.underlying23 inf_3 rfl rfl rfl (by first | exact .fact (by repeat constructor) | exact .own (by repeat constructor) (by decide) (fun _ => rfl) | exact SlIn.reads (by repeat constructor) (by assumption)) rfl (by omega)).r ?_ | refine m_take 16 rfl (by kernel_rfl) (by decide) (by first | exact (List.Perm.refl _ : List.Perm _ ([] ++ _)) | exact (List.Perm.refl _ : List.Perm _ ([_] ++ _)) | exact (List.Perm.refl _ : List.Perm _ ([_, _] ++ _)) | exact (List.Perm.refl _ : List.Perm _ ([_, _, _] ++ _)) | exact (List.Perm.refl _ : List.Perm _ ([_, _, _, _] ++ _)) | exact (List.Perm.refl _ : List.Perm _ ([_, _, _, _, _] ++ _))) (by first | exact fun _ h => h | exact fun _ h => List.mem_cons_of_mem _ h | exact fun _ h => List.mem_cons_of_mem _ (List.mem_cons_of_mem _ h)) (r_index Tryd.underlying23 inf_3 rfl rfl rfl (by first | exact .fact (by repeat constructor) | exact .own (by repeat constructor) (by decide) (fun _ => rfl) | exact SlIn.reads (by repeat constructor) (by assumption)) rfl (by decide)).r ?_ | refine m_takep 16 rfl (by kernel_rfl) (by decide) (p_indexo Tryd.underlying23 inf_3 rfl rfl rfl (by omega)) ?_
   first | refine m_take 17 rfl (by kernel_rfl) (by decide) (by first | exact (List.Perm.refl _ : List.Perm _ ([] ++ _)) | exact (List.Perm.refl _ : List.Perm _ ([_] ++ _)) | exact (List.Perm.refl _ : List.Perm _ ([_, _] ++ _)) | exact (List.Perm.refl _ : List.Perm _ ([_, _, _] ++ _)) | exact (List.Perm.refl _ : List.Perm _ ([_, _, _, _] ++ _)) | exact (List.Perm.refl _ : List.Perm _ ([_, _, _, _, _] ++ _))) (by first | exact fun _ h => h | exact fun _ h => List.mem_cons_of_mem _ h | exact fun _ h => List.mem_cons_of_mem _ (List.mem_cons_of_mem _ h)) (r_loado Tryd.underlying3 rfl rfl (by repeat constructor) (by rfl)).r ?_ | refine m_take 17 rfl (by kernel_rfl) (by decide) (by first | exact (List.Perm.refl _ : List.Perm _ ([] ++ _)) | exact (List.Perm.refl _ : List.Perm _ ([_] ++ _)) | exact (List.Perm.refl _ : List.Perm _ ([_, _] ++ _)) | exact (List.Perm.refl _ : List.Perm _ ([_, _, _] ++ _)) | exact (List.Perm.refl _ : List.Perm _ ([_, _, _, _] ++ _)) | exact (List.Perm.refl _ : List.Perm _ ([_, _, _, _, _] ++ _))) (by first | exact fun _ h => h | exact fun _ h => List.mem_cons_of_mem _ h | exact fun _ h => List.mem_cons_of_mem _ (List.mem_cons_of_mem _ h)) (r_load1 Tryd.underlying3 rfl rfl (by first | exact .fact (by repeat constructor) | exact .own (by repeat constructor) (by decide) (fun _ => rfl) | exact SlIn.reads (by repeat constructor) (by assumption)) (by first | assumption | rfl) (by rfl)).r ?_ | refine m_take 17 rfl (by kernel_rfl) (by decide) (by first | exact (List.Perm.refl _ : List.Perm _ ([] ++ _)) | exact (List.Perm.refl _ : List.Perm _ ([_] ++ _)) | exact (List.Perm.refl _ : List.Perm _ ([_, _] ++ _)) | exact (List.Perm.refl _ : List.Perm _ ([_, _, _] ++ _)) | exact (List.Perm.refl _ : List.Perm _ ([_, _, _, _] ++ _)) | exact (List.Perm.refl _ : List.Perm _ ([_, _, _, _, _] ++ _))) (by first | exact fun _ h => h | exact fun _ h => List.mem_cons_of_mem _ h | exact fun _ h => List.mem_cons_of_mem _ (List.mem_cons_of_mem _ h)) (r_loadf Tryd.underlying3 rfl rfl (by first | exact .fact (by repeat constructor) | exact .own (by repeat constructor) (by decide) (fun _ => rfl) | exact SlIn.reads (by repeat constructor) (by assumption)) (by assumption) (by rfl)).r ?_
   refine m_takep 18 rfl (by kernel_rfl) (by decide) (((p_build (cells := #[_, _, _, _, _]) inf_64 pl_64 rfl rfl)).to (u := .agg #[.int .i64 1, .int .i64 (t : Int), .int .i64 r, .int .i64 1, .int .i64 1]) (rfl)) ?_
   refine m_run 19 rfl (by kernel_rfl) ?_
   refine l_buildSlice (by decide) Tryd.underlying61 inf_64 (by decide) (by decide) rfl rfl rfl rfl (fun b60 => ?_)
   refine l_nil ?_
   refine m_next _ (by first | exact (List.Perm.refl _ : List.Perm _ ([] ++ _)) | exact (List.Perm.refl _ : List.Perm _ ([_] ++ _)) | exact (List.Perm.refl _ : List.Perm _ ([_, _] ++ _)) | exact (List.Perm.refl _ : List.Perm _ ([_, _, _] ++ _)) | exact (List.Perm.refl _ : List.Perm _ ([_, _, _, _] ++ _)) | exact (List.Perm.refl _ : List.Perm _ ([_, _, _, _, _] ++ _))) (by first | exact fun _ h => h | exact fun _ h => List.mem_cons_of_mem _ h | exact fun _ h => List.mem_cons_of_mem _ (List.mem_cons_of_mem _ h)) ?_
   refine m_run 20 rfl (by kernel_rfl) ?_
   first | (refine l_append1 ((⟨⟨1, (t : Int)⟩, r, 1, 1⟩ : Ed.Stp)) (by decide) Tryd.underlying61 inf_64 rfl (by decide) rfl rfl rfl rfl rfl rfl (by have := (Ed.st1_shape X.pl i (y.drop j)).1; have := (Ed.st2_shape X.pl i).1; have := (Ed.st3_shape X.pl (y.drop j)).1; (try simp only [List.length_append]); (try simp only [List.length_nil]); omega) (by have := (Ed.st1_shape X.pl i (y.drop j)).1; have := (Ed.st2_shape X.pl i).1; have := (Ed.st3_shape X.pl (y.drop j)).1; (try simp only [List.length_append]); (try simp only [List.length_nil]); omega) (fun A61 c61 hA61 => ?_)) | (refine l_perm (.cons _ (front1 _ _ _)) ?_; refine l_append1 ((⟨⟨1, (t : Int)⟩, r, 1, 1⟩ : Ed.Stp)) (by decide) Tryd.underlying61 inf_64 rfl (by decide) rfl rfl rfl rfl rfl rfl (by have := (Ed.st1_shape X.pl i (y.drop j)).1; have := (Ed.st2_shape X.pl i).1; have := (Ed.st3_shape X.pl (y.drop j)).1; (try simp only [List.length_append]); (try simp only [List.length_nil]); omega) (by have := (Ed.st1_shape X.pl i (y.drop j)).1; have := (Ed.st2_shape X.pl i).1; have := (Ed.st3_shape X.pl (y.drop j)).1; (try simp only [List.length_append]); (try simp only [List.length_nil]); omega) (fun A61 c61 hA61 => ?_)) | (refine l_perm (.cons _ (front2 _ _ _ _)) ?_; refine l_append1 ((⟨⟨1, (t : Int)⟩, r, 1, 1⟩ : Ed.Stp)) (by decide) Tryd.underlying61 inf_64 rfl (by decide) rfl rfl rfl rfl rfl rfl (by have := (Ed.st1_shape X.pl i (y.drop j)).1; have := (Ed.st2_shape X.pl i).1; have := (Ed.st3_shape X.pl (y.drop j)).1; (try simp only [List.length_append]); (try simp only [List.length_nil]); omega) (by have := (Ed.st1_shape X.pl i (y.drop j)).1; have := (Ed.st2_shape X.pl i).1; have := (Ed.st3_shape X.pl (y.drop j)).1; (try simp only [List.length_append]); (try simp only [List.length_nil]); omega) (fun A61 c61 hA61 => ?_))
   refine l_nil ?_
   refine m_late rfl ?_
   refine m_takep 21 rfl (by kernel_rfl) (by decide) (p_assign rfl) ?_
   refine m_done (by kernel_rfl) ?_
   rw [st1_eq hx0 hu0 hr0, if_pos h40]
   refine c_join (A61, c61) ?inv ?sub ?perm ?facts
   case sub => exact ⟨rfl, rfl, rfl, rfl, rfl, rfl, rfl, trivial⟩
   case perm =>
    exact .refl _
   case facts => exact fun _ h => h
   case inv =>
    trivial
  ·skip
   refine c_skip ?_
   rw [st1_eq hx0 hu0 hr0, if_neg h40]
   refine c_join (none, 0) ?inv ?sub ?perm ?facts
   case sub => exact ⟨rfl, rfl, rfl, rfl, rfl, rfl, rfl, trivial⟩
   case perm =>
    exact .refl _
   case facts => exact fun _ h => h
   case inv =>
    trivial
 rintro ⟨A61, e61⟩ hmeet
 show Cont _ _ _ _ [(1, .slice C y.length e), (2, .int .i64 (i : Int)), (3, .int .i64 (j : Int)), (4, .pointer (some ⟨b4, 0, none⟩)), (9, .slice A61 (Ed.st1 X.pl i (y.drop j)).length e61), (10, .bool (decide (i < X.xs.length))), (11, .int .i64 ((y.length - j : Nat) : Int))] ([iSl 64 5 stpF A61 e61 (Ed.st1 X.pl i (y.drop j)), iCells b4 25 [.slice X.A X.xs.length X.c, .slice X.B X.ins.length X.d, .int .i64 X.sw]]) (Sl 1 intF C y :: [Rd X.xs, Sl 1 intF X.B X.ins, Sl 3 colF X.A X.xs])
 refine c_seq ?_
 refine c_seq ?_
 refine c_meetn (S := Unit) (fun zs => True) (fun zs => [(1, .slice C y.length e), (2, .int .i64 (i : Int)), (3, .int .i64 (j : Int)), (4, .pointer (some ⟨b4, 0, none⟩)), (9, .slice A61 (Ed.st1 X.pl i (y.drop j)).length e61), (11, .int .i64 ((y.length - j : Nat) : Int)), (71, .bool (decide (i < X.xs.length ∧ x.o.del < 1099511627776)))]) (fun zs => [iSl 64 5 stpF A61 e61 (Ed.st1 X.pl i (y.drop j)), iCells b4 25 [.slice X.A X.xs.length X.c, .slice X.B X.ins.length X.d, .int .i64 X.sw]]) (fun zs => (Sl 1 intF C y :: [Rd X.xs, Sl 1 intF X.B X.ins, Sl 3 colF X.A X.xs])) ?_ ?_
 ·skip
  refine c_reg ?_
  refine l_q (by decide) (p_move rfl).q ?_
  refine l_q (by decide) (p_move rfl).q ?_
  first | refine l_splitd (t := 63) rfl (fun h63 => ?_) (fun h63 => ?_) | refine l_splitb (t := 63) rfl (fun h63 => ?_) (fun h63 => ?_)
  ·skip
   have hx := hx0 (by omega)
   first | refine l_g (j := 1) rfl rfl (by decide) (p_faddr (i := 0) 0 Tryd.underlying25 rfl inf_22 (by decide) rfl rfl).q ?_ | refine l_g (j := 1) rfl rfl (by decide) (p_faddro (i := 0) 0 Tryd.underlying25 rfl inf_22 (by decide) rfl rfl).q ?_
   first | refine l_g (j := 1) rfl rfl (by decide) (r_loado Tryd.underlying22 rfl rfl (by repeat constructor) (by rfl)).q ?_ | refine l_g (j := 1) rfl rfl (by decide) (r_load1 Tryd.underlying22 rfl rfl (by first | exact .fact (by repeat constructor) | exact .own (by repeat constructor) (by decide) (fun _ => rfl) | exact SlIn.reads (by repeat constructor) (by assumption)) (by first | assumption | rfl) (by rfl)).q ?_ | refine l_g (j := 1) rfl rfl (by decide) (r_loadf Tryd.underlying22 rfl rfl (by first | exact .fact (by repeat constructor) | exact .own (by repeat constructor) (by decide) (fun _ => rfl) | exact SlIn.reads (by repeat constructor) (by assumption)) (by assumption) (by rfl)).q ?_
   refine l_g (j := 1) rfl rfl (by decide) (p_move rfl).q ?_
   first | refine l_g (j := 1) rfl rfl (by decide) (r_index Tryd.underlying22 inf_44 rfl rfl rfl (by first | exact .fact (by repeat constructor) | exact .own (by repeat constructor) (by decide) (fun _ => rfl) | exact SlIn.reads (by repeat constructor) (by assumption)) rfl (by omega)).q ?_ | refine l_g (j := 1) rfl rfl (by decide) (r_index Tryd.underlying22 inf_44 rfl rfl rfl (by first | exact .fact (by repeat constructor) | exact .own (by repeat constructor) (by decide) (fun _ => rfl) | exact SlIn.reads (by repeat constructor) (by assumption)) rfl (by decide)).q ?_ | refine l_g (j := 1) rfl rfl (by decide) (p_indexo Tryd.underlying22 inf_44 rfl rfl rfl (by omega)).q ?_
   first | refine l_g (j := 1) rfl rfl (by decide) (p_faddr (i := 2) 2 Tryd.underlying44 rfl inf_3 (by decide) rfl rfl).q ?_ | refine l_g (j := 1) rfl rfl (by decide) (p_faddro (i := 2) 2 Tryd.underlying44 rfl inf_3 (by decide) rfl rfl).q ?_
   first | refine l_g (j := 1) rfl rfl (by decide) (r_loado Tryd.underlying3 rfl rfl (by repeat constructor) (by rfl)).q ?_ | refine l_g (j := 1) rfl rfl (by decide) (r_load1 Tryd.underlying3 rfl rfl (by first | exact .fact (by repeat constructor) | exact .own (by repeat constructor) (by decide) (fun _ => rfl) | exact SlIn.reads (by repeat constructor) (by assumption)) (by first | assumption | rfl) (by rfl)).q ?_ | refine l_g (j := 1) rfl rfl (by decide) (r_loadf Tryd.underlying3 rfl rfl (by first | exact .fact (by repeat constructor) | exact .own (by repeat constructor) (by decide) (fun _ => rfl) | exact SlIn.reads (by repeat constructor) (by assumption)) (by assumption) (by rfl)).q ?_
   first | refine l_g (j := 1) rfl rfl (by decide) (p_lss (j := 1099511627776) rfl rfl rfl rfl).q ?_ | refine l_g (j := 1) rfl rfl (by decide) (p_lssi rfl rfl).q ?_
   refine l_q (by decide) (p_pick rfl rfl).q ?_
   refine l_nil ?_
   refine c_join (()) ?inv ?sub ?perm ?facts
   case sub => exact ⟨rfl, rfl, rfl, rfl, rfl, rfl, (by first | rfl | exact congrArg (fun b => some (Value.bool b)) (decide_eq_true (by omega)).symm | exact congrArg (fun b => some (Value.bool b)) (decide_eq_false (by omega)).symm | exact congrArg (fun b => some (Value.bool b)) (decide_eq_decide.2 (by omega))), trivial⟩
   case perm =>
    exact .refl _
   case facts => exact fun _ h => h
   case inv =>
    trivial
  ·skip
   refine l_off (j := 1) rfl rfl (by first | (simp; done) | (simp [undef]; done)) (by decide) ?_
   refine l_off (j := 1) rfl rfl (by first | (simp; done) | (simp [undef]; done)) (by decide) ?_
   refine l_off (j := 1) rfl rfl (by first | (simp; done) | (simp [undef]; done)) (by decide) ?_
   refine l_off (j := 1) rfl rfl (by first | (simp; done) | (simp [undef]; done)) (by decide) ?_
   refine l_off (j := 1) rfl rfl (by first | (simp; done) | (simp [undef]; done)) (by decide) ?_
   refine l_off (j := 1) rfl rfl (by first | (simp; done) | (simp [undef]; done)) (by decide) ?_
   refine l_off (j := 1) rfl rfl (by first | (simp; done) | (simp [undef]; done)) (by decide) ?_
   refine l_q (by decide) (p_pick rfl rfl).q ?_
   refine l_nil ?_
   refine c_join (()) ?inv ?sub ?perm ?facts
   case sub => exact ⟨rfl, rfl, rfl, rfl, rfl, rfl, (by first | rfl | exact congrArg (fun b => some (Value.bool b)) (decide_eq_true (by omega)).symm | exact congrArg (fun b => some (Value.bool b)) (decide_eq_false (by omega)).symm | exact congrArg (fun b => some (Value.bool b)) (decide_eq_decide.2 (by omega))), trivial⟩
   case perm =>
    exact .refl _
   case facts => exact fun _ h => h
   case inv =>
    trivial
 rintro uu hmeet
 show Cont _ _ _ _ [(1, .slice C y.length e), (2, .int .i64 (i : Int)), (3, .int .i64 (j : Int)), (4, .pointer (some ⟨b4, 0, none⟩)), (9, .slice A61 (Ed.st1 X.pl i (y.drop j)).length e61), (11, .int .i64 ((y.length - j : Nat) : Int)), (71, .bool (decide (i < X.xs.length ∧ x.o.del < 1099511627776)))] ([iSl 64 5 stpF A61 e61 (Ed.st1 X.pl i (y.drop j)), iCells b4 25 [.slice X.A X.xs.length X.c, .slice X.B X.ins.length X.d, .int .i64 X.sw]]) (Sl 1 intF C y :: [Rd X.xs, Sl 1 intF X.B X.ins, Sl 3 colF X.A X.xs])
 refine c_meetn (S := Option Addr × Nat) (fun zs => True) (fun zs => [(1, .slice C y.length e), (2, .int .i64 (i : Int)), (3, .int .i64 (j : Int)), (4, .pointer (some ⟨b4, 0, none⟩)), (9, .slice zs.1 (Ed.st1 X.pl i (y.drop j) ++ Ed.st2 X.pl i).length zs.2), (11, .int .i64 ((y.length - j : Nat) : Int))]) (fun zs => [iSl 64 5 stpF zs.1 zs.2 (Ed.st1 X.pl i (y.drop j) ++ Ed.st2 X.pl i), iCells b4 25 [.slice X.A X.xs.length X.c, .slice X.B X.ins.length X.d, .int .i64 X.sw]]) (fun zs => (Sl 1 intF C y :: [Rd X.xs, Sl 1 intF X.B X.ins, Sl 3 colF X.A X.xs])) ?_ ?_
 ·skip
  first | refine c_dec rfl (fun h71 => ?_) (fun h71 => ?_) | refine c_cond rfl (fun h71 => ?_) (fun h71 => ?_)
  ·skip
   have hx := hx0 (by omega)
   refine c_reg ?_
   refine l_q (by decide) (p_move rfl).q ?_
   refine l_q (by decide) (((p_build (cells := #[_, _]) inf_46 pl_46 rfl rfl)).to (u := .agg #[.int .i64 2, .int .i64 0]) (rfl)).q ?_
   first | refine l_q (by decide) (p_faddr (i := 0) 0 Tryd.underlying25 rfl inf_22 (by decide) rfl rfl).q ?_ | refine l_q (by decide) (p_faddro (i := 0) 0 Tryd.underlying25 rfl inf_22 (by decide) rfl rfl).q ?_
   first | refine l_q (by decide) (r_loado Tryd.underlying22 rfl rfl (by repeat constructor) (by rfl)).q ?_ | refine l_q (by decide) (r_load1 Tryd.underlying22 rfl rfl (by first | exact .fact (by repeat constructor) | exact .own (by repeat constructor) (by decide) (fun _ => rfl) | exact SlIn.reads (by repeat constructor) (by assumption)) (by first | assumption | rfl) (by rfl)).q ?_ | refine l_q (by decide) (r_loadf Tryd.underlying22 rfl rfl (by first | exact .fact (by repeat constructor) | exact .own (by repeat constructor) (by decide) (fun _ => rfl) | exact SlIn.reads (by repeat constructor) (by assumption)) (by assumption) (by rfl)).q ?_
   refine l_q (by decide) (p_move rfl).q ?_
   first | refine l_q (by decide) (r_index Tryd.underlying22 inf_44 rfl rfl rfl (by first | exact .fact (by repeat constructor) | exact .own (by repeat constructor) (by decide) (fun _ => rfl) | exact SlIn.reads (by repeat constructor) (by assumption)) rfl (by omega)).q ?_ | refine l_q (by decide) (r_index Tryd.underlying22 inf_44 rfl rfl rfl (by first | exact .fact (by repeat constructor) | exact .own (by repeat constructor) (by decide) (fun _ => rfl) | exact SlIn.reads (by repeat constructor) (by assumption)) rfl (by decide)).q ?_ | refine l_q (by decide) (p_indexo Tryd.underlying22 inf_44 rfl rfl rfl (by omega)).q ?_
   first | refine l_q (by decide) (p_faddr (i := 2) 2 Tryd.underlying44 rfl inf_3 (by decide) rfl rfl).q ?_ | refine l_q (by decide) (p_faddro (i := 2) 2 Tryd.underlying44 rfl inf_3 (by decide) rfl rfl).q ?_
   first | refine l_q (by decide) (r_loado Tryd.underlying3 rfl rfl (by repeat constructor) (by rfl)).q ?_ | refine l_q (by decide) (r_load1 Tryd.underlying3 rfl rfl (by first | exact .fact (by repeat constructor) | exact .own (by repeat constructor) (by decide) (fun _ => rfl) | exact SlIn.reads (by repeat constructor) (by assumption)) (by first | assumption | rfl) (by rfl)).q ?_ | refine l_q (by decide) (r_loadf Tryd.underlying3 rfl rfl (by first | exact .fact (by repeat constructor) | exact .own (by repeat constructor) (by decide) (fun _ => rfl) | exact SlIn.reads (by repeat constructor) (by assumption)) (by assumption) (by rfl)).q ?_
   refine l_q (by decide) (((p_build (cells := #[_, _, _, _, _]) inf_64 pl_64 rfl rfl)).to (u := .agg #[.int .i64 2, .int .i64 0, .int .i64 x.o.del, .int .i64 1, .int .i64 0]) (rfl)).q ?_
   refine l_buildSlice (by decide) Tryd.underlying61 inf_64 (by decide) (by decide) rfl rfl rfl rfl (fun b81 => ?_)
   first | (refine l_append1 ((⟨⟨2, 0⟩, x.o.del, 1, 0⟩ : Ed.Stp)) (by decide) Tryd.underlying61 inf_64 rfl (by decide) rfl rfl rfl rfl rfl rfl (by have := (Ed.st1_shape X.pl i (y.drop j)).1; have := (Ed.st2_shape X.pl i).1; have := (Ed.st3_shape X.pl (y.drop j)).1; (try simp only [List.length_append]); (try simp only [List.length_nil]); omega) (by have := (Ed.st1_shape X.pl i (y.drop j)).1; have := (Ed.st2_shape X.pl i).1; have := (Ed.st3_shape X.pl (y.drop j)).1; (try simp only [List.length_append]); (try simp only [List.length_nil]); omega) (fun A82 c82 hA82 => ?_)) | (refine l_perm (.cons _ (front1 _ _ _)) ?_; refine l_append1 ((⟨⟨2, 0⟩, x.o.del, 1, 0⟩ : Ed.Stp)) (by decide) Tryd.underlying61 inf_64 rfl (by decide) rfl rfl rfl rfl rfl rfl (by have := (Ed.st1_shape X.pl i (y.drop j)).1; have := (Ed.st2_shape X.pl i).1; have := (Ed.st3_shape X.pl (y.drop j)).1; (try simp only [List.length_append]); (try simp only [List.length_nil]); omega) (by have := (Ed.st1_shape X.pl i (y.drop j)).1; have := (Ed.st2_shape X.pl i).1; have := (Ed.st3_shape X.pl (y.drop j)).1; (try simp only [List.length_append]); (try simp only [List.length_nil]); omega) (fun A82 c82 hA82 => ?_)) | (refine l_perm (.cons _ (front2 _ _ _ _)) ?_; refine l_append1 ((⟨⟨2, 0⟩, x.o.del, 1, 0⟩ : Ed.Stp)) (by decide) Tryd.underlying61 inf_64 rfl (by decide) rfl rfl rfl rfl rfl rfl (by have := (Ed.st1_shape X.pl i (y.drop j)).1; have := (Ed.st2_shape X.pl i).1; have := (Ed.st3_shape X.pl (y.drop j)).1; (try simp only [List.length_append]); (try simp only [List.length_nil]); omega) (by have := (Ed.st1_shape X.pl i (y.drop j)).1; have := (Ed.st2_shape X.pl i).1; have := (Ed.st3_shape X.pl (y.drop j)).1; (try simp only [List.length_append]); (try simp only [List.length_nil]); omega) (fun A82 c82 hA82 => ?_))
   refine l_q (by decide) (p_assign rfl).q ?_
   refine l_nil ?_
   rw [st2_eq hx0, if_pos h71]
   refine c_join (A82, c82) ?inv ?sub ?perm ?facts
   case sub => exact ⟨rfl, rfl, rfl, rfl, rfl, rfl, trivial⟩
   case perm =>
    exact .refl _
   case facts => exact fun _ h => h
   case inv =>
    trivial
  ·skip
   refine c_skip ?_
   rw [st2_eq hx0, if_neg h71, List.append_nil]
   refine c_join (A61, e61) ?inv ?sub ?perm ?facts
   case sub => exact ⟨rfl, rfl, rfl, rfl, rfl, rfl, trivial⟩
   case perm =>
    exact .refl _
   case facts => exact fun _ h => h
   case inv =>
    trivial
 rintro ⟨A82, e82⟩ hmeet
 show Cont _ _ _ _ [(1, .slice C y.length e), (2, .int .i64 (i : Int)), (3, .int .i64 (j : Int)), (4, .pointer (some ⟨b4, 0, none⟩)), (9, .slice A82 (Ed.st1 X.pl i (y.drop j) ++ Ed.st2 X.pl i).length e82), (11, .int .i64 ((y.length - j : Nat) : Int))] ([iSl 64 5 stpF A82 e82 (Ed.st1 X.pl i (y.drop j) ++ Ed.st2 X.pl i), iCells b4 25 [.slice X.A X.xs.length X.c, .slice X.B X.ins.length X.d, .int .i64 X.sw]]) (Sl 1 intF C y :: [Rd X.xs, Sl 1 intF X.B X.ins, Sl 3 colF X.A X.xs])
 refine c_seq ?_
 refine c_seq ?_
 refine c_reg ?_
 refine l_q (by decide) (p_move rfl).q ?_
 first | refine l_q (by decide) (p_gtr (j := 0) rfl rfl rfl rfl).q ?_ | refine l_q (by decide) (p_gtri rfl rfl).q ?_
 refine l_nil ?_
 refine c_meetn (S := Option Addr × Nat) (fun zs => True) (fun zs => [(1, .slice C y.length e), (2, .int .i64 (i : Int)), (3, .int .i64 (j : Int)), (4, .pointer (some ⟨b4, 0, none⟩)), (9, .slice zs.1 ((Ed.st1 X.pl i (y.drop j) ++ Ed.st2 X.pl i) ++ Ed.st3 X.pl (y.drop j)).length zs.2), (11, .int .i64 ((y.length - j : Nat) : Int))]) (fun zs => [iSl 64 5 stpF zs.1 zs.2 ((Ed.st1 X.pl i (y.drop j) ++ Ed.st2 X.pl i) ++ Ed.st3 X.pl (y.drop j)), iCells b4 25 [.slice X.A X.xs.length X.c, .slice X.B X.ins.length X.d, .int .i64 X.sw]]) (fun zs => (Sl 1 intF C y :: [Rd X.xs, Sl 1 intF X.B X.ins, Sl 3 colF X.A X.xs])) ?_ ?_
 ·skip
  first | refine c_dec rfl (fun h84 => ?_) (fun h84 => ?_) | refine c_cond rfl (fun h84 => ?_) (fun h84 => ?_)
  ·skip
   have hu := hu0 (by omega)
   have hq := hq0 (by omega)
   have hql := at_lt hq
   refine m_draw [16] mixed ?_
   refine m_takep 0 rfl (by kernel_rfl) (by decide) (p_move rfl) ?_
   refine m_takep 1 rfl (by kernel_rfl) (by decide) (p_move rfl) ?_
   refine m_takep 2 rfl (by kernel_rfl) (by decide) (p_move rfl) ?_
   first | refine m_take 3 rfl (by kernel_rfl) (by decide) (by first | exact (List.Perm.refl _ : List.Perm _ ([] ++ _)) | exact (List.Perm.refl _ : List.Perm _ ([_] ++ _)) | exact (List.Perm.refl _ : List.Perm _ ([_, _] ++ _)) | exact (List.Perm.refl _ : List.Perm _ ([_, _, _] ++ _)) | exact (List.Perm.refl _ : List.Perm _ ([_, _, _, _] ++ _)) | exact (List.Perm.refl _ : List.Perm _ ([_, _, _, _, _] ++ _))) (by first | exact fun _ h => h | exact fun _ h => List.mem_cons_of_mem _ h | exact fun _ h => List.mem_cons_of_mem _ (List.mem_cons_of_mem _ h)) (r_index Tryd.underlying23 inf_3 rfl rfl rfl (by first | exact .fact (by repeat constructor) | exact .own (by repeat constructor) (by decide) (fun _ => rfl) | exact SlIn.reads (by repeat constructor) (by assumption)) rfl (by omega)).r ?_ | refine m_take 3 rfl (by kernel_rfl) (by decide) (by first | exact (List.Perm.refl _ : List.Perm _ ([] ++ _)) | exact (List.Perm.refl _ : List.Perm _ ([_] ++ _)) | exact (List.Perm.refl _ : List.Perm _ ([_, _] ++ _)) | exact (List.Perm.refl _ : List.Perm _ ([_, _, _] ++ _)) | exact (List.Perm.refl _ : List.Perm _ ([_, _, _, _] ++ _)) | exact (List.Perm.refl _ : List.Perm _ ([_, _, _, _, _] ++ _))) (by first | exact fun _ h => h | exact fun _ h => List.mem_cons_of_mem _ h | exact fun _ h => List.mem_cons_of_mem _ (List.mem_cons_of_mem _ h)) (r_index Tryd.underlying23 inf_3 rfl rfl rfl (by first | exact .fact (by repeat constructor) | exact .own (by repeat constructor) (by decide) (fun _ => rfl) | exact SlIn.reads (by repeat constructor) (by assumption)) rfl (by decide)).r ?_ | refine m_takep 3 rfl (by kernel_rfl) (by decide) (p_indexo Tryd.underlying23 inf_3 rfl rfl rfl (by omega)) ?_
   first | refine m_take 4 rfl (by kernel_rfl) (by decide) (by first | exact (List.Perm.refl _ : List.Perm _ ([] ++ _)) | exact (List.Perm.refl _ : List.Perm _ ([_] ++ _)) | exact (List.Perm.refl _ : List.Perm _ ([_, _] ++ _)) | exact (List.Perm.refl _ : List.Perm _ ([_, _, _] ++ _)) | exact (List.Perm.refl _ : List.Perm _ ([_, _, _, _] ++ _)) | exact (List.Perm.refl _ : List.Perm _ ([_, _, _, _, _] ++ _))) (by first | exact fun _ h => h | exact fun _ h => List.mem_cons_of_mem _ h | exact fun _ h => List.mem_cons_of_mem _ (List.mem_cons_of_mem _ h)) (r_loado Tryd.underlying3 rfl rfl (by repeat constructor) (by rfl)).r ?_ | refine m_take 4 rfl (by kernel_rfl) (by decide) (by first | exact (List.Perm.refl _ : List.Perm _ ([] ++ _)) | exact (List.Perm.refl _ : List.Perm _ ([_] ++ _)) | exact (List.Perm.refl _ : List.Perm _ ([_, _] ++ _)) | exact (List.Perm.refl _ : List.Perm _ ([_, _, _] ++ _)) | exact (List.Perm.refl _ : List.Perm _ ([_, _, _, _] ++ _)) | exact (List.Perm.refl _ : List.Perm _ ([_, _, _, _, _] ++ _))) (by first | exact fun _ h => h | exact fun _ h => List.mem_cons_of_mem _ h | exact fun _ h => List.mem_cons_of_mem _ (List.mem_cons_of_mem _ h)) (r_load1 Tryd.underlying3 rfl rfl (by first | exact .fact (by repeat constructor) | exact .own (by repeat constructor) (by decide) (fun _ => rfl) | exact SlIn.reads (by repeat constructor) (by assumption)) (by first | assumption | rfl) (by rfl)).r ?_ | refine m_take 4 rfl (by kernel_rfl) (by decide) (by first | exact (List.Perm.refl _ : List.Perm _ ([] ++ _)) | exact (List.Perm.refl _ : List.Perm _ ([_] ++ _)) | exact (List.Perm.refl _ : List.Perm _ ([_, _] ++ _)) | exact (List.Perm.refl _ : List.Perm _ ([_, _, _] ++ _)) | exact (List.Perm.refl _ : List.Perm _ ([_, _, _, _] ++ _)) | exact (List.Perm.refl _ : List.Perm _ ([_, _, _, _, _] ++ _))) (by first | exact fun _ h => h | exact fun _ h => List.mem_cons_of_mem _ h | exact fun _ h => List.mem_cons_of_mem _ (List.mem_cons_of_mem _ h)) (r_loadf Tryd.underlying3 rfl rfl (by first | exact .fact (by repeat constructor) | exact .own (by repeat constructor) (by decide) (fun _ => rfl) | exact SlIn.reads (by repeat constructor) (by assumption)) (by assumption) (by rfl)).r ?_
   refine m_takep 5 rfl (by kernel_rfl) (by decide) (((p_build (cells := #[_, _]) inf_46 pl_46 rfl rfl)).to (u := .agg #[.int .i64 3, .int .i64 (t : Int)]) (rfl)) ?_
   first | refine m_takep 6 rfl (by kernel_rfl) (by decide) (p_faddr (i := 1) 1 Tryd.underlying25 rfl inf_23 (by decide) rfl rfl) ?_ | refine m_takep 6 rfl (by kernel_rfl) (by decide) (p_faddro (i := 1) 1 Tryd.underlying25 rfl inf_23 (by decide) rfl rfl) ?_
   first | refine m_take 7 rfl (by kernel_rfl) (by decide) (by first | exact (List.Perm.refl _ : List.Perm _ ([] ++ _)) | exact (List.Perm.refl _ : List.Perm _ ([_] ++ _)) | exact (List.Perm.refl _ : List.Perm _ ([_, _] ++ _)) | exact (List.Perm.refl _ : List.Perm _ ([_, _, _] ++ _)) | exact (List.Perm.refl _ : List.Perm _ ([_, _, _, _] ++ _)) | exact (List.Perm.refl _ : List.Perm _ ([_, _, _, _, _] ++ _))) (by first | exact fun _ h => h | exact fun _ h => List.mem_cons_of_mem _ h | exact fun _ h => List.mem_cons_of_mem _ (List.mem_cons_of_mem _ h)) (r_loado Tryd.underlying23 rfl rfl (by repeat constructor) (by rfl)).r ?_ | refine m_take 7 rfl (by kernel_rfl) (by decide) (by first | exact (List.Perm.refl _ : List.Perm _ ([] ++ _)) | exact (List.Perm.refl _ : List.Perm _ ([_] ++ _)) | exact (List.Perm.refl _ : List.Perm _ ([_, _] ++ _)) | exact (List.Perm.refl _ : List.Perm _ ([_, _, _] ++ _)) | exact (List.Perm.refl _ : List.Perm _ ([_, _, _, _] ++ _)) | exact (List.Perm.refl _ : List.Perm _ ([_, _, _, _, _] ++ _))) (by first | exact fun _ h => h | exact fun _ h => List.mem_cons_of_mem _ h | exact fun _ h => List.mem_cons_of_mem _ (List.mem_cons_of_mem _ h)) (r_load1 Tryd.underlying23 rfl rfl (by first | exact .fact (by repeat constructor) | exact .own (by repeat constructor) (by decide) (fun _ => rfl) | exact SlIn.reads (by repeat constructor) (by assumption)) (by first | assumption | rfl) (by rfl)).r ?_ | refine m_take 7 rfl (by kernel_rfl) (by decide) (by first | exact (List.Perm.refl _ : List.Perm _ ([] ++ _)) | exact (List.Perm.refl _ : List.Perm _ ([_] ++ _)) | exact (List.Perm.refl _ : List.Perm _ ([_, _] ++ _)) | exact (List.Perm.refl _ : List.Perm _ ([_, _, _] ++ _)) | exact (List.Perm.refl _ : List.Perm _ ([_, _, _, _] ++ _)) | exact (List.Perm.refl _ : List.Perm _ ([_, _, _, _, _] ++ _))) (by first | exact fun _ h => h | exact fun _ h => List.mem_cons_of_mem _ h | exact fun _ h => List.mem_cons_of_mem _ (List.mem_cons_of_mem _ h)) (r_loadf Tryd.underlying23 rfl rfl (by first | exact .fact (by repeat constructor) | exact .own (by repeat constructor) (by decide) (fun _ => rfl) | exact SlIn.reads (by repeat constructor) (by assumption)) (by assumption) (by rfl)).r ?_
   refine m_takep 8 rfl (by kernel_rfl) (by decide) (p_move rfl) ?_
   refine m_takep 9 rfl (by kernel_rfl) (by decide) (p_move rfl) ?_
   first | refine m_take 10 rfl (by kernel_rfl) (by decide) (by first | exact (List.Perm.refl _ : List.Perm _ ([] ++ _)) | exact (List.Perm.refl _ : List.Perm _ ([_] ++ _)) | exact (List.Perm.refl _ : List.Perm _ ([_, _] ++ _)) | exact (List.Perm.refl _ : List.Perm _ ([_, _, _] ++ _)) | exact (List.Perm.refl _ : List.Perm _ ([_, _, _, _] ++ _)) | exact (List.Perm.refl _ : List.Perm _ ([_, _, _, _, _] ++ _))) (by first | exact fun _ h => h | exact fun _ h => List.mem_cons_of_mem _ h | exact fun _ h => List.mem_cons_of_mem _ (List.mem_cons_of_mem _ h)) (r_index Tryd.underlying23 inf_3 rfl rfl rfl (by first | exact .fact (by repeat constructor) | exact .own (by repeat constructor) (by decide) (fun _ => rfl) | exact SlIn.reads (by repeat constructor) (by assumption)) rfl (by omega)).r ?_ | refine m_take 10 rfl (by kernel_rfl) (by decide) (by first | exact (List.Perm.refl _ : List.Perm _ ([] ++ _)) | exact (List.Perm.refl _ : List.Perm _ ([_] ++ _)) | exact (List.Perm.refl _ : List.Perm _ ([_, _] ++ _)) | exact (List.Perm.refl _ : List.Perm _ ([_, _, _] ++ _)) | exact (List.Perm.refl _ : List.Perm _ ([_, _, _, _] ++ _)) | exact (List.Perm.refl _ : List.Perm _ ([_, _, _, _, _] ++ _))) (by first | exact fun _ h => h | exact fun _ h => List.mem_cons_of_mem _ h | exact fun _ h => List.mem_cons_of_mem _ (List.mem_cons_of_mem _ h)) (r_index Tryd.underlying23 inf_3 rfl rfl rfl (by first | exact .fact (by repeat constructor) | exact .own (by repeat constructor) (by decide) (fun _ => rfl) | exact SlIn.reads (by repeat constructor) (by assumption)) rfl (by decide)).r ?_ | refine m_takep 10 rfl (by kernel_rfl) (by decide) (p_indexo Tryd.underlying23 inf_3 rfl rfl rfl (by omega)) ?_
   first | refine m_take 11 rfl (by kernel_rfl) (by decide) (by first | exact (List.Perm.refl _ : List.Perm _ ([] ++ _)) | exact (List.Perm.refl _ : List.Perm _ ([_] ++ _)) | exact (List.Perm.refl _ : List.Perm _ ([_, _] ++ _)) | exact (List.Perm.refl _ : List.Perm _ ([_, _, _] ++ _)) | exact (List.Perm.refl _ : List.Perm _ ([_, _, _, _] ++ _)) | exact (List.Perm.refl _ : List.Perm _ ([_, _, _, _, _] ++ _))) (by first | exact fun _ h => h | exact fun _ h => List.mem_cons_of_mem _ h | exact fun _ h => List.mem_cons_of_mem _ (List.mem_cons_of_mem _ h)) (r_loado Tryd.underlying3 rfl rfl (by repeat constructor) (by rfl)).r ?_ | refine m_take 11 rfl (by kernel_rfl) (by decide) (by first | exact (List.Perm.refl _ : List.Perm _ ([] ++ _)) | exact (List.Perm.refl _ : List.Perm _ ([_] ++ _)) | exact (List.Perm.refl _ : List.Perm _ ([_, _] ++ _)) | exact (List.Perm.refl _ : List.Perm _ ([_, _, _] ++ _)) | exact (List.Perm.refl _ : List.Perm _ ([_, _, _, _] ++ _)) | exact (List.Perm.refl _ : List.Perm _ ([_, _, _, _, _] ++ _))) (by first | exact fun _ h => h | exact fun _ h => List.mem_cons_of_mem _ h | exact fun _ h => List.mem_cons_of_mem _ (List.mem_cons_of_mem _ h)) (r_load1 Tryd.underlying3 rfl rfl (by first | exact .fact (by repeat constructor) | exact .own (by repeat constructor) (by decide) (fun _ => rfl) | exact SlIn.reads (by repeat constructor) (by assumption)) (by first | assumption | rfl) (by rfl)).r ?_ | refine m_take 11 rfl (by kernel_rfl) (by decide) (by first | exact (List.Perm.refl _ : List.Perm _ ([] ++ _)) | exact (List.Perm.refl _ : List.Perm _ ([_] ++ _)) | exact (List.Perm.refl _ : List.Perm _ ([_, _] ++ _)) | exact (List.Perm.refl _ : List.Perm _ ([_, _, _] ++ _)) | exact (List.Perm.refl _ : List.Perm _ ([_, _, _, _] ++ _)) | exact (List.Perm.refl _ : List.Perm _ ([_, _, _, _, _] ++ _))) (by first | exact fun _ h => h | exact fun _ h => List.mem_cons_of_mem _ h | exact fun _ h => List.mem_cons_of_mem _ (List.mem_cons_of_mem _ h)) (r_loadf Tryd.underlying3 rfl rfl (by first | exact .fact (by repeat constructor) | exact .own (by repeat constructor) (by decide) (fun _ => rfl) | exact SlIn.reads (by repeat constructor) (by assumption)) (by assumption) (by rfl)).r ?_
   first | refine m_take 12 rfl (by kernel_rfl) (by decide) (by first | exact (List.Perm.refl _ : List.Perm _ ([] ++ _)) | exact (List.Perm.refl _ : List.Perm _ ([_] ++ _)) | exact (List.Perm.refl _ : List.Perm _ ([_, _] ++ _)) | exact (List.Perm.refl _ : List.Perm _ ([_, _, _] ++ _)) | exact (List.Perm.refl _ : List.Perm _ ([_, _, _, _] ++ _)) | exact (List.Perm.refl _ : List.Perm _ ([_, _, _, _, _] ++ _))) (by first | exact fun _ h => h | exact fun _ h => List.mem_cons_of_mem _ h | exact fun _ h => List.mem_cons_of_mem _ (List.mem_cons_of_mem _ h)) (r_index Tryd.underlying23 inf_3 rfl rfl rfl (by first | exact .fact (by repeat constructor) | exact .own (by repeat constructor) (by decide) (fun _ => rfl) | exact SlIn.reads (by repeat constructor) (by assumption)) rfl (by omega)).r ?_ | refine m_take 12 rfl (by kernel_rfl) (by decide) (by first | exact (List.Perm.refl _ : List.Perm _ ([] ++ _)) | exact (List.Perm.refl _ : List.Perm _ ([_] ++ _)) | exact (List.Perm.refl _ : List.Perm _ ([_, _] ++ _)) | exact (List.Perm.refl _ : List.Perm _ ([_, _, _] ++ _)) | exact (List.Perm.refl _ : List.Perm _ ([_, _, _, _] ++ _)) | exact (List.Perm.refl _ : List.Perm _ ([_, _, _, _, _] ++ _))) (by first | exact fun _ h => h | exact fun _ h => List.mem_cons_of_mem _ h | exact fun _ h => List.mem_cons_of_mem _ (List.mem_cons_of_mem _ h)) (r_index Tryd.underlying23 inf_3 rfl rfl rfl (by first | exact .fact (by repeat constructor) | exact .own (by repeat constructor) (by decide) (fun _ => rfl) | exact SlIn.reads (by repeat constructor) (by assumption)) rfl (by decide)).r ?_ | refine m_takep 12 rfl (by kernel_rfl) (by decide) (p_indexo Tryd.underlying23 inf_3 rfl rfl rfl (by omega)) ?_
   first | refine m_take 13 rfl (by kernel_rfl) (by decide) (by first | exact (List.Perm.refl _ : List.Perm _ ([] ++ _)) | exact (List.Perm.refl _ : List.Perm _ ([_] ++ _)) | exact (List.Perm.refl _ : List.Perm _ ([_, _] ++ _)) | exact (List.Perm.refl _ : List.Perm _ ([_, _, _] ++ _)) | exact (List.Perm.refl _ : List.Perm _ ([_, _, _, _] ++ _)) | exact (List.Perm.refl _ : List.Perm _ ([_, _, _, _, _] ++ _))) (by first | exact fun _ h => h | exact fun _ h => List.mem_cons_of_mem _ h | exact fun _ h => List.mem_cons_of_mem _ (List.mem_cons_of_mem _ h)) (r_loado Tryd.underlying3 rfl rfl (by repeat constructor) (by rfl)).r ?_ | refine m_take 13 rfl (by kernel_rfl) (by decide) (by first | exact (List.Perm.refl _ : List.Perm _ ([] ++ _)) | exact (List.Perm.refl _ : List.Perm _ ([_] ++ _)) | exact (List.Perm.refl _ : List.Perm _ ([_, _] ++ _)) | exact (List.Perm.refl _ : List.Perm _ ([_, _, _] ++ _)) | exact (List.Perm.refl _ : List.Perm _ ([_, _, _, _] ++ _)) | exact (List.Perm.refl _ : List.Perm _ ([_, _, _, _, _] ++ _))) (by first | exact fun _ h => h | exact fun _ h => List.mem_cons_of_mem _ h | exact fun _ h => List.mem_cons_of_mem _ (List.mem_cons_of_mem _ h)) (r_load1 Tryd.underlying3 rfl rfl (by first | exact .fact (by repeat constructor) | exact .own (by repeat constructor) (by decide) (fun _ => rfl) | exact SlIn.reads (by repeat constructor) (by assumption)) (by first | assumption | rfl) (by rfl)).r ?_ | refine m_take 13 rfl (by kernel_rfl) (by decide) (by first | exact (List.Perm.refl _ : List.Perm _ ([] ++ _)) | exact (List.Perm.refl _ : List.Perm _ ([_] ++ _)) | exact (List.Perm.refl _ : List.Perm _ ([_, _] ++ _)) | exact (List.Perm.refl _ : List.Perm _ ([_, _, _] ++ _)) | exact (List.Perm.refl _ : List.Perm _ ([_, _, _, _] ++ _)) | exact (List.Perm.refl _ : List.Perm _ ([_, _, _, _, _] ++ _))) (by first | exact fun _ h => h | exact fun _ h => List.mem_cons_of_mem _ h | exact fun _ h => List.mem_cons_of_mem _ (List.mem_cons_of_mem _ h)) (r_loadf Tryd.underlying3 rfl rfl (by first | exact .fact (by repeat constructor) | exact .own (by repeat constructor) (by decide) (fun _ => rfl) | exact SlIn.reads (by repeat constructor) (by assumption)) (by assumption) (by rfl)).r ?_
   refine m_takep 14 rfl (by kernel_rfl) (by decide) (((p_build (cells := #[_, _, _, _, _]) inf_64 pl_64 rfl rfl)).to (u := .agg #[.int .i64 3, .int .i64 (t : Int), .int .i64 q, .int .i64 0, .int .i64 1]) (rfl)) ?_
   refine m_run 15 rfl (by kernel_rfl) ?_
   refine l_buildSlice (by decide) Tryd.underlying61 inf_64 (by decide) (by decide) rfl rfl rfl rfl (fun b100 => ?_)
   refine l_nil ?_
   refine m_next _ (by first | exact (List.Perm.refl _ : List.Perm _ ([] ++ _)) | exact (List.Perm.refl _ : List.Perm _ ([_] ++ _)) | exact (List.Perm.refl _ : List.Perm _ ([_, _] ++ _)) | exact (List.Perm.refl _ : List.Perm _ ([_, _, _] ++ _)) | exact (List.Perm.refl _ : List.Perm _ ([_, _, _, _] ++ _)) | exact (List.Perm.refl _ : List.Perm _ ([_, _, _, _, _] ++ _))) (by first | exact fun _ h => h | exact fun _ h => List.mem_cons_of_mem _ h | exact fun _ h => List.mem_cons_of_mem _ (List.mem_cons_of_mem _ h)) ?_
   refine m_run 16 rfl (by kernel_rfl) ?_
   first | (refine l_append1 ((⟨⟨3, (t : Int)⟩, q, 0, 1⟩ : Ed.Stp)) (by decide) Tryd.underlying61 inf_64 rfl (by decide) rfl rfl rfl rfl rfl rfl (by have := (Ed.st1_shape X.pl i (y.drop j)).1; have := (Ed.st2_shape X.pl i).1; have := (Ed.st3_shape X.pl (y.drop j)).1; (try simp only [List.length_append]); (try simp only [List.length_nil]); omega) (by have := (Ed.st1_shape X.pl i (y.drop j)).1; have := (Ed.st2_shape X.pl i).1; have := (Ed.st3_shape X.pl (y.drop j)).1; (try simp only [List.length_append]); (try simp only [List.length_nil]); omega) (fun A101 c101 hA101 => ?_)) | (refine l_perm (.cons _ (front1 _ _ _)) ?_; refine l_append1 ((⟨⟨3, (t : Int)⟩, q, 0, 1⟩ : Ed.Stp)) (by decide) Tryd.underlying61 inf_64 rfl (by decide) rfl rfl rfl rfl rfl rfl (by have := (Ed.st1_shape X.pl i (y.drop j)).1; have := (Ed.st2_shape X.pl i).1; have := (Ed.st3_shape X.pl (y.drop j)).1; (try simp only [List.length_append]); (try simp only [List.length_nil]); omega) (by have := (Ed.st1_shape X.pl i (y.drop j)).1; have := (Ed.st2_shape X.pl i).1; have := (Ed.st3_shape X.pl (y.drop j)).1; (try simp only [List.length_append]); (try simp only [List.length_nil]); omega) (fun A101 c101 hA101 => ?_)) | (refine l_perm (.cons _ (front2 _ _ _ _)) ?_; refine l_append1 ((⟨⟨3, (t : Int)⟩, q, 0, 1⟩ : Ed.Stp)) (by decide) Tryd.underlying61 inf_64 rfl (by decide) rfl rfl rfl rfl rfl rfl (by have := (Ed.st1_shape X.pl i (y.drop j)).1; have := (Ed.st2_shape X.pl i).1; have := (Ed.st3_shape X.pl (y.drop j)).1; (try simp only [List.length_append]); (try simp only [List.length_nil]); omega) (by have := (Ed.st1_shape X.pl i (y.drop j)).1; have := (Ed.st2_shape X.pl i).1; have := (Ed.st3_shape X.pl (y.drop j)).1; (try simp only [List.length_append]); (try simp only [List.length_nil]); omega) (fun A101 c101 hA101 => ?_))
   refine l_nil ?_
   refine m_late rfl ?_
   refine m_takep 17 rfl (by kernel_rfl) (by decide) (p_assign rfl) ?_
   refine m_done (by kernel_rfl) ?_
   rw [st3_eq hu0 hq0, if_pos (by omega)]
   refine c_join (A101, c101) ?inv ?sub ?perm ?facts
   case sub => exact ⟨rfl, rfl, rfl, rfl, rfl, rfl, trivial⟩
   case perm =>
    exact .refl _
   case facts => exact fun _ h => h
   case inv =>
    trivial
  ·skip
   refine c_skip ?_
   rw [st3_eq hu0 hq0, if_neg (by omega), List.append_nil]
   refine c_join (A82, e82) ?inv ?sub ?perm ?facts
   case sub => exact ⟨rfl, rfl, rfl, rfl, rfl, rfl, trivial⟩
   case perm =>
    exact .refl _
   case facts => exact fun _ h => h
   case inv =>
    trivial
 rintro ⟨A101, e101⟩ hmeet
 show Cont _ _ _ _ [(1, .slice C y.length e), (2, .int .i64 (i : Int)), (3, .int .i64 (j : Int)), (4, .pointer (some ⟨b4, 0, none⟩)), (9, .slice A101 ((Ed.st1 X.pl i (y.drop j) ++ Ed.st2 X.pl i) ++ Ed.st3 X.pl (y.drop j)).length e101), (11, .int .i64 ((y.length - j : Nat) : Int))] ([iSl 64 5 stpF A101 e101 ((Ed.st1 X.pl i (y.drop j) ++ Ed.st2 X.pl i) ++ Ed.st3 X.pl (y.drop j)), iCells b4 25 [.slice X.A X.xs.length X.c, .slice X.B X.ins.length X.d, .int .i64 X.sw]]) (Sl 1 intF C y :: [Rd X.xs, Sl 1 intF X.B X.ins, Sl 3 colF X.A X.xs])
 refine c_seq ?_
 refine c_seq ?_
 refine c_meetn (S := Unit) (fun zs => True) (fun zs => [(4, .pointer (some ⟨b4, 0, none⟩)), (9, .slice A101 ((Ed.st1 X.pl i (y.drop j) ++ Ed.st2 X.pl i) ++ Ed.st3 X.pl (y.drop j)).length e101), (136, .bool (dec (Sw4 X i j y)))]) (fun zs => [iSl 64 5 stpF A101 e101 ((Ed.st1 X.pl i (y.drop j) ++ Ed.st2 X.pl i) ++ Ed.st3 X.pl (y.drop j)), iCells b4 25 [.slice X.A X.xs.length X.c, .slice X.B X.ins.length X.d, .int .i64 X.sw]]) (fun zs => (Sl 1 intF C y :: [Rd X.xs, Sl 1 intF X.B X.ins, Sl 3 colF X.A X.xs])) ?_ ?_
 ·skip
  refine c_draw mixed (by decide +kernel) ?_
  refine q_q (by decide) (p_move rfl).q ?_
  first | refine q_q (by decide) (p_gtr (j := 1) rfl rfl rfl rfl).q ?_ | refine q_q (by decide) (p_gtri rfl rfl).q ?_
  refine q_q (by decide) (p_move rfl).q ?_
  first | refine q_splitd (t := 104) rfl (fun h104 => ?_) (fun h104 => ?_) | refine q_splitb (t := 104) rfl (fun h104 => ?_) (fun h104 => ?_)
  ·skip
   first | refine q_g (j := 2) rfl rfl (by decide) (r_loada Tryd.underlying25 rfl inf_25 rfl (by first | exact .fact (by repeat constructor) | exact .own (by repeat constructor) (by decide) (fun _ => rfl) | exact SlIn.reads (by repeat constructor) (by assumption)) (by assumption)).q ?_ | refine q_g (j := 2) rfl rfl (by decide) (r_loadow Tryd.underlying25 rfl inf_25 rfl (by repeat constructor) (by rfl)).q ?_ | refine q_g (j := 2) rfl rfl (by decide) (r_loadoa Tryd.underlying25 rfl inf_25 rfl (by repeat constructor) (by rfl) (fun j u h => h)).q ?_
   refine q_g (j := 2) rfl rfl (by decide) (p_move rfl).q ?_
   refine q_g (j := 2) rfl rfl (by decide) (q_call call_39 rfl (fun w hs => swap2_ok X hX w (X.of hs (by repeat constructor) (by repeat constructor) (by repeat constructor)) i (by have := hX.xs; omega))) ?_
   refine q_q (by decide) (p_pick rfl rfl).q ?_
   refine q_q (by decide) (p_move rfl).q ?_
   first | refine q_splitd (t := 109) rfl (fun h109 => ?_) (fun h109 => ?_) | refine q_splitb (t := 109) rfl (fun h109 => ?_) (fun h109 => ?_)
   ·skip
    have hu := hu0 (by omega)
    have hu2 := hu20 (by omega)
    have hix : i + 1 < X.xs.length := by
      cases hsw : Ed.swp X.pl i with
      | none => rw [hsw] at h109; cases h109
      | some p => obtain ⟨a, b⟩ := p; obtain ⟨z, z2, _, h2, _⟩ := swp_at hsw; exact at_lt h2
    have hx := hx0 (by omega)
    have hx2 := hx20 hix
    have hy4 := fun h : Sw4 X i j y => h.2.2 _ _ _ _ hx hx2 hu hu2
    first | refine q_g (j := 7) rfl rfl (by decide) (p_faddr (i := 0) 0 Tryd.underlying25 rfl inf_22 (by decide) rfl rfl).q ?_ | refine q_g (j := 7) rfl rfl (by decide) (p_faddro (i := 0) 0 Tryd.underlying25 rfl inf_22 (by decide) rfl rfl).q ?_
    first | refine q_g (j := 7) rfl rfl (by decide) (r_loado Tryd.underlying22 rfl rfl (by repeat constructor) (by rfl)).q ?_ | refine q_g (j := 7) rfl rfl (by decide) (r_load1 Tryd.underlying22 rfl rfl (by first | exact .fact (by repeat constructor) | exact .own (by repeat constructor) (by decide) (fun _ => rfl) | exact SlIn.reads (by repeat constructor) (by assumption)) (by first | assumption | rfl) (by rfl)).q ?_ | refine q_g (j := 7) rfl rfl (by decide) (r_loadf Tryd.underlying22 rfl rfl (by first | exact .fact (by repeat constructor) | exact .own (by repeat constructor) (by decide) (fun _ => rfl) | exact SlIn.reads (by repeat constructor) (by assumption)) (by assumption) (by rfl)).q ?_
    refine q_g (j := 7) rfl rfl (by decide) (p_move rfl).q ?_
    first | refine q_g (j := 7) rfl rfl (by decide) (p_add (j := 1) rfl rfl rfl rfl (by show _ ≤ (9223372036854775807 : Nat); omega)).q ?_ | refine q_g (j := 7) rfl rfl (by decide) (p_addi rfl rfl (by show (-9223372036854775808 : Int) ≤ _; omega) (by show _ ≤ ((9223372036854775807 : Nat) : Int); omega)).q ?_
    first | refine q_g (j := 7) rfl rfl (by decide) (r_index Tryd.underlying22 inf_44 rfl rfl rfl (by first | exact .fact (by repeat constructor) | exact .own (by repeat constructor) (by decide) (fun _ => rfl) | exact SlIn.reads (by repeat constructor) (by assumption)) rfl (by omega)).q ?_ | refine q_g (j := 7) rfl rfl (by decide) (r_index Tryd.underlying22 inf_44 rfl rfl rfl (by first | exact .fact (by repeat constructor) | exact .own (by repeat constructor) (by decide) (fun _ => rfl) | exact SlIn.reads (by repeat constructor) (by assumption)) rfl (by decide)).q ?_ | refine q_g (j := 7) rfl rfl (by decide) (p_indexo Tryd.underlying22 inf_44 rfl rfl rfl (by omega)).q ?_
    first | refine q_g (j := 7) rfl rfl (by decide) (p_faddr (i := 0) 0 Tryd.underlying44 rfl inf_3 (by decide) rfl rfl).q ?_ | refine q_g (j := 7) rfl rfl (by decide) (p_faddro (i := 0) 0 Tryd.underlying44 rfl inf_3 (by decide) rfl rfl).q ?_
    first | refine q_g (j := 7) rfl rfl (by decide) (r_loado Tryd.underlying3 rfl rfl (by repeat constructor) (by rfl)).q ?_ | refine q_g (j := 7) rfl rfl (by decide) (r_load1 Tryd.underlying3 rfl rfl (by first | exact .fact (by repeat constructor) | exact .own (by repeat constructor) (by decide) (fun _ => rfl) | exact SlIn.reads (by repeat constructor) (by assumption)) (by first | assumption | rfl) (by rfl)).q ?_ | refine q_g (j := 7) rfl rfl (by decide) (r_loadf Tryd.underlying3 rfl rfl (by first | exact .fact (by repeat constructor) | exact .own (by repeat constructor) (by decide) (fun _ => rfl) | exact SlIn.reads (by repeat constructor) (by assumption)) (by assumption) (by rfl)).q ?_
    refine q_g (j := 7) rfl rfl (by decide) (p_move rfl).q ?_
    refine q_g (j := 7) rfl rfl (by decide) (p_move rfl).q ?_
    first | refine q_g (j := 7) rfl rfl (by decide) (r_index Tryd.underlying23 inf_3 rfl rfl rfl (by first | exact .fact (by repeat constructor) | exact .own (by repeat constructor) (by decide) (fun _ => rfl) | exact SlIn.reads (by repeat constructor) (by assumption)) rfl (by omega)).q ?_ | refine q_g (j := 7) rfl rfl (by decide) (r_index Tryd.underlying23 inf_3 rfl rfl rfl (by first | exact .fact (by repeat constructor) | exact .own (by repeat constructor) (by decide) (fun _ => rfl) | exact SlIn.reads (by repeat constructor) (by assumption)) rfl (by decide)).q ?_ | refine q_g (j := 7) rfl rfl (by decide) (p_indexo Tryd.underlying23 inf_3 rfl rfl rfl (by omega)).q ?_
    first | refine q_g (j := 7) rfl rfl (by decide) (r_loado Tryd.underlying3 rfl rfl (by repeat constructor) (by rfl)).q ?_ | refine q_g (j := 7) rfl rfl (by decide) (r_load1 Tryd.underlying3 rfl rfl (by first | exact .fact (by repeat constructor) | exact .own (by repeat constructor) (by decide) (fun _ => rfl) | exact SlIn.reads (by repeat constructor) (by assumption)) (by first | assumption | rfl) (by rfl)).q ?_ | refine q_g (j := 7) rfl rfl (by decide) (r_loadf Tryd.underlying3 rfl rfl (by first | exact .fact (by repeat constructor) | exact .own (by repeat constructor) (by decide) (fun _ => rfl) | exact SlIn.reads (by repeat constructor) (by assumption)) (by assumption) (by rfl)).q ?_
    first | refine q_g (j := 7) rfl rfl (by decide) (p_eql rfl rfl rfl rfl).q ?_ | refine q_g (j := 7) rfl rfl (by decide) (p_eqli rfl rfl).q ?_
    refine q_q (by decide) (p_pick rfl rfl).q ?_
    refine q_q (by decide) (p_move rfl).q ?_
    first | refine q_splitd (t := 123) rfl (fun h123 => ?_) (fun h123 => ?_) | refine q_splitb (t := 123) rfl (fun h123 => ?_) (fun h123 => ?_)
    ·skip
     first | refine q_g (j := 21) rfl rfl (by decide) (p_faddr (i := 0) 0 Tryd.underlying25 rfl inf_22 (by decide) rfl rfl).q ?_ | refine q_g (j := 21) rfl rfl (by decide) (p_faddro (i := 0) 0 Tryd.underlying25 rfl inf_22 (by decide) rfl rfl).q ?_
     first | refine q_g (j := 21) rfl rfl (by decide) (r_loado Tryd.underlying22 rfl rfl (by repeat constructor) (by rfl)).q ?_ | refine q_g (j := 21) rfl rfl (by decide) (r_load1 Tryd.underlying22 rfl rfl (by first | exact .fact (by repeat constructor) | exact .own (by repeat constructor) (by decide) (fun _ => rfl) | exact SlIn.reads (by repeat constructor) (by assumption)) (by first | assumption | rfl) (by rfl)).q ?_ | refine q_g (j := 21) rfl rfl (by decide) (r_loadf Tryd.underlying22 rfl rfl (by first | exact .fact (by repeat constructor) | exact .own (by repeat constructor) (by decide) (fun _ => rfl) | exact SlIn.reads (by repeat constructor) (by assumption)) (by assumption) (by rfl)).q ?_
     refine q_g (j := 21) rfl rfl (by decide) (p_move rfl).q ?_
     first | refine q_g (j := 21) rfl rfl (by decide) (r_index Tryd.underlying22 inf_44 rfl rfl rfl (by first | exact .fact (by repeat constructor) | exact .own (by repeat constructor) (by decide) (fun _ => rfl) | exact SlIn.reads (by repeat constructor) (by assumption)) rfl (by omega)).q ?_ | refine q_g (j := 21) rfl rfl (by decide) (r_index Tryd.underlying22 inf_44 rfl rfl rfl (by first | exact .fact (by repeat constructor) | exact .own (by repeat constructor) (by decide) (fun _ => rfl) | exact SlIn.reads (by repeat constructor) (by assumption)) rfl (by decide)).q ?_ | refine q_g (j := 21) rfl rfl (by decide) (p_indexo Tryd.underlying22 inf_44 rfl rfl rfl (by omega)).q ?_
     first | refine q_g (j := 21) rfl rfl (by decide) (p_faddr (i := 0) 0 Tryd.underlying44 rfl inf_3 (by decide) rfl rfl).q ?_ | refine q_g (j := 21) rfl rfl (by decide) (p_faddro (i := 0) 0 Tryd.underlying44 rfl inf_3 (by decide) rfl rfl).q ?_
     first | refine q_g (j := 21) rfl rfl (by decide) (r_loado Tryd.underlying3 rfl rfl (by repeat constructor) (by rfl)).q ?_ | refine q_g (j := 21) rfl rfl (by decide) (r_load1 Tryd.underlying3 rfl rfl (by first | exact .fact (by repeat constructor) | exact .own (by repeat constructor) (by decide) (fun _ => rfl) | exact SlIn.reads (by repeat constructor) (by assumption)) (by first | assumption | rfl) (by rfl)).q ?_ | refine q_g (j := 21) rfl rfl (by decide) (r_loadf Tryd.underlying3 rfl rfl (by first | exact .fact (by repeat constructor) | exact .own (by repeat constructor) (by decide) (fun _ => rfl) | exact SlIn.reads (by repeat constructor) (by assumption)) (by assumption) (by rfl)).q ?_
     refine q_g (j := 21) rfl rfl (by decide) (p_move rfl).q ?_
     refine q_g (j := 21) rfl rfl (by decide) (p_move rfl).q ?_
     first | refine q_g (j := 21) rfl rfl (by decide) (p_add (j := 1) rfl rfl rfl rfl (by show _ ≤ (9223372036854775807 : Nat); omega)).q ?_ | refine q_g (j := 21) rfl rfl (by decide) (p_addi rfl rfl (by show (-9223372036854775808 : Int) ≤ _; omega) (by show _ ≤ ((9223372036854775807 : Nat) : Int); omega)).q ?_
     first | refine q_g (j := 21) rfl rfl (by decide) (r_index Tryd.underlying23 inf_3 rfl rfl rfl (by first | exact .fact (by repeat constructor) | exact .own (by repeat constructor) (by decide) (fun _ => rfl) | exact SlIn.reads (by repeat constructor) (by assumption)) rfl (by omega)).q ?_ | refine q_g (j := 21) rfl rfl (by decide) (r_index Tryd.underlying23 inf_3 rfl rfl rfl (by first | exact .fact (by repeat constructor) | exact .own (by repeat constructor) (by decide) (fun _ => rfl) | exact SlIn.reads (by repeat constructor) (by assumption)) rfl (by decide)).q ?_ | refine q_g (j := 21) rfl rfl (by decide) (p_indexo Tryd.underlying23 inf_3 rfl rfl rfl (by omega)).q ?_
     first | refine q_g (j := 21) rfl rfl (by decide) (r_loado Tryd.underlying3 rfl rfl (by repeat constructor) (by rfl)).q ?_ | refine q_g (j := 21) rfl rfl (by decide) (r_load1 Tryd.underlying3 rfl rfl (by first | exact .fact (by repeat constructor) | exact .own (by repeat constructor) (by decide) (fun _ => rfl) | exact SlIn.reads (by repeat constructor) (by assumption)) (by first | assumption | rfl) (by rfl)).q ?_ | refine q_g (j := 21) rfl rfl (by decide) (r_loadf Tryd.underlying3 rfl rfl (by first | exact .fact (by repeat constructor) | exact .own (by repeat constructor) (by decide) (fun _ => rfl) | exact SlIn.reads (by repeat constructor) (by assumption)) (by assumption) (by rfl)).q ?_
     first | refine q_g (j := 21) rfl rfl (by decide) (p_eql rfl rfl rfl rfl).q ?_ | refine q_g (j := 21) rfl rfl (by decide) (p_eqli rfl rfl).q ?_
     refine q_q (by decide) (p_pick rfl rfl).q ?_
     refine q_nil ?_
     refine c_join (()) ?inv ?sub ?perm ?facts
     case sub => exact ⟨rfl, rfl, (decb ⟨fun h => ⟨by omega, h109, fun a b c d h1 h2 h3 h4 => by rw [hx] at h1; rw [hx2] at h2; rw [hu] at h3; rw [hu2] at h4; injection h1 with h1; injection h2 with h2; injection h3 with h3; injection h4 with h4; subst h1; subst h2; subst h3; subst h4; exact ⟨h123, h⟩⟩, fun h => (hy4 h).2⟩), trivial⟩
     case perm =>
      exact .refl _
     case facts => exact fun _ h => h
     case inv =>
      trivial
    ·skip
     refine q_off (j := 21) rfl rfl (by first | (simp; done) | (simp [undef]; done)) (by decide) ?_
     refine q_off (j := 21) rfl rfl (by first | (simp; done) | (simp [undef]; done)) (by decide) ?_
     refine q_off (j := 21) rfl rfl (by first | (simp; done) | (simp [undef]; done)) (by decide) ?_
     refine q_off (j := 21) rfl rfl (by first | (simp; done) | (simp [undef]; done)) (by decide) ?_
     refine q_off (j := 21) rfl rfl (by first | (simp; done) | (simp [undef]; done)) (by decide) ?_
     refine q_off (j := 21) rfl rfl (by first | (simp; done) | (simp [undef]; done)) (by decide) ?_
     refine q_off (j := 21) rfl rfl (by first | (simp; done) | (simp [undef]; done)) (by decide) ?_
     refine q_off (j := 21) rfl rfl (by first | (simp; done) | (simp [undef]; done)) (by decide) ?_
     refine q_off (j := 21) rfl rfl (by first | (simp; done) | (simp [undef]; done)) (by decide) ?_
     refine q_off (j := 21) rfl rfl (by first | (simp; done) | (simp [undef]; done)) (by decide) ?_
     refine q_off (j := 21) rfl rfl (by first | (simp; done) | (simp [undef]; done)) (by decide) ?_
     refine q_off (j := 21) rfl rfl (by first | (simp; done) | (simp [undef]; done)) (by decide) ?_
     refine q_q (by decide) (p_pick rfl rfl).q ?_
     refine q_nil ?_
     refine c_join (()) ?inv ?sub ?perm ?facts
     case sub => exact ⟨rfl, rfl, (decn fun h => h123 (hy4 h).1), trivial⟩
     case perm =>
      exact .refl _
     case facts => exact fun _ h => h
     case inv =>
      trivial
   ·skip
    refine q_off (j := 7) rfl rfl (by first | (simp; done) | (simp [undef]; done)) (by decide) ?_
    refine q_off (j := 7) rfl rfl (by first | (simp; done) | (simp [undef]; done)) (by decide) ?_
    refine q_off (j := 7) rfl rfl (by first | (simp; done) | (simp [undef]; done)) (by decide) ?_
    refine q_off (j := 7) rfl rfl (by first | (simp; done) | (simp [undef]; done)) (by decide) ?_
    refine q_off (j := 7) rfl rfl (by first | (simp; done) | (simp [undef]; done)) (by decide) ?_
    refine q_off (j := 7) rfl rfl (by first | (simp; done) | (simp [undef]; done)) (by decide) ?_
    refine q_off (j := 7) rfl rfl (by first | (simp; done) | (simp [undef]; done)) (by decide) ?_
    refine q_off (j := 7) rfl rfl (by first | (simp; done) | (simp [undef]; done)) (by decide) ?_
    refine q_off (j := 7) rfl rfl (by first | (simp; done) | (simp [undef]; done)) (by decide) ?_
    refine q_off (j := 7) rfl rfl (by first | (simp; done) | (simp [undef]; done)) (by decide) ?_
    refine q_off (j := 7) rfl rfl (by first | (simp; done) | (simp [undef]; done)) (by decide) ?_
    refine q_off (j := 7) rfl rfl (by first | (simp; done) | (simp [undef]; done)) (by decide) ?_
    refine q_q (by decide) (p_pick rfl rfl).q ?_
    refine q_q (by decide) (p_move rfl).q ?_
    refine q_off (j := 21) rfl rfl (by first | (simp; done) | (simp [undef]; done)) (by decide) ?_
    refine q_off (j := 21) rfl rfl (by first | (simp; done) | (simp [undef]; done)) (by decide) ?_
    refine q_off (j := 21) rfl rfl (by first | (simp; done) | (simp [undef]; done)) (by decide) ?_
    refine q_off (j := 21) rfl rfl (by first | (simp; done) | (simp [undef]; done)) (by decide) ?_
    refine q_off (j := 21) rfl rfl (by first | (simp; done) | (simp [undef]; done)) (by decide) ?_
    refine q_off (j := 21) rfl rfl (by first | (simp; done) | (simp [undef]; done)) (by decide) ?_
    refine q_off (j := 21) rfl rfl (by first | (simp; done) | (simp [undef]; done)) (by decide) ?_
    refine q_off (j := 21) rfl rfl (by first | (simp; done) | (simp [undef]; done)) (by decide) ?_
    refine q_off (j := 21) rfl rfl (by first | (simp; done) | (simp [undef]; done)) (by decide) ?_
    refine q_off (j := 21) rfl rfl (by first | (simp; done) | (simp [undef]; done)) (by decide) ?_
    refine q_off (j := 21) rfl rfl (by first | (simp; done) | (simp [undef]; done)) (by decide) ?_
    refine q_off (j := 21) rfl rfl (by first | (simp; done) | (simp [undef]; done)) (by decide) ?_
    refine q_q (by decide) (p_pick rfl rfl).q ?_
    refine q_nil ?_
    refine c_join (()) ?inv ?sub ?perm ?facts
    case sub => exact ⟨rfl, rfl, (decn fun h => by rw [h.2.1] at h109; cases h109), trivial⟩
    case perm =>
     exact .refl _
    case facts => exact fun _ h => h
    case inv =>
     trivial
  ·skip
   refine q_off (j := 2) rfl rfl (by first | (simp; done) | (simp [undef]; done)) (by decide) ?_
   refine q_off (j := 2) rfl rfl (by first | (simp; done) | (simp [undef]; done)) (by decide) ?_
   refine q_off (j := 2) rfl rfl (by first | (simp; done) | (simp [undef]; done)) (by decide) ?_
   refine q_q (by decide) (p_pick rfl rfl).q ?_
   refine q_q (by decide) (p_move rfl).q ?_
   refine q_off (j := 7) rfl rfl (by first | (simp; done) | (simp [undef]; done)) (by decide) ?_
   refine q_off (j := 7) rfl rfl (by first | (simp; done) | (simp [undef]; done)) (by decide) ?_
   refine q_off (j := 7) rfl rfl (by first | (simp; done) | (simp [undef]; done)) (by decide) ?_
   refine q_off (j := 7) rfl rfl (by first | (simp; done) | (simp [undef]; done)) (by decide) ?_
   refine q_off (j := 7) rfl rfl (by first | (simp; done) | (simp [undef]; done)) (by decide) ?_
   refine q_off (j := 7) rfl rfl (by first | (simp; done) | (simp [undef]; done)) (by decide) ?_
   refine q_off (j := 7) rfl rfl (by first | (simp; done) | (simp [undef]; done)) (by decide) ?_
   refine q_off (j := 7) rfl rfl (by first | (simp; done) | (simp [undef]; done)) (by decide) ?_
   refine q_off (j := 7) rfl rfl (by first | (simp; done) | (simp [undef]; done)) (by decide) ?_
   refine q_off (j := 7) rfl rfl (by first | (simp; done) | (simp [undef]; done)) (by decide) ?_
   refine q_off (j := 7) rfl rfl (by first | (simp; done) | (simp [undef]; done)) (by decide) ?_
   refine q_off (j := 7) rfl rfl (by first | (simp; done) | (simp [undef]; done)) (by decide) ?_
   refine q_q (by decide) (p_pick rfl rfl).q ?_
   refine q_q (by decide) (p_move rfl).q ?_
   refine q_off (j := 21) rfl rfl (by first | (simp; done) | (simp [undef]; done)) (by decide) ?_
   refine q_off (j := 21) rfl rfl (by first | (simp; done) | (simp [undef]; done)) (by decide) ?_
   refine q_off (j := 21) rfl rfl (by first | (simp; done) | (simp [undef]; done)) (by decide) ?_
   refine q_off (j := 21) rfl rfl (by first | (simp; done) | (simp [undef]; done)) (by decide) ?_
   refine q_off (j := 21) rfl rfl (by first | (simp; done) | (simp [undef]; done)) (by decide) ?_
   refine q_off (j := 21) rfl rfl (by first | (simp; done) | (simp [undef]; done)) (by decide) ?_
   refine q_off (j := 21) rfl rfl (by first | (simp; done) | (simp [undef]; done)) (by decide) ?_
   refine q_off (j := 21) rfl rfl (by first | (simp; done) | (simp [undef]; done)) (by decide) ?_
   refine q_off (j := 21) rfl rfl (by first | (simp; done) | (simp [undef]; done)) (by decide) ?_
   refine q_off (j := 21) rfl rfl (by first | (simp; done) | (simp [undef]; done)) (by decide) ?_
   refine q_off (j := 21) rfl rfl (by first | (simp; done) | (simp [undef]; done)) (by decide) ?_
   refine q_off (j := 21) rfl rfl (by first | (simp; done) | (simp [undef]; done)) (by decide) ?_
   refine q_q (by decide) (p_pick rfl rfl).q ?_
   refine q_nil ?_
   refine c_join (()) ?inv ?sub ?perm ?facts
   case sub => exact ⟨rfl, rfl, (decn fun h => by have := h.1; omega), trivial⟩
   case perm =>
    exact .refl _
   case facts => exact fun _ h => h
   case inv =>
    trivial
 rintro uu hmeet
 show Cont _ _ _ _ [(4, .pointer (some ⟨b4, 0, none⟩)), (9, .slice A101 ((Ed.st1 X.pl i (y.drop j) ++ Ed.st2 X.pl i) ++ Ed.st3 X.pl (y.drop j)).length e101), (136, .bool (dec (Sw4 X i j y)))] ([iSl 64 5 stpF A101 e101 ((Ed.st1 X.pl i (y.drop j) ++ Ed.st2 X.pl i) ++ Ed.st3 X.pl (y.drop j)), iCells b4 25 [.slice X.A X.xs.length X.c, .slice X.B X.ins.length X.d, .int .i64 X.sw]]) (Sl 1 intF C y :: [Rd X.xs, Sl 1 intF X.B X.ins, Sl 3 colF X.A X.xs])
 refine c_meetn (S := Option Addr × Nat) (fun zs => True) (fun zs => [(9, .slice zs.1 (((Ed.st1 X.pl i (y.drop j) ++ Ed.st2 X.pl i) ++ Ed.st3 X.pl (y.drop j)) ++ Ed.st4 X.pl i (y.drop j)).length zs.2)]) (fun zs => [iSl 64 5 stpF zs.1 zs.2 (((Ed.st1 X.pl i (y.drop j) ++ Ed.st2 X.pl i) ++ Ed.st3 X.pl (y.drop j)) ++ Ed.st4 X.pl i (y.drop j)), iCells b4 25 [.slice X.A X.xs.length X.c, .slice X.B X.ins.length X.d, .int .i64 X.sw]]) (fun zs => (Sl 1 intF C y :: [Rd X.xs, Sl 1 intF X.B X.ins, Sl 3 colF X.A X.xs])) ?_ ?_
 ·skip
  first | refine c_dec rfl (fun h136 => ?_) (fun h136 => ?_) | refine c_cond rfl (fun h136 => ?_) (fun h136 => ?_)
  ·skip
   refine c_reg ?_
   refine l_q (by decide) (p_move rfl).q ?_
   refine l_q (by decide) (((p_build (cells := #[_, _]) inf_46 pl_46 rfl rfl)).to (u := .agg #[.int .i64 4, .int .i64 0]) (rfl)).q ?_
   first | refine l_q (by decide) (p_faddr (i := 2) 2 Tryd.underlying25 rfl inf_3 (by decide) rfl rfl).q ?_ | refine l_q (by decide) (p_faddro (i := 2) 2 Tryd.underlying25 rfl inf_3 (by decide) rfl rfl).q ?_
   first | refine l_q (by decide) (r_loado Tryd.underlying3 rfl rfl (by repeat constructor) (by rfl)).q ?_ | refine l_q (by decide) (r_load1 Tryd.underlying3 rfl rfl (by first | exact .fact (by repeat constructor) | exact .own (by repeat constructor) (by decide) (fun _ => rfl) | exact SlIn.reads (by repeat constructor) (by assumption)) (by first | assumption | rfl) (by rfl)).q ?_ | refine l_q (by decide) (r_loadf Tryd.underlying3 rfl rfl (by first | exact .fact (by repeat constructor) | exact .own (by repeat constructor) (by decide) (fun _ => rfl) | exact SlIn.reads (by repeat constructor) (by assumption)) (by assumption) (by rfl)).q ?_
   refine l_q (by decide) (((p_build (cells := #[_, _, _, _, _]) inf_64 pl_64 rfl rfl)).to (u := .agg #[.int .i64 4, .int .i64 0, .int .i64 X.sw, .int .i64 2, .int .i64 2]) (rfl)).q ?_
   refine l_buildSlice (by decide) Tryd.underlying61 inf_64 (by decide) (by decide) rfl rfl rfl rfl (fun b142 => ?_)
   first | (refine l_append1 ((⟨⟨4, 0⟩, X.sw, 2, 2⟩ : Ed.Stp)) (by decide) Tryd.underlying61 inf_64 rfl (by decide) rfl rfl rfl rfl rfl rfl (by have := (Ed.st1_shape X.pl i (y.drop j)).1; have := (Ed.st2_shape X.pl i).1; have := (Ed.st3_shape X.pl (y.drop j)).1; (try simp only [List.length_append]); (try simp only [List.length_nil]); omega) (by have := (Ed.st1_shape X.pl i (y.drop j)).1; have := (Ed.st2_shape X.pl i).1; have := (Ed.st3_shape X.pl (y.drop j)).1; (try simp only [List.length_append]); (try simp only [List.length_nil]); omega) (fun A143 c143 hA143 => ?_)) | (refine l_perm (.cons _ (front1 _ _ _)) ?_; refine l_append1 ((⟨⟨4, 0⟩, X.sw, 2, 2⟩ : Ed.Stp)) (by decide) Tryd.underlying61 inf_64 rfl (by decide) rfl rfl rfl rfl rfl rfl (by have := (Ed.st1_shape X.pl i (y.drop j)).1; have := (Ed.st2_shape X.pl i).1; have := (Ed.st3_shape X.pl (y.drop j)).1; (try simp only [List.length_append]); (try simp only [List.length_nil]); omega) (by have := (Ed.st1_shape X.pl i (y.drop j)).1; have := (Ed.st2_shape X.pl i).1; have := (Ed.st3_shape X.pl (y.drop j)).1; (try simp only [List.length_append]); (try simp only [List.length_nil]); omega) (fun A143 c143 hA143 => ?_)) | (refine l_perm (.cons _ (front2 _ _ _ _)) ?_; refine l_append1 ((⟨⟨4, 0⟩, X.sw, 2, 2⟩ : Ed.Stp)) (by decide) Tryd.underlying61 inf_64 rfl (by decide) rfl rfl rfl rfl rfl rfl (by have := (Ed.st1_shape X.pl i (y.drop j)).1; have := (Ed.st2_shape X.pl i).1; have := (Ed.st3_shape X.pl (y.drop j)).1; (try simp only [List.length_append]); (try simp only [List.length_nil]); omega) (by have := (Ed.st1_shape X.pl i (y.drop j)).1; have := (Ed.st2_shape X.pl i).1; have := (Ed.st3_shape X.pl (y.drop j)).1; (try simp only [List.length_append]); (try simp only [List.length_nil]); omega) (fun A143 c143 hA143 => ?_))
   refine l_q (by decide) (p_assign rfl).q ?_
   refine l_nil ?_
   rw [st4_eq, if_pos h136]
   refine c_join (A143, c143) ?inv ?sub ?perm ?facts
   case sub => exact ⟨rfl, trivial⟩
   case perm =>
    exact .refl _
   case facts => exact fun _ h => h
   case inv =>
    trivial
  ·skip
   refine c_skip ?_
   rw [st4_eq, if_neg (by rw [h136]; decide), List.append_nil]
   refine c_join (A101, e101) ?inv ?sub ?perm ?facts
   case sub => exact ⟨rfl, trivial⟩
   case perm =>
    exact .refl _
   case facts => exact fun _ h => h
   case inv =>
    trivial
 rintro ⟨A143, e143⟩ hmeet
 show Cont _ _ _ _ [(9, .slice A143 (((Ed.st1 X.pl i (y.drop j) ++ Ed.st2 X.pl i) ++ Ed.st3 X.pl (y.drop j)) ++ Ed.st4 X.pl i (y.drop j)).length e143)] ([iSl 64 5 stpF A143 e143 (((Ed.st1 X.pl i (y.drop j) ++ Ed.st2 X.pl i) ++ Ed.st3 X.pl (y.drop j)) ++ Ed.st4 X.pl i (y.drop j)), iCells b4 25 [.slice X.A X.xs.length X.c, .slice X.B X.ins.length X.d, .int .i64 X.sw]]) (Sl 1 intF C y :: [Rd X.xs, Sl 1 intF X.B X.ins, Sl 3 colF X.A X.xs])
 refine c_seq ?_
 refine c_reg ?_
 refine l_q (by decide) (p_move rfl).q ?_
 refine l_q (by decide) (p_assign rfl).q ?_
 refine l_nil ?_
 refine c_ret ?_
 refine c_ret1 rfl rfl (fun w hs => ?_)
 have hst : Ed.steps X.pl i (y.drop j) = ((Ed.st1 X.pl i (y.drop j) ++ Ed.st2 X.pl i) ++ Ed.st3 X.pl (y.drop j)) ++ Ed.st4 X.pl i (y.drop j) := by unfold Ed.steps; simp only [List.append_assoc]
 have g := hs.give (e := 64) (size := 5) (f := stpF) (es := ((Ed.st1 X.pl i (y.drop j) ++ Ed.st2 X.pl i) ++ Ed.st3 X.pl (y.drop j)) ++ Ed.st4 X.pl i (y.drop j)) (by repeat constructor) (by decide) len_stpF
 rw [hst]
 exact ⟨(_, _), rfl, g.1, g.2.1, hs.ext⟩
end Go.Proofs.YtlefheiohblgdaaDoor
