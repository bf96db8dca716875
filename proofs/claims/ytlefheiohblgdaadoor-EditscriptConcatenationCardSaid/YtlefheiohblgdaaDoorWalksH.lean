/- The walks of edit scripts, eighth part; conditions: lengths. -/
import Derived.Test.YtlefheiohblgdaaDoorWalksG
namespace Go.Proofs.YtlefheiohblgdaaDoor
open Go Go.Fx Go.Proofs

section
variable {w0 : World} {K : List Nat} {σ : Fx.Own} {ρ : Fx.Facts} {lo a : Nat} {X : Inp} {y : List Int} {x : Tbl X y}
theorem SlIn.tab1 (h : TabF lo x ∈ ρ) : SlIn w0 K σ ρ 1 hdF x.A x.hds := fun _ hs => (hs.facts _ h).1.1
theorem SlIn.tab2 {hd : Hd} (h : TabF lo x ∈ ρ) (hh : x.hds[a]? = some hd) : SlIn w0 K σ ρ 1 intF hd.1 (rowC X y a) := fun _ hs => ((hs.facts _ h).1.2 a hd (Nat.zero_le _) hh).2
end
def Prp (X : Inp) (y : List Int) : Prop := ∀ t, t ∈ y → 0 ≤ t ∧ t < X.ins.length
noncomputable def dst (X : Inp) (y : List Int) : Int := if dec (Prp X y) = true then Ed.C X.pl 0 y else 1099511627776
theorem dst_yes {X : Inp} {y : List Int} (h : Prp X y) : dst X y = Ed.C X.pl 0 y := if_pos (dec_true h)
theorem dst_no {X : Inp} {y : List Int} (h : ¬ Prp X y) : dst X y = 1099511627776 := if_neg (fun e => h (of_dec e))
noncomputable def alg (X : Inp) (y : List Int) : List Ed.Op × Int := if dec (Prp X y) = true then (if Ed.C X.pl 0 y < 1099511627776 then (Ed.align X.pl 0 y, 0) else ([], 6)) else ([], 1)
theorem alg_yes {X : Inp} {y : List Int} (h : Prp X y) (h2 : Ed.C X.pl 0 y < 1099511627776) : alg X y = (Ed.align X.pl 0 y, 0) := by unfold alg; rw [if_pos (dec_true h), if_pos h2]
theorem alg_far {X : Inp} {y : List Int} (h : Prp X y) (h2 : ¬ Ed.C X.pl 0 y < 1099511627776) : alg X y = ([], 6) := by unfold alg; rw [if_pos (dec_true h), if_neg h2]
theorem alg_no {X : Inp} {y : List Int} (h : ¬ Prp X y) : alg X y = ([], 1) := by unfold alg; rw [if_neg (fun e => h (of_dec e))]
theorem find_at {α : Type} {p : α → Bool} {l : List α} {k : Nat} {s : α} (h : ∀ x, x ∈ l.take k → p x = false) (hs : l[k]? = some s) (hp : p s = true) : l.find? p = some s := by
  induction k generalizing l with
  | zero => cases l with
    | nil => cases hs
    | cons x l => injection hs with hs; subst hs; rw [List.find?_cons, hp]
  | succ k ih => cases l with
    | nil => cases hs
    | cons x l =>
      rw [List.find?_cons, h x (by simp)]
      exact ih (fun z hz => h z (by rw [List.take_succ_cons]; exact List.mem_cons_of_mem _ hz)) hs
theorem sub_op {s : Ed.Stp} {j : Nat} {u : Value} (h : (opF s.op)[j]? = some u) : (stpF s)[0 + j]? = some u := by
  match j, h with
  | 0, h => exact h
  | 1, h => exact h
theorem good_gS {X : Inp} {i j : Nat} {y : List Int} {s : Ed.Stp} : Ed.good X.pl i (y.drop j) s = decide (gS X i j y s = Ed.C X.pl i (y.drop j)) := by unfold Ed.good gS; rw [drop2]
structure AlgI (X : Inp) (y : List Int) (o : List Ed.Op) (i j : Nat) : Prop where
  hi : i ≤ X.xs.length
  hj : j ≤ y.length
  lt : Ed.C X.pl i (y.drop j) < 1099511627776
  eq : o ++ Ed.align X.pl i (y.drop j) = Ed.align X.pl 0 y
  n : o.length ≤ i + j
theorem AlgI.next {X : Inp} (hO : Ed.Okin X.pl) {y : List Int} {o : List Ed.Op} {i j : Nat} (h : AlgI X y o i j) (_ : i < X.xs.length ∨ j < y.length) {s : Ed.Stp} (hs : (Ed.steps X.pl i (y.drop j)).find? (Ed.good X.pl i (y.drop j)) = some s) : AlgI X y (o ++ [s.op]) (i + s.tok) (j + s.emi) ∧ (X.xs.length - (i + s.tok)) + (y.length - (j + s.emi)) < (X.xs.length - i) + (y.length - j) := by
  have hi : i ≤ X.pl.cols.length := by rw [pl_len]; exact h.hi
  have hm := List.mem_of_find?_eq_some hs
  obtain ⟨k, hk⟩ := List.getElem?_of_mem hm
  have h1 := step_ok2 hO h.hi h.hj hk
  have h2 := Ed.good_low hO hi h.lt hm (List.find?_some hs)
  have h3 := Ed.align_eq hi (by rw [pl_len, drop_end h.hj]; omega) hs
  rw [drop2] at h2 h3
  exact ⟨⟨h1.1, h1.2.1, h2.2, by rw [List.append_assoc, List.singleton_append, ← h3]; exact h.eq, by rw [List.length_append, List.length_singleton]; have := h.n; omega⟩, by omega⟩

abbrev TblL (X : Inp) (y : List Int) := Nat × Tbl X y
theorem table_ok2 (X : Inp) (hX : X.small) (w : World) (hM : X.mem w) (hO : Ed.Okin X.pl) (hn : X.xs.length ≤ 1000) (C : Option Addr) (e : Nat) (y : List Int) (hl : y.length ≤ 1000) (hY : Sl 1 intF C y w) (hy : Prp X y) : Calls Tryd.prog 31 #[.agg #[.slice X.A X.xs.length X.c, .slice X.B X.ins.length X.d, .int .i64 X.sw], .slice C y.length e] w (Ret fun v w' => ∃ x : TblL X y, v = .slice x.2.A x.2.hds.length x.2.c ∧ TabF x.1 x.2 w' ∧ Dep w.heap.size w'.heap.size (TabF x.1 x.2) ∧ Ext [] w w') :=
  (table_ok X hX w hM hO hn C e y hl hY hy).mono fun e w' h => by
    cases e with
    | returned v => obtain ⟨x, h1, h2, h3, h4⟩ := h; exact ⟨(w.heap.size, x), h1, h2, h3, h4⟩
    | _ => exact h.elim
theorem call_22 : Callable Tryd.prog 22 := ⟨_, Tryd.func22, by kernel_rfl, rfl⟩
theorem call_30 : Callable Tryd.prog 30 := ⟨_, Tryd.func30, by kernel_rfl, rfl⟩
theorem call_31 : Callable Tryd.prog 31 := ⟨_, Tryd.func31, by kernel_rfl, rfl⟩
theorem call_32 : Callable Tryd.prog 32 := ⟨_, Tryd.func32, by kernel_rfl, rfl⟩
theorem dist_ok (X : Inp) (hX : X.small) (w : World) (hM : X.mem w) (hO : Ed.Okin X.pl) (hn : X.xs.length ≤ 1000) (C : Option Addr) (e : Nat) (y : List Int) (hl : y.length ≤ 1000) (hY : Sl 1 intF C y w) :
   Calls Tryd.prog 18 #[.agg #[.slice X.A X.xs.length X.c, .slice X.B X.ins.length X.d, .int .i64 X.sw], .slice C y.length e] w (Ret fun v w' => v = .int .i64 (dst X y) ∧ Ext [] w w') := by
 refine calls_fx (l := [.agg #[.slice X.A X.xs.length X.c, .slice X.B X.ins.length X.d, .int .i64 X.sw], .slice C y.length e]) Tryd.func18 rfl Tryd.ntmps18 (Nat.le_of_ble_eq_true rfl) ((X.start hM).old hY (dep_sl (by decide) hY)) ?_
 refine c_seq ?_
 refine c_reg ?_
 refine l_box (by decide) rfl _ rfl (fun b2 => ?_)
 refine l_q (by decide) (p_assign (v := .int .i64 ((0 : Nat) : Int)) rfl).q ?_
 refine l_nil ?_
 refine c_seq ?_
 refine c_seq ?_
 refine c_reg ?_
 first | refine l_q (by decide) (r_loada Tryd.underlying25 rfl inf_25 rfl (by first | exact .fact (by repeat constructor) | exact .own (by repeat constructor) (by decide) (fun _ => rfl) | exact SlIn.reads (by repeat constructor) (by assumption) | exact SlIn.tab1 (by repeat constructor) | exact SlIn.tab2 (by repeat constructor) (by assumption)) (by assumption)).q ?_ | refine l_q (by decide) (r_loadow Tryd.underlying25 rfl inf_25 rfl (by repeat constructor) (by rfl)).q ?_ | refine l_q (by decide) (r_loadoa Tryd.underlying25 rfl inf_25 rfl (by repeat constructor) (by rfl) (fun j u h => h)).q ?_
 refine l_q (by decide) (p_move rfl).q ?_
 refine l_q (by decide) (q_call call_30 rfl (fun w hs => proper_ok X hX w (X.of hs (by repeat constructor) (by repeat constructor) (by repeat constructor)) C e y (by omega) (hs.facts (Sl 1 intF C y) (by repeat constructor)).1)) ?_
 first | refine l_q (by decide) (p_notd rfl).q ?_ | refine l_q (by decide) (p_not rfl).q ?_
 refine l_nil ?_
 first | refine c_dec rfl (fun h8 => ?_) (fun h8 => ?_) | refine c_cond rfl (fun h8 => ?_) (fun h8 => ?_)
 ·skip
  refine c_seq ?_
  refine c_reg ?_
  refine l_q (by decide) (p_assign (v := .int .i64 ((1099511627776 : Nat) : Int)) rfl).q ?_
  refine l_nil ?_
  refine c_ret ?_
  refine c_ret1 rfl rfl (fun w hs => ?_)
  exact ⟨by rw [dst_no (fun h => by rw [dec_true (p := ∀ t, t ∈ y → 0 ≤ t ∧ t < (X.ins.length : Int)) h] at h8; cases h8)]; rfl, hs.ext⟩
 ·skip
  refine c_skip ?_
  refine c_seq ?_
  refine c_reg ?_
  first | refine l_q (by decide) (r_loada Tryd.underlying25 rfl inf_25 rfl (by first | exact .fact (by repeat constructor) | exact .own (by repeat constructor) (by decide) (fun _ => rfl) | exact SlIn.reads (by repeat constructor) (by assumption) | exact SlIn.tab1 (by repeat constructor) | exact SlIn.tab2 (by repeat constructor) (by assumption)) (by assumption)).q ?_ | refine l_q (by decide) (r_loadow Tryd.underlying25 rfl inf_25 rfl (by repeat constructor) (by rfl)).q ?_ | refine l_q (by decide) (r_loadoa Tryd.underlying25 rfl inf_25 rfl (by repeat constructor) (by rfl) (fun j u h => h)).q ?_
  refine l_q (by decide) (p_move rfl).q ?_
  have hy : Prp X y := of_dec (p := ∀ t, t ∈ y → 0 ≤ t ∧ t < (X.ins.length : Int)) (by simpa using h8)
  refine l_call (X := TblL X y) (fun x => .slice x.2.A x.2.hds.length x.2.c) (fun x => TabF x.1 x.2) (by decide) call_31 rfl (fun w hs => table_ok2 X hX w (X.of hs (by repeat constructor) (by repeat constructor) (by repeat constructor)) hO hn C e y hl (hs.facts (Sl 1 intF C y) (by repeat constructor)).1 hy) (fun x11 => ?_)
  obtain ⟨h0, hh0⟩ := at_some (l := x11.2.hds) (n := 0) (by rw [x11.2.len]; omega)
  have hlx := x11.2.len
  have hlr := rowC_len X y 0
  have hr0 := rowC_at (X := X) (y := y) (a := 0) (b := 0) (Nat.zero_le _)
  first | refine l_q (by decide) (r_index (j := 0) Tryd.underlying57 inf_23 rfl rfl rfl (by first | exact .fact (by repeat constructor) | exact .own (by repeat constructor) (by decide) (fun _ => rfl) | exact SlIn.reads (by repeat constructor) (by assumption) | exact SlIn.tab1 (by repeat constructor) | exact SlIn.tab2 (by repeat constructor) (by assumption)) rfl (by omega)).q ?_ | refine l_q (by decide) (r_index (j := 0) Tryd.underlying57 inf_23 rfl rfl rfl (by first | exact .fact (by repeat constructor) | exact .own (by repeat constructor) (by decide) (fun _ => rfl) | exact SlIn.reads (by repeat constructor) (by assumption) | exact SlIn.tab1 (by repeat constructor) | exact SlIn.tab2 (by repeat constructor) (by assumption)) rfl (by decide)).q ?_ | refine l_q (by decide) (p_indexo (j := 0) Tryd.underlying57 inf_23 rfl rfl rfl (by omega)).q ?_
  first | refine l_q (by decide) (((r_loado Tryd.underlying23 rfl rfl (by repeat constructor) (by rfl))).to (u := .slice h0.1 (rowC X y 0).length h0.2.2) (by rw [rowC_len, x11.2.hd 0 h0 hh0])).q ?_ | refine l_q (by decide) (((r_load1 Tryd.underlying23 rfl rfl (by first | exact .fact (by repeat constructor) | exact .own (by repeat constructor) (by decide) (fun _ => rfl) | exact SlIn.reads (by repeat constructor) (by assumption) | exact SlIn.tab1 (by repeat constructor) | exact SlIn.tab2 (by repeat constructor) (by assumption)) (by first | assumption | rfl) (by rfl))).to (u := .slice h0.1 (rowC X y 0).length h0.2.2) (by rw [rowC_len, x11.2.hd 0 h0 hh0])).q ?_ | refine l_q (by decide) (((r_loadf Tryd.underlying23 rfl rfl (by first | exact .fact (by repeat constructor) | exact .own (by repeat constructor) (by decide) (fun _ => rfl) | exact SlIn.reads (by repeat constructor) (by assumption) | exact SlIn.tab1 (by repeat constructor) | exact SlIn.tab2 (by repeat constructor) (by assumption)) (by assumption) (by rfl))).to (u := .slice h0.1 (rowC X y 0).length h0.2.2) (by rw [rowC_len, x11.2.hd 0 h0 hh0])).q ?_
  first | refine l_q (by decide) (r_index (j := 0) Tryd.underlying23 inf_3 rfl rfl rfl (by first | exact .fact (by repeat constructor) | exact .own (by repeat constructor) (by decide) (fun _ => rfl) | exact SlIn.reads (by repeat constructor) (by assumption) | exact SlIn.tab1 (by repeat constructor) | exact SlIn.tab2 (by repeat constructor) (by assumption)) rfl (by omega)).q ?_ | refine l_q (by decide) (r_index (j := 0) Tryd.underlying23 inf_3 rfl rfl rfl (by first | exact .fact (by repeat constructor) | exact .own (by repeat constructor) (by decide) (fun _ => rfl) | exact SlIn.reads (by repeat constructor) (by assumption) | exact SlIn.tab1 (by repeat constructor) | exact SlIn.tab2 (by repeat constructor) (by assumption)) rfl (by decide)).q ?_ | refine l_q (by decide) (p_indexo (j := 0) Tryd.underlying23 inf_3 rfl rfl rfl (by omega)).q ?_
  first | refine l_q (by decide) (r_loado Tryd.underlying3 rfl rfl (by repeat constructor) (by rfl)).q ?_ | refine l_q (by decide) (r_load1 Tryd.underlying3 rfl rfl (by first | exact .fact (by repeat constructor) | exact .own (by repeat constructor) (by decide) (fun _ => rfl) | exact SlIn.reads (by repeat constructor) (by assumption) | exact SlIn.tab1 (by repeat constructor) | exact SlIn.tab2 (by repeat constructor) (by assumption)) (by first | assumption | rfl) (by rfl)).q ?_ | refine l_q (by decide) (r_loadf Tryd.underlying3 rfl rfl (by first | exact .fact (by repeat constructor) | exact .own (by repeat constructor) (by decide) (fun _ => rfl) | exact SlIn.reads (by repeat constructor) (by assumption) | exact SlIn.tab1 (by repeat constructor) | exact SlIn.tab2 (by repeat constructor) (by assumption)) (by assumption) (by rfl)).q ?_
  refine l_q (by decide) (p_assign rfl).q ?_
  refine l_nil ?_
  refine c_ret ?_
  refine c_ret1 rfl rfl (fun w hs => ?_)
  exact ⟨by rw [dst_yes hy]; rfl, hs.ext⟩

theorem dist2_ok (X : Inp) (hX : X.small) (w : World) (hM : X.mem w) (hO : Ed.Okin X.pl) (hn : X.xs.length ≤ 1000) (C : Option Addr) (e : Nat) (y : List Int) (hl : y.length ≤ 1000) (hY : Sl 1 intF C y w) :
   Calls Tryd.prog 19 #[.agg #[.slice X.A X.xs.length X.c, .slice X.B X.ins.length X.d, .int .i64 X.sw], .slice C y.length e] w (Ret fun v w' => v = .int .i64 (dst X y) ∧ Ext [] w w') := by
 refine calls_fx (l := [.agg #[.slice X.A X.xs.length X.c, .slice X.B X.ins.length X.d, .int .i64 X.sw], .slice C y.length e]) Tryd.func19 rfl Tryd.ntmps19 (Nat.le_of_ble_eq_true rfl) ((X.start hM).old hY (dep_sl (by decide) hY)) ?_
 refine c_seq ?_
 refine c_reg ?_
 refine l_box (by decide) rfl _ rfl (fun b2 => ?_)
 refine l_q (by decide) (p_assign (v := .int .i64 ((0 : Nat) : Int)) rfl).q ?_
 refine l_nil ?_
 refine c_seq ?_
 refine c_seq ?_
 refine c_reg ?_
 first | refine l_q (by decide) (r_loada Tryd.underlying25 rfl inf_25 rfl (by first | exact .fact (by repeat constructor) | exact .own (by repeat constructor) (by decide) (fun _ => rfl) | exact SlIn.reads (by repeat constructor) (by assumption) | exact SlIn.tab1 (by repeat constructor) | exact SlIn.tab2 (by repeat constructor) (by assumption)) (by assumption)).q ?_ | refine l_q (by decide) (r_loadow Tryd.underlying25 rfl inf_25 rfl (by repeat constructor) (by rfl)).q ?_ | refine l_q (by decide) (r_loadoa Tryd.underlying25 rfl inf_25 rfl (by repeat constructor) (by rfl) (fun j u h => h)).q ?_
 refine l_q (by decide) (p_move rfl).q ?_
 refine l_q (by decide) (q_call call_22 rfl (fun w hs => terminals_ok X hX w (X.of hs (by repeat constructor) (by repeat constructor) (by repeat constructor)) C e y (by omega) (hs.facts (Sl 1 intF C y) (by repeat constructor)).1)) ?_
 first | refine l_q (by decide) (p_notd rfl).q ?_ | refine l_q (by decide) (p_not rfl).q ?_
 refine l_nil ?_
 first | refine c_dec rfl (fun h8 => ?_) (fun h8 => ?_) | refine c_cond rfl (fun h8 => ?_) (fun h8 => ?_)
 ·skip
  refine c_seq ?_
  refine c_reg ?_
  refine l_q (by decide) (p_assign (v := .int .i64 ((1099511627776 : Nat) : Int)) rfl).q ?_
  refine l_nil ?_
  refine c_ret ?_
  refine c_ret1 rfl rfl (fun w hs => ?_)
  exact ⟨by rw [dst_no (fun h => by rw [dec_true (p := ∀ t, t ∈ y → 0 ≤ t ∧ t < (X.ins.length : Int)) h] at h8; cases h8)]; rfl, hs.ext⟩
 ·skip
  refine c_skip ?_
  refine c_seq ?_
  refine c_reg ?_
  first | refine l_q (by decide) (r_loada Tryd.underlying25 rfl inf_25 rfl (by first | exact .fact (by repeat constructor) | exact .own (by repeat constructor) (by decide) (fun _ => rfl) | exact SlIn.reads (by repeat constructor) (by assumption) | exact SlIn.tab1 (by repeat constructor) | exact SlIn.tab2 (by repeat constructor) (by assumption)) (by assumption)).q ?_ | refine l_q (by decide) (r_loadow Tryd.underlying25 rfl inf_25 rfl (by repeat constructor) (by rfl)).q ?_ | refine l_q (by decide) (r_loadoa Tryd.underlying25 rfl inf_25 rfl (by repeat constructor) (by rfl) (fun j u h => h)).q ?_
  refine l_q (by decide) (p_move rfl).q ?_
  have hy : Prp X y := of_dec (p := ∀ t, t ∈ y → 0 ≤ t ∧ t < (X.ins.length : Int)) (by simpa using h8)
  refine l_call (X := Flat X y) (fun x => .slice x.A x.tb.length x.c) (fun x => Sl 1 intF x.A x.tb) (by decide) call_32 rfl (fun w hs => flat_ok X hX w (X.of hs (by repeat constructor) (by repeat constructor) (by repeat constructor)) hO hn C e y hl (hs.facts (Sl 1 intF C y) (by repeat constructor)).1 hy) (fun x11 => ?_)
  have h0 : x11.tb[0]? = some (Ed.C X.pl 0 y) := by have := x11.full.2 0 0 (Nat.zero_le _) (Nat.zero_le _) (.inl (Nat.zero_le _)); rwa [Nat.zero_mul] at this
  have hl0 := at_lt h0
  first | refine l_q (by decide) (r_index (j := 0) Tryd.underlying23 inf_3 rfl rfl rfl (by first | exact .fact (by repeat constructor) | exact .own (by repeat constructor) (by decide) (fun _ => rfl) | exact SlIn.reads (by repeat constructor) (by assumption) | exact SlIn.tab1 (by repeat constructor) | exact SlIn.tab2 (by repeat constructor) (by assumption)) rfl (by omega)).q ?_ | refine l_q (by decide) (r_index (j := 0) Tryd.underlying23 inf_3 rfl rfl rfl (by first | exact .fact (by repeat constructor) | exact .own (by repeat constructor) (by decide) (fun _ => rfl) | exact SlIn.reads (by repeat constructor) (by assumption) | exact SlIn.tab1 (by repeat constructor) | exact SlIn.tab2 (by repeat constructor) (by assumption)) rfl (by decide)).q ?_ | refine l_q (by decide) (p_indexo (j := 0) Tryd.underlying23 inf_3 rfl rfl rfl (by omega)).q ?_
  first | refine l_q (by decide) (r_loado Tryd.underlying3 rfl rfl (by repeat constructor) (by rfl)).q ?_ | refine l_q (by decide) (r_load1 Tryd.underlying3 rfl rfl (by first | exact .fact (by repeat constructor) | exact .own (by repeat constructor) (by decide) (fun _ => rfl) | exact SlIn.reads (by repeat constructor) (by assumption) | exact SlIn.tab1 (by repeat constructor) | exact SlIn.tab2 (by repeat constructor) (by assumption)) (by first | assumption | rfl) (by rfl)).q ?_ | refine l_q (by decide) (r_loadf Tryd.underlying3 rfl rfl (by first | exact .fact (by repeat constructor) | exact .own (by repeat constructor) (by decide) (fun _ => rfl) | exact SlIn.reads (by repeat constructor) (by assumption) | exact SlIn.tab1 (by repeat constructor) | exact SlIn.tab2 (by repeat constructor) (by assumption)) (by assumption) (by rfl)).q ?_
  refine l_q (by decide) (p_assign rfl).q ?_
  refine l_nil ?_
  refine c_ret ?_
  refine c_ret1 rfl rfl (fun w hs => ?_)
  exact ⟨by rw [dst_yes hy], hs.ext⟩
end Go.Proofs.YtlefheiohblgdaaDoor
