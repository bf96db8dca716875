/- The walks of edit scripts, fifteenth part; conditions: lengths. -/
import Derived.Test.YtlefheiohblgdaaDoorWalksN
namespace Go.Proofs.YtlefheiohblgdaaDoor
open Go Go.Fx Go.Proofs

theorem dep_runq2 {lo hi : Nat} {r : Option Ed.St} {x : Nat × Option Addr × Nat} {w : World} (h : RunQ hi r x w) : Dep hi w.heap.size (RunQ lo r x) := fun w1 w2 hb hq s hs => by
  obtain ⟨h1, h2, h3, h4, h5⟩ := h s hs
  obtain ⟨g1, g2, g3, g4, g5⟩ := hq s hs
  have hlt := cell_lt h1
  refine ⟨?_, ?_, g3, g4, dep_lo (by decide) h5 h4 w1 w2 hb g5⟩
  · rw [← g1]; exact World.cell?_of_block (w := w1) (hb _ h3 hlt)
  · rw [← g2]; exact World.cell?_of_block (w := w1) (hb _ h3 hlt)
theorem go_ok2 (X : Inp) (hX : X.small) (w : World) (hM : X.mem w) (hA : ActF w) (hO : Ed.Okin X.pl) (C : Option Addr) (lc : Nat) (l : List Ed.Op) (hl : l.length ≤ 100000) (hY : Sl 2 opF C l w) (lo : Nat) (hlo : lo ≤ w.heap.size) : Calls Tryd.prog 29 #[.agg #[.slice X.A X.xs.length X.c, .slice X.B X.ins.length X.d, .int .i64 X.sw], .slice C l.length lc] w (Ret fun v w' => ∃ x : Nat × Option Addr × Nat, v = .tuple #[.pointer (if (Ed.run X.pl l).isSome then some ⟨x.1, 0, none⟩ else none), .int .i64 (if (Ed.run X.pl l).isSome then 0 else 1)] ∧ RunQ lo (Ed.run X.pl l) x w' ∧ Dep w.heap.size w'.heap.size (RunQ lo (Ed.run X.pl l) x) ∧ Ext [] w w') :=
  (go_ok X hX w hM hA hO C lc l hl hY).mono fun e w' h => by
    cases e with
    | returned v => obtain ⟨x, h1, h2, _, h4⟩ := h; exact ⟨x, h1, h2.mono hlo, dep_runq2 h2, h4⟩
    | _ => exact h.elim
def okc (r : Option Ed.St) : Int := if r.isSome then 0 else 1
abbrev ApR (w w' : World) (v : Value) (r : Option Ed.St) : Prop := ∃ x : Option Addr × Nat, v = .tuple #[.slice x.1 (rOut r).length x.2, .int .i64 (okc r)] ∧ Sl 1 intF x.1 (rOut r) w' ∧ Dep w.heap.size w'.heap.size (Sl 1 intF x.1 (rOut r)) ∧ Ext [] w w'
theorem ap_no {w w' : World} (h : Ext [] w w') : ApR w w' (.tuple #[.slice none 0 0, .int .i64 1]) none := ⟨(none, 0), rfl, Sl.nil _ _ _ _, fun _ w2 _ _ => Sl.nil _ _ _ w2, h⟩
theorem some_of {r : Option Ed.St} (h : ¬ (if r.isSome = true then (0 : Int) else 1) ≠ 0) : ∃ s, r = some s := by
  cases r with
  | none => exact absurd (show (1 : Int) ≠ 0 by decide) h
  | some s => exact ⟨s, rfl⟩
theorem none_of {r : Option Ed.St} (h : (if r.isSome = true then (0 : Int) else 1) ≠ 0) : r = none := by
  cases r with
  | none => rfl
  | some s => exact absurd rfl h
theorem call_20 : Callable Tryd.prog 20 := ⟨_, Tryd.func20, by kernel_rfl, rfl⟩
theorem call_29 : Callable Tryd.prog 29 := ⟨_, Tryd.func29, by kernel_rfl, rfl⟩
theorem apply_ok (X : Inp) (hX : X.small) (w : World) (hM : X.mem w) (hA : ActF w) (hO : Ed.Okin X.pl) (C : Option Addr) (lc : Nat) (l : List Ed.Op) (hl : l.length ≤ 100000) (hY : Sl 2 opF C l w) :
   Calls Tryd.prog 13 #[.agg #[.slice X.A X.xs.length X.c, .slice X.B X.ins.length X.d, .int .i64 X.sw], .slice C l.length lc] w (Ret fun v w' => ApR w w' v (Ed.run X.pl l)) := by
 refine calls_fx (l := [.agg #[.slice X.A X.xs.length X.c, .slice X.B X.ins.length X.d, .int .i64 X.sw], .slice C l.length lc]) Tryd.func13 rfl Tryd.ntmps13 (Nat.le_of_ble_eq_true rfl) (((X.start hM).old hY (dep_sl (by decide) hY)).old hA (dep_act hA)) ?_
 refine c_seq ?_
 obtain ⟨lo, hlo⟩ : ∃ lo, lo = w.heap.size := ⟨_, rfl⟩
 refine c_reg ?_
 refine l_box (by decide) rfl _ rfl (fun b2 => ?_)
 refine l_q (by decide) (p_assign rfl).q ?_
 refine l_q (by decide) (p_assign (v := .int .i64 ((0 : Nat) : Int)) rfl).q ?_
 refine l_nil ?_
 refine c_seq ?_
 refine c_reg ?_
 first | refine l_q (by decide) (r_loada Tryd.underlying25 rfl inf_25 rfl (by first | exact .fact (by repeat constructor) | exact .own (by repeat constructor) (by decide) (fun _ => rfl) | exact SlIn.reads (by repeat constructor) (by assumption)) (by assumption)).q ?_ | refine l_q (by decide) (r_loadow Tryd.underlying25 rfl inf_25 rfl (by repeat constructor) (by rfl)).q ?_ | refine l_q (by decide) (r_loadoa Tryd.underlying25 rfl inf_25 rfl (by repeat constructor) (by rfl) (fun j u h => h)).q ?_
 refine l_q (by decide) (p_move rfl).q ?_
 refine l_call (X := Nat × Option Addr × Nat) (fun x => .tuple #[.pointer (if (Ed.run X.pl l).isSome then some ⟨x.1, 0, none⟩ else none), .int .i64 (if (Ed.run X.pl l).isSome then 0 else 1)]) (fun x => RunQ lo (Ed.run X.pl l) x) (by decide) call_29 rfl (fun w hs => go_ok2 X hX w (X.of hs (by repeat constructor) (by repeat constructor) (by repeat constructor)) (hs.facts ActF (by repeat constructor)).1 hO C lc l hl (hs.facts (Sl 2 opF C l) (by repeat constructor)).1 lo (by rw [hlo]; exact hs.ext.size)) (fun x11 => ?_)
 refine l_q (by decide) (p_move rfl).q ?_
 refine l_q (by decide) (p_extract rfl rfl).q ?_
 refine l_q (by decide) (p_extract rfl rfl).q ?_
 refine l_q (by decide) (p_assign rfl).q ?_
 refine l_q (by decide) (p_assign rfl).q ?_
 refine l_nil ?_
 refine c_seq ?_
 refine c_seq ?_
 refine c_reg ?_
 refine l_q (by decide) (p_move rfl).q ?_
 first | refine l_q (by decide) (p_neq (j := 0) rfl rfl rfl rfl).q ?_ | refine l_q (by decide) (p_neqi rfl rfl).q ?_
 refine l_nil ?_
 first | refine c_dec rfl (fun h15 => ?_) (fun h15 => ?_) | refine c_cond rfl (fun h15 => ?_) (fun h15 => ?_)
 ·skip
  refine c_seq ?_
  refine c_reg ?_
  refine l_q (by decide) (p_move rfl).q ?_
  refine l_q (by decide) (p_assign rfl).q ?_
  refine l_q (by decide) (p_assign rfl).q ?_
  refine l_nil ?_
  refine c_ret ?_
  refine c_ret2 rfl rfl rfl (fun w hs => ?_)
  have hrn := none_of h15
  exact (by rw [hrn]; exact ap_no hs.ext)
 ·skip
  obtain ⟨s, hrn⟩ := some_of h15
  rw [show (if (Ed.run X.pl l).isSome = true then some (⟨x11.1, 0, none⟩ : Addr) else none) = some ⟨x11.1, 0, none⟩ from if_pos (by rw [hrn]; rfl)]
  refine c_skip ?_
  refine c_seq ?_
  refine c_reg ?_
  refine l_q (by decide) (p_move rfl).q ?_
  refine l_q (by decide) (p_nilp rfl).q ?_
  first | refine l_q (by decide) (p_faddr (i := 2) 4 Tryd.underlying56 rfl inf_23 (by decide) rfl rfl).q ?_ | refine l_q (by decide) (p_faddro (i := 2) 4 Tryd.underlying56 rfl inf_23 (by decide) rfl rfl).q ?_
  refine l_q (by decide) (r_loadq (q := RunQ lo (Ed.run X.pl l) x11) (v := .slice x11.2.1 s.out.length x11.2.2) Tryd.underlying23 rfl rfl (by repeat constructor) (fun w hq => (hq s hrn).1)).q ?_
  refine l_q (by decide) (p_assign rfl).q ?_
  refine l_q (by decide) (p_assign (v := .int .i64 ((0 : Nat) : Int)) rfl).q ?_
  refine l_nil ?_
  refine c_ret ?_
  refine c_ret2 rfl rfl rfl (fun w hs => ?_)
  have hq := (hs.facts (RunQ lo (Ed.run X.pl l) x11) (by repeat constructor)).1 s hrn
  exact (by rw [hrn]; exact ⟨(x11.2.1, x11.2.2), rfl, hq.2.2.2.2, by rw [← hlo]; exact dep_lo (by decide) hq.2.2.2.2 hq.2.2.2.1, hs.ext⟩)

theorem cost_ok (X : Inp) (hX : X.small) (w : World) (hM : X.mem w) (hA : ActF w) (hO : Ed.Okin X.pl) (C : Option Addr) (lc : Nat) (l : List Ed.Op) (hl : l.length ≤ 100000) (hY : Sl 2 opF C l w) :
   Calls Tryd.prog 15 #[.agg #[.slice X.A X.xs.length X.c, .slice X.B X.ins.length X.d, .int .i64 X.sw], .slice C l.length lc] w (Ret fun v w' => v = .tuple #[.int .i64 (rCost (Ed.run X.pl l)), .int .i64 (okc (Ed.run X.pl l))] ∧ Ext [] w w') := by
 refine calls_fx (l := [.agg #[.slice X.A X.xs.length X.c, .slice X.B X.ins.length X.d, .int .i64 X.sw], .slice C l.length lc]) Tryd.func15 rfl Tryd.ntmps15 (Nat.le_of_ble_eq_true rfl) (((X.start hM).old hY (dep_sl (by decide) hY)).old hA (dep_act hA)) ?_
 refine c_seq ?_
 obtain ⟨lo, hlo⟩ : ∃ lo, lo = w.heap.size := ⟨_, rfl⟩
 refine c_reg ?_
 refine l_box (by decide) rfl _ rfl (fun b2 => ?_)
 refine l_q (by decide) (p_assign (v := .int .i64 ((0 : Nat) : Int)) rfl).q ?_
 refine l_q (by decide) (p_assign (v := .int .i64 ((0 : Nat) : Int)) rfl).q ?_
 refine l_nil ?_
 refine c_seq ?_
 refine c_reg ?_
 first | refine l_q (by decide) (r_loada Tryd.underlying25 rfl inf_25 rfl (by first | exact .fact (by repeat constructor) | exact .own (by repeat constructor) (by decide) (fun _ => rfl) | exact SlIn.reads (by repeat constructor) (by assumption)) (by assumption)).q ?_ | refine l_q (by decide) (r_loadow Tryd.underlying25 rfl inf_25 rfl (by repeat constructor) (by rfl)).q ?_ | refine l_q (by decide) (r_loadoa Tryd.underlying25 rfl inf_25 rfl (by repeat constructor) (by rfl) (fun j u h => h)).q ?_
 refine l_q (by decide) (p_move rfl).q ?_
 refine l_call (X := Nat × Option Addr × Nat) (fun x => .tuple #[.pointer (if (Ed.run X.pl l).isSome then some ⟨x.1, 0, none⟩ else none), .int .i64 (if (Ed.run X.pl l).isSome then 0 else 1)]) (fun x => RunQ lo (Ed.run X.pl l) x) (by decide) call_29 rfl (fun w hs => go_ok2 X hX w (X.of hs (by repeat constructor) (by repeat constructor) (by repeat constructor)) (hs.facts ActF (by repeat constructor)).1 hO C lc l hl (hs.facts (Sl 2 opF C l) (by repeat constructor)).1 lo (by rw [hlo]; exact hs.ext.size)) (fun x11 => ?_)
 refine l_q (by decide) (p_move rfl).q ?_
 refine l_q (by decide) (p_extract rfl rfl).q ?_
 refine l_q (by decide) (p_extract rfl rfl).q ?_
 refine l_q (by decide) (p_assign rfl).q ?_
 refine l_q (by decide) (p_assign rfl).q ?_
 refine l_nil ?_
 refine c_seq ?_
 refine c_seq ?_
 refine c_reg ?_
 refine l_q (by decide) (p_move rfl).q ?_
 first | refine l_q (by decide) (p_neq (j := 0) rfl rfl rfl rfl).q ?_ | refine l_q (by decide) (p_neqi rfl rfl).q ?_
 refine l_nil ?_
 first | refine c_dec rfl (fun h15 => ?_) (fun h15 => ?_) | refine c_cond rfl (fun h15 => ?_) (fun h15 => ?_)
 ·skip
  refine c_seq ?_
  refine c_reg ?_
  refine l_q (by decide) (p_move rfl).q ?_
  refine l_q (by decide) (p_assign (v := .int .i64 ((0 : Nat) : Int)) rfl).q ?_
  refine l_q (by decide) (p_assign rfl).q ?_
  refine l_nil ?_
  refine c_ret ?_
  refine c_ret2 rfl rfl rfl (fun w hs => ?_)
  have hrn := none_of h15
  exact ⟨by rw [hrn]; rfl, hs.ext⟩
 ·skip
  obtain ⟨s, hrn⟩ := some_of h15
  rw [show (if (Ed.run X.pl l).isSome = true then some (⟨x11.1, 0, none⟩ : Addr) else none) = some ⟨x11.1, 0, none⟩ from if_pos (by rw [hrn]; rfl)]
  refine c_skip ?_
  refine c_seq ?_
  refine c_reg ?_
  refine l_q (by decide) (p_move rfl).q ?_
  refine l_q (by decide) (p_nilp rfl).q ?_
  first | refine l_q (by decide) (p_faddr (i := 3) 5 Tryd.underlying56 rfl inf_3 (by decide) rfl rfl).q ?_ | refine l_q (by decide) (p_faddro (i := 3) 5 Tryd.underlying56 rfl inf_3 (by decide) rfl rfl).q ?_
  refine l_q (by decide) (r_loadq (q := RunQ lo (Ed.run X.pl l) x11) (v := .int .i64 s.cost) Tryd.underlying3 rfl rfl (by repeat constructor) (fun w hq => (hq s hrn).2.1)).q ?_
  refine l_q (by decide) (p_assign rfl).q ?_
  refine l_q (by decide) (p_assign (v := .int .i64 ((0 : Nat) : Int)) rfl).q ?_
  refine l_nil ?_
  refine c_ret ?_
  refine c_ret2 rfl rfl rfl (fun w hs => ?_)
  exact ⟨by rw [hrn]; rfl, hs.ext⟩

theorem apply2_ok (X : Inp) (hX : X.small) (w : World) (hM : X.mem w) (hO : Ed.Okin X.pl) (C : Option Addr) (lc : Nat) (l : List Ed.Op) (hl : l.length ≤ 100000) (hY : Sl 2 opF C l w) :
   Calls Tryd.prog 14 #[.agg #[.slice X.A X.xs.length X.c, .slice X.B X.ins.length X.d, .int .i64 X.sw], .slice C l.length lc] w (Ret fun v w' => ApR w w' v (Ed.run X.pl l)) := by
 refine calls_fx (l := [.agg #[.slice X.A X.xs.length X.c, .slice X.B X.ins.length X.d, .int .i64 X.sw], .slice C l.length lc]) Tryd.func14 rfl Tryd.ntmps14 (Nat.le_of_ble_eq_true rfl) ((X.start hM).old hY (dep_sl (by decide) hY)) ?_
 refine c_seq ?_
 obtain ⟨lo, hlo⟩ : ∃ lo, lo = w.heap.size := ⟨_, rfl⟩
 refine c_reg ?_
 refine l_box (by decide) rfl _ rfl (fun b2 => ?_)
 refine l_q (by decide) (p_assign rfl).q ?_
 refine l_q (by decide) (p_assign (v := .int .i64 ((0 : Nat) : Int)) rfl).q ?_
 refine l_nil ?_
 refine c_seq ?_
 refine c_reg ?_
 first | refine l_q (by decide) (r_loada Tryd.underlying25 rfl inf_25 rfl (by first | exact .fact (by repeat constructor) | exact .own (by repeat constructor) (by decide) (fun _ => rfl) | exact SlIn.reads (by repeat constructor) (by assumption)) (by assumption)).q ?_ | refine l_q (by decide) (r_loadow Tryd.underlying25 rfl inf_25 rfl (by repeat constructor) (by rfl)).q ?_ | refine l_q (by decide) (r_loadoa Tryd.underlying25 rfl inf_25 rfl (by repeat constructor) (by rfl) (fun j u h => h)).q ?_
 refine l_q (by decide) (p_move rfl).q ?_
 refine l_call (X := Option Addr × Nat) (fun x => .tuple #[.slice x.1 (rOut (Ed.run X.pl l)).length x.2, .int .i64 (rCost (Ed.run X.pl l)), .bool (Ed.run X.pl l).isSome]) (fun x => OutQ lo (Ed.run X.pl l) x) (by decide) call_20 rfl (fun w hs => run_ok X hX w (X.of hs (by repeat constructor) (by repeat constructor) (by repeat constructor)) hO C lc l hl (hs.facts (Sl 2 opF C l) (by repeat constructor)).1 lo (by rw [hlo]; exact hs.ext.size)) (fun x12 => ?_)
 refine l_q (by decide) (p_move rfl).q ?_
 refine l_q (by decide) (p_extract rfl rfl).q ?_
 refine l_q (by decide) (p_extract rfl rfl).q ?_
 refine l_q (by decide) (p_extract rfl rfl).q ?_
 refine l_q (by decide) (p_assign rfl).q ?_
 refine l_q (by decide) (p_assign rfl).q ?_
 refine l_q (by decide) (p_assign rfl).q ?_
 refine l_nil ?_
 refine c_seq ?_
 refine c_seq ?_
 refine c_reg ?_
 refine l_q (by decide) (p_move rfl).q ?_
 first | refine l_q (by decide) (p_notd rfl).q ?_ | refine l_q (by decide) (p_not rfl).q ?_
 refine l_nil ?_
 first | refine c_dec rfl (fun h17 => ?_) (fun h17 => ?_) | refine c_cond rfl (fun h17 => ?_) (fun h17 => ?_)
 ·skip
  refine c_seq ?_
  refine c_reg ?_
  refine l_q (by decide) (p_assign rfl).q ?_
  refine l_q (by decide) (p_assign (v := .int .i64 ((1 : Nat) : Int)) rfl).q ?_
  refine l_nil ?_
  refine c_ret ?_
  refine c_ret2 rfl rfl rfl (fun w hs => ?_)
  have hrn : Ed.run X.pl l = none := by cases hr : Ed.run X.pl l with | none => rfl | some s => rw [hr] at h17; simp at h17
  exact (by rw [hrn]; exact ap_no hs.ext)
 ·skip
  refine c_skip ?_
  refine c_seq ?_
  refine c_reg ?_
  refine l_q (by decide) (p_move rfl).q ?_
  refine l_q (by decide) (p_assign rfl).q ?_
  refine l_q (by decide) (p_assign (v := .int .i64 ((0 : Nat) : Int)) rfl).q ?_
  refine l_nil ?_
  refine c_ret ?_
  refine c_ret2 rfl rfl rfl (fun w hs => ?_)
  have hok : okc (Ed.run X.pl l) = 0 := by cases hr : Ed.run X.pl l with | none => rw [hr] at h17; simp at h17 | some s => rfl
  have hq := (hs.facts (OutQ lo (Ed.run X.pl l) x12) (by repeat constructor)).1
  exact ⟨x12, by rw [hok]; rfl, hq.2, by rw [← hlo]; exact dep_lo (by decide) hq.2 hq.1, hs.ext⟩

theorem cost2_ok (X : Inp) (hX : X.small) (w : World) (hM : X.mem w) (hO : Ed.Okin X.pl) (C : Option Addr) (lc : Nat) (l : List Ed.Op) (hl : l.length ≤ 100000) (hY : Sl 2 opF C l w) :
   Calls Tryd.prog 16 #[.agg #[.slice X.A X.xs.length X.c, .slice X.B X.ins.length X.d, .int .i64 X.sw], .slice C l.length lc] w (Ret fun v w' => v = .tuple #[.int .i64 (rCost (Ed.run X.pl l)), .int .i64 (okc (Ed.run X.pl l))] ∧ Ext [] w w') := by
 refine calls_fx (l := [.agg #[.slice X.A X.xs.length X.c, .slice X.B X.ins.length X.d, .int .i64 X.sw], .slice C l.length lc]) Tryd.func16 rfl Tryd.ntmps16 (Nat.le_of_ble_eq_true rfl) ((X.start hM).old hY (dep_sl (by decide) hY)) ?_
 refine c_seq ?_
 obtain ⟨lo, hlo⟩ : ∃ lo, lo = w.heap.size := ⟨_, rfl⟩
 refine c_reg ?_
 refine l_box (by decide) rfl _ rfl (fun b2 => ?_)
 refine l_q (by decide) (p_assign (v := .int .i64 ((0 : Nat) : Int)) rfl).q ?_
 refine l_q (by decide) (p_assign (v := .int .i64 ((0 : Nat) : Int)) rfl).q ?_
 refine l_nil ?_
 refine c_seq ?_
 refine c_reg ?_
 first | refine l_q (by decide) (r_loada Tryd.underlying25 rfl inf_25 rfl (by first | exact .fact (by repeat constructor) | exact .own (by repeat constructor) (by decide) (fun _ => rfl) | exact SlIn.reads (by repeat constructor) (by assumption)) (by assumption)).q ?_ | refine l_q (by decide) (r_loadow Tryd.underlying25 rfl inf_25 rfl (by repeat constructor) (by rfl)).q ?_ | refine l_q (by decide) (r_loadoa Tryd.underlying25 rfl inf_25 rfl (by repeat constructor) (by rfl) (fun j u h => h)).q ?_
 refine l_q (by decide) (p_move rfl).q ?_
 refine l_call (X := Option Addr × Nat) (fun x => .tuple #[.slice x.1 (rOut (Ed.run X.pl l)).length x.2, .int .i64 (rCost (Ed.run X.pl l)), .bool (Ed.run X.pl l).isSome]) (fun x => OutQ lo (Ed.run X.pl l) x) (by decide) call_20 rfl (fun w hs => run_ok X hX w (X.of hs (by repeat constructor) (by repeat constructor) (by repeat constructor)) hO C lc l hl (hs.facts (Sl 2 opF C l) (by repeat constructor)).1 lo (by rw [hlo]; exact hs.ext.size)) (fun x12 => ?_)
 refine l_q (by decide) (p_move rfl).q ?_
 refine l_q (by decide) (p_extract rfl rfl).q ?_
 refine l_q (by decide) (p_extract rfl rfl).q ?_
 refine l_q (by decide) (p_extract rfl rfl).q ?_
 refine l_q (by decide) (p_assign rfl).q ?_
 refine l_q (by decide) (p_assign rfl).q ?_
 refine l_q (by decide) (p_assign rfl).q ?_
 refine l_nil ?_
 refine c_seq ?_
 refine c_seq ?_
 refine c_reg ?_
 refine l_q (by decide) (p_move rfl).q ?_
 first | refine l_q (by decide) (p_notd rfl).q ?_ | refine l_q (by decide) (p_not rfl).q ?_
 refine l_nil ?_
 first | refine c_dec rfl (fun h17 => ?_) (fun h17 => ?_) | refine c_cond rfl (fun h17 => ?_) (fun h17 => ?_)
 ·skip
  refine c_seq ?_
  refine c_reg ?_
  refine l_q (by decide) (p_assign (v := .int .i64 ((0 : Nat) : Int)) rfl).q ?_
  refine l_q (by decide) (p_assign (v := .int .i64 ((1 : Nat) : Int)) rfl).q ?_
  refine l_nil ?_
  refine c_ret ?_
  refine c_ret2 rfl rfl rfl (fun w hs => ?_)
  have hrn : Ed.run X.pl l = none := by cases hr : Ed.run X.pl l with | none => rfl | some s => rw [hr] at h17; simp at h17
  exact ⟨by rw [hrn]; rfl, hs.ext⟩
 ·skip
  refine c_skip ?_
  refine c_seq ?_
  refine c_reg ?_
  refine l_q (by decide) (p_move rfl).q ?_
  refine l_q (by decide) (p_assign rfl).q ?_
  refine l_q (by decide) (p_assign (v := .int .i64 ((0 : Nat) : Int)) rfl).q ?_
  refine l_nil ?_
  refine c_ret ?_
  refine c_ret2 rfl rfl rfl (fun w hs => ?_)
  have hok : okc (Ed.run X.pl l) = 0 := by cases hr : Ed.run X.pl l with | none => rw [hr] at h17; simp at h17 | some s => rfl
  exact ⟨by rw [hok]; rfl, hs.ext⟩
end Go.Proofs.YtlefheiohblgdaaDoor
