/- The walks of edit scripts, seventeenth part; conditions: lengths. -/
import Derived.Test.YtlefheiohblgdaaDoorWalksP
namespace Go.Proofs.YtlefheiohblgdaaDoor
open Go Go.Fx Go.Proofs

theorem execs_len (I : Ed.In) : ∀ (l : List Ed.Op) (s s' : Ed.St), Ed.execs I s l = some s' → s'.out.length ≤ s.out.length + 2 * l.length := by
  intro l
  induction l with
  | nil => intro s s' h; injection h with h; subst h; simp
  | cons o l ih =>
    intro s s' h
    unfold Ed.execs at h
    split at h
    · rename_i s1 h1
      obtain ⟨x, k, e, h2, h3⟩ := Ed.exec_one h1
      have h4 := one_len h2
      have h5 := ih _ _ h
      subst h3
      have h6 : (s.out ++ e).length = s.out.length + e.length := List.length_append
      simp only [List.length_cons] at *
      omega
    · cases h
theorem run_len {I : Ed.In} {l : List Ed.Op} : (rOut (Ed.run I l)).length ≤ 2 * l.length := by
  cases h : Ed.run I l with
  | none => simp [rOut]
  | some s =>
    unfold Ed.run at h
    split at h
    · rename_i s1 h1
      split at h
      · injection h with h; subst h
        have := execs_len I l _ _ h1
        simpa [rOut] using this
      · cases h
    · cases h
theorem yes_ok2 {P : Program} {k : FuncId} {a : Array Value} {w : World} {p : Prop} {E : World → Prop} (hp : p) (h : Calls P k a w (Ret fun v w' => v = .bool (dec p) ∧ E w')) : Calls P k a w (Ret fun v w' => v = .bool true ∧ E w') := by simpa only [dec_true hp] using h
theorem low_of {X : Inp} (hO : Ed.Okin X.pl) {l : List Ed.Op} {s : Ed.St} (h : Ed.run X.pl l = some s) : Prp X s.out ∧ dst X s.out ≤ s.cost := by
  obtain ⟨h1, h2⟩ := Ed.run_low hO h
  have hp : Prp X s.out := h2
  exact ⟨hp, by rw [dst_yes hp]; exact h1⟩
theorem call_11 : Callable Tryd.prog 11 := ⟨_, Tryd.func11, by kernel_rfl, rfl⟩
theorem call_12 : Callable Tryd.prog 12 := ⟨_, Tryd.func12, by kernel_rfl, rfl⟩
theorem call_14 : Callable Tryd.prog 14 := ⟨_, Tryd.func14, by kernel_rfl, rfl⟩
theorem call_16 : Callable Tryd.prog 16 := ⟨_, Tryd.func16, by kernel_rfl, rfl⟩
theorem call_19 : Callable Tryd.prog 19 := ⟨_, Tryd.func19, by kernel_rfl, rfl⟩
theorem apply_law (X : Inp) (hX : X.small) (w : World) (hM : X.mem w) (hA : ActF w) (C : Option Addr) (lc : Nat) (l : List Ed.Op) (hY : Sl 2 opF C l w) :
   Calls Tryd.prog 3 #[.agg #[.slice X.A X.xs.length X.c, .slice X.B X.ins.length X.d, .int .i64 X.sw], .slice C l.length lc] w (Ret fun v w' => v = .bool true ∧ Ext [] w w') := by
 refine calls_fx (l := [.agg #[.slice X.A X.xs.length X.c, .slice X.B X.ins.length X.d, .int .i64 X.sw], .slice C l.length lc]) Tryd.func3 rfl Tryd.ntmps3 (Nat.le_of_ble_eq_true rfl) (((X.start hM).old hY (dep_sl (by decide) hY)).old hA (dep_act hA)) ?_
 refine c_seq ?_
 obtain ⟨lo, hlo⟩ : ∃ lo, lo = w.heap.size := ⟨_, rfl⟩
 refine c_reg ?_
 refine l_box (by decide) rfl _ rfl (fun b2 => ?_)
 refine l_q (by decide) (p_assign rfl).q ?_
 refine l_nil ?_
 refine c_seq ?_
 refine c_seq ?_
 refine c_reg ?_
 refine l_q (by decide) (q_call call_11 rfl (fun w hs => awake_ok w (hs.facts ActF (by repeat constructor)).1)) ?_
 refine l_q (by decide) (p_not rfl).q ?_
 refine l_nil ?_
 refine c_false rfl ?_
 refine c_skip ?_
 refine c_seq ?_
 refine c_seq ?_
 refine c_reg ?_
 first | refine l_q (by decide) (r_loada Tryd.underlying25 rfl inf_25 rfl (by first | exact .fact (by repeat constructor) | exact .own (by repeat constructor) (by decide) (fun _ => rfl) | exact SlIn.reads (by repeat constructor) (by assumption)) (by assumption)).q ?_ | refine l_q (by decide) (r_loadow Tryd.underlying25 rfl inf_25 rfl (by repeat constructor) (by rfl)).q ?_ | refine l_q (by decide) (r_loadoa Tryd.underlying25 rfl inf_25 rfl (by repeat constructor) (by rfl) (fun j u h => h)).q ?_
 refine l_q (by decide) (q_call call_12 rfl (fun w hs => fair_ok X hX w (X.of hs (by repeat constructor) (by repeat constructor) (by repeat constructor)))) ?_
 first | refine l_q (by decide) (p_notd rfl).q ?_ | refine l_q (by decide) (p_not rfl).q ?_
 refine l_q (by decide) (p_move rfl).q ?_
 first | refine l_splitd (t := 18) rfl (fun h18 => ?_) (fun h18 => ?_) | refine l_splitb (t := 18) rfl (fun h18 => ?_) (fun h18 => ?_)
 ·skip
  refine l_off (j := 3) rfl rfl (by first | (simp; done) | (simp [undef]; done)) (by decide) ?_
  refine l_off (j := 3) rfl rfl (by first | (simp; done) | (simp [undef]; done)) (by decide) ?_
  refine l_off (j := 3) rfl rfl (by first | (simp; done) | (simp [undef]; done)) (by decide) ?_
  refine l_q (by decide) (p_pick rfl rfl).q ?_
  refine l_nil ?_
  refine c_true rfl ?_
  refine c_seq ?_
  refine c_reg ?_
  refine l_q (by decide) (p_assign rfl).q ?_
  refine l_nil ?_
  refine c_ret ?_
  refine c_ret1 rfl rfl (fun w hs => ?_)
  exact ⟨rfl, hs.ext⟩
 ·skip
  have hf : Fair X := of_dec (p := Fair X) (by simpa using h18)
  have hO := hf.2.2
  have hn8 := hf.1.1
  refine l_g (j := 3) rfl rfl (by decide) (p_move rfl).q ?_
  refine l_g (j := 3) rfl rfl (by decide) (p_len_sl Tryd.underlying26 rfl).q ?_
  first | refine l_g (j := 3) rfl rfl (by decide) (p_gtr (j := 40) rfl rfl rfl rfl).q ?_ | refine l_g (j := 3) rfl rfl (by decide) (p_gtri rfl rfl).q ?_
  refine l_q (by decide) (p_pick rfl rfl).q ?_
  refine l_nil ?_
  first | refine c_dec rfl (fun h22 => ?_) (fun h22 => ?_) | refine c_cond rfl (fun h22 => ?_) (fun h22 => ?_)
  ·skip
   refine c_seq ?_
   refine c_reg ?_
   refine l_q (by decide) (p_assign rfl).q ?_
   refine l_nil ?_
   refine c_ret ?_
   refine c_ret1 rfl rfl (fun w hs => ?_)
   exact ⟨rfl, hs.ext⟩
  ·skip
   refine c_skip ?_
   refine c_seq ?_
   refine c_reg ?_
   first | refine l_q (by decide) (r_loada Tryd.underlying25 rfl inf_25 rfl (by first | exact .fact (by repeat constructor) | exact .own (by repeat constructor) (by decide) (fun _ => rfl) | exact SlIn.reads (by repeat constructor) (by assumption)) (by assumption)).q ?_ | refine l_q (by decide) (r_loadow Tryd.underlying25 rfl inf_25 rfl (by repeat constructor) (by rfl)).q ?_ | refine l_q (by decide) (r_loadoa Tryd.underlying25 rfl inf_25 rfl (by repeat constructor) (by rfl) (fun j u h => h)).q ?_
   refine l_q (by decide) (p_move rfl).q ?_
   refine l_call (X := Option Addr × Nat) (fun x => .tuple #[.slice x.1 (rOut (Ed.run X.pl l)).length x.2, .int .i64 (okc (Ed.run X.pl l))]) (fun x => Sl 1 intF x.1 (rOut (Ed.run X.pl l))) (by decide) call_13 rfl (fun w hs => apply_ok X hX w (X.of hs (by repeat constructor) (by repeat constructor) (by repeat constructor)) (hs.facts ActF (by repeat constructor)).1 hO C lc l (by omega) (hs.facts (Sl 2 opF C l) (by repeat constructor)).1) (fun x26 => ?_)
   refine l_q (by decide) (p_move rfl).q ?_
   refine l_q (by decide) (p_extract rfl rfl).q ?_
   refine l_q (by decide) (p_extract rfl rfl).q ?_
   refine l_q (by decide) (p_assign rfl).q ?_
   refine l_q (by decide) (p_assign rfl).q ?_
   refine l_nil ?_
   refine c_seq ?_
   refine c_reg ?_
   first | refine l_q (by decide) (r_loada Tryd.underlying25 rfl inf_25 rfl (by first | exact .fact (by repeat constructor) | exact .own (by repeat constructor) (by decide) (fun _ => rfl) | exact SlIn.reads (by repeat constructor) (by assumption)) (by assumption)).q ?_ | refine l_q (by decide) (r_loadow Tryd.underlying25 rfl inf_25 rfl (by repeat constructor) (by rfl)).q ?_ | refine l_q (by decide) (r_loadoa Tryd.underlying25 rfl inf_25 rfl (by repeat constructor) (by rfl) (fun j u h => h)).q ?_
   refine l_q (by decide) (p_move rfl).q ?_
   refine l_call (X := Option Addr × Nat) (fun x => .tuple #[.slice x.1 (rOut (Ed.run X.pl l)).length x.2, .int .i64 (okc (Ed.run X.pl l))]) (fun x => Sl 1 intF x.1 (rOut (Ed.run X.pl l))) (by decide) call_14 rfl (fun w hs => apply2_ok X hX w (X.of hs (by repeat constructor) (by repeat constructor) (by repeat constructor)) hO C lc l (by omega) (hs.facts (Sl 2 opF C l) (by repeat constructor)).1) (fun x32 => ?_)
   refine l_q (by decide) (p_move rfl).q ?_
   refine l_q (by decide) (p_extract rfl rfl).q ?_
   refine l_q (by decide) (p_extract rfl rfl).q ?_
   refine l_q (by decide) (p_assign rfl).q ?_
   refine l_q (by decide) (p_assign rfl).q ?_
   refine l_nil ?_
   refine c_seq ?_
   refine c_reg ?_
   first | refine l_q (by decide) (r_loada Tryd.underlying25 rfl inf_25 rfl (by first | exact .fact (by repeat constructor) | exact .own (by repeat constructor) (by decide) (fun _ => rfl) | exact SlIn.reads (by repeat constructor) (by assumption)) (by assumption)).q ?_ | refine l_q (by decide) (r_loadow Tryd.underlying25 rfl inf_25 rfl (by repeat constructor) (by rfl)).q ?_ | refine l_q (by decide) (r_loadoa Tryd.underlying25 rfl inf_25 rfl (by repeat constructor) (by rfl) (fun j u h => h)).q ?_
   refine l_q (by decide) (p_move rfl).q ?_
   refine l_q (by decide) (q_call call_15 rfl (fun w hs => cost_ok X hX w (X.of hs (by repeat constructor) (by repeat constructor) (by repeat constructor)) (hs.facts ActF (by repeat constructor)).1 hO C lc l (by omega) (hs.facts (Sl 2 opF C l) (by repeat constructor)).1)) ?_
   refine l_q (by decide) (p_move rfl).q ?_
   refine l_q (by decide) (p_extract rfl rfl).q ?_
   refine l_q (by decide) (p_extract rfl rfl).q ?_
   refine l_q (by decide) (p_assign rfl).q ?_
   refine l_q (by decide) (p_assign rfl).q ?_
   refine l_nil ?_
   refine c_seq ?_
   refine c_reg ?_
   first | refine l_q (by decide) (r_loada Tryd.underlying25 rfl inf_25 rfl (by first | exact .fact (by repeat constructor) | exact .own (by repeat constructor) (by decide) (fun _ => rfl) | exact SlIn.reads (by repeat constructor) (by assumption)) (by assumption)).q ?_ | refine l_q (by decide) (r_loadow Tryd.underlying25 rfl inf_25 rfl (by repeat constructor) (by rfl)).q ?_ | refine l_q (by decide) (r_loadoa Tryd.underlying25 rfl inf_25 rfl (by repeat constructor) (by rfl) (fun j u h => h)).q ?_
   refine l_q (by decide) (p_move rfl).q ?_
   refine l_q (by decide) (q_call call_16 rfl (fun w hs => cost2_ok X hX w (X.of hs (by repeat constructor) (by repeat constructor) (by repeat constructor)) hO C lc l (by omega) (hs.facts (Sl 2 opF C l) (by repeat constructor)).1)) ?_
   refine l_q (by decide) (p_move rfl).q ?_
   refine l_q (by decide) (p_extract rfl rfl).q ?_
   refine l_q (by decide) (p_extract rfl rfl).q ?_
   refine l_q (by decide) (p_assign rfl).q ?_
   refine l_q (by decide) (p_assign rfl).q ?_
   refine l_nil ?_
   refine c_seq ?_
   refine c_reg ?_
   refine l_q (by decide) (p_move rfl).q ?_
   refine l_q (by decide) (p_move rfl).q ?_
   first | refine l_q (by decide) (((p_eql rfl rfl rfl rfl)).to (u := .bool true) (by simp)).q ?_ | refine l_q (by decide) (((p_eqli rfl rfl)).to (u := .bool true) (by simp)).q ?_
   refine l_q (by decide) (p_move rfl).q ?_
   refine l_g (j := 3) rfl rfl (by decide) (p_move rfl).q ?_
   refine l_g (j := 3) rfl rfl (by decide) (p_move rfl).q ?_
   first | refine l_g (j := 3) rfl rfl (by decide) (((p_eql rfl rfl rfl rfl)).to (u := .bool true) (by simp)).q ?_ | refine l_g (j := 3) rfl rfl (by decide) (((p_eqli rfl rfl)).to (u := .bool true) (by simp)).q ?_
   refine l_q (by decide) (p_pick rfl rfl).q ?_
   refine l_q (by decide) (p_move rfl).q ?_
   refine l_g (j := 8) rfl rfl (by decide) (p_move rfl).q ?_
   refine l_g (j := 8) rfl rfl (by decide) (p_move rfl).q ?_
   first | refine l_g (j := 8) rfl rfl (by decide) (((p_eql rfl rfl rfl rfl)).to (u := .bool true) (by simp)).q ?_ | refine l_g (j := 8) rfl rfl (by decide) (((p_eqli rfl rfl)).to (u := .bool true) (by simp)).q ?_
   refine l_q (by decide) (p_pick rfl rfl).q ?_
   refine l_q (by decide) (p_move rfl).q ?_
   refine l_g (j := 13) rfl rfl (by decide) (p_move rfl).q ?_
   refine l_g (j := 13) rfl rfl (by decide) (p_move rfl).q ?_
   refine l_g (j := 13) rfl rfl (by decide) (q_call call_17 rfl (fun w hs => yes_ok rfl (same_ok x26.1 x32.1 x26.2 x32.2 (rOut (Ed.run X.pl l)) (rOut (Ed.run X.pl l)) (by have := run_len (I := X.pl) (l := l); omega) w (hs.facts (Sl 1 intF x26.1 _) (by repeat constructor)).1 (hs.facts (Sl 1 intF x32.1 _) (by repeat constructor)).1))) ?_
   refine l_q (by decide) (p_pick rfl rfl).q ?_
   refine l_q (by decide) (p_assign rfl).q ?_
   refine l_nil ?_
   refine c_ret ?_
   refine c_ret1 rfl rfl (fun w hs => ?_)
   exact ⟨rfl, hs.ext⟩

theorem distance_law (X : Inp) (hX : X.small) (w : World) (hM : X.mem w) (hA : ActF w) (C : Option Addr) (e : Nat) (y : List Int) (hY : Sl 1 intF C y w) :
   Calls Tryd.prog 4 #[.agg #[.slice X.A X.xs.length X.c, .slice X.B X.ins.length X.d, .int .i64 X.sw], .slice C y.length e] w (Ret fun v w' => v = .bool true ∧ Ext [] w w') := by
 refine calls_fx (l := [.agg #[.slice X.A X.xs.length X.c, .slice X.B X.ins.length X.d, .int .i64 X.sw], .slice C y.length e]) Tryd.func4 rfl Tryd.ntmps4 (Nat.le_of_ble_eq_true rfl) (((X.start hM).old hY (dep_sl (by decide) hY)).old hA (dep_act hA)) ?_
 refine c_seq ?_
 obtain ⟨lo, hlo⟩ : ∃ lo, lo = w.heap.size := ⟨_, rfl⟩
 refine c_reg ?_
 refine l_box (by decide) rfl _ rfl (fun b2 => ?_)
 refine l_q (by decide) (p_assign rfl).q ?_
 refine l_nil ?_
 refine c_seq ?_
 refine c_seq ?_
 refine c_reg ?_
 refine l_q (by decide) (q_call call_11 rfl (fun w hs => awake_ok w (hs.facts ActF (by repeat constructor)).1)) ?_
 refine l_q (by decide) (p_not rfl).q ?_
 refine l_nil ?_
 refine c_false rfl ?_
 refine c_skip ?_
 refine c_seq ?_
 refine c_seq ?_
 refine c_reg ?_
 first | refine l_q (by decide) (r_loada Tryd.underlying25 rfl inf_25 rfl (by first | exact .fact (by repeat constructor) | exact .own (by repeat constructor) (by decide) (fun _ => rfl) | exact SlIn.reads (by repeat constructor) (by assumption)) (by assumption)).q ?_ | refine l_q (by decide) (r_loadow Tryd.underlying25 rfl inf_25 rfl (by repeat constructor) (by rfl)).q ?_ | refine l_q (by decide) (r_loadoa Tryd.underlying25 rfl inf_25 rfl (by repeat constructor) (by rfl) (fun j u h => h)).q ?_
 refine l_q (by decide) (q_call call_12 rfl (fun w hs => fair_ok X hX w (X.of hs (by repeat constructor) (by repeat constructor) (by repeat constructor)))) ?_
 first | refine l_q (by decide) (p_notd rfl).q ?_ | refine l_q (by decide) (p_not rfl).q ?_
 refine l_q (by decide) (p_move rfl).q ?_
 first | refine l_splitd (t := 10) rfl (fun h10 => ?_) (fun h10 => ?_) | refine l_splitb (t := 10) rfl (fun h10 => ?_) (fun h10 => ?_)
 ·skip
  refine l_off (j := 3) rfl rfl (by first | (simp; done) | (simp [undef]; done)) (by decide) ?_
  refine l_off (j := 3) rfl rfl (by first | (simp; done) | (simp [undef]; done)) (by decide) ?_
  refine l_off (j := 3) rfl rfl (by first | (simp; done) | (simp [undef]; done)) (by decide) ?_
  refine l_q (by decide) (p_pick rfl rfl).q ?_
  refine l_nil ?_
  refine c_true rfl ?_
  refine c_seq ?_
  refine c_reg ?_
  refine l_q (by decide) (p_assign rfl).q ?_
  refine l_nil ?_
  refine c_ret ?_
  refine c_ret1 rfl rfl (fun w hs => ?_)
  exact ⟨rfl, hs.ext⟩
 ·skip
  have hf : Fair X := of_dec (p := Fair X) (by simpa using h10)
  have hO := hf.2.2
  have hn8 := hf.1.1
  refine l_g (j := 3) rfl rfl (by decide) (p_move rfl).q ?_
  refine l_g (j := 3) rfl rfl (by decide) (p_len_sl Tryd.underlying23 rfl).q ?_
  first | refine l_g (j := 3) rfl rfl (by decide) (p_gtr (j := 12) rfl rfl rfl rfl).q ?_ | refine l_g (j := 3) rfl rfl (by decide) (p_gtri rfl rfl).q ?_
  refine l_q (by decide) (p_pick rfl rfl).q ?_
  refine l_nil ?_
  first | refine c_dec rfl (fun h14 => ?_) (fun h14 => ?_) | refine c_cond rfl (fun h14 => ?_) (fun h14 => ?_)
  ·skip
   refine c_seq ?_
   refine c_reg ?_
   refine l_q (by decide) (p_assign rfl).q ?_
   refine l_nil ?_
   refine c_ret ?_
   refine c_ret1 rfl rfl (fun w hs => ?_)
   exact ⟨rfl, hs.ext⟩
  ·skip
   refine c_skip ?_
   refine c_seq ?_
   refine c_draw mixed (by decide +kernel) ?_
   first | refine q_q (by decide) (r_loada Tryd.underlying25 rfl inf_25 rfl (by first | exact .fact (by repeat constructor) | exact .own (by repeat constructor) (by decide) (fun _ => rfl) | exact SlIn.reads (by repeat constructor) (by assumption)) (by assumption)).q ?_ | refine q_q (by decide) (r_loadow Tryd.underlying25 rfl inf_25 rfl (by repeat constructor) (by rfl)).q ?_ | refine q_q (by decide) (r_loadoa Tryd.underlying25 rfl inf_25 rfl (by repeat constructor) (by rfl) (fun j u h => h)).q ?_
   refine q_q (by decide) (p_move rfl).q ?_
   refine q_q (by decide) (q_call call_18 rfl (fun w hs => dist_ok X hX w (X.of hs (by repeat constructor) (by repeat constructor) (by repeat constructor)) hO (by omega) C e y (by omega) (hs.facts (Sl 1 intF C y) (by repeat constructor)).1)) ?_
   first | refine q_q (by decide) (r_loada Tryd.underlying25 rfl inf_25 rfl (by first | exact .fact (by repeat constructor) | exact .own (by repeat constructor) (by decide) (fun _ => rfl) | exact SlIn.reads (by repeat constructor) (by assumption)) (by assumption)).q ?_ | refine q_q (by decide) (r_loadow Tryd.underlying25 rfl inf_25 rfl (by repeat constructor) (by rfl)).q ?_ | refine q_q (by decide) (r_loadoa Tryd.underlying25 rfl inf_25 rfl (by repeat constructor) (by rfl) (fun j u h => h)).q ?_
   refine q_q (by decide) (p_move rfl).q ?_
   refine q_q (by decide) (q_call call_19 rfl (fun w hs => dist2_ok X hX w (X.of hs (by repeat constructor) (by repeat constructor) (by repeat constructor)) hO (by omega) C e y (by omega) (hs.facts (Sl 1 intF C y) (by repeat constructor)).1)) ?_
   first | refine q_q (by decide) (((p_eql rfl rfl rfl rfl)).to (u := .bool true) (by simp)).q ?_ | refine q_q (by decide) (((p_eqli rfl rfl)).to (u := .bool true) (by simp)).q ?_
   refine q_q (by decide) (p_assign rfl).q ?_
   refine q_nil ?_
   refine c_ret ?_
   refine c_ret1 rfl rfl (fun w hs => ?_)
   exact ⟨rfl, hs.ext⟩

theorem lower_law (X : Inp) (hX : X.small) (w : World) (hM : X.mem w) (hA : ActF w) (C : Option Addr) (lc : Nat) (l : List Ed.Op) (hY : Sl 2 opF C l w) :
   Calls Tryd.prog 5 #[.agg #[.slice X.A X.xs.length X.c, .slice X.B X.ins.length X.d, .int .i64 X.sw], .slice C l.length lc] w (Ret fun v w' => v = .bool true ∧ Ext [] w w') := by
 refine calls_fx (l := [.agg #[.slice X.A X.xs.length X.c, .slice X.B X.ins.length X.d, .int .i64 X.sw], .slice C l.length lc]) Tryd.func5 rfl Tryd.ntmps5 (Nat.le_of_ble_eq_true rfl) (((X.start hM).old hY (dep_sl (by decide) hY)).old hA (dep_act hA)) ?_
 refine c_seq ?_
 obtain ⟨lo, hlo⟩ : ∃ lo, lo = w.heap.size := ⟨_, rfl⟩
 refine c_reg ?_
 refine l_box (by decide) rfl _ rfl (fun b2 => ?_)
 refine l_q (by decide) (p_assign rfl).q ?_
 refine l_nil ?_
 refine c_seq ?_
 refine c_seq ?_
 refine c_reg ?_
 refine l_q (by decide) (q_call call_11 rfl (fun w hs => awake_ok w (hs.facts ActF (by repeat constructor)).1)) ?_
 refine l_q (by decide) (p_not rfl).q ?_
 refine l_nil ?_
 refine c_false rfl ?_
 refine c_skip ?_
 refine c_seq ?_
 refine c_seq ?_
 refine c_reg ?_
 first | refine l_q (by decide) (r_loada Tryd.underlying25 rfl inf_25 rfl (by first | exact .fact (by repeat constructor) | exact .own (by repeat constructor) (by decide) (fun _ => rfl) | exact SlIn.reads (by repeat constructor) (by assumption)) (by assumption)).q ?_ | refine l_q (by decide) (r_loadow Tryd.underlying25 rfl inf_25 rfl (by repeat constructor) (by rfl)).q ?_ | refine l_q (by decide) (r_loadoa Tryd.underlying25 rfl inf_25 rfl (by repeat constructor) (by rfl) (fun j u h => h)).q ?_
 refine l_q (by decide) (q_call call_12 rfl (fun w hs => fair_ok X hX w (X.of hs (by repeat constructor) (by repeat constructor) (by repeat constructor)))) ?_
 first | refine l_q (by decide) (p_notd rfl).q ?_ | refine l_q (by decide) (p_not rfl).q ?_
 refine l_q (by decide) (p_move rfl).q ?_
 first | refine l_splitd (t := 13) rfl (fun h13 => ?_) (fun h13 => ?_) | refine l_splitb (t := 13) rfl (fun h13 => ?_) (fun h13 => ?_)
 ·skip
  refine l_off (j := 3) rfl rfl (by first | (simp; done) | (simp [undef]; done)) (by decide) ?_
  refine l_off (j := 3) rfl rfl (by first | (simp; done) | (simp [undef]; done)) (by decide) ?_
  refine l_off (j := 3) rfl rfl (by first | (simp; done) | (simp [undef]; done)) (by decide) ?_
  refine l_q (by decide) (p_pick rfl rfl).q ?_
  refine l_nil ?_
  refine c_true rfl ?_
  refine c_seq ?_
  refine c_reg ?_
  refine l_q (by decide) (p_assign rfl).q ?_
  refine l_nil ?_
  refine c_ret ?_
  refine c_ret1 rfl rfl (fun w hs => ?_)
  exact ⟨rfl, hs.ext⟩
 ·skip
  have hf : Fair X := of_dec (p := Fair X) (by simpa using h13)
  have hO := hf.2.2
  have hn8 := hf.1.1
  refine l_g (j := 3) rfl rfl (by decide) (p_move rfl).q ?_
  refine l_g (j := 3) rfl rfl (by decide) (p_len_sl Tryd.underlying26 rfl).q ?_
  first | refine l_g (j := 3) rfl rfl (by decide) (p_gtr (j := 20) rfl rfl rfl rfl).q ?_ | refine l_g (j := 3) rfl rfl (by decide) (p_gtri rfl rfl).q ?_
  refine l_q (by decide) (p_pick rfl rfl).q ?_
  refine l_nil ?_
  first | refine c_dec rfl (fun h17 => ?_) (fun h17 => ?_) | refine c_cond rfl (fun h17 => ?_) (fun h17 => ?_)
  ·skip
   refine c_seq ?_
   refine c_reg ?_
   refine l_q (by decide) (p_assign rfl).q ?_
   refine l_nil ?_
   refine c_ret ?_
   refine c_ret1 rfl rfl (fun w hs => ?_)
   exact ⟨rfl, hs.ext⟩
  ·skip
   refine c_skip ?_
   refine c_seq ?_
   refine c_reg ?_
   first | refine l_q (by decide) (r_loada Tryd.underlying25 rfl inf_25 rfl (by first | exact .fact (by repeat constructor) | exact .own (by repeat constructor) (by decide) (fun _ => rfl) | exact SlIn.reads (by repeat constructor) (by assumption)) (by assumption)).q ?_ | refine l_q (by decide) (r_loadow Tryd.underlying25 rfl inf_25 rfl (by repeat constructor) (by rfl)).q ?_ | refine l_q (by decide) (r_loadoa Tryd.underlying25 rfl inf_25 rfl (by repeat constructor) (by rfl) (fun j u h => h)).q ?_
   refine l_q (by decide) (p_move rfl).q ?_
   refine l_call (X := Option Addr × Nat) (fun x => .tuple #[.slice x.1 (rOut (Ed.run X.pl l)).length x.2, .int .i64 (rCost (Ed.run X.pl l)), .bool (Ed.run X.pl l).isSome]) (fun x => OutQ lo (Ed.run X.pl l) x) (by decide) call_20 rfl (fun w hs => run_ok X hX w (X.of hs (by repeat constructor) (by repeat constructor) (by repeat constructor)) hO C lc l (by omega) (hs.facts (Sl 2 opF C l) (by repeat constructor)).1 lo (by rw [hlo]; exact hs.ext.size)) (fun x21 => ?_)
   refine l_q (by decide) (p_move rfl).q ?_
   refine l_q (by decide) (p_extract rfl rfl).q ?_
   refine l_q (by decide) (p_extract rfl rfl).q ?_
   refine l_q (by decide) (p_extract rfl rfl).q ?_
   refine l_q (by decide) (p_assign rfl).q ?_
   refine l_q (by decide) (p_assign rfl).q ?_
   refine l_q (by decide) (p_assign rfl).q ?_
   refine l_nil ?_
   refine c_seq ?_
   refine c_reg ?_
   refine l_q (by decide) (p_move rfl).q ?_
   first | refine l_q (by decide) (p_notd rfl).q ?_ | refine l_q (by decide) (p_not rfl).q ?_
   refine l_q (by decide) (p_move rfl).q ?_
   first | refine l_splitd (t := 27) rfl (fun h27 => ?_) (fun h27 => ?_) | refine l_splitb (t := 27) rfl (fun h27 => ?_) (fun h27 => ?_)
   ·skip
    refine l_off (j := 2) rfl rfl (by first | (simp; done) | (simp [undef]; done)) (by decide) ?_
    refine l_off (j := 2) rfl rfl (by first | (simp; done) | (simp [undef]; done)) (by decide) ?_
    refine l_off (j := 2) rfl rfl (by first | (simp; done) | (simp [undef]; done)) (by decide) ?_
    refine l_off (j := 2) rfl rfl (by first | (simp; done) | (simp [undef]; done)) (by decide) ?_
    refine l_off (j := 2) rfl rfl (by first | (simp; done) | (simp [undef]; done)) (by decide) ?_
    refine l_q (by decide) (p_pick rfl rfl).q ?_
    refine l_q (by decide) (p_assign rfl).q ?_
    refine l_nil ?_
    refine c_ret ?_
    refine c_ret1 rfl rfl (fun w hs => ?_)
    exact ⟨rfl, hs.ext⟩
   ·skip
    obtain ⟨s, hrn⟩ : ∃ s, Ed.run X.pl l = some s := by cases hr : Ed.run X.pl l with | none => rw [hr] at h27; simp at h27 | some s => exact ⟨s, rfl⟩
    have hlow := low_of hO hrn
    have hrl := run_len (I := X.pl) (l := l)
    first | refine l_g (j := 2) rfl rfl (by decide) (r_loada Tryd.underlying25 rfl inf_25 rfl (by first | exact .fact (by repeat constructor) | exact .own (by repeat constructor) (by decide) (fun _ => rfl) | exact SlIn.reads (by repeat constructor) (by assumption)) (by assumption)).q ?_ | refine l_g (j := 2) rfl rfl (by decide) (r_loadow Tryd.underlying25 rfl inf_25 rfl (by repeat constructor) (by rfl)).q ?_ | refine l_g (j := 2) rfl rfl (by decide) (r_loadoa Tryd.underlying25 rfl inf_25 rfl (by repeat constructor) (by rfl) (fun j u h => h)).q ?_
    refine l_g (j := 2) rfl rfl (by decide) (p_move rfl).q ?_
    refine l_g (j := 2) rfl rfl (by decide) (q_call call_18 rfl (fun w hs => dist_ok X hX w (X.of hs (by repeat constructor) (by repeat constructor) (by repeat constructor)) hO (by omega) x21.1 x21.2 (rOut (Ed.run X.pl l)) (by omega) (hs.facts (OutQ lo (Ed.run X.pl l) x21) (by repeat constructor)).1.2)) ?_
    refine l_g (j := 2) rfl rfl (by decide) (p_move rfl).q ?_
    first | refine l_g (j := 2) rfl rfl (by decide) (((p_leq rfl rfl rfl rfl)).to (u := .bool true) (by rw [decide_eq_true (by rw [hrn]; exact hlow.2)])).q ?_ | refine l_g (j := 2) rfl rfl (by decide) (((p_leqi rfl rfl)).to (u := .bool true) (by rw [decide_eq_true (by rw [hrn]; exact hlow.2)])).q ?_
    refine l_q (by decide) (p_pick rfl rfl).q ?_
    refine l_q (by decide) (p_assign rfl).q ?_
    refine l_nil ?_
    refine c_ret ?_
    refine c_ret1 rfl rfl (fun w hs => ?_)
    exact ⟨rfl, hs.ext⟩
end Go.Proofs.YtlefheiohblgdaaDoor
