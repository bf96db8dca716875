/- The walks of edit scripts, eighteenth part; conditions: lengths. -/
import Derived.Test.YtlefheiohblgdaaDoorWalksQ
namespace Go.Proofs.YtlefheiohblgdaaDoor
open Go Go.Fx Go.Proofs

theorem no_ok2 {P : Program} {k : FuncId} {a : Array Value} {w : World} {p : Prop} {E : World → Prop} (hp : ¬ p) (h : Calls P k a w (Ret fun v w' => v = .bool (dec p) ∧ E w')) : Calls P k a w (Ret fun v w' => v = .bool false ∧ E w') := by simpa only [dec_false hp] using h
theorem alg_1 {X : Inp} {y : List Int} (h : (alg X y).2 = 1) : ¬ Prp X y := fun hp => by
  by_cases hc : Ed.C X.pl 0 y < 1099511627776
  · rw [alg_yes hp hc] at h; cases h
  · rw [alg_far hp hc] at h; cases h
theorem alg_0 {X : Inp} {y : List Int} (h : (alg X y).2 ≠ 0) : (alg X y).1 = [] := by
  by_cases hp : Prp X y
  · by_cases hc : Ed.C X.pl 0 y < 1099511627776
    · rw [alg_yes hp hc] at h; exact absurd rfl h
    · rw [alg_far hp hc]
  · rw [alg_no hp]
theorem alg_6 {X : Inp} {y : List Int} (h : (alg X y).2 ≠ 0) (h1 : ¬ (alg X y).2 = 1) : Prp X y ∧ (alg X y).2 = 6 ∧ ¬ Ed.C X.pl 0 y < 1099511627776 := by
  by_cases hp : Prp X y
  · by_cases hc : Ed.C X.pl 0 y < 1099511627776
    · rw [alg_yes hp hc] at h; exact absurd rfl h
    · exact ⟨hp, by rw [alg_far hp hc], hc⟩
  · rw [alg_no hp] at h1; exact absurd rfl h1
theorem alg_ok {X : Inp} {y : List Int} (h : (alg X y).2 = 0) : Prp X y ∧ Ed.C X.pl 0 y < 1099511627776 ∧ (alg X y).1 = Ed.align X.pl 0 y := by
  by_cases hp : Prp X y
  · by_cases hc : Ed.C X.pl 0 y < 1099511627776
    · exact ⟨hp, hc, by rw [alg_yes hp hc]⟩
    · rw [alg_far hp hc] at h; cases h
  · rw [alg_no hp] at h; cases h
theorem alignF_len (I : Ed.In) : ∀ f i ys, (Ed.alignF I f i ys).length ≤ f := by
  intro f
  induction f with
  | zero => intro i ys; exact Nat.le_refl _
  | succ f ih =>
    intro i ys
    unfold Ed.alignF
    split
    · simp
    · split
      · rename_i s hs
        have := ih (i + s.tok) (ys.drop s.emi)
        simp only [List.length_cons]; omega
      · simp
theorem alg_len {X : Inp} {y : List Int} : (alg X y).1.length ≤ X.xs.length + y.length + 1 := by
  by_cases hp : Prp X y
  · by_cases hc : Ed.C X.pl 0 y < 1099511627776
    · rw [alg_yes hp hc]
      have := alignF_len X.pl (Ed.fuel X.pl 0 y) 0 y
      have h2 : Ed.fuel X.pl 0 y = X.xs.length + y.length + 1 := by unfold Ed.fuel; rw [pl_len]; rfl
      show (Ed.alignF X.pl (Ed.fuel X.pl 0 y) 0 y).length ≤ _
      omega
    · rw [alg_far hp hc]; simp
  · rw [alg_no hp]; simp
theorem call_23 : Callable Tryd.prog 23 := ⟨_, Tryd.func23, by kernel_rfl, rfl⟩
theorem call_25 : Callable Tryd.prog 25 := ⟨_, Tryd.func25, by kernel_rfl, rfl⟩
theorem optimal_law (X : Inp) (hX : X.small) (w : World) (hM : X.mem w) (hA : ActF w) (C : Option Addr) (e : Nat) (y : List Int) (hY : Sl 1 intF C y w) :
   Calls Tryd.prog 6 #[.agg #[.slice X.A X.xs.length X.c, .slice X.B X.ins.length X.d, .int .i64 X.sw], .slice C y.length e] w (Ret fun v w' => v = .bool true ∧ Ext [] w w') := by
 refine calls_fx (l := [.agg #[.slice X.A X.xs.length X.c, .slice X.B X.ins.length X.d, .int .i64 X.sw], .slice C y.length e]) Tryd.func6 rfl Tryd.ntmps6 (Nat.le_of_ble_eq_true rfl) (((X.start hM).old hY (dep_sl (by decide) hY)).old hA (dep_act hA)) ?_
 refine c_seq ?_
 obtain ⟨lo, hlo⟩ : ∃ lo, lo = w.heap.size := ⟨_, rfl⟩
 refine c_reg ?_
 refine l_box (by decide) rfl _ rfl (fun b2 => ?_)
 refine l_q (by decide) (p_assign rfl).q ?_
 refine l_nil ?_
 refine c_seq ?_
 refine c_seq ?_
 refine c_reg ?_
 refine l_q (by decide) (q_call call_11 rfl (fun w hs => awake_ok w (hs.facts ActF (by repeat constructor)).1)) ?_
 refine l_q (by decide) (p_not rfl).q ?_
 refine l_nil ?_
 refine c_false rfl ?_
 refine c_skip ?_
 refine c_seq ?_
 refine c_seq ?_
 refine c_reg ?_
 first | refine l_q (by decide) (r_loada Tryd.underlying25 rfl inf_25 rfl (by first | exact .fact (by repeat constructor) | exact .own (by repeat constructor) (by decide) (fun _ => rfl) | exact SlIn.reads (by repeat constructor) (by assumption)) (by assumption)).q ?_ | refine l_q (by decide) (r_loadow Tryd.underlying25 rfl inf_25 rfl (by repeat constructor) (by rfl)).q ?_ | refine l_q (by decide) (r_loadoa Tryd.underlying25 rfl inf_25 rfl (by repeat constructor) (by rfl) (fun j u h => h)).q ?_
 refine l_q (by decide) (q_call call_12 rfl (fun w hs => fair_ok X hX w (X.of hs (by repeat constructor) (by repeat constructor) (by repeat constructor)))) ?_
 first | refine l_q (by decide) (p_notd rfl).q ?_ | refine l_q (by decide) (p_not rfl).q ?_
 refine l_q (by decide) (p_move rfl).q ?_
 first | refine l_splitd (t := 16) rfl (fun h16 => ?_) (fun h16 => ?_) | refine l_splitb (t := 16) rfl (fun h16 => ?_) (fun h16 => ?_)
 ·skip
  refine l_off (j := 3) rfl rfl (by first | (simp; done) | (simp [undef]; done)) (by decide) ?_
  refine l_off (j := 3) rfl rfl (by first | (simp; done) | (simp [undef]; done)) (by decide) ?_
  refine l_off (j := 3) rfl rfl (by first | (simp; done) | (simp [undef]; done)) (by decide) ?_
  refine l_q (by decide) (p_pick rfl rfl).q ?_
  refine l_nil ?_
  refine c_true rfl ?_
  refine c_seq ?_
  refine c_reg ?_
  refine l_q (by decide) (p_assign rfl).q ?_
  refine l_nil ?_
  refine c_ret ?_
  refine c_ret1 rfl rfl (fun w hs => ?_)
  exact ⟨rfl, hs.ext⟩
 ·skip
  have hf : Fair X := of_dec (p := Fair X) (by simpa using h16)
  have hO := hf.2.2
  have hn8 := hf.1.1
  refine l_g (j := 3) rfl rfl (by decide) (p_move rfl).q ?_
  refine l_g (j := 3) rfl rfl (by decide) (p_len_sl Tryd.underlying23 rfl).q ?_
  first | refine l_g (j := 3) rfl rfl (by decide) (p_gtr (j := 12) rfl rfl rfl rfl).q ?_ | refine l_g (j := 3) rfl rfl (by decide) (p_gtri rfl rfl).q ?_
  refine l_q (by decide) (p_pick rfl rfl).q ?_
  refine l_nil ?_
  first | refine c_dec rfl (fun h20 => ?_) (fun h20 => ?_) | refine c_cond rfl (fun h20 => ?_) (fun h20 => ?_)
  ·skip
   refine c_seq ?_
   refine c_reg ?_
   refine l_q (by decide) (p_assign rfl).q ?_
   refine l_nil ?_
   refine c_ret ?_
   refine c_ret1 rfl rfl (fun w hs => ?_)
   exact ⟨rfl, hs.ext⟩
  ·skip
   refine c_skip ?_
   refine c_seq ?_
   refine c_reg ?_
   first | refine l_q (by decide) (r_loada Tryd.underlying25 rfl inf_25 rfl (by first | exact .fact (by repeat constructor) | exact .own (by repeat constructor) (by decide) (fun _ => rfl) | exact SlIn.reads (by repeat constructor) (by assumption)) (by assumption)).q ?_ | refine l_q (by decide) (r_loadow Tryd.underlying25 rfl inf_25 rfl (by repeat constructor) (by rfl)).q ?_ | refine l_q (by decide) (r_loadoa Tryd.underlying25 rfl inf_25 rfl (by repeat constructor) (by rfl) (fun j u h => h)).q ?_
   refine l_q (by decide) (p_move rfl).q ?_
   refine l_call (X := Option Addr × Nat) (fun x => .tuple #[.slice x.1 (alg X y).1.length x.2, .int .i64 (alg X y).2]) (fun x => Sl 2 opF x.1 (alg X y).1) (by decide) call_21 rfl (fun w hs => align_ok X hX w (X.of hs (by repeat constructor) (by repeat constructor) (by repeat constructor)) hO (by omega) C e y (by omega) (hs.facts (Sl 1 intF C y) (by repeat constructor)).1) (fun x24 => ?_)
   refine l_q (by decide) (p_move rfl).q ?_
   refine l_q (by decide) (p_extract rfl rfl).q ?_
   refine l_q (by decide) (p_extract rfl rfl).q ?_
   refine l_q (by decide) (p_assign rfl).q ?_
   refine l_q (by decide) (p_assign rfl).q ?_
   refine l_nil ?_
   refine c_seq ?_
   refine c_reg ?_
   first | refine l_q (by decide) (r_loada Tryd.underlying25 rfl inf_25 rfl (by first | exact .fact (by repeat constructor) | exact .own (by repeat constructor) (by decide) (fun _ => rfl) | exact SlIn.reads (by repeat constructor) (by assumption)) (by assumption)).q ?_ | refine l_q (by decide) (r_loadow Tryd.underlying25 rfl inf_25 rfl (by repeat constructor) (by rfl)).q ?_ | refine l_q (by decide) (r_loadoa Tryd.underlying25 rfl inf_25 rfl (by repeat constructor) (by rfl) (fun j u h => h)).q ?_
   refine l_q (by decide) (p_move rfl).q ?_
   refine l_q (by decide) (q_call call_19 rfl (fun w hs => dist2_ok X hX w (X.of hs (by repeat constructor) (by repeat constructor) (by repeat constructor)) hO (by omega) C e y (by omega) (hs.facts (Sl 1 intF C y) (by repeat constructor)).1)) ?_
   refine l_q (by decide) (p_assign rfl).q ?_
   refine l_nil ?_
   refine c_seq ?_
   refine c_seq ?_
   refine c_reg ?_
   refine l_q (by decide) (p_move rfl).q ?_
   first | refine l_q (by decide) (p_neq (j := 0) rfl rfl rfl rfl).q ?_ | refine l_q (by decide) (p_neqi rfl rfl).q ?_
   refine l_nil ?_
   first | refine c_dec rfl (fun h31 => ?_) (fun h31 => ?_) | refine c_cond rfl (fun h31 => ?_) (fun h31 => ?_)
   ·skip
    refine c_seq ?_
    refine c_reg ?_
    refine l_q (by decide) (p_move rfl).q ?_
    refine l_q (by decide) (p_len_sl Tryd.underlying26 rfl).q ?_
    first | refine l_q (by decide) (((p_eql (j := 0) rfl rfl rfl rfl)).to (u := .bool true) (by rw [alg_0 h31]; rfl)).q ?_ | refine l_q (by decide) (((p_eqli rfl rfl)).to (u := .bool true) (by rw [alg_0 h31]; rfl)).q ?_
    refine l_q (by decide) (p_move rfl).q ?_
    refine l_g (j := 3) rfl rfl (by decide) (p_move rfl).q ?_
    first | refine l_g (j := 3) rfl rfl (by decide) (p_eql (j := 1) rfl rfl rfl rfl).q ?_ | refine l_g (j := 3) rfl rfl (by decide) (p_eqli rfl rfl).q ?_
    refine l_g (j := 3) rfl rfl (by decide) (p_move rfl).q ?_
    first | refine l_splitd (t := 38) rfl (fun h38 => ?_) (fun h38 => ?_) | refine l_splitb (t := 38) rfl (fun h38 => ?_) (fun h38 => ?_)
    ·skip
     first | refine l_g (j := 6) rfl rfl (by decide) (r_loada Tryd.underlying25 rfl inf_25 rfl (by first | exact .fact (by repeat constructor) | exact .own (by repeat constructor) (by decide) (fun _ => rfl) | exact SlIn.reads (by repeat constructor) (by assumption)) (by assumption)).q ?_ | refine l_g (j := 6) rfl rfl (by decide) (r_loadow Tryd.underlying25 rfl inf_25 rfl (by repeat constructor) (by rfl)).q ?_ | refine l_g (j := 6) rfl rfl (by decide) (r_loadoa Tryd.underlying25 rfl inf_25 rfl (by repeat constructor) (by rfl) (fun j u h => h)).q ?_
     refine l_g (j := 6) rfl rfl (by decide) (p_move rfl).q ?_
     refine l_g (j := 6) rfl rfl (by decide) (q_call call_22 rfl (fun w hs => no_ok2 (alg_1 h38) (terminals_ok X hX w (X.of hs (by repeat constructor) (by repeat constructor) (by repeat constructor)) C e y (by omega) (hs.facts (Sl 1 intF C y) (by repeat constructor)).1))) ?_
     refine l_g (j := 6) rfl rfl (by decide) (p_not rfl).q ?_
     refine l_g (j := 3) rfl rfl (by decide) (p_pick rfl rfl).q ?_
     refine l_g (j := 3) rfl rfl (by decide) (p_move rfl).q ?_
     refine l_off (j := 12) rfl rfl (by first | (simp; done) | (simp [undef]; done)) (by decide) ?_
     refine l_off (j := 12) rfl rfl (by first | (simp; done) | (simp [undef]; done)) (by decide) ?_
     refine l_off (j := 12) rfl rfl (by first | (simp; done) | (simp [undef]; done)) (by decide) ?_
     refine l_off (j := 15) rfl rfl (by first | (simp; done) | (simp [undef]; done)) (by decide) ?_
     refine l_off (j := 15) rfl rfl (by first | (simp; done) | (simp [undef]; done)) (by decide) ?_
     refine l_off (j := 15) rfl rfl (by first | (simp; done) | (simp [undef]; done)) (by decide) ?_
     refine l_off (j := 12) rfl rfl (by first | (simp; done) | (simp [undef]; done)) (by decide) ?_
     refine l_off (j := 12) rfl rfl (by first | (simp; done) | (simp [undef]; done)) (by decide) ?_
     refine l_off (j := 20) rfl rfl (by first | (simp; done) | (simp [undef]; done)) (by decide) ?_
     refine l_off (j := 20) rfl rfl (by first | (simp; done) | (simp [undef]; done)) (by decide) ?_
     refine l_off (j := 12) rfl rfl (by first | (simp; done) | (simp [undef]; done)) (by decide) ?_
     refine l_g (j := 3) rfl rfl (by decide) (p_pick rfl rfl).q ?_
     refine l_q (by decide) (p_pick rfl rfl).q ?_
     refine l_q (by decide) (p_assign rfl).q ?_
     refine l_nil ?_
     refine c_ret ?_
     refine c_ret1 rfl rfl (fun w hs => ?_)
     exact ⟨rfl, hs.ext⟩
    ·skip
     have h6 := alg_6 h31 h38
     refine l_off (j := 6) rfl rfl (by first | (simp; done) | (simp [undef]; done)) (by decide) ?_
     refine l_off (j := 6) rfl rfl (by first | (simp; done) | (simp [undef]; done)) (by decide) ?_
     refine l_off (j := 6) rfl rfl (by first | (simp; done) | (simp [undef]; done)) (by decide) ?_
     refine l_off (j := 6) rfl rfl (by first | (simp; done) | (simp [undef]; done)) (by decide) ?_
     refine l_g (j := 3) rfl rfl (by decide) (p_pick rfl rfl).q ?_
     refine l_g (j := 3) rfl rfl (by decide) (p_move rfl).q ?_
     refine l_g (j := 12) rfl rfl (by decide) (p_move rfl).q ?_
     first | refine l_g (j := 12) rfl rfl (by decide) (((p_eql (j := 6) rfl rfl rfl rfl)).to (u := .bool true) (by rw [h6.2.1]; rfl)).q ?_ | refine l_g (j := 12) rfl rfl (by decide) (((p_eqli rfl rfl)).to (u := .bool true) (by rw [h6.2.1]; rfl)).q ?_
     refine l_g (j := 12) rfl rfl (by decide) (p_move rfl).q ?_
     first | refine l_g (j := 15) rfl rfl (by decide) (r_loada Tryd.underlying25 rfl inf_25 rfl (by first | exact .fact (by repeat constructor) | exact .own (by repeat constructor) (by decide) (fun _ => rfl) | exact SlIn.reads (by repeat constructor) (by assumption)) (by assumption)).q ?_ | refine l_g (j := 15) rfl rfl (by decide) (r_loadow Tryd.underlying25 rfl inf_25 rfl (by repeat constructor) (by rfl)).q ?_ | refine l_g (j := 15) rfl rfl (by decide) (r_loadoa Tryd.underlying25 rfl inf_25 rfl (by repeat constructor) (by rfl) (fun j u h => h)).q ?_
     refine l_g (j := 15) rfl rfl (by decide) (p_move rfl).q ?_
     refine l_g (j := 15) rfl rfl (by decide) (q_call call_22 rfl (fun w hs => yes_ok2 h6.1 (terminals_ok X hX w (X.of hs (by repeat constructor) (by repeat constructor) (by repeat constructor)) C e y (by omega) (hs.facts (Sl 1 intF C y) (by repeat constructor)).1))) ?_
     refine l_g (j := 12) rfl rfl (by decide) (p_pick rfl rfl).q ?_
     refine l_g (j := 12) rfl rfl (by decide) (p_move rfl).q ?_
     refine l_g (j := 20) rfl rfl (by decide) (p_move rfl).q ?_
     first | refine l_g (j := 20) rfl rfl (by decide) (((p_geq (j := 1099511627776) rfl rfl rfl rfl)).to (u := .bool true) (by rw [dst_yes h6.1, decide_eq_true (by omega)])).q ?_ | refine l_g (j := 20) rfl rfl (by decide) (((p_geqi rfl rfl)).to (u := .bool true) (by rw [dst_yes h6.1, decide_eq_true (by omega)])).q ?_
     refine l_g (j := 12) rfl rfl (by decide) (p_pick rfl rfl).q ?_
     refine l_g (j := 3) rfl rfl (by decide) (p_pick rfl rfl).q ?_
     refine l_q (by decide) (p_pick rfl rfl).q ?_
     refine l_q (by decide) (p_assign rfl).q ?_
     refine l_nil ?_
     refine c_ret ?_
     refine c_ret1 rfl rfl (fun w hs => ?_)
     exact ⟨rfl, hs.ext⟩
   ·skip
    have ha := alg_ok (Classical.not_not.1 h31)
    have hal := alg_len (X := X) (y := y)
    have hrun : Ed.run X.pl (alg X y).1 = some ⟨X.pl.cols.length, y, Ed.C X.pl 0 y⟩ := by rw [ha.2.2]; exact Ed.align_ok hO y ha.2.1
    refine c_skip ?_
    refine c_seq ?_
    refine c_reg ?_
    first | refine l_q (by decide) (r_loada Tryd.underlying25 rfl inf_25 rfl (by first | exact .fact (by repeat constructor) | exact .own (by repeat constructor) (by decide) (fun _ => rfl) | exact SlIn.reads (by repeat constructor) (by assumption)) (by assumption)).q ?_ | refine l_q (by decide) (r_loadow Tryd.underlying25 rfl inf_25 rfl (by repeat constructor) (by rfl)).q ?_ | refine l_q (by decide) (r_loadoa Tryd.underlying25 rfl inf_25 rfl (by repeat constructor) (by rfl) (fun j u h => h)).q ?_
    refine l_q (by decide) (p_move rfl).q ?_
    refine l_call (X := Option Addr × Nat) (fun x => .tuple #[.slice x.1 y.length x.2, .int .i64 (Ed.C X.pl 0 y), .bool true]) (fun x => OutQ lo (some ⟨X.pl.cols.length, y, Ed.C X.pl 0 y⟩) x) (by decide) call_20 rfl (fun w hs => by
      have h := run_ok X hX w (X.of hs (by repeat constructor) (by repeat constructor) (by repeat constructor)) hO x24.1 x24.2 (alg X y).1 (by omega) (hs.facts (Sl 2 opF x24.1 (alg X y).1) (by repeat constructor)).1 lo (by rw [hlo]; exact hs.ext.size)
      rw [hrun] at h
      exact h) (fun x61 => ?_)
    refine l_q (by decide) (p_move rfl).q ?_
    refine l_q (by decide) (p_extract rfl rfl).q ?_
    refine l_q (by decide) (p_extract rfl rfl).q ?_
    refine l_q (by decide) (p_extract rfl rfl).q ?_
    refine l_q (by decide) (p_assign rfl).q ?_
    refine l_q (by decide) (p_assign rfl).q ?_
    refine l_q (by decide) (p_assign rfl).q ?_
    refine l_nil ?_
    refine c_seq ?_
    refine c_reg ?_
    refine l_q (by decide) (p_move rfl).q ?_
    refine l_q (by decide) (p_move rfl).q ?_
    refine l_g (j := 1) rfl rfl (by decide) (p_move rfl).q ?_
    refine l_g (j := 1) rfl rfl (by decide) (p_move rfl).q ?_
    first | refine l_g (j := 1) rfl rfl (by decide) (p_eql rfl rfl rfl rfl).q ?_ | refine l_g (j := 1) rfl rfl (by decide) (p_eqli rfl rfl).q ?_
    refine l_q (by decide) (((p_pick rfl rfl)).to (u := .bool true) (by rw [dst_yes ha.1, decide_eq_true rfl])).q ?_
    refine l_q (by decide) (p_move rfl).q ?_
    refine l_g (j := 6) rfl rfl (by decide) (p_move rfl).q ?_
    first | refine l_g (j := 6) rfl rfl (by decide) (((p_lss (j := 1099511627776) rfl rfl rfl rfl)).to (u := .bool true) (by rw [dst_yes ha.1, decide_eq_true ha.2.1])).q ?_ | refine l_g (j := 6) rfl rfl (by decide) (((p_lssi rfl rfl)).to (u := .bool true) (by rw [dst_yes ha.1, decide_eq_true ha.2.1])).q ?_
    refine l_q (by decide) (p_pick rfl rfl).q ?_
    refine l_q (by decide) (p_move rfl).q ?_
    refine l_g (j := 10) rfl rfl (by decide) (p_move rfl).q ?_
    refine l_g (j := 10) rfl rfl (by decide) (p_move rfl).q ?_
    refine l_g (j := 10) rfl rfl (by decide) (q_call call_17 rfl (fun w hs => yes_ok rfl (same_ok C x61.1 e x61.2 y y (by omega) w (hs.facts (Sl 1 intF C y) (by repeat constructor)).1 (hs.facts (OutQ lo (some ⟨X.pl.cols.length, y, Ed.C X.pl 0 y⟩) x61) (by repeat constructor)).1.2))) ?_
    refine l_q (by decide) (p_pick rfl rfl).q ?_
    refine l_q (by decide) (p_assign rfl).q ?_
    refine l_nil ?_
    refine c_ret ?_
    refine c_ret1 rfl rfl (fun w hs => ?_)
    exact ⟨rfl, hs.ext⟩

theorem smallest_law (X : Inp) (hX : X.small) (w : World) (hM : X.mem w) (hA : ActF w) (C : Option Addr) (lc : Nat) (l : List Ed.Op) (hY : Sl 2 opF C l w) :
   Calls Tryd.prog 7 #[.agg #[.slice X.A X.xs.length X.c, .slice X.B X.ins.length X.d, .int .i64 X.sw], .slice C l.length lc] w (Ret fun v w' => v = .bool true ∧ Ext [] w w') := by
 refine calls_fx (l := [.agg #[.slice X.A X.xs.length X.c, .slice X.B X.ins.length X.d, .int .i64 X.sw], .slice C l.length lc]) Tryd.func7 rfl Tryd.ntmps7 (Nat.le_of_ble_eq_true rfl) (((X.start hM).old hY (dep_sl (by decide) hY)).old hA (dep_act hA)) ?_
 refine c_seq ?_
 obtain ⟨lo, hlo⟩ : ∃ lo, lo = w.heap.size := ⟨_, rfl⟩
 refine c_reg ?_
 refine l_box (by decide) rfl _ rfl (fun b2 => ?_)
 refine l_q (by decide) (p_assign rfl).q ?_
 refine l_nil ?_
 refine c_seq ?_
 refine c_seq ?_
 refine c_reg ?_
 refine l_q (by decide) (q_call call_11 rfl (fun w hs => awake_ok w (hs.facts ActF (by repeat constructor)).1)) ?_
 refine l_q (by decide) (p_not rfl).q ?_
 refine l_nil ?_
 refine c_false rfl ?_
 refine c_skip ?_
 refine c_seq ?_
 refine c_seq ?_
 refine c_reg ?_
 first | refine l_q (by decide) (r_loada Tryd.underlying25 rfl inf_25 rfl (by first | exact .fact (by repeat constructor) | exact .own (by repeat constructor) (by decide) (fun _ => rfl) | exact SlIn.reads (by repeat constructor) (by assumption)) (by assumption)).q ?_ | refine l_q (by decide) (r_loadow Tryd.underlying25 rfl inf_25 rfl (by repeat constructor) (by rfl)).q ?_ | refine l_q (by decide) (r_loadoa Tryd.underlying25 rfl inf_25 rfl (by repeat constructor) (by rfl) (fun j u h => h)).q ?_
 refine l_q (by decide) (q_call call_12 rfl (fun w hs => fair_ok X hX w (X.of hs (by repeat constructor) (by repeat constructor) (by repeat constructor)))) ?_
 first | refine l_q (by decide) (p_notd rfl).q ?_ | refine l_q (by decide) (p_not rfl).q ?_
 refine l_q (by decide) (p_move rfl).q ?_
 first | refine l_splitd (t := 17) rfl (fun h17 => ?_) (fun h17 => ?_) | refine l_splitb (t := 17) rfl (fun h17 => ?_) (fun h17 => ?_)
 ·skip
  refine l_off (j := 3) rfl rfl (by first | (simp; done) | (simp [undef]; done)) (by decide) ?_
  refine l_off (j := 3) rfl rfl (by first | (simp; done) | (simp [undef]; done)) (by decide) ?_
  refine l_off (j := 3) rfl rfl (by first | (simp; done) | (simp [undef]; done)) (by decide) ?_
  refine l_q (by decide) (p_pick rfl rfl).q ?_
  refine l_nil ?_
  refine c_true rfl ?_
  refine c_seq ?_
  refine c_reg ?_
  refine l_q (by decide) (p_assign rfl).q ?_
  refine l_nil ?_
  refine c_ret ?_
  refine c_ret1 rfl rfl (fun w hs => ?_)
  exact ⟨rfl, hs.ext⟩
 ·skip
  have hf : Fair X := of_dec (p := Fair X) (by simpa using h17)
  have hO := hf.2.2
  have hn8 := hf.1.1
  refine l_g (j := 3) rfl rfl (by decide) (p_move rfl).q ?_
  refine l_g (j := 3) rfl rfl (by decide) (p_len_sl Tryd.underlying26 rfl).q ?_
  first | refine l_g (j := 3) rfl rfl (by decide) (p_gtr (j := 20) rfl rfl rfl rfl).q ?_ | refine l_g (j := 3) rfl rfl (by decide) (p_gtri rfl rfl).q ?_
  refine l_q (by decide) (p_pick rfl rfl).q ?_
  refine l_nil ?_
  first | refine c_dec rfl (fun h21 => ?_) (fun h21 => ?_) | refine c_cond rfl (fun h21 => ?_) (fun h21 => ?_)
  ·skip
   refine c_seq ?_
   refine c_reg ?_
   refine l_q (by decide) (p_assign rfl).q ?_
   refine l_nil ?_
   refine c_ret ?_
   refine c_ret1 rfl rfl (fun w hs => ?_)
   exact ⟨rfl, hs.ext⟩
  ·skip
   refine c_skip ?_
   refine c_seq ?_
   refine c_reg ?_
   first | refine l_q (by decide) (r_loada Tryd.underlying25 rfl inf_25 rfl (by first | exact .fact (by repeat constructor) | exact .own (by repeat constructor) (by decide) (fun _ => rfl) | exact SlIn.reads (by repeat constructor) (by assumption)) (by assumption)).q ?_ | refine l_q (by decide) (r_loadow Tryd.underlying25 rfl inf_25 rfl (by repeat constructor) (by rfl)).q ?_ | refine l_q (by decide) (r_loadoa Tryd.underlying25 rfl inf_25 rfl (by repeat constructor) (by rfl) (fun j u h => h)).q ?_
   refine l_q (by decide) (p_move rfl).q ?_
   refine l_call (X := Option Addr × Nat) (fun x => .tuple #[.slice x.1 (rOut (Ed.run X.pl l)).length x.2, .int .i64 (rCost (Ed.run X.pl l)), .bool (Ed.run X.pl l).isSome]) (fun x => OutQ lo (Ed.run X.pl l) x) (by decide) call_20 rfl (fun w hs => run_ok X hX w (X.of hs (by repeat constructor) (by repeat constructor) (by repeat constructor)) hO C lc l (by omega) (hs.facts (Sl 2 opF C l) (by repeat constructor)).1 lo (by rw [hlo]; exact hs.ext.size)) (fun x25 => ?_)
   refine l_q (by decide) (p_move rfl).q ?_
   refine l_q (by decide) (p_extract rfl rfl).q ?_
   refine l_q (by decide) (p_extract rfl rfl).q ?_
   refine l_q (by decide) (p_extract rfl rfl).q ?_
   refine l_q (by decide) (p_assign rfl).q ?_
   refine l_q (by decide) (p_assign rfl).q ?_
   refine l_q (by decide) (p_assign rfl).q ?_
   refine l_nil ?_
   refine c_seq ?_
   refine c_seq ?_
   refine c_reg ?_
   refine l_q (by decide) (p_move rfl).q ?_
   first | refine l_q (by decide) (p_notd rfl).q ?_ | refine l_q (by decide) (p_not rfl).q ?_
   refine l_q (by decide) (p_move rfl).q ?_
   first | refine l_splitd (t := 31) rfl (fun h31 => ?_) (fun h31 => ?_) | refine l_splitb (t := 31) rfl (fun h31 => ?_) (fun h31 => ?_)
   ·skip
    refine l_off (j := 2) rfl rfl (by first | (simp; done) | (simp [undef]; done)) (by decide) ?_
    refine l_off (j := 2) rfl rfl (by first | (simp; done) | (simp [undef]; done)) (by decide) ?_
    refine l_off (j := 2) rfl rfl (by first | (simp; done) | (simp [undef]; done)) (by decide) ?_
    refine l_off (j := 2) rfl rfl (by first | (simp; done) | (simp [undef]; done)) (by decide) ?_
    refine l_off (j := 2) rfl rfl (by first | (simp; done) | (simp [undef]; done)) (by decide) ?_
    refine l_q (by decide) (p_pick rfl rfl).q ?_
    refine l_q (by decide) (p_move rfl).q ?_
    refine l_off (j := 9) rfl rfl (by first | (simp; done) | (simp [undef]; done)) (by decide) ?_
    refine l_off (j := 9) rfl rfl (by first | (simp; done) | (simp [undef]; done)) (by decide) ?_
    refine l_q (by decide) (p_pick rfl rfl).q ?_
    refine l_nil ?_
    refine c_true rfl ?_
    refine c_seq ?_
    refine c_reg ?_
    refine l_q (by decide) (p_assign rfl).q ?_
    refine l_nil ?_
    refine c_ret ?_
    refine c_ret1 rfl rfl (fun w hs => ?_)
    exact ⟨rfl, hs.ext⟩
   ·skip
    obtain ⟨s, hrn⟩ : ∃ s, Ed.run X.pl l = some s := by cases hr : Ed.run X.pl l with | none => rw [hr] at h31; simp at h31 | some s => exact ⟨s, rfl⟩
    have hlow := low_of hO hrn
    have hrl := run_len (I := X.pl) (l := l)
    refine l_g (j := 2) rfl rfl (by decide) (p_move rfl).q ?_
    first | refine l_g (j := 2) rfl rfl (by decide) (r_loada Tryd.underlying25 rfl inf_25 rfl (by first | exact .fact (by repeat constructor) | exact .own (by repeat constructor) (by decide) (fun _ => rfl) | exact SlIn.reads (by repeat constructor) (by assumption)) (by assumption)).q ?_ | refine l_g (j := 2) rfl rfl (by decide) (r_loadow Tryd.underlying25 rfl inf_25 rfl (by repeat constructor) (by rfl)).q ?_ | refine l_g (j := 2) rfl rfl (by decide) (r_loadoa Tryd.underlying25 rfl inf_25 rfl (by repeat constructor) (by rfl) (fun j u h => h)).q ?_
    refine l_g (j := 2) rfl rfl (by decide) (p_move rfl).q ?_
    refine l_g (j := 2) rfl rfl (by decide) (q_call call_19 rfl (fun w hs => dist2_ok X hX w (X.of hs (by repeat constructor) (by repeat constructor) (by repeat constructor)) hO (by omega) x25.1 x25.2 (rOut (Ed.run X.pl l)) (by omega) (hs.facts (OutQ lo (Ed.run X.pl l) x25) (by repeat constructor)).1.2)) ?_
    first | refine l_g (j := 2) rfl rfl (by decide) (p_neq rfl rfl rfl rfl).q ?_ | refine l_g (j := 2) rfl rfl (by decide) (p_neqi rfl rfl).q ?_
    refine l_q (by decide) (p_pick rfl rfl).q ?_
    refine l_q (by decide) (p_move rfl).q ?_
    first | refine l_splitd (t := 38) rfl (fun h38 => ?_) (fun h38 => ?_) | refine l_splitb (t := 38) rfl (fun h38 => ?_) (fun h38 => ?_)
    ·skip
     refine l_off (j := 9) rfl rfl (by first | (simp; done) | (simp [undef]; done)) (by decide) ?_
     refine l_off (j := 9) rfl rfl (by first | (simp; done) | (simp [undef]; done)) (by decide) ?_
     refine l_q (by decide) (p_pick rfl rfl).q ?_
     refine l_nil ?_
     refine c_true rfl ?_
     refine c_seq ?_
     refine c_reg ?_
     refine l_q (by decide) (p_assign rfl).q ?_
     refine l_nil ?_
     refine c_ret ?_
     refine c_ret1 rfl rfl (fun w hs => ?_)
     exact ⟨rfl, hs.ext⟩
    ·skip
     refine l_g (j := 9) rfl rfl (by decide) (p_move rfl).q ?_
     first | refine l_g (j := 9) rfl rfl (by decide) (p_geq (j := 1099511627776) rfl rfl rfl rfl).q ?_ | refine l_g (j := 9) rfl rfl (by decide) (p_geqi rfl rfl).q ?_
     refine l_q (by decide) (p_pick rfl rfl).q ?_
     refine l_nil ?_
     first | refine c_dec rfl (fun h41 => ?_) (fun h41 => ?_) | refine c_cond rfl (fun h41 => ?_) (fun h41 => ?_)
     ·skip
      refine c_seq ?_
      refine c_reg ?_
      refine l_q (by decide) (p_assign rfl).q ?_
      refine l_nil ?_
      refine c_ret ?_
      refine c_ret1 rfl rfl (fun w hs => ?_)
      exact ⟨rfl, hs.ext⟩
     ·skip
      have hcs : s.cost = dst X s.out := by have := Classical.not_not.1 h38; rw [hrn] at this; exact this
      have hlt : s.cost < 1099511627776 := by rw [hrn] at h41; exact Int.not_le.1 h41
      have hcC : s.cost = Ed.C X.pl 0 s.out := by rw [hcs, dst_yes hlow.1]
      have hag : alg X (rOut (Ed.run X.pl l)) = (Ed.align X.pl 0 s.out, 0) := by rw [hrn]; exact alg_yes hlow.1 (by show Ed.C X.pl 0 s.out < _; rw [← hcC]; exact hlt)
      have hal := alg_len (X := X) (y := rOut (Ed.run X.pl l))
      have hless : Ed.less l (alg X (rOut (Ed.run X.pl l))).1 = false := by rw [hag]; exact Ed.align_small hO hrn hcC hlt
      refine c_skip ?_
      refine c_seq ?_
      refine c_reg ?_
      first | refine l_q (by decide) (r_loada Tryd.underlying25 rfl inf_25 rfl (by first | exact .fact (by repeat constructor) | exact .own (by repeat constructor) (by decide) (fun _ => rfl) | exact SlIn.reads (by repeat constructor) (by assumption)) (by assumption)).q ?_ | refine l_q (by decide) (r_loadow Tryd.underlying25 rfl inf_25 rfl (by repeat constructor) (by rfl)).q ?_ | refine l_q (by decide) (r_loadoa Tryd.underlying25 rfl inf_25 rfl (by repeat constructor) (by rfl) (fun j u h => h)).q ?_
      refine l_q (by decide) (p_move rfl).q ?_
      refine l_call (X := Option Addr × Nat) (fun x => .tuple #[.slice x.1 (alg X (rOut (Ed.run X.pl l))).1.length x.2, .int .i64 (alg X (rOut (Ed.run X.pl l))).2]) (fun x => Sl 2 opF x.1 (alg X (rOut (Ed.run X.pl l))).1) (by decide) call_21 rfl (fun w hs => align_ok X hX w (X.of hs (by repeat constructor) (by repeat constructor) (by repeat constructor)) hO (by omega) x25.1 x25.2 (rOut (Ed.run X.pl l)) (by omega) (hs.facts (OutQ lo (Ed.run X.pl l) x25) (by repeat constructor)).1.2) (fun x45 => ?_)
      refine l_q (by decide) (p_move rfl).q ?_
      refine l_q (by decide) (p_extract rfl rfl).q ?_
      refine l_q (by decide) (p_extract rfl rfl).q ?_
      refine l_q (by decide) (p_assign rfl).q ?_
      refine l_q (by decide) (p_assign rfl).q ?_
      refine l_nil ?_
      refine c_seq ?_
      refine c_reg ?_
      first | refine l_q (by decide) (r_loada Tryd.underlying25 rfl inf_25 rfl (by first | exact .fact (by repeat constructor) | exact .own (by repeat constructor) (by decide) (fun _ => rfl) | exact SlIn.reads (by repeat constructor) (by assumption)) (by assumption)).q ?_ | refine l_q (by decide) (r_loadow Tryd.underlying25 rfl inf_25 rfl (by repeat constructor) (by rfl)).q ?_ | refine l_q (by decide) (r_loadoa Tryd.underlying25 rfl inf_25 rfl (by repeat constructor) (by rfl) (fun j u h => h)).q ?_
      refine l_q (by decide) (p_move rfl).q ?_
      refine l_call (X := Option Addr × Nat) (fun x => .tuple #[.slice x.1 (alg X (rOut (Ed.run X.pl l))).1.length x.2, .int .i64 (alg X (rOut (Ed.run X.pl l))).2]) (fun x => Sl 2 opF x.1 (alg X (rOut (Ed.run X.pl l))).1) (by decide) call_23 rfl (fun w hs => align2_ok X hX w (X.of hs (by repeat constructor) (by repeat constructor) (by repeat constructor)) hO (by omega) x25.1 x25.2 (rOut (Ed.run X.pl l)) (by omega) (hs.facts (OutQ lo (Ed.run X.pl l) x25) (by repeat constructor)).1.2) (fun x51 => ?_)
      refine l_q (by decide) (p_move rfl).q ?_
      refine l_q (by decide) (p_extract rfl rfl).q ?_
      refine l_q (by decide) (p_extract rfl rfl).q ?_
      refine l_q (by decide) (p_assign rfl).q ?_
      refine l_q (by decide) (p_assign rfl).q ?_
      refine l_nil ?_
      refine c_seq ?_
      refine c_reg ?_
      refine l_q (by decide) (p_move rfl).q ?_
      first | refine l_q (by decide) (((p_eql (j := 0) rfl rfl rfl rfl)).to (u := .bool true) (by rw [hag]; rfl)).q ?_ | refine l_q (by decide) (((p_eqli rfl rfl)).to (u := .bool true) (by rw [hag]; rfl)).q ?_
      refine l_q (by decide) (p_move rfl).q ?_
      refine l_g (j := 2) rfl rfl (by decide) (p_move rfl).q ?_
      first | refine l_g (j := 2) rfl rfl (by decide) (((p_eql (j := 0) rfl rfl rfl rfl)).to (u := .bool true) (by rw [hag]; rfl)).q ?_ | refine l_g (j := 2) rfl rfl (by decide) (((p_eqli rfl rfl)).to (u := .bool true) (by rw [hag]; rfl)).q ?_
      refine l_q (by decide) (p_pick rfl rfl).q ?_
      refine l_q (by decide) (p_move rfl).q ?_
      refine l_g (j := 6) rfl rfl (by decide) (p_move rfl).q ?_
      refine l_g (j := 6) rfl rfl (by decide) (p_move rfl).q ?_
      refine l_g (j := 6) rfl rfl (by decide) (q_call call_24 rfl (fun w hs => yes_ok rfl (sameops_ok x45.1 x51.1 x45.2 x51.2 (alg X (rOut (Ed.run X.pl l))).1 (alg X (rOut (Ed.run X.pl l))).1 (by omega) w (hs.facts (Sl 2 opF x45.1 (alg X (rOut (Ed.run X.pl l))).1) (by repeat constructor)).1 (hs.facts (Sl 2 opF x51.1 (alg X (rOut (Ed.run X.pl l))).1) (by repeat constructor)).1))) ?_
      refine l_q (by decide) (p_pick rfl rfl).q ?_
      refine l_q (by decide) (p_move rfl).q ?_
      refine l_g (j := 11) rfl rfl (by decide) (p_move rfl).q ?_
      refine l_g (j := 11) rfl rfl (by decide) (p_move rfl).q ?_
      refine l_g (j := 11) rfl rfl (by decide) (q_call call_25 rfl (fun w hs => (by
  have h := less_ok C x45.1 lc x45.2 l (alg X (rOut (Ed.run X.pl l))).1 (by omega) w (hs.facts (Sl 2 opF C l) (by repeat constructor)).1 (hs.facts (Sl 2 opF x45.1 (alg X (rOut (Ed.run X.pl l))).1) (by repeat constructor)).1
  rw [hless] at h
  exact h))) ?_
      refine l_g (j := 11) rfl rfl (by decide) (p_not rfl).q ?_
      refine l_q (by decide) (p_pick rfl rfl).q ?_
      refine l_q (by decide) (p_assign rfl).q ?_
      refine l_nil ?_
      refine c_ret ?_
      refine c_ret1 rfl rfl (fun w hs => ?_)
      exact ⟨rfl, hs.ext⟩
end Go.Proofs.YtlefheiohblgdaaDoor
