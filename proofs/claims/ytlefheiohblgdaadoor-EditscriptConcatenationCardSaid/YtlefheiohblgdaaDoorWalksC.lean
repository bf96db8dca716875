/- The walks of edit scripts, third part; conditions: lengths. -/
import Derived.Test.YtlefheiohblgdaaDoorWalksB
namespace Go.Proofs.YtlefheiohblgdaaDoor
open Go Go.Fx Go.Proofs

theorem okin_cols {X : Inp} (h : Ed.Okin X.pl) : ∀ x, x ∈ X.xs → Ed.Okc X.ins.length x.o := fun x hx => h.cols x.o (List.mem_map.2 ⟨x, hx, rfl⟩)
def Fair (X : Inp) : Prop := (X.xs.length ≤ 8 ∧ X.ins.length ≤ 8 ∧ ∀ x, x ∈ X.xs → x.o.read.length ≤ 8) ∧ (X.xs.length ≤ 60 ∧ Ed.Okin X.pl)
theorem inf_25 : InfoIs Tryd.prog 25 3 56 (.agg #[.slice none 0 0, .slice none 0 0, .int .i64 0]) := by unfold InfoIs; kernel_rfl
theorem call_27 : Callable Tryd.prog 27 := ⟨_, Tryd.func27, by kernel_rfl, rfl⟩
theorem call_28 : Callable Tryd.prog 28 := ⟨_, Tryd.func28, by kernel_rfl, rfl⟩
theorem call_38 : Callable Tryd.prog 38 := ⟨_, Tryd.func38, by kernel_rfl, rfl⟩
theorem valid_ok (X : Inp) (hX : X.small) (w : World) (hM : X.mem w) :
   Calls Tryd.prog 28 #[.agg #[.slice X.A X.xs.length X.c, .slice X.B X.ins.length X.d, .int .i64 X.sw], .int .i64 (X.ins.length : Int)] w (Ret fun v w' => v = .bool (dec (X.xs.length ≤ 60 ∧ Ed.Okin X.pl)) ∧ Ext [] w w') := by
 refine calls_fx (l := [.agg #[.slice X.A X.xs.length X.c, .slice X.B X.ins.length X.d, .int .i64 X.sw], .int .i64 (X.ins.length : Int)]) Tryd.func28 rfl Tryd.ntmps28 (Nat.le_of_ble_eq_true rfl) (X.start hM) ?_
 refine c_seq ?_
 refine c_reg ?_
 refine l_box (by decide) rfl _ rfl (fun b2 => ?_)
 refine l_q (by decide) (p_assign rfl).q ?_
 refine l_nil ?_
 refine c_seq ?_
 refine c_seq ?_
 refine c_reg ?_
 refine l_q (by decide) (p_move rfl).q ?_
 first | refine l_q (by decide) (p_lss (j := 0) rfl rfl rfl rfl).q ?_ | refine l_q (by decide) (p_lssi rfl rfl).q ?_
 refine l_q (by decide) (p_move rfl).q ?_
 first | refine l_splitd (t := 8) rfl (fun h8 => ?_) (fun h8 => ?_) | refine l_splitb (t := 8) rfl (fun h8 => ?_) (fun h8 => ?_)
 ·skip
  refine l_off (j := 2) rfl rfl (by first | (simp; done) | (simp [undef]; done)) (by decide) ?_
  refine l_off (j := 2) rfl rfl (by first | (simp; done) | (simp [undef]; done)) (by decide) ?_
  refine l_off (j := 2) rfl rfl (by first | (simp; done) | (simp [undef]; done)) (by decide) ?_
  refine l_off (j := 2) rfl rfl (by first | (simp; done) | (simp [undef]; done)) (by decide) ?_
  refine l_q (by decide) (p_pick rfl rfl).q ?_
  refine l_q (by decide) (p_move rfl).q ?_
  refine l_off (j := 8) rfl rfl (by first | (simp; done) | (simp [undef]; done)) (by decide) ?_
  refine l_off (j := 8) rfl rfl (by first | (simp; done) | (simp [undef]; done)) (by decide) ?_
  refine l_off (j := 8) rfl rfl (by first | (simp; done) | (simp [undef]; done)) (by decide) ?_
  refine l_off (j := 8) rfl rfl (by first | (simp; done) | (simp [undef]; done)) (by decide) ?_
  refine l_off (j := 8) rfl rfl (by first | (simp; done) | (simp [undef]; done)) (by decide) ?_
  refine l_q (by decide) (p_pick rfl rfl).q ?_
  refine l_q (by decide) (p_move rfl).q ?_
  refine l_off (j := 15) rfl rfl (by first | (simp; done) | (simp [undef]; done)) (by decide) ?_
  refine l_off (j := 15) rfl rfl (by first | (simp; done) | (simp [undef]; done)) (by decide) ?_
  refine l_off (j := 15) rfl rfl (by first | (simp; done) | (simp [undef]; done)) (by decide) ?_
  refine l_q (by decide) (p_pick rfl rfl).q ?_
  refine l_q (by decide) (p_move rfl).q ?_
  refine l_off (j := 20) rfl rfl (by first | (simp; done) | (simp [undef]; done)) (by decide) ?_
  refine l_off (j := 20) rfl rfl (by first | (simp; done) | (simp [undef]; done)) (by decide) ?_
  refine l_off (j := 20) rfl rfl (by first | (simp; done) | (simp [undef]; done)) (by decide) ?_
  refine l_q (by decide) (p_pick rfl rfl).q ?_
  refine l_q (by decide) (p_move rfl).q ?_
  refine l_off (j := 25) rfl rfl (by first | (simp; done) | (simp [undef]; done)) (by decide) ?_
  refine l_off (j := 25) rfl rfl (by first | (simp; done) | (simp [undef]; done)) (by decide) ?_
  refine l_off (j := 25) rfl rfl (by first | (simp; done) | (simp [undef]; done)) (by decide) ?_
  refine l_off (j := 25) rfl rfl (by first | (simp; done) | (simp [undef]; done)) (by decide) ?_
  refine l_off (j := 25) rfl rfl (by first | (simp; done) | (simp [undef]; done)) (by decide) ?_
  refine l_q (by decide) (p_pick rfl rfl).q ?_
  refine l_nil ?_
  refine c_true rfl ?_
  refine c_seq ?_
  refine c_reg ?_
  refine l_q (by decide) (p_assign rfl).q ?_
  refine l_nil ?_
  refine c_ret ?_
  refine c_ret1 rfl rfl (fun w hs => ?_)
  first | (rw [List.take_of_length_le (by omega)] at he; have hc := of_dec (p := ∀ x, x ∈ X.xs → Ed.Okc X.ins.length x.o) (by simpa using h37); exact ⟨by rw [dec_true ⟨by omega, fun c hc2 => by obtain ⟨x, hx, rfl⟩ := List.mem_map.1 hc2; exact hc x hx, he, by simp only [Inp.pl]; omega, by simp only [Inp.pl]; omega⟩], hs.ext⟩) | (first | (exact ⟨by rw [dec_false (fun h => by have := h.1; have := h.2.s0; have := h.2.s1; simp only [Inp.pl] at *; omega)], hs.ext⟩) | (exact ⟨by rw [dec_false (fun h => by have := h.2.ins u (List.mem_of_getElem? hu); omega)], hs.ext⟩) | (exact ⟨by rw [dec_false (fun h => by rw [dec_true (okin_cols h.2)] at h37; simp at h37)], hs.ext⟩) | skip)
 ·skip
  first | refine l_g (j := 2) rfl rfl (by decide) (p_faddr (i := 0) 0 Tryd.underlying25 rfl inf_22 (by decide) rfl rfl).q ?_ | refine l_g (j := 2) rfl rfl (by decide) (p_faddro (i := 0) 0 Tryd.underlying25 rfl inf_22 (by decide) rfl rfl).q ?_
  first | refine l_g (j := 2) rfl rfl (by decide) (r_loado Tryd.underlying22 rfl rfl (by repeat constructor) (by rfl)).q ?_ | refine l_g (j := 2) rfl rfl (by decide) (r_load1 Tryd.underlying22 rfl rfl (by first | exact .fact (by repeat constructor) | exact .own (by repeat constructor) (by decide) (fun _ => rfl) | exact SlIn.reads (by repeat constructor) (by assumption)) (by first | assumption | rfl) (by rfl)).q ?_ | refine l_g (j := 2) rfl rfl (by decide) (r_loadf Tryd.underlying22 rfl rfl (by first | exact .fact (by repeat constructor) | exact .own (by repeat constructor) (by decide) (fun _ => rfl) | exact SlIn.reads (by repeat constructor) (by assumption)) (by assumption) (by rfl)).q ?_
  refine l_g (j := 2) rfl rfl (by decide) (p_len_sl Tryd.underlying22 rfl).q ?_
  first | refine l_g (j := 2) rfl rfl (by decide) (p_gtr (j := 60) rfl rfl rfl rfl).q ?_ | refine l_g (j := 2) rfl rfl (by decide) (p_gtri rfl rfl).q ?_
  refine l_q (by decide) (p_pick rfl rfl).q ?_
  refine l_q (by decide) (p_move rfl).q ?_
  first | refine l_splitd (t := 14) rfl (fun h14 => ?_) (fun h14 => ?_) | refine l_splitb (t := 14) rfl (fun h14 => ?_) (fun h14 => ?_)
  ·skip
   refine l_off (j := 8) rfl rfl (by first | (simp; done) | (simp [undef]; done)) (by decide) ?_
   refine l_off (j := 8) rfl rfl (by first | (simp; done) | (simp [undef]; done)) (by decide) ?_
   refine l_off (j := 8) rfl rfl (by first | (simp; done) | (simp [undef]; done)) (by decide) ?_
   refine l_off (j := 8) rfl rfl (by first | (simp; done) | (simp [undef]; done)) (by decide) ?_
   refine l_off (j := 8) rfl rfl (by first | (simp; done) | (simp [undef]; done)) (by decide) ?_
   refine l_q (by decide) (p_pick rfl rfl).q ?_
   refine l_q (by decide) (p_move rfl).q ?_
   refine l_off (j := 15) rfl rfl (by first | (simp; done) | (simp [undef]; done)) (by decide) ?_
   refine l_off (j := 15) rfl rfl (by first | (simp; done) | (simp [undef]; done)) (by decide) ?_
   refine l_off (j := 15) rfl rfl (by first | (simp; done) | (simp [undef]; done)) (by decide) ?_
   refine l_q (by decide) (p_pick rfl rfl).q ?_
   refine l_q (by decide) (p_move rfl).q ?_
   refine l_off (j := 20) rfl rfl (by first | (simp; done) | (simp [undef]; done)) (by decide) ?_
   refine l_off (j := 20) rfl rfl (by first | (simp; done) | (simp [undef]; done)) (by decide) ?_
   refine l_off (j := 20) rfl rfl (by first | (simp; done) | (simp [undef]; done)) (by decide) ?_
   refine l_q (by decide) (p_pick rfl rfl).q ?_
   refine l_q (by decide) (p_move rfl).q ?_
   refine l_off (j := 25) rfl rfl (by first | (simp; done) | (simp [undef]; done)) (by decide) ?_
   refine l_off (j := 25) rfl rfl (by first | (simp; done) | (simp [undef]; done)) (by decide) ?_
   refine l_off (j := 25) rfl rfl (by first | (simp; done) | (simp [undef]; done)) (by decide) ?_
   refine l_off (j := 25) rfl rfl (by first | (simp; done) | (simp [undef]; done)) (by decide) ?_
   refine l_off (j := 25) rfl rfl (by first | (simp; done) | (simp [undef]; done)) (by decide) ?_
   refine l_q (by decide) (p_pick rfl rfl).q ?_
   refine l_nil ?_
   refine c_true rfl ?_
   refine c_seq ?_
   refine c_reg ?_
   refine l_q (by decide) (p_assign rfl).q ?_
   refine l_nil ?_
   refine c_ret ?_
   refine c_ret1 rfl rfl (fun w hs => ?_)
   first | (rw [List.take_of_length_le (by omega)] at he; have hc := of_dec (p := ∀ x, x ∈ X.xs → Ed.Okc X.ins.length x.o) (by simpa using h37); exact ⟨by rw [dec_true ⟨by omega, fun c hc2 => by obtain ⟨x, hx, rfl⟩ := List.mem_map.1 hc2; exact hc x hx, he, by simp only [Inp.pl]; omega, by simp only [Inp.pl]; omega⟩], hs.ext⟩) | (first | (exact ⟨by rw [dec_false (fun h => by have := h.1; have := h.2.s0; have := h.2.s1; simp only [Inp.pl] at *; omega)], hs.ext⟩) | (exact ⟨by rw [dec_false (fun h => by have := h.2.ins u (List.mem_of_getElem? hu); omega)], hs.ext⟩) | (exact ⟨by rw [dec_false (fun h => by rw [dec_true (okin_cols h.2)] at h37; simp at h37)], hs.ext⟩) | skip)
  ·skip
   first | refine l_g (j := 8) rfl rfl (by decide) (p_faddr (i := 1) 1 Tryd.underlying25 rfl inf_23 (by decide) rfl rfl).q ?_ | refine l_g (j := 8) rfl rfl (by decide) (p_faddro (i := 1) 1 Tryd.underlying25 rfl inf_23 (by decide) rfl rfl).q ?_
   first | refine l_g (j := 8) rfl rfl (by decide) (r_loado Tryd.underlying23 rfl rfl (by repeat constructor) (by rfl)).q ?_ | refine l_g (j := 8) rfl rfl (by decide) (r_load1 Tryd.underlying23 rfl rfl (by first | exact .fact (by repeat constructor) | exact .own (by repeat constructor) (by decide) (fun _ => rfl) | exact SlIn.reads (by repeat constructor) (by assumption)) (by first | assumption | rfl) (by rfl)).q ?_ | refine l_g (j := 8) rfl rfl (by decide) (r_loadf Tryd.underlying23 rfl rfl (by first | exact .fact (by repeat constructor) | exact .own (by repeat constructor) (by decide) (fun _ => rfl) | exact SlIn.reads (by repeat constructor) (by assumption)) (by assumption) (by rfl)).q ?_
   refine l_g (j := 8) rfl rfl (by decide) (p_len_sl Tryd.underlying23 rfl).q ?_
   refine l_g (j := 8) rfl rfl (by decide) (p_move rfl).q ?_
   first | refine l_g (j := 8) rfl rfl (by decide) (p_neq rfl rfl rfl rfl).q ?_ | refine l_g (j := 8) rfl rfl (by decide) (p_neqi rfl rfl).q ?_
   refine l_q (by decide) (p_pick rfl rfl).q ?_
   refine l_q (by decide) (p_move rfl).q ?_
   first | refine l_splitd (t := 21) rfl (fun h21 => ?_) (fun h21 => ?_) | refine l_splitb (t := 21) rfl (fun h21 => ?_) (fun h21 => ?_)
   ·skip
    refine l_off (j := 15) rfl rfl (by first | (simp; done) | (simp [undef]; done)) (by decide) ?_
    refine l_off (j := 15) rfl rfl (by first | (simp; done) | (simp [undef]; done)) (by decide) ?_
    refine l_off (j := 15) rfl rfl (by first | (simp; done) | (simp [undef]; done)) (by decide) ?_
    refine l_q (by decide) (p_pick rfl rfl).q ?_
    refine l_q (by decide) (p_move rfl).q ?_
    refine l_off (j := 20) rfl rfl (by first | (simp; done) | (simp [undef]; done)) (by decide) ?_
    refine l_off (j := 20) rfl rfl (by first | (simp; done) | (simp [undef]; done)) (by decide) ?_
    refine l_off (j := 20) rfl rfl (by first | (simp; done) | (simp [undef]; done)) (by decide) ?_
    refine l_q (by decide) (p_pick rfl rfl).q ?_
    refine l_q (by decide) (p_move rfl).q ?_
    refine l_off (j := 25) rfl rfl (by first | (simp; done) | (simp [undef]; done)) (by decide) ?_
    refine l_off (j := 25) rfl rfl (by first | (simp; done) | (simp [undef]; done)) (by decide) ?_
    refine l_off (j := 25) rfl rfl (by first | (simp; done) | (simp [undef]; done)) (by decide) ?_
    refine l_off (j := 25) rfl rfl (by first | (simp; done) | (simp [undef]; done)) (by decide) ?_
    refine l_off (j := 25) rfl rfl (by first | (simp; done) | (simp [undef]; done)) (by decide) ?_
    refine l_q (by decide) (p_pick rfl rfl).q ?_
    refine l_nil ?_
    refine c_true rfl ?_
    refine c_seq ?_
    refine c_reg ?_
    refine l_q (by decide) (p_assign rfl).q ?_
    refine l_nil ?_
    refine c_ret ?_
    refine c_ret1 rfl rfl (fun w hs => ?_)
    first | (rw [List.take_of_length_le (by omega)] at he; have hc := of_dec (p := ∀ x, x ∈ X.xs → Ed.Okc X.ins.length x.o) (by simpa using h37); exact ⟨by rw [dec_true ⟨by omega, fun c hc2 => by obtain ⟨x, hx, rfl⟩ := List.mem_map.1 hc2; exact hc x hx, he, by simp only [Inp.pl]; omega, by simp only [Inp.pl]; omega⟩], hs.ext⟩) | (first | (exact ⟨by rw [dec_false (fun h => by have := h.1; have := h.2.s0; have := h.2.s1; simp only [Inp.pl] at *; omega)], hs.ext⟩) | (exact ⟨by rw [dec_false (fun h => by have := h.2.ins u (List.mem_of_getElem? hu); omega)], hs.ext⟩) | (exact ⟨by rw [dec_false (fun h => by rw [dec_true (okin_cols h.2)] at h37; simp at h37)], hs.ext⟩) | skip)
   ·skip
    first | refine l_g (j := 15) rfl rfl (by decide) (p_faddr (i := 2) 2 Tryd.underlying25 rfl inf_3 (by decide) rfl rfl).q ?_ | refine l_g (j := 15) rfl rfl (by decide) (p_faddro (i := 2) 2 Tryd.underlying25 rfl inf_3 (by decide) rfl rfl).q ?_
    first | refine l_g (j := 15) rfl rfl (by decide) (r_loado Tryd.underlying3 rfl rfl (by repeat constructor) (by rfl)).q ?_ | refine l_g (j := 15) rfl rfl (by decide) (r_load1 Tryd.underlying3 rfl rfl (by first | exact .fact (by repeat constructor) | exact .own (by repeat constructor) (by decide) (fun _ => rfl) | exact SlIn.reads (by repeat constructor) (by assumption)) (by first | assumption | rfl) (by rfl)).q ?_ | refine l_g (j := 15) rfl rfl (by decide) (r_loadf Tryd.underlying3 rfl rfl (by first | exact .fact (by repeat constructor) | exact .own (by repeat constructor) (by decide) (fun _ => rfl) | exact SlIn.reads (by repeat constructor) (by assumption)) (by assumption) (by rfl)).q ?_
    first | refine l_g (j := 15) rfl rfl (by decide) (p_lss (j := 0) rfl rfl rfl rfl).q ?_ | refine l_g (j := 15) rfl rfl (by decide) (p_lssi rfl rfl).q ?_
    refine l_q (by decide) (p_pick rfl rfl).q ?_
    refine l_q (by decide) (p_move rfl).q ?_
    first | refine l_splitd (t := 26) rfl (fun h26 => ?_) (fun h26 => ?_) | refine l_splitb (t := 26) rfl (fun h26 => ?_) (fun h26 => ?_)
    ·skip
     refine l_off (j := 20) rfl rfl (by first | (simp; done) | (simp [undef]; done)) (by decide) ?_
     refine l_off (j := 20) rfl rfl (by first | (simp; done) | (simp [undef]; done)) (by decide) ?_
     refine l_off (j := 20) rfl rfl (by first | (simp; done) | (simp [undef]; done)) (by decide) ?_
     refine l_q (by decide) (p_pick rfl rfl).q ?_
     refine l_q (by decide) (p_move rfl).q ?_
     refine l_off (j := 25) rfl rfl (by first | (simp; done) | (simp [undef]; done)) (by decide) ?_
     refine l_off (j := 25) rfl rfl (by first | (simp; done) | (simp [undef]; done)) (by decide) ?_
     refine l_off (j := 25) rfl rfl (by first | (simp; done) | (simp [undef]; done)) (by decide) ?_
     refine l_off (j := 25) rfl rfl (by first | (simp; done) | (simp [undef]; done)) (by decide) ?_
     refine l_off (j := 25) rfl rfl (by first | (simp; done) | (simp [undef]; done)) (by decide) ?_
     refine l_q (by decide) (p_pick rfl rfl).q ?_
     refine l_nil ?_
     refine c_true rfl ?_
     refine c_seq ?_
     refine c_reg ?_
     refine l_q (by decide) (p_assign rfl).q ?_
     refine l_nil ?_
     refine c_ret ?_
     refine c_ret1 rfl rfl (fun w hs => ?_)
     first | (rw [List.take_of_length_le (by omega)] at he; have hc := of_dec (p := ∀ x, x ∈ X.xs → Ed.Okc X.ins.length x.o) (by simpa using h37); exact ⟨by rw [dec_true ⟨by omega, fun c hc2 => by obtain ⟨x, hx, rfl⟩ := List.mem_map.1 hc2; exact hc x hx, he, by simp only [Inp.pl]; omega, by simp only [Inp.pl]; omega⟩], hs.ext⟩) | (first | (exact ⟨by rw [dec_false (fun h => by have := h.1; have := h.2.s0; have := h.2.s1; simp only [Inp.pl] at *; omega)], hs.ext⟩) | (exact ⟨by rw [dec_false (fun h => by have := h.2.ins u (List.mem_of_getElem? hu); omega)], hs.ext⟩) | (exact ⟨by rw [dec_false (fun h => by rw [dec_true (okin_cols h.2)] at h37; simp at h37)], hs.ext⟩) | skip)
    ·skip
     first | refine l_g (j := 20) rfl rfl (by decide) (p_faddr (i := 2) 2 Tryd.underlying25 rfl inf_3 (by decide) rfl rfl).q ?_ | refine l_g (j := 20) rfl rfl (by decide) (p_faddro (i := 2) 2 Tryd.underlying25 rfl inf_3 (by decide) rfl rfl).q ?_
     first | refine l_g (j := 20) rfl rfl (by decide) (r_loado Tryd.underlying3 rfl rfl (by repeat constructor) (by rfl)).q ?_ | refine l_g (j := 20) rfl rfl (by decide) (r_load1 Tryd.underlying3 rfl rfl (by first | exact .fact (by repeat constructor) | exact .own (by repeat constructor) (by decide) (fun _ => rfl) | exact SlIn.reads (by repeat constructor) (by assumption)) (by first | assumption | rfl) (by rfl)).q ?_ | refine l_g (j := 20) rfl rfl (by decide) (r_loadf Tryd.underlying3 rfl rfl (by first | exact .fact (by repeat constructor) | exact .own (by repeat constructor) (by decide) (fun _ => rfl) | exact SlIn.reads (by repeat constructor) (by assumption)) (by assumption) (by rfl)).q ?_
     first | refine l_g (j := 20) rfl rfl (by decide) (p_gtr (j := 60000) rfl rfl rfl rfl).q ?_ | refine l_g (j := 20) rfl rfl (by decide) (p_gtri rfl rfl).q ?_
     refine l_q (by decide) (p_pick rfl rfl).q ?_
     refine l_q (by decide) (p_move rfl).q ?_
     first | refine l_splitd (t := 31) rfl (fun h31 => ?_) (fun h31 => ?_) | refine l_splitb (t := 31) rfl (fun h31 => ?_) (fun h31 => ?_)
     ·skip
      refine l_off (j := 25) rfl rfl (by first | (simp; done) | (simp [undef]; done)) (by decide) ?_
      refine l_off (j := 25) rfl rfl (by first | (simp; done) | (simp [undef]; done)) (by decide) ?_
      refine l_off (j := 25) rfl rfl (by first | (simp; done) | (simp [undef]; done)) (by decide) ?_
      refine l_off (j := 25) rfl rfl (by first | (simp; done) | (simp [undef]; done)) (by decide) ?_
      refine l_off (j := 25) rfl rfl (by first | (simp; done) | (simp [undef]; done)) (by decide) ?_
      refine l_q (by decide) (p_pick rfl rfl).q ?_
      refine l_nil ?_
      refine c_true rfl ?_
      refine c_seq ?_
      refine c_reg ?_
      refine l_q (by decide) (p_assign rfl).q ?_
      refine l_nil ?_
      refine c_ret ?_
      refine c_ret1 rfl rfl (fun w hs => ?_)
      first | (rw [List.take_of_length_le (by omega)] at he; have hc := of_dec (p := ∀ x, x ∈ X.xs → Ed.Okc X.ins.length x.o) (by simpa using h37); exact ⟨by rw [dec_true ⟨by omega, fun c hc2 => by obtain ⟨x, hx, rfl⟩ := List.mem_map.1 hc2; exact hc x hx, he, by simp only [Inp.pl]; omega, by simp only [Inp.pl]; omega⟩], hs.ext⟩) | (first | (exact ⟨by rw [dec_false (fun h => by have := h.1; have := h.2.s0; have := h.2.s1; simp only [Inp.pl] at *; omega)], hs.ext⟩) | (exact ⟨by rw [dec_false (fun h => by have := h.2.ins u (List.mem_of_getElem? hu); omega)], hs.ext⟩) | (exact ⟨by rw [dec_false (fun h => by rw [dec_true (okin_cols h.2)] at h37; simp at h37)], hs.ext⟩) | skip)
     ·skip
      first | refine l_g (j := 25) rfl rfl (by decide) (p_faddr (i := 0) 0 Tryd.underlying25 rfl inf_22 (by decide) rfl rfl).q ?_ | refine l_g (j := 25) rfl rfl (by decide) (p_faddro (i := 0) 0 Tryd.underlying25 rfl inf_22 (by decide) rfl rfl).q ?_
      first | refine l_g (j := 25) rfl rfl (by decide) (r_loado Tryd.underlying22 rfl rfl (by repeat constructor) (by rfl)).q ?_ | refine l_g (j := 25) rfl rfl (by decide) (r_load1 Tryd.underlying22 rfl rfl (by first | exact .fact (by repeat constructor) | exact .own (by repeat constructor) (by decide) (fun _ => rfl) | exact SlIn.reads (by repeat constructor) (by assumption)) (by first | assumption | rfl) (by rfl)).q ?_ | refine l_g (j := 25) rfl rfl (by decide) (r_loadf Tryd.underlying22 rfl rfl (by first | exact .fact (by repeat constructor) | exact .own (by repeat constructor) (by decide) (fun _ => rfl) | exact SlIn.reads (by repeat constructor) (by assumption)) (by assumption) (by rfl)).q ?_
      refine l_g (j := 25) rfl rfl (by decide) (p_move rfl).q ?_
      refine l_g (j := 25) rfl rfl (by decide) (q_call call_38 rfl (fun w hs => columns_ok X.A X.c X.xs X.ins.length hX.ins hX.xs w (hs.facts _ (by repeat constructor)).1 (hs.facts _ (by repeat constructor)).1)) ?_
      first | refine l_g (j := 25) rfl rfl (by decide) (p_notd rfl).q ?_ | refine l_g (j := 25) rfl rfl (by decide) (p_not rfl).q ?_
      refine l_q (by decide) (p_pick rfl rfl).q ?_
      refine l_nil ?_
      first | refine c_dec rfl (fun h37 => ?_) (fun h37 => ?_) | refine c_cond rfl (fun h37 => ?_) (fun h37 => ?_)
      ·skip
       refine c_seq ?_
       refine c_reg ?_
       refine l_q (by decide) (p_assign rfl).q ?_
       refine l_nil ?_
       refine c_ret ?_
       refine c_ret1 rfl rfl (fun w hs => ?_)
       first | (rw [List.take_of_length_le (by omega)] at he; have hc := of_dec (p := ∀ x, x ∈ X.xs → Ed.Okc X.ins.length x.o) (by simpa using h37); exact ⟨by rw [dec_true ⟨by omega, fun c hc2 => by obtain ⟨x, hx, rfl⟩ := List.mem_map.1 hc2; exact hc x hx, he, by simp only [Inp.pl]; omega, by simp only [Inp.pl]; omega⟩], hs.ext⟩) | (first | (exact ⟨by rw [dec_false (fun h => by have := h.1; have := h.2.s0; have := h.2.s1; simp only [Inp.pl] at *; omega)], hs.ext⟩) | (exact ⟨by rw [dec_false (fun h => by have := h.2.ins u (List.mem_of_getElem? hu); omega)], hs.ext⟩) | (exact ⟨by rw [dec_false (fun h => by rw [dec_true (okin_cols h.2)] at h37; simp at h37)], hs.ext⟩) | skip)
      ·skip
       refine c_skip ?_
       refine c_seq ?_
       refine c_seq ?_
       refine c_reg ?_
       refine l_q (by decide) (p_assign (v := .int .i64 ((0 : Nat) : Int)) rfl).q ?_
       refine l_nil ?_
       refine c_block ?_
       refine c_loop (S := Nat) (fun zs => zs ≤ X.ins.length ∧ ∀ x, x ∈ X.ins.take zs → 1 ≤ x ∧ x ≤ 60000) (fun zs => X.ins.length - zs) (fun zs => [(1, .int .i64 (X.ins.length : Int)), (2, .pointer (some ⟨b2, 0, none⟩)), (5, .int .i64 (zs : Int))]) (fun zs => [iCells b2 25 [.slice X.A X.xs.length X.c, .slice X.B X.ins.length X.d, .int .i64 X.sw]]) (fun zs => [Rd X.xs, Sl 1 intF X.B X.ins, Sl 3 colF X.A X.xs]) (0) ?_ ?_ ?_ ?_ ?_
       · show (0) ≤ X.ins.length ∧ ∀ x, x ∈ X.ins.take (0) → 1 ≤ x ∧ x ≤ 60000
         exact ⟨Nat.zero_le _, fun t h => absurd h (by simp)⟩
       · exact ⟨rfl, rfl, rfl, trivial⟩
       · exact .refl _
       · simp
       rintro k hinv
       have hinv : k ≤ X.ins.length ∧ ∀ x, x ∈ X.ins.take k → 1 ≤ x ∧ x ≤ 60000 := hinv
       obtain ⟨hk, he⟩ := hinv
       show Cont _ _ _ _ [(1, .int .i64 (X.ins.length : Int)), (2, .pointer (some ⟨b2, 0, none⟩)), (5, .int .i64 (k : Int))] ([iCells b2 25 [.slice X.A X.xs.length X.c, .slice X.B X.ins.length X.d, .int .i64 X.sw]]) [Rd X.xs, Sl 1 intF X.B X.ins, Sl 3 colF X.A X.xs]
       refine c_seq ?_
       refine c_seq ?_
       refine c_reg ?_
       refine l_q (by decide) (p_move rfl).q ?_
       refine l_q (by decide) (p_move rfl).q ?_
       first | refine l_q (by decide) (p_lss rfl rfl rfl rfl).q ?_ | refine l_q (by decide) (p_lssi rfl rfl).q ?_
       refine l_nil ?_
       first | refine c_dec rfl (fun h40 => ?_) (fun h40 => ?_) | refine c_cond rfl (fun h40 => ?_) (fun h40 => ?_)
       ·skip
        have := hX.ins
        obtain ⟨u, hu⟩ := at_some (l := X.ins) (n := k) (by omega)
        refine c_skip ?_
        refine c_seq ?_
        refine c_block ?_
        refine c_seq ?_
        refine c_meetn (S := Unit) (fun zs => True) (fun zs => [(1, .int .i64 (X.ins.length : Int)), (2, .pointer (some ⟨b2, 0, none⟩)), (5, .int .i64 (k : Int)), (56, .bool (decide (u < 1 ∨ u > 60000)))]) (fun zs => [iCells b2 25 [.slice X.A X.xs.length X.c, .slice X.B X.ins.length X.d, .int .i64 X.sw]]) (fun zs => [Rd X.xs, Sl 1 intF X.B X.ins, Sl 3 colF X.A X.xs]) ?_ ?_
        ·skip
         refine c_reg ?_
         first | refine l_q (by decide) (p_faddr (i := 1) 1 Tryd.underlying25 rfl inf_23 (by decide) rfl rfl).q ?_ | refine l_q (by decide) (p_faddro (i := 1) 1 Tryd.underlying25 rfl inf_23 (by decide) rfl rfl).q ?_
         first | refine l_q (by decide) (r_loado Tryd.underlying23 rfl rfl (by repeat constructor) (by rfl)).q ?_ | refine l_q (by decide) (r_load1 Tryd.underlying23 rfl rfl (by first | exact .fact (by repeat constructor) | exact .own (by repeat constructor) (by decide) (fun _ => rfl) | exact SlIn.reads (by repeat constructor) (by assumption)) (by first | assumption | rfl) (by rfl)).q ?_ | refine l_q (by decide) (r_loadf Tryd.underlying23 rfl rfl (by first | exact .fact (by repeat constructor) | exact .own (by repeat constructor) (by decide) (fun _ => rfl) | exact SlIn.reads (by repeat constructor) (by assumption)) (by assumption) (by rfl)).q ?_
         refine l_q (by decide) (p_move rfl).q ?_
         first | refine l_q (by decide) (r_index Tryd.underlying23 inf_3 rfl rfl rfl (by first | exact .fact (by repeat constructor) | exact .own (by repeat constructor) (by decide) (fun _ => rfl) | exact SlIn.reads (by repeat constructor) (by assumption)) rfl (by omega)).q ?_ | refine l_q (by decide) (r_index Tryd.underlying23 inf_3 rfl rfl rfl (by first | exact .fact (by repeat constructor) | exact .own (by repeat constructor) (by decide) (fun _ => rfl) | exact SlIn.reads (by repeat constructor) (by assumption)) rfl (by decide)).q ?_ | refine l_q (by decide) (p_indexo Tryd.underlying23 inf_3 rfl rfl rfl (by omega)).q ?_
         first | refine l_q (by decide) (r_loado Tryd.underlying3 rfl rfl (by repeat constructor) (by rfl)).q ?_ | refine l_q (by decide) (r_load1 Tryd.underlying3 rfl rfl (by first | exact .fact (by repeat constructor) | exact .own (by repeat constructor) (by decide) (fun _ => rfl) | exact SlIn.reads (by repeat constructor) (by assumption)) (by first | assumption | rfl) (by rfl)).q ?_ | refine l_q (by decide) (r_loadf Tryd.underlying3 rfl rfl (by first | exact .fact (by repeat constructor) | exact .own (by repeat constructor) (by decide) (fun _ => rfl) | exact SlIn.reads (by repeat constructor) (by assumption)) (by assumption) (by rfl)).q ?_
         first | refine l_q (by decide) (p_lss (j := 1) rfl rfl rfl rfl).q ?_ | refine l_q (by decide) (p_lssi rfl rfl).q ?_
         refine l_q (by decide) (p_move rfl).q ?_
         first | refine l_splitd (t := 49) rfl (fun h49 => ?_) (fun h49 => ?_) | refine l_splitb (t := 49) rfl (fun h49 => ?_) (fun h49 => ?_)
         ·skip
          refine l_off (j := 6) rfl rfl (by first | (simp; done) | (simp [undef]; done)) (by decide) ?_
          refine l_off (j := 6) rfl rfl (by first | (simp; done) | (simp [undef]; done)) (by decide) ?_
          refine l_off (j := 6) rfl rfl (by first | (simp; done) | (simp [undef]; done)) (by decide) ?_
          refine l_off (j := 6) rfl rfl (by first | (simp; done) | (simp [undef]; done)) (by decide) ?_
          refine l_off (j := 6) rfl rfl (by first | (simp; done) | (simp [undef]; done)) (by decide) ?_
          refine l_off (j := 6) rfl rfl (by first | (simp; done) | (simp [undef]; done)) (by decide) ?_
          refine l_q (by decide) (p_pick rfl rfl).q ?_
          refine l_nil ?_
          refine c_join (()) ?inv ?sub ?perm ?facts
          case sub => exact ⟨rfl, rfl, rfl, (by first | rfl | exact congrArg (fun b => some (Value.bool b)) (decide_eq_true (by omega)).symm | exact congrArg (fun b => some (Value.bool b)) (decide_eq_false (by omega)).symm | exact congrArg (fun b => some (Value.bool b)) (decide_eq_decide.2 (by omega))), trivial⟩
          case perm =>
           exact .refl _
          case facts => exact fun _ h => h
          case inv =>
           trivial
         ·skip
          first | refine l_g (j := 6) rfl rfl (by decide) (p_faddr (i := 1) 1 Tryd.underlying25 rfl inf_23 (by decide) rfl rfl).q ?_ | refine l_g (j := 6) rfl rfl (by decide) (p_faddro (i := 1) 1 Tryd.underlying25 rfl inf_23 (by decide) rfl rfl).q ?_
          first | refine l_g (j := 6) rfl rfl (by decide) (r_loado Tryd.underlying23 rfl rfl (by repeat constructor) (by rfl)).q ?_ | refine l_g (j := 6) rfl rfl (by decide) (r_load1 Tryd.underlying23 rfl rfl (by first | exact .fact (by repeat constructor) | exact .own (by repeat constructor) (by decide) (fun _ => rfl) | exact SlIn.reads (by repeat constructor) (by assumption)) (by first | assumption | rfl) (by rfl)).q ?_ | refine l_g (j := 6) rfl rfl (by decide) (r_loadf Tryd.underlying23 rfl rfl (by first | exact .fact (by repeat constructor) | exact .own (by repeat constructor) (by decide) (fun _ => rfl) | exact SlIn.reads (by repeat constructor) (by assumption)) (by assumption) (by rfl)).q ?_
          refine l_g (j := 6) rfl rfl (by decide) (p_move rfl).q ?_
          first | refine l_g (j := 6) rfl rfl (by decide) (r_index Tryd.underlying23 inf_3 rfl rfl rfl (by first | exact .fact (by repeat constructor) | exact .own (by repeat constructor) (by decide) (fun _ => rfl) | exact SlIn.reads (by repeat constructor) (by assumption)) rfl (by omega)).q ?_ | refine l_g (j := 6) rfl rfl (by decide) (r_index Tryd.underlying23 inf_3 rfl rfl rfl (by first | exact .fact (by repeat constructor) | exact .own (by repeat constructor) (by decide) (fun _ => rfl) | exact SlIn.reads (by repeat constructor) (by assumption)) rfl (by decide)).q ?_ | refine l_g (j := 6) rfl rfl (by decide) (p_indexo Tryd.underlying23 inf_3 rfl rfl rfl (by omega)).q ?_
          first | refine l_g (j := 6) rfl rfl (by decide) (r_loado Tryd.underlying3 rfl rfl (by repeat constructor) (by rfl)).q ?_ | refine l_g (j := 6) rfl rfl (by decide) (r_load1 Tryd.underlying3 rfl rfl (by first | exact .fact (by repeat constructor) | exact .own (by repeat constructor) (by decide) (fun _ => rfl) | exact SlIn.reads (by repeat constructor) (by assumption)) (by first | assumption | rfl) (by rfl)).q ?_ | refine l_g (j := 6) rfl rfl (by decide) (r_loadf Tryd.underlying3 rfl rfl (by first | exact .fact (by repeat constructor) | exact .own (by repeat constructor) (by decide) (fun _ => rfl) | exact SlIn.reads (by repeat constructor) (by assumption)) (by assumption) (by rfl)).q ?_
          first | refine l_g (j := 6) rfl rfl (by decide) (p_gtr (j := 60000) rfl rfl rfl rfl).q ?_ | refine l_g (j := 6) rfl rfl (by decide) (p_gtri rfl rfl).q ?_
          refine l_q (by decide) (p_pick rfl rfl).q ?_
          refine l_nil ?_
          refine c_join (()) ?inv ?sub ?perm ?facts
          case sub => exact ⟨rfl, rfl, rfl, (by first | rfl | exact congrArg (fun b => some (Value.bool b)) (decide_eq_true (by omega)).symm | exact congrArg (fun b => some (Value.bool b)) (decide_eq_false (by omega)).symm | exact congrArg (fun b => some (Value.bool b)) (decide_eq_decide.2 (by omega))), trivial⟩
          case perm =>
           exact .refl _
          case facts => exact fun _ h => h
          case inv =>
           trivial
        rintro uu hmeet
        show Cont _ _ _ _ [(1, .int .i64 (X.ins.length : Int)), (2, .pointer (some ⟨b2, 0, none⟩)), (5, .int .i64 (k : Int)), (56, .bool (decide (u < 1 ∨ u > 60000)))] ([iCells b2 25 [.slice X.A X.xs.length X.c, .slice X.B X.ins.length X.d, .int .i64 X.sw]]) [Rd X.xs, Sl 1 intF X.B X.ins, Sl 3 colF X.A X.xs]
        first | refine c_dec rfl (fun h56 => ?_) (fun h56 => ?_) | refine c_cond rfl (fun h56 => ?_) (fun h56 => ?_)
        ·skip
         refine c_seq ?_
         refine c_reg ?_
         refine l_q (by decide) (p_assign rfl).q ?_
         refine l_nil ?_
         refine c_ret ?_
         refine c_ret1 rfl rfl (fun w hs => ?_)
         first | (rw [List.take_of_length_le (by omega)] at he; have hc := of_dec (p := ∀ x, x ∈ X.xs → Ed.Okc X.ins.length x.o) (by simpa using h37); exact ⟨by rw [dec_true ⟨by omega, fun c hc2 => by obtain ⟨x, hx, rfl⟩ := List.mem_map.1 hc2; exact hc x hx, he, by simp only [Inp.pl]; omega, by simp only [Inp.pl]; omega⟩], hs.ext⟩) | (first | (exact ⟨by rw [dec_false (fun h => by have := h.1; have := h.2.s0; have := h.2.s1; simp only [Inp.pl] at *; omega)], hs.ext⟩) | (exact ⟨by rw [dec_false (fun h => by have := h.2.ins u (List.mem_of_getElem? hu); omega)], hs.ext⟩) | (exact ⟨by rw [dec_false (fun h => by rw [dec_true (okin_cols h.2)] at h37; simp at h37)], hs.ext⟩) | skip)
        ·skip
         refine c_skip ?_
         refine c_reg ?_
         refine l_q (by decide) (p_move rfl).q ?_
         first | refine l_q (by decide) (p_add (j := 1) rfl rfl rfl rfl (by show _ ≤ (9223372036854775807 : Nat); omega)).q ?_ | refine l_q (by decide) (p_addi rfl rfl (by show (-9223372036854775808 : Int) ≤ _; omega) (by show _ ≤ ((9223372036854775807 : Nat) : Int); omega)).q ?_
         refine l_q (by decide) (p_assign rfl).q ?_
         refine l_nil ?_
         refine c_join ((k + 1)) ?_ ?_ ?_ ?_
         ·show ((k + 1) ≤ X.ins.length ∧ ∀ x, x ∈ X.ins.take (k + 1) → 1 ≤ x ∧ x ≤ 60000) ∧ X.ins.length - (k + 1) < X.ins.length - k
          refine ⟨⟨by omega, fun t ht => ?_⟩, by omega⟩
          rw [take_at hu] at ht
          rcases List.mem_append.1 ht with h | h
          · exact he t h
          · rw [List.mem_singleton.1 h]; omega
         · exact ⟨rfl, rfl, (by show some _ = some _; congr 2 <;> omega), trivial⟩
         ·show List.Perm _ ([iCells b2 25 [.slice X.A X.xs.length X.c, .slice X.B X.ins.length X.d, .int .i64 X.sw]])
          exact .refl _
         · exact fun _ h => h
       ·skip
        refine c_exit ?_
        refine c_here ?_
        refine c_seq ?_
        refine c_reg ?_
        refine l_q (by decide) (p_assign rfl).q ?_
        refine l_nil ?_
        refine c_ret ?_
        refine c_ret1 rfl rfl (fun w hs => ?_)
        first | (rw [List.take_of_length_le (by omega)] at he; have hc := of_dec (p := ∀ x, x ∈ X.xs → Ed.Okc X.ins.length x.o) (by simpa using h37); exact ⟨by rw [dec_true ⟨by omega, fun c hc2 => by obtain ⟨x, hx, rfl⟩ := List.mem_map.1 hc2; exact hc x hx, he, by simp only [Inp.pl]; omega, by simp only [Inp.pl]; omega⟩], hs.ext⟩) | (first | (exact ⟨by rw [dec_false (fun h => by have := h.1; have := h.2.s0; have := h.2.s1; simp only [Inp.pl] at *; omega)], hs.ext⟩) | (exact ⟨by rw [dec_false (fun h => by have := h.2.ins u (List.mem_of_getElem? hu); omega)], hs.ext⟩) | (exact ⟨by rw [dec_false (fun h => by rw [dec_true (okin_cols h.2)] at h37; simp at h37)], hs.ext⟩) | skip)

theorem fair_ok (X : Inp) (hX : X.small) (w : World) (hM : X.mem w) :
   Calls Tryd.prog 12 #[.agg #[.slice X.A X.xs.length X.c, .slice X.B X.ins.length X.d, .int .i64 X.sw]] w (Ret fun v w' => v = .bool (dec (Fair X)) ∧ Ext [] w w') := by
 refine calls_fx (l := [.agg #[.slice X.A X.xs.length X.c, .slice X.B X.ins.length X.d, .int .i64 X.sw]]) Tryd.func12 rfl Tryd.ntmps12 (Nat.le_of_ble_eq_true rfl) (X.start hM) ?_
 refine c_seq ?_
 refine c_reg ?_
 refine l_box (by decide) rfl _ rfl (fun b1 => ?_)
 refine l_q (by decide) (p_assign rfl).q ?_
 refine l_nil ?_
 refine c_seq ?_
 refine c_reg ?_
 first | refine l_q (by decide) (r_loada Tryd.underlying25 rfl inf_25 rfl (by first | exact .fact (by repeat constructor) | exact .own (by repeat constructor) (by decide) (fun _ => rfl) | exact SlIn.reads (by repeat constructor) (by assumption)) (by assumption)).q ?_ | refine l_q (by decide) (r_loadow Tryd.underlying25 rfl inf_25 rfl (by repeat constructor) (by rfl)).q ?_ | refine l_q (by decide) (r_loadoa Tryd.underlying25 rfl inf_25 rfl (by repeat constructor) (by rfl) (fun j u h => h)).q ?_
 refine l_q (by decide) (q_call call_27 rfl (fun w hs => small_ok X hX w (X.of hs (by repeat constructor) (by repeat constructor) (by repeat constructor)))) ?_
 refine l_q (by decide) (p_move rfl).q ?_
 first | refine l_splitd (t := 5) rfl (fun h5 => ?_) (fun h5 => ?_) | refine l_splitb (t := 5) rfl (fun h5 => ?_) (fun h5 => ?_)
 ·skip
  first | refine l_g (j := 2) rfl rfl (by decide) (r_loada Tryd.underlying25 rfl inf_25 rfl (by first | exact .fact (by repeat constructor) | exact .own (by repeat constructor) (by decide) (fun _ => rfl) | exact SlIn.reads (by repeat constructor) (by assumption)) (by assumption)).q ?_ | refine l_g (j := 2) rfl rfl (by decide) (r_loadow Tryd.underlying25 rfl inf_25 rfl (by repeat constructor) (by rfl)).q ?_ | refine l_g (j := 2) rfl rfl (by decide) (r_loadoa Tryd.underlying25 rfl inf_25 rfl (by repeat constructor) (by rfl) (fun j u h => h)).q ?_
  first | refine l_g (j := 2) rfl rfl (by decide) (p_faddr (i := 1) 1 Tryd.underlying25 rfl inf_23 (by decide) rfl rfl).q ?_ | refine l_g (j := 2) rfl rfl (by decide) (p_faddro (i := 1) 1 Tryd.underlying25 rfl inf_23 (by decide) rfl rfl).q ?_
  first | refine l_g (j := 2) rfl rfl (by decide) (r_loado Tryd.underlying23 rfl rfl (by repeat constructor) (by rfl)).q ?_ | refine l_g (j := 2) rfl rfl (by decide) (r_load1 Tryd.underlying23 rfl rfl (by first | exact .fact (by repeat constructor) | exact .own (by repeat constructor) (by decide) (fun _ => rfl) | exact SlIn.reads (by repeat constructor) (by assumption)) (by first | assumption | rfl) (by rfl)).q ?_ | refine l_g (j := 2) rfl rfl (by decide) (r_loadf Tryd.underlying23 rfl rfl (by first | exact .fact (by repeat constructor) | exact .own (by repeat constructor) (by decide) (fun _ => rfl) | exact SlIn.reads (by repeat constructor) (by assumption)) (by assumption) (by rfl)).q ?_
  refine l_g (j := 2) rfl rfl (by decide) (p_len_sl Tryd.underlying23 rfl).q ?_
  refine l_g (j := 2) rfl rfl (by decide) (q_call call_28 rfl (fun w hs => valid_ok X hX w (X.of hs (by repeat constructor) (by repeat constructor) (by repeat constructor)))) ?_
  refine l_q (by decide) (p_pick rfl rfl).q ?_
  refine l_q (by decide) (p_assign rfl).q ?_
  refine l_nil ?_
  refine c_ret ?_
  refine c_ret1 rfl rfl (fun w hs => ?_)
  refine ⟨?_, hs.ext⟩
  by_cases hv : X.xs.length ≤ 60 ∧ Ed.Okin X.pl
  · rw [dec_true hv, dec_true (p := Fair X) ⟨of_dec h5, hv⟩]
  · rw [dec_false hv, dec_false (fun h => hv h.2)]
 ·skip
  refine l_off (j := 2) rfl rfl (by first | (simp; done) | (simp [undef]; done)) (by decide) ?_
  refine l_off (j := 2) rfl rfl (by first | (simp; done) | (simp [undef]; done)) (by decide) ?_
  refine l_off (j := 2) rfl rfl (by first | (simp; done) | (simp [undef]; done)) (by decide) ?_
  refine l_off (j := 2) rfl rfl (by first | (simp; done) | (simp [undef]; done)) (by decide) ?_
  refine l_off (j := 2) rfl rfl (by first | (simp; done) | (simp [undef]; done)) (by decide) ?_
  refine l_q (by decide) (p_pick rfl rfl).q ?_
  refine l_q (by decide) (p_assign rfl).q ?_
  refine l_nil ?_
  refine c_ret ?_
  refine c_ret1 rfl rfl (fun w hs => ?_)
  exact ⟨by rw [dec_false (fun h : Fair X => by rw [dec_true h.1] at h5; cases h5)], hs.ext⟩
end Go.Proofs.YtlefheiohblgdaaDoor
