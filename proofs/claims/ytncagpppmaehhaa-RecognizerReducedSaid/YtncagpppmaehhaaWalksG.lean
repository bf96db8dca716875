/- The walks of the recognizer, seventh part; conditions: lengths. -/
import Derived.Test.YtncagpppmaehhaaWalksF
import Derived.Test.YtncagpppmaehhaaWalksV
namespace Go.Proofs.Ytncagpppmaehhaa
open Go Go.Fx Go.Proofs

structure May (X : GI) (s : List Int) (m : Nat) : Prop where
  few : Few X 20
  val : validB X = true
  len : s.length ≤ m
theorem May.ok2 {X : GI} {s : List Int} {m : Nat} (h : May X s m) : Ana.Ok2 X.g := (valid_okv h.val).ok2 h.few
theorem call_21 : Callable Try.prog 21 := ⟨_, Try.func21, by kernel_rfl, rfl⟩
theorem call_22 : Callable Try.prog 22 := ⟨_, Try.func22, by kernel_rfl, rfl⟩
theorem may_ok (X : GI) (hX : X.small) (A : Option Addr) (c : Nat) (s : List Int) (hl : s.length ≤ 140737488355328) (mx : Nat) (hmx : mx ≤ 1000) (w : World) (hM : X.mem w) :
   Calls Try.prog 10 #[.agg #[.slice X.At X.terms.length X.ct, .slice X.An X.nts.length X.cn, .int .i64 X.start, .slice X.Ar X.xs.length X.cr], .slice A s.length c, .int .i64 (mx : Int)] w (Ret fun v w' => ∃ x : BW (May X s mx), v = .bool x.1 ∧ True ∧ Dep w.heap.size w'.heap.size (fun _ => True) ∧ Ext [] w w') := by
 refine calls_fx (l := [.agg #[.slice X.At X.terms.length X.ct, .slice X.An X.nts.length X.cn, .int .i64 X.start, .slice X.Ar X.xs.length X.cr], .slice A s.length c, .int .i64 (mx : Int)]) Try.func10 rfl Try.ntmps10 (Nat.le_of_ble_eq_true rfl) (X.begin hM) ?_
 refine c_seq ?_
 refine c_reg ?_
 refine l_box (by decide) rfl _ rfl (fun b3 => ?_)
 refine l_q (by decide) (p_assign rfl).q ?_
 refine l_nil ?_
 refine c_seq ?_
 refine c_reg ?_
 first | refine l_q (by decide) (r_loada Try.underlying25 rfl inf_25 rfl (by first | exact .fact (by repeat constructor) | exact .own (by repeat constructor) (by decide) (fun _ => rfl) | exact SlIn.body (by repeat constructor) (by assumption)) (by assumption)).q ?_ | refine l_q (by decide) (r_loadow Try.underlying25 rfl inf_25 rfl (by repeat constructor) (by rfl)).q ?_ | refine l_q (by decide) (r_loadoa Try.underlying25 rfl inf_25 rfl (by repeat constructor) (by rfl) (fun j u h => h)).q ?_
 refine l_call (X := BW (Few X 20)) (fun x => .bool x.1) (fun _ _ => True) (by decide) call_21 rfl (fun w hs => few_ok X hX 20 (by omega) w (GI.of hs (by repeat constructor) (by repeat constructor) (by repeat constructor) (by repeat constructor))) (fun x8 => ?_)
 refine l_q (by decide) (p_move rfl).q ?_
 first | refine l_splitd (t := 9) rfl (fun h9 => ?_) (fun h9 => ?_) | refine l_splitb (t := 9) rfl (fun h9 => ?_) (fun h9 => ?_)
 ·skip
  first | refine l_g (j := 2) rfl rfl (by decide) (r_loada Try.underlying25 rfl inf_25 rfl (by first | exact .fact (by repeat constructor) | exact .own (by repeat constructor) (by decide) (fun _ => rfl) | exact SlIn.body (by repeat constructor) (by assumption)) (by assumption)).q ?_ | refine l_g (j := 2) rfl rfl (by decide) (r_loadow Try.underlying25 rfl inf_25 rfl (by repeat constructor) (by rfl)).q ?_ | refine l_g (j := 2) rfl rfl (by decide) (r_loadoa Try.underlying25 rfl inf_25 rfl (by repeat constructor) (by rfl) (fun j u h => h)).q ?_
  refine l_g (j := 2) rfl rfl (by decide) (q_call call_22 rfl (fun w hs => valid_eq X hX w (GI.of hs (by repeat constructor) (by repeat constructor) (by repeat constructor) (by repeat constructor)))) ?_
  refine l_q (by decide) (p_pick rfl rfl).q ?_
  refine l_q (by decide) (p_move rfl).q ?_
  first | refine l_splitd (t := 13) rfl (fun h13 => ?_) (fun h13 => ?_) | refine l_splitb (t := 13) rfl (fun h13 => ?_) (fun h13 => ?_)
  ·skip
   refine l_g (j := 6) rfl rfl (by decide) (p_move rfl).q ?_
   refine l_g (j := 6) rfl rfl (by decide) (p_len_sl Try.underlying26 rfl).q ?_
   refine l_g (j := 6) rfl rfl (by decide) (p_move rfl).q ?_
   first | refine l_g (j := 6) rfl rfl (by decide) (p_leq rfl rfl rfl rfl).q ?_ | refine l_g (j := 6) rfl rfl (by decide) (p_leqi rfl rfl).q ?_
   refine l_q (by decide) (p_pick rfl rfl).q ?_
   refine l_q (by decide) (p_assign rfl).q ?_
   refine l_nil ?_
   refine c_ret ?_
   refine c_ret1 rfl rfl (fun w hs => ?_)
   exact ⟨⟨_, fun h => ⟨x8.2 (by assumption), by assumption, of_decide_eq_true h⟩⟩, rfl, trivial, fun _ _ _ h => h, hs.ext⟩
  ·skip
   refine l_off (j := 6) rfl rfl (by first | (simp; done) | (simp [undef]; done)) (by decide) ?_
   refine l_off (j := 6) rfl rfl (by first | (simp; done) | (simp [undef]; done)) (by decide) ?_
   refine l_off (j := 6) rfl rfl (by first | (simp; done) | (simp [undef]; done)) (by decide) ?_
   refine l_off (j := 6) rfl rfl (by first | (simp; done) | (simp [undef]; done)) (by decide) ?_
   refine l_q (by decide) (p_pick rfl rfl).q ?_
   refine l_q (by decide) (p_assign rfl).q ?_
   refine l_nil ?_
   refine c_ret ?_
   refine c_ret1 rfl rfl (fun w hs => ?_)
   exact ⟨⟨false, fun h => by cases h⟩, rfl, trivial, fun _ _ _ h => h, hs.ext⟩
 ·skip
  refine l_off (j := 2) rfl rfl (by first | (simp; done) | (simp [undef]; done)) (by decide) ?_
  refine l_off (j := 2) rfl rfl (by first | (simp; done) | (simp [undef]; done)) (by decide) ?_
  refine l_q (by decide) (p_pick rfl rfl).q ?_
  refine l_q (by decide) (p_move rfl).q ?_
  refine l_off (j := 6) rfl rfl (by first | (simp; done) | (simp [undef]; done)) (by decide) ?_
  refine l_off (j := 6) rfl rfl (by first | (simp; done) | (simp [undef]; done)) (by decide) ?_
  refine l_off (j := 6) rfl rfl (by first | (simp; done) | (simp [undef]; done)) (by decide) ?_
  refine l_off (j := 6) rfl rfl (by first | (simp; done) | (simp [undef]; done)) (by decide) ?_
  refine l_q (by decide) (p_pick rfl rfl).q ?_
  refine l_q (by decide) (p_assign rfl).q ?_
  refine l_nil ?_
  refine c_ret ?_
  refine c_ret1 rfl rfl (fun w hs => ?_)
  exact ⟨⟨false, fun h => by cases h⟩, rfl, trivial, fun _ _ _ h => h, hs.ext⟩
end Go.Proofs.Ytncagpppmaehhaa
