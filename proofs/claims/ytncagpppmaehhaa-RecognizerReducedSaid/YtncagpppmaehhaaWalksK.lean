/- The walks of the recognizer, eleventh part (Recognize of the reference); conditions: lengths. -/
import Derived.Test.YtncagpppmaehhaaWalksJ
namespace Go.Proofs.Ytncagpppmaehhaa
open Go Go.Fx Go.Proofs

open Go.Proofs.Rec
noncomputable def sentB (g : Ana.Gr) (s : List Int) : Bool := Ana.dec (Sent g s)
theorem sent_known {X : GI} (ok : Ana.Ok2 X.g) {s : List Int} (h : Sent X.g s) : knownB X s = true := by
  unfold knownB
  refine List.all_eq_true.2 fun t ht => ?_
  have h0 := der_terms h t ht
  have hst := ok.s0
  have h1 := der_range (n := X.g.t) (fun r hr x hx => ok.b1 r hr x hx) h (fun x hx => by rw [List.mem_singleton.1 hx]; omega) t ht
  have h1 : t < (X.terms.length : Int) := h1
  simp only [Bool.and_eq_true, decide_eq_true_eq]
  omega
theorem sent_table {X : GI} (ok : Ana.Ok2 X.g) {s : List Int} : dr X.g s X.g.start.toNat 0 s.length = sentB X.g s := by
  unfold dr sentB
  refine Ana.eq_dec ?_
  rw [Ana.dec_iff]
  unfold Sent
  have hst := ok.s0
  rw [part_zero, List.take_length, show -1 - ((X.g.start.toNat : Nat) : Int) = -1 - X.g.start by omega]
  exact ⟨fun h => h.2.2, fun h => ⟨Nat.zero_le _, Nat.le_refl _, h⟩⟩
theorem sent_unknown {X : GI} (ok : Ana.Ok2 X.g) {s : List Int} (h : knownB X s = false) : sentB X.g s = false := Ana.dec_false fun hs => by
  rw [sent_known ok hs] at h; cases h
theorem call_25 : Callable Try.prog 25 := ⟨_, Try.func25, by kernel_rfl, rfl⟩
theorem call_26 : Callable Try.prog 26 := ⟨_, Try.func26, by kernel_rfl, rfl⟩
theorem call_28 : Callable Try.prog 28 := ⟨_, Try.func28, by kernel_rfl, rfl⟩
theorem rrec_ok (X : GI) (hX : X.small) (As : Option Addr) (cs : Nat) (s : List Int) (hsl : s.length ≤ 900) (w : World) (hM : X.mem w) (ok : Ana.Ok2 X.g) (hp : Sl 1 intF As s w) :
   Calls Try.prog 13 #[.agg #[.slice X.At X.terms.length X.ct, .slice X.An X.nts.length X.cn, .int .i64 X.start, .slice X.Ar X.xs.length X.cr], .slice As s.length cs] w (Ret fun v w' => v = .bool (sentB X.g s) ∧ Ext [] w w') := by
 have hnl := ok.nl
 have hnn : X.nts.length ≤ 16 := hnl
 refine calls_fx (l := [.agg #[.slice X.At X.terms.length X.ct, .slice X.An X.nts.length X.cn, .int .i64 X.start, .slice X.Ar X.xs.length X.cr], .slice As s.length cs]) Try.func13 rfl Try.ntmps13 (Nat.le_of_ble_eq_true rfl) ((X.begin hM).old hp (dep_sl (by decide) hp)) ?_
 refine c_seq ?_
 refine c_reg ?_
 refine l_box (by decide) rfl _ rfl (fun b2 => ?_)
 refine l_q (by decide) (p_assign rfl).q ?_
 refine l_nil ?_
 refine c_seq ?_
 have hst1 : ((X.g.start.toNat : Nat) : Int) = X.start := by have := ok.s0; show ((X.start.toNat : Nat) : Int) = _; have h : 0 ≤ X.start := this; omega
 have hst2 : X.g.start.toNat < X.nts.length := by have h0 : 0 ≤ X.start := ok.s0; have h1 : X.start < (X.nts.length : Int) := ok.s1; show X.start.toNat < X.nts.length; omega
 refine m_draw [] mixed ?_
 refine m_take 0 rfl (by kernel_rfl) (by decide) (by exact (List.Perm.refl _ : List.Perm _ ([] ++ _))) (by exact fun _ h => h) (r_loadow Try.underlying25 rfl inf_25 rfl (by repeat constructor) (by rfl)).r ?_
 refine m_takep 1 rfl (by kernel_rfl) (by decide) (p_move rfl) ?_
 refine m_run 2 rfl (by kernel_rfl) ?_
 refine l_q (by decide) (q_call call_25 rfl (fun w hs => known_ok X As cs s (by omega) w (GI.of hs (by repeat constructor) (by repeat constructor) (by repeat constructor) (by repeat constructor)) (hs.facts (Sl 1 intF As s) (by repeat constructor)).1)) ?_
 refine l_nil ?_
 refine m_next _ (by exact (List.Perm.refl _ : List.Perm _ ([] ++ _))) (by exact fun _ h => h) ?_
 refine m_takep 3 rfl (by kernel_rfl) (by decide) (p_move rfl) ?_
 refine c_splitb (t := 8) rfl (fun h8 => ?_) (fun h8 => ?_)
 ·skip
  refine m_takeg 4 (j := 3) rfl (by kernel_rfl) rfl rfl (by decide) (by exact (List.Perm.refl _ : List.Perm _ ([] ++ _))) (by exact fun _ h => h) (r_loadow Try.underlying25 rfl inf_25 rfl (by repeat constructor) (by rfl)).r ?_
  refine m_takegp 5 (j := 3) rfl (by kernel_rfl) rfl rfl (by decide) (p_move rfl) ?_
  refine m_takegp 7 (j := 3) rfl (by kernel_rfl) rfl rfl (by decide) (p_faddro (i := 2) 2 Try.underlying25 rfl inf_3 (by decide) rfl rfl) ?_
  refine m_takeg 8 (j := 3) rfl (by kernel_rfl) rfl rfl (by decide) (by exact (List.Perm.refl _ : List.Perm _ ([] ++ _))) (by exact fun _ h => h) (((r_loado Try.underlying3 rfl rfl (by repeat constructor) (by rfl))).to (u := .int .i64 ((X.g.start.toNat : Nat) : Int)) (by rw [hst1])).r ?_
  refine m_takegp 13 (j := 3) rfl (by kernel_rfl) rfl rfl (by decide) (p_move rfl) ?_
  refine m_takegp 14 (j := 3) rfl (by kernel_rfl) rfl rfl (by decide) (p_len_sl Try.underlying26 rfl) ?_
  refine m_run 6 rfl (by kernel_rfl) ?_
  refine l_strip (j := 3) rfl rfl ?_
  refine l_call (X := Nat × NF × NF) (fun x => .slice (some ⟨x.1, 0, none⟩) X.nts.length X.nts.length) (fun x => TM X.nts.length (s.length + 1) x.1 x.2.1 x.2.2 (dr X.g s)) (by decide) call_26 rfl (fun w hs => derives_ok X hX As cs s hsl w (GI.of hs (by repeat constructor) (by repeat constructor) (by repeat constructor) (by repeat constructor)) ok (hs.facts (Sl 1 intF As s) (by repeat constructor)).1) (fun xt => ?_)
  refine l_nil ?_
  refine m_next _ (by exact (List.Perm.refl _ : List.Perm _ ([] ++ _))) (by exact fun _ h => List.mem_cons_of_mem _ h) ?_
  refine m_takegp 9 (j := 3) rfl (by kernel_rfl) rfl rfl (by decide) (p_indexo Try.underlying44 inf_43 rfl rfl rfl (by omega)) ?_
  refine m_run 10 rfl (by kernel_rfl) ?_
  refine l_strip (j := 3) rfl rfl ?_
  refine l_q (by decide) (r_loadq (q := TM X.nts.length (s.length + 1) xt.1 xt.2.1 xt.2.2 (dr X.g s)) Try.underlying43 rfl rfl (by repeat constructor) (fun w h => tm_top h hst2)).q ?_
  refine l_nil ?_
  refine m_next _ (by exact (List.Perm.refl _ : List.Perm _ ([] ++ _))) (by exact fun _ h => List.mem_cons_of_mem _ h) ?_
  refine m_takegp 11 (j := 3) rfl (by kernel_rfl) rfl rfl (by decide) (p_indexo (j := 0) Try.underlying43 inf_42 rfl rfl rfl (by omega)) ?_
  refine m_run 12 rfl (by kernel_rfl) ?_
  refine l_strip (j := 3) rfl rfl ?_
  refine l_q (by decide) (r_loadq (q := TM X.nts.length (s.length + 1) xt.1 xt.2.1 xt.2.2 (dr X.g s)) Try.underlying42 rfl rfl (by repeat constructor) (fun w h => tm_mid h hst2 (Nat.zero_lt_succ _))).q ?_
  refine l_nil ?_
  refine m_next _ (by exact (List.Perm.refl _ : List.Perm _ ([] ++ _))) (by exact fun _ h => List.mem_cons_of_mem _ h) ?_
  refine m_takegp 15 (j := 3) rfl (by kernel_rfl) rfl rfl (by decide) (p_indexo Try.underlying42 inf_4 rfl rfl rfl (by omega)) ?_
  refine m_run 16 rfl (by kernel_rfl) ?_
  refine l_strip (j := 3) rfl rfl ?_
  refine l_q (by decide) (r_loadq (q := TM X.nts.length (s.length + 1) xt.1 xt.2.1 xt.2.2 (dr X.g s)) Try.underlying4 rfl rfl (by repeat constructor) (fun w h => tm_row h hst2 (Nat.zero_lt_succ _) (Nat.lt_succ_self _))).q ?_
  refine l_nil ?_
  refine m_next _ (by exact (List.Perm.refl _ : List.Perm _ ([] ++ _))) (by exact fun _ h => List.mem_cons_of_mem _ h) ?_
  refine m_takep 17 rfl (by kernel_rfl) (by decide) (p_pick rfl rfl) ?_
  refine m_takep 18 rfl (by kernel_rfl) (by decide) (p_assign rfl) ?_
  refine m_done (by kernel_rfl) ?_
  refine c_ret ?_
  refine c_ret1 rfl rfl (fun w hs => ?_)
  exact ⟨by rw [sent_table ok], hs.ext⟩
 ·skip
  refine m_off 4 (j := 3) rfl (by kernel_rfl) rfl rfl (by (simp; done)) (by decide) ?_
  refine m_off 5 (j := 3) rfl (by kernel_rfl) rfl rfl (by (simp; done)) (by decide) ?_
  refine m_off 7 (j := 3) rfl (by kernel_rfl) rfl rfl (by (simp; done)) (by decide) ?_
  refine m_off 8 (j := 3) rfl (by kernel_rfl) rfl rfl (by (simp; done)) (by decide) ?_
  refine m_off 13 (j := 3) rfl (by kernel_rfl) rfl rfl (by (simp; done)) (by decide) ?_
  refine m_off 14 (j := 3) rfl (by kernel_rfl) rfl rfl (by (simp; done)) (by decide) ?_
  refine m_off 6 (j := 3) rfl (by kernel_rfl) rfl rfl (by (simp; done)) (by decide) ?_
  refine m_off 9 (j := 3) rfl (by kernel_rfl) rfl rfl (by (simp; done)) (by decide) ?_
  refine m_off 10 (j := 3) rfl (by kernel_rfl) rfl rfl (by (simp; done)) (by decide) ?_
  refine m_off 11 (j := 3) rfl (by kernel_rfl) rfl rfl (by (simp; done)) (by decide) ?_
  refine m_off 12 (j := 3) rfl (by kernel_rfl) rfl rfl (by (simp; done)) (by decide) ?_
  refine m_off 15 (j := 3) rfl (by kernel_rfl) rfl rfl (by (simp; done)) (by decide) ?_
  refine m_off 16 (j := 3) rfl (by kernel_rfl) rfl rfl (by (simp; done)) (by decide) ?_
  refine m_takep 17 rfl (by kernel_rfl) (by decide) (p_pick rfl rfl) ?_
  refine m_takep 18 rfl (by kernel_rfl) (by decide) (p_assign rfl) ?_
  refine m_done (by kernel_rfl) ?_
  refine c_ret ?_
  refine c_ret1 rfl rfl (fun w hs => ?_)
  exact ⟨by rw [sent_unknown ok h8], hs.ext⟩
end Go.Proofs.Ytncagpppmaehhaa
