/- The walks of the recognizer, fifteenth part (Expected of the reference); conditions: lengths. -/
import Derived.Test.YtncagpppmaehhaaWalksN
namespace Go.Proofs.Ytncagpppmaehhaa
open Go Go.Fx Go.Proofs

open Go.Proofs.Rec
noncomputable def expL (g : Ana.Gr) (s : List Int) (n : Nat) : List Int := ((List.range n).filter (fun t => viaB g (s ++ [((t : Nat) : Int)]))).map (fun t => ((t : Nat) : Int))
theorem expL_yes {g : Ana.Gr} {s : List Int} {n : Nat} (h : viaB g (s ++ [((n : Nat) : Int)]) = true) : expL g s (n + 1) = expL g s n ++ [((n : Nat) : Int)] := by
  unfold expL
  rw [List.range_succ, List.filter_append, List.map_append, List.filter_cons, if_pos h]; rfl
theorem expL_no {g : Ana.Gr} {s : List Int} {n : Nat} (h : viaB g (s ++ [((n : Nat) : Int)]) = false) : expL g s (n + 1) = expL g s n := by
  unfold expL
  rw [List.range_succ, List.filter_append, List.map_append, List.filter_cons, if_neg (by rw [h]; decide)]; simp
theorem expL_len (g : Ana.Gr) (s : List Int) (n : Nat) : (expL g s n).length ≤ n := by
  unfold expL
  rw [List.length_map]
  have := List.length_filter_le (fun t => viaB g (s ++ [((t : Nat) : Int)])) (List.range n)
  rwa [List.length_range] at this
def ExpR (X : GI) (s : List Int) (w w' : World) (v : Value) : Prop := ∃ x : Option Addr × Nat, v = .tuple #[.slice x.1 (expL X.g s X.terms.length).length x.2, .bool (sentB X.g s)] ∧ Sl 1 intF x.1 (expL X.g s X.terms.length) w' ∧ Dep w.heap.size w'.heap.size (Sl 1 intF x.1 (expL X.g s X.terms.length)) ∧ Ext [] w w'
theorem call_13 : Callable Try.prog 13 := ⟨_, Try.func13, by kernel_rfl, rfl⟩
theorem call_15 : Callable Try.prog 15 := ⟨_, Try.func15, by kernel_rfl, rfl⟩
theorem rexp_ok (X : GI) (hX : X.small) (As : Option Addr) (cs : Nat) (s : List Int) (hsl : s.length ≤ 800) (w : World) (hM : X.mem w) (ok : Ana.Ok2 X.g) (hv : validB X = true) (hp : Sl 1 intF As s w) :
   Calls Try.prog 17 #[.agg #[.slice X.At X.terms.length X.ct, .slice X.An X.nts.length X.cn, .int .i64 X.start, .slice X.Ar X.xs.length X.cr], .slice As s.length cs] w (Ret fun v w' => ExpR X s w w' v) := by
 have htl : X.terms.length ≤ 12 := ok.tl
 refine calls_fx (l := [.agg #[.slice X.At X.terms.length X.ct, .slice X.An X.nts.length X.cn, .int .i64 X.start, .slice X.Ar X.xs.length X.cr], .slice As s.length cs]) Try.func17 rfl Try.ntmps17 (Nat.le_of_ble_eq_true rfl) ((X.begin hM).old hp (dep_sl (by decide) hp)) ?_
 refine c_seq ?_
 refine c_reg ?_
 refine l_box (by decide) rfl _ rfl (fun b2 => ?_)
 refine l_q (by decide) (p_assign rfl).q ?_
 refine l_q (by decide) (p_assign rfl).q ?_
 refine l_nil ?_
 refine c_seq ?_
 refine c_reg ?_
 refine l_q (by decide) (p_assign rfl).q ?_
 refine l_nil ?_
 refine c_seq ?_
 refine c_seq ?_
 refine c_reg ?_
 refine l_q (by decide) (p_assign (v := .int .i64 ((0 : Nat) : Int)) rfl).q ?_
 refine l_nil ?_
 refine c_block ?_
 refine c_sl0 3 1 intF ?_
 refine c_loop (S := Nat × Option Addr × Nat) (fun zs => zs.1 ≤ X.terms.length) (fun zs => X.terms.length - zs.1) (fun zs => [(1, .slice As s.length cs), (2, .pointer (some ⟨b2, 0, none⟩)), (6, .slice zs.2.1 (expL X.g s zs.1).length zs.2.2), (7, .int .i64 (zs.1 : Int))]) (fun zs => [iSl 3 1 intF zs.2.1 zs.2.2 (expL X.g s zs.1), iCells b2 25 [.slice X.At X.terms.length X.ct, .slice X.An X.nts.length X.cn, .int .i64 X.start, .slice X.Ar X.xs.length X.cr]]) (fun zs => (Sl 1 intF As s :: [Bd X.xs, Sl 3 ruF X.Ar X.xs, Sl 1 strF X.An X.nts, Sl 1 strF X.At X.terms])) (0, none, 0) ?_ ?_ ?_ ?_ ?_
 · show (0) ≤ X.terms.length
   exact Nat.zero_le _
 · exact ⟨rfl, rfl, rfl, rfl, trivial⟩
 · exact .refl _
 · exact fun _ h => h
 rintro ⟨k, A, c⟩ hinv
 have hinv : k ≤ X.terms.length := hinv
 have hk := hinv
 show Cont _ _ _ _ [(1, .slice As s.length cs), (2, .pointer (some ⟨b2, 0, none⟩)), (6, .slice A (expL X.g s k).length c), (7, .int .i64 (k : Int))] ([iSl 3 1 intF A c (expL X.g s k), iCells b2 25 [.slice X.At X.terms.length X.ct, .slice X.An X.nts.length X.cn, .int .i64 X.start, .slice X.Ar X.xs.length X.cr]]) (Sl 1 intF As s :: [Bd X.xs, Sl 3 ruF X.Ar X.xs, Sl 1 strF X.An X.nts, Sl 1 strF X.At X.terms])
 refine c_seq ?_
 refine c_seq ?_
 refine c_reg ?_
 refine l_q (by decide) (p_move rfl).q ?_
 refine l_q (by decide) (p_faddro (i := 0) 0 Try.underlying25 rfl inf_22 (by decide) rfl rfl).q ?_
 refine l_q (by decide) (r_loado Try.underlying22 rfl rfl (by repeat constructor) (by rfl)).q ?_
 refine l_q (by decide) (p_len_sl Try.underlying22 rfl).q ?_
 refine l_q (by decide) (p_lss rfl rfl rfl rfl).q ?_
 refine l_nil ?_
 refine c_dec rfl (fun h12 => ?_) (fun h12 => ?_)
 ·skip
  refine c_skip ?_
  refine c_seq ?_
  refine c_block ?_
  refine c_seq ?_
  refine m_draw [] mixed ?_
  refine m_take 0 rfl (by kernel_rfl) (by decide) (by exact (List.Perm.refl _ : List.Perm _ ([] ++ _))) (by exact fun _ h => h) (r_loadow Try.underlying25 rfl inf_25 rfl (by repeat constructor) (by rfl)).r ?_
  refine m_takep 2 rfl (by kernel_rfl) (by decide) (p_move rfl) ?_
  refine m_takep 4 rfl (by kernel_rfl) (by decide) (p_move rfl) ?_
  refine m_two 1 5 rfl rfl (by kernel_rfl) ?_ ?_
  ·skip
   refine l_buildSlice0 (by decide) Try.underlying26 inf_3 (fun b16 => ?_)
   refine l_nil ?_
   refine m_next _ (by exact (List.Perm.refl _ : List.Perm _ ([_] ++ _))) (by exact fun _ h => h) ?_
   refine m_two 3 5 rfl rfl (by kernel_rfl) ?_ ?_
   ·skip
    (refine l_rowc (e := 3) (size := 1) intF [] rfl rfl (by decide) ?_; refine l_appendsl (f := intF) s (by decide) Try.underlying26 inf_3 rfl (by decide) rfl rfl rfl rfl (by repeat constructor) (fun e u h => by rw [List.mem_singleton.1 h]; rfl) (by simp only [List.length_nil]; omega) (by simp only [List.length_nil]; omega) (fun A18 c18 => ?_))
    refine l_nil ?_
    refine m_next _ (by exact (List.Perm.refl _ : List.Perm _ ([_] ++ _))) (by exact fun _ h => h) ?_
    refine m_run 5 rfl (by kernel_rfl) ?_
    refine l_buildSlice (by decide) Try.underlying26 inf_3 (by decide) (by decide) rfl rfl rfl rfl (fun b20 => ?_)
    refine l_nil ?_
    refine m_next _ (by exact (List.Perm.refl _ : List.Perm _ ([_, _] ++ _))) (by exact fun _ h => h) ?_
    refine m_run 6 rfl (by kernel_rfl) ?_
    (refine l_append1 (((k : Nat) : Int)) (by decide) Try.underlying26 inf_3 rfl (by decide) rfl rfl rfl rfl rfl rfl (by simp only [List.length_append, List.length_nil]; omega) (by simp only [List.length_append, List.length_nil]; omega) (fun A21 c21 hA21 => ?_))
    refine l_nil ?_
    refine m_next _ (by exact (List.Perm.refl _ : List.Perm _ ([_] ++ _))) (by exact fun _ h => h) ?_
    refine m_run 7 rfl (by kernel_rfl) ?_
    refine l_q (by decide) (q_call call_15 rfl (fun w hs => rvia_ok X hX A21 c21 (([] ++ s) ++ [((k : Nat) : Int)]) (by simp; omega) w (GI.of hs (by repeat constructor) (by repeat constructor) (by repeat constructor) (by repeat constructor)) ok hv (SlIn.own (e := 3) (size := 1) (f := intF) (A := A21) (c := c21) (by repeat constructor) (by decide) (fun _ => rfl) w hs))) ?_
    refine l_nil ?_
    refine m_next _ (by exact (List.Perm.refl _ : List.Perm _ ([_] ++ _))) (by exact fun _ h => h) ?_
    refine m_done (by kernel_rfl) ?_
    refine c_cond rfl (fun h22 => ?_) (fun h22 => ?_)
    ·skip
     have h22 : viaB X.g (s ++ [((k : Nat) : Int)]) = true := h22
     refine c_drop ?_
     refine c_reg ?_
     refine l_q (by decide) (p_move rfl).q ?_
     refine l_q (by decide) (p_move rfl).q ?_
     refine l_buildSlice (by decide) Try.underlying26 inf_3 (by decide) (by decide) rfl rfl rfl rfl (fun b25 => ?_)
     (refine l_append1 (((k : Nat) : Int)) (by decide) Try.underlying26 inf_3 rfl (by decide) rfl rfl rfl rfl rfl rfl (by have := expL_len X.g s k; omega) (by have := expL_len X.g s k; omega) (fun A26 c26 hA26 => ?_))
     refine l_q (by decide) (p_assign rfl).q ?_
     refine l_nil ?_
     refine c_reg ?_
     refine l_q (by decide) (p_move rfl).q ?_
     refine l_q (by decide) (p_add (j := 1) rfl rfl rfl rfl (by show _ ≤ (9223372036854775807 : Nat); omega)).q ?_
     refine l_q (by decide) (p_assign rfl).q ?_
     refine l_nil ?_
     refine c_join ((k + 1), (A26), (c26)) ?_ ?_ ?_ ?_
     ·show ((k + 1) ≤ X.terms.length) ∧ X.terms.length - (k + 1) < X.terms.length - k
      exact ⟨by omega, by omega⟩
     · exact ⟨rfl, rfl, (by show some (Value.slice A26 (expL X.g s k ++ [((k : Nat) : Int)]).length c26) = some (Value.slice A26 (expL X.g s (k + 1)).length c26); rw [expL_yes h22]), rfl, trivial⟩
     ·show List.Perm _ ([iSl 3 1 intF (A26) (c26) (expL X.g s (k + 1)), iCells b2 25 [.slice X.At X.terms.length X.ct, .slice X.An X.nts.length X.cn, .int .i64 X.start, .slice X.Ar X.xs.length X.cr]])
      rw [expL_yes h22]
     · exact fun _ h => h
    ·skip
     have h22 : viaB X.g (s ++ [((k : Nat) : Int)]) = false := h22
     refine c_drop ?_
     refine c_skip ?_
     refine c_reg ?_
     refine l_q (by decide) (p_move rfl).q ?_
     refine l_q (by decide) (p_add (j := 1) rfl rfl rfl rfl (by show _ ≤ (9223372036854775807 : Nat); omega)).q ?_
     refine l_q (by decide) (p_assign rfl).q ?_
     refine l_nil ?_
     refine c_join ((k + 1), (A), (c)) ?_ ?_ ?_ ?_
     ·show ((k + 1) ≤ X.terms.length) ∧ X.terms.length - (k + 1) < X.terms.length - k
      exact ⟨by omega, by omega⟩
     · exact ⟨rfl, rfl, (by show some (Value.slice A (expL X.g s k).length c) = some (Value.slice A (expL X.g s (k + 1)).length c); rw [expL_no h22]), rfl, trivial⟩
     ·show List.Perm _ ([iSl 3 1 intF (A) (c) (expL X.g s (k + 1)), iCells b2 25 [.slice X.At X.terms.length X.ct, .slice X.An X.nts.length X.cn, .int .i64 X.start, .slice X.Ar X.xs.length X.cr]])
      rw [expL_no h22]
     · exact fun _ h => h
   ·skip
    refine l_buildSlice (by decide) Try.underlying26 inf_3 (by decide) (by decide) rfl rfl rfl rfl (fun b20 => ?_)
    refine l_nil ?_
    refine m_next _ (by exact (List.Perm.refl _ : List.Perm _ ([_, _] ++ _))) (by exact fun _ h => h) ?_
    refine m_run 3 rfl (by kernel_rfl) ?_
    (refine l_perm (front1 _ _ _) ?_; refine l_rowc (e := 3) (size := 1) intF [] rfl rfl (by decide) ?_; refine l_appendsl (f := intF) s (by decide) Try.underlying26 inf_3 rfl (by decide) rfl rfl rfl rfl (by repeat constructor) (fun e u h => by rw [List.mem_singleton.1 h]; rfl) (by simp only [List.length_nil]; omega) (by simp only [List.length_nil]; omega) (fun A18 c18 => ?_))
    refine l_nil ?_
    refine m_next _ (by exact (List.Perm.refl _ : List.Perm _ ([_, _] ++ _))) (by exact fun _ h => h) ?_
    refine m_run 6 rfl (by kernel_rfl) ?_
    (refine l_perm (front1 _ _ _) ?_; refine l_append1 (((k : Nat) : Int)) (by decide) Try.underlying26 inf_3 rfl (by decide) rfl rfl rfl rfl rfl rfl (by simp only [List.length_append, List.length_nil]; omega) (by simp only [List.length_append, List.length_nil]; omega) (fun A21 c21 hA21 => ?_))
    refine l_nil ?_
    refine m_next _ (by exact (List.Perm.refl _ : List.Perm _ ([_] ++ _))) (by exact fun _ h => h) ?_
    refine m_run 7 rfl (by kernel_rfl) ?_
    refine l_q (by decide) (q_call call_15 rfl (fun w hs => rvia_ok X hX A21 c21 (([] ++ s) ++ [((k : Nat) : Int)]) (by simp; omega) w (GI.of hs (by repeat constructor) (by repeat constructor) (by repeat constructor) (by repeat constructor)) ok hv (SlIn.own (e := 3) (size := 1) (f := intF) (A := A21) (c := c21) (by repeat constructor) (by decide) (fun _ => rfl) w hs))) ?_
    refine l_nil ?_
    refine m_next _ (by exact (List.Perm.refl _ : List.Perm _ ([_] ++ _))) (by exact fun _ h => h) ?_
    refine m_done (by kernel_rfl) ?_
    refine c_cond rfl (fun h22 => ?_) (fun h22 => ?_)
    ·skip
     have h22 : viaB X.g (s ++ [((k : Nat) : Int)]) = true := h22
     refine c_drop ?_
     refine c_reg ?_
     refine l_q (by decide) (p_move rfl).q ?_
     refine l_q (by decide) (p_move rfl).q ?_
     refine l_buildSlice (by decide) Try.underlying26 inf_3 (by decide) (by decide) rfl rfl rfl rfl (fun b25 => ?_)
     (refine l_append1 (((k : Nat) : Int)) (by decide) Try.underlying26 inf_3 rfl (by decide) rfl rfl rfl rfl rfl rfl (by have := expL_len X.g s k; omega) (by have := expL_len X.g s k; omega) (fun A26 c26 hA26 => ?_))
     refine l_q (by decide) (p_assign rfl).q ?_
     refine l_nil ?_
     refine c_reg ?_
     refine l_q (by decide) (p_move rfl).q ?_
     refine l_q (by decide) (p_add (j := 1) rfl rfl rfl rfl (by show _ ≤ (9223372036854775807 : Nat); omega)).q ?_
     refine l_q (by decide) (p_assign rfl).q ?_
     refine l_nil ?_
     refine c_join ((k + 1), (A26), (c26)) ?_ ?_ ?_ ?_
     ·show ((k + 1) ≤ X.terms.length) ∧ X.terms.length - (k + 1) < X.terms.length - k
      exact ⟨by omega, by omega⟩
     · exact ⟨rfl, rfl, (by show some (Value.slice A26 (expL X.g s k ++ [((k : Nat) : Int)]).length c26) = some (Value.slice A26 (expL X.g s (k + 1)).length c26); rw [expL_yes h22]), rfl, trivial⟩
     ·show List.Perm _ ([iSl 3 1 intF (A26) (c26) (expL X.g s (k + 1)), iCells b2 25 [.slice X.At X.terms.length X.ct, .slice X.An X.nts.length X.cn, .int .i64 X.start, .slice X.Ar X.xs.length X.cr]])
      rw [expL_yes h22]
     · exact fun _ h => h
    ·skip
     have h22 : viaB X.g (s ++ [((k : Nat) : Int)]) = false := h22
     refine c_drop ?_
     refine c_skip ?_
     refine c_reg ?_
     refine l_q (by decide) (p_move rfl).q ?_
     refine l_q (by decide) (p_add (j := 1) rfl rfl rfl rfl (by show _ ≤ (9223372036854775807 : Nat); omega)).q ?_
     refine l_q (by decide) (p_assign rfl).q ?_
     refine l_nil ?_
     refine c_join ((k + 1), (A), (c)) ?_ ?_ ?_ ?_
     ·show ((k + 1) ≤ X.terms.length) ∧ X.terms.length - (k + 1) < X.terms.length - k
      exact ⟨by omega, by omega⟩
     · exact ⟨rfl, rfl, (by show some (Value.slice A (expL X.g s k).length c) = some (Value.slice A (expL X.g s (k + 1)).length c); rw [expL_no h22]), rfl, trivial⟩
     ·show List.Perm _ ([iSl 3 1 intF (A) (c) (expL X.g s (k + 1)), iCells b2 25 [.slice X.At X.terms.length X.ct, .slice X.An X.nts.length X.cn, .int .i64 X.start, .slice X.Ar X.xs.length X.cr]])
      rw [expL_no h22]
     · exact fun _ h => h
  ·skip
   refine l_buildSlice (by decide) Try.underlying26 inf_3 (by decide) (by decide) rfl rfl rfl rfl (fun b20 => ?_)
   refine l_nil ?_
   refine m_next _ (by exact (List.Perm.refl _ : List.Perm _ ([_] ++ _))) (by exact fun _ h => h) ?_
   refine m_run 1 rfl (by kernel_rfl) ?_
   refine l_buildSlice0 (by decide) Try.underlying26 inf_3 (fun b16 => ?_)
   refine l_nil ?_
   refine m_next _ (by exact (List.Perm.refl _ : List.Perm _ ([_, _] ++ _))) (by exact fun _ h => h) ?_
   refine m_run 3 rfl (by kernel_rfl) ?_
   (refine l_rowc (e := 3) (size := 1) intF [] rfl rfl (by decide) ?_; refine l_appendsl (f := intF) s (by decide) Try.underlying26 inf_3 rfl (by decide) rfl rfl rfl rfl (by repeat constructor) (fun e u h => by rw [List.mem_singleton.1 h]; rfl) (by simp only [List.length_nil]; omega) (by simp only [List.length_nil]; omega) (fun A18 c18 => ?_))
   refine l_nil ?_
   refine m_next _ (by exact (List.Perm.refl _ : List.Perm _ ([_, _] ++ _))) (by exact fun _ h => h) ?_
   refine m_run 6 rfl (by kernel_rfl) ?_
   (refine l_perm (front1 _ _ _) ?_; refine l_append1 (((k : Nat) : Int)) (by decide) Try.underlying26 inf_3 rfl (by decide) rfl rfl rfl rfl rfl rfl (by simp only [List.length_append, List.length_nil]; omega) (by simp only [List.length_append, List.length_nil]; omega) (fun A21 c21 hA21 => ?_))
   refine l_nil ?_
   refine m_next _ (by exact (List.Perm.refl _ : List.Perm _ ([_] ++ _))) (by exact fun _ h => h) ?_
   refine m_run 7 rfl (by kernel_rfl) ?_
   refine l_q (by decide) (q_call call_15 rfl (fun w hs => rvia_ok X hX A21 c21 (([] ++ s) ++ [((k : Nat) : Int)]) (by simp; omega) w (GI.of hs (by repeat constructor) (by repeat constructor) (by repeat constructor) (by repeat constructor)) ok hv (SlIn.own (e := 3) (size := 1) (f := intF) (A := A21) (c := c21) (by repeat constructor) (by decide) (fun _ => rfl) w hs))) ?_
   refine l_nil ?_
   refine m_next _ (by exact (List.Perm.refl _ : List.Perm _ ([_] ++ _))) (by exact fun _ h => h) ?_
   refine m_done (by kernel_rfl) ?_
   refine c_cond rfl (fun h22 => ?_) (fun h22 => ?_)
   ·skip
    have h22 : viaB X.g (s ++ [((k : Nat) : Int)]) = true := h22
    refine c_drop ?_
    refine c_reg ?_
    refine l_q (by decide) (p_move rfl).q ?_
    refine l_q (by decide) (p_move rfl).q ?_
    refine l_buildSlice (by decide) Try.underlying26 inf_3 (by decide) (by decide) rfl rfl rfl rfl (fun b25 => ?_)
    (refine l_append1 (((k : Nat) : Int)) (by decide) Try.underlying26 inf_3 rfl (by decide) rfl rfl rfl rfl rfl rfl (by have := expL_len X.g s k; omega) (by have := expL_len X.g s k; omega) (fun A26 c26 hA26 => ?_))
    refine l_q (by decide) (p_assign rfl).q ?_
    refine l_nil ?_
    refine c_reg ?_
    refine l_q (by decide) (p_move rfl).q ?_
    refine l_q (by decide) (p_add (j := 1) rfl rfl rfl rfl (by show _ ≤ (9223372036854775807 : Nat); omega)).q ?_
    refine l_q (by decide) (p_assign rfl).q ?_
    refine l_nil ?_
    refine c_join ((k + 1), (A26), (c26)) ?_ ?_ ?_ ?_
    ·show ((k + 1) ≤ X.terms.length) ∧ X.terms.length - (k + 1) < X.terms.length - k
     exact ⟨by omega, by omega⟩
    · exact ⟨rfl, rfl, (by show some (Value.slice A26 (expL X.g s k ++ [((k : Nat) : Int)]).length c26) = some (Value.slice A26 (expL X.g s (k + 1)).length c26); rw [expL_yes h22]), rfl, trivial⟩
    ·show List.Perm _ ([iSl 3 1 intF (A26) (c26) (expL X.g s (k + 1)), iCells b2 25 [.slice X.At X.terms.length X.ct, .slice X.An X.nts.length X.cn, .int .i64 X.start, .slice X.Ar X.xs.length X.cr]])
     rw [expL_yes h22]
    · exact fun _ h => h
   ·skip
    have h22 : viaB X.g (s ++ [((k : Nat) : Int)]) = false := h22
    refine c_drop ?_
    refine c_skip ?_
    refine c_reg ?_
    refine l_q (by decide) (p_move rfl).q ?_
    refine l_q (by decide) (p_add (j := 1) rfl rfl rfl rfl (by show _ ≤ (9223372036854775807 : Nat); omega)).q ?_
    refine l_q (by decide) (p_assign rfl).q ?_
    refine l_nil ?_
    refine c_join ((k + 1), (A), (c)) ?_ ?_ ?_ ?_
    ·show ((k + 1) ≤ X.terms.length) ∧ X.terms.length - (k + 1) < X.terms.length - k
     exact ⟨by omega, by omega⟩
    · exact ⟨rfl, rfl, (by show some (Value.slice A (expL X.g s k).length c) = some (Value.slice A (expL X.g s (k + 1)).length c); rw [expL_no h22]), rfl, trivial⟩
    ·show List.Perm _ ([iSl 3 1 intF (A) (c) (expL X.g s (k + 1)), iCells b2 25 [.slice X.At X.terms.length X.ct, .slice X.An X.nts.length X.cn, .int .i64 X.start, .slice X.Ar X.xs.length X.cr]])
     rw [expL_no h22]
    · exact fun _ h => h
 ·skip
  refine c_exit ?_
  refine c_here ?_
  refine c_seq ?_
  refine c_reg ?_
  refine l_q (by decide) (p_move rfl).q ?_
  refine l_q (by decide) (r_loadow Try.underlying25 rfl inf_25 rfl (by repeat constructor) (by rfl)).q ?_
  refine l_q (by decide) (p_move rfl).q ?_
  refine l_q (by decide) (q_call call_13 rfl (fun w hs => rrec_ok X hX As cs s (by omega) w (GI.of hs (by repeat constructor) (by repeat constructor) (by repeat constructor) (by repeat constructor)) ok (hs.facts (Sl 1 intF As s) (by repeat constructor)).1)) ?_
  refine l_q (by decide) (p_assign rfl).q ?_
  refine l_q (by decide) (p_assign rfl).q ?_
  refine l_nil ?_
  refine c_ret ?_
  refine c_ret2 rfl rfl rfl (fun w hs => ?_)
  obtain rfl : k = X.terms.length := by omega
  have g := hs.give (e := 3) (size := 1) (f := intF) (es := expL X.g s X.terms.length) (A := A) (c := c) (by repeat constructor) (by decide) (fun _ => rfl)
  exact ⟨(A, c), rfl, g.1, g.2.1, hs.ext⟩
end Go.Proofs.Ytncagpppmaehhaa
