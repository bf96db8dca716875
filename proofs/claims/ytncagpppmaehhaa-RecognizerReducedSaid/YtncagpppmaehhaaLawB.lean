/- The laws of the recognizer: Reduced, Nested; conditions: lengths. -/
import Derived.Test.YtncagpppmaehhaaLawA
namespace Go.Proofs.Ytncagpppmaehhaa
open Go Go.Fx Go.Proofs

open Go.Proofs.Rec
theorem expL_congr {g g' : Ana.Gr} (h : ∀ u, viaB g u = viaB g' u) (s : List Int) (n : Nat) : expL g s n = expL g' s n := by
  unfold expL
  congr 2
  funext t
  rw [h]
theorem expL_none {g : Ana.Gr} {s : List Int} (h : ∀ u, viaB g u = false) : ∀ n, expL g s n = []
  | 0 => rfl
  | n + 1 => by rw [expL_no (h _), expL_none h n]
theorem red_viaB {X Y : GI} (ok : Ana.Ok2 X.g) (h : Y.g = red X.g (us X.g) (pP X)) (u : List Int) : viaB Y.g u = viaB X.g u := by
  unfold viaB
  rw [h]
  exact Ana.eq_dec (by rw [Ana.dec_iff]; exact via_red ok.h0 ok.s0 us_useful)
theorem red_sentB {X Y : GI} (ok : Ana.Ok2 X.g) (h : Y.g = red X.g (us X.g) (pP X)) (u : List Int) : sentB Y.g u = sentB X.g u := by
  unfold sentB
  rw [h]
  exact Ana.eq_dec (by rw [Ana.dec_iff]; exact sent_red ok.h0 ok.s0 us_useful)

theorem anbm_more (a b : Nat) : anbm a b ++ [1] = anbm a (b + 1) := by
  unfold anbm
  rw [List.append_assoc, ← List.replicate_succ']
theorem inf_5 : InfoIs Try.prog 5 1 1 (.int .u8 0) := by unfold InfoIs; kernel_rfl
theorem law_reduced (X : GI) (hX : X.small) (As : Option Addr) (cs : Nat) (s : List Int) (hl : s.length ≤ 140737488355328) (hcs : s.length ≤ cs) (w : World) (hM : X.mem w) (hp : Sl 1 intF As s w) :
   Calls Try.prog 8 #[.agg #[.slice X.At X.terms.length X.ct, .slice X.An X.nts.length X.cn, .int .i64 X.start, .slice X.Ar X.xs.length X.cr], .slice As s.length cs] w (Ret fun v w' => v = .bool true ∧ Ext [] w w') := by
 refine calls_fx (l := [.agg #[.slice X.At X.terms.length X.ct, .slice X.An X.nts.length X.cn, .int .i64 X.start, .slice X.Ar X.xs.length X.cr], .slice As s.length cs]) Try.func8 rfl Try.ntmps8 (Nat.le_of_ble_eq_true rfl) ((X.begin hM).old hp (dep_sl (by decide) hp)) ?_
 refine c_seq ?_
 refine c_reg ?_
 refine l_box (by decide) rfl _ rfl (fun b2 => ?_)
 refine l_q (by decide) (p_assign rfl).q ?_
 refine l_nil ?_
 refine c_seq ?_
 refine c_seq ?_
 refine c_reg ?_
 refine l_q (by decide) (r_loadow Try.underlying25 rfl inf_25 rfl (by repeat constructor) (by rfl)).q ?_
 refine l_q (by decide) (p_move rfl).q ?_
 refine l_call (X := BW (May X s 8)) (fun x => .bool x.1) (fun _ _ => True) (by decide) call_10 rfl (fun w hs => may_ok X hX As cs s hl 8 (by omega) w (GI.of hs (by repeat constructor) (by repeat constructor) (by repeat constructor) (by repeat constructor))) (fun x14 => ?_)
 refine l_q (by decide) (p_not rfl).q ?_
 refine l_nil ?_
 refine c_cond rfl (fun h15 => ?_) (fun h15 => ?_)
 ·skip
  refine c_seq ?_
  refine c_reg ?_
  refine l_q (by decide) (q_call call_11 rfl (fun w hs => awake_ok w)) ?_
  refine l_q (by decide) (p_assign rfl).q ?_
  refine l_nil ?_
  refine c_ret ?_
  refine c_ret1 rfl rfl (fun w hs => ?_)
  exact ⟨rfl, hs.ext⟩
 ·skip
  have hmay := x14.2 (by simpa using h15)
  have ok := hmay.ok2
  have hv := hmay.val
  have hlen := hmay.len
  refine c_skip ?_
  refine c_seq ?_
  refine c_reg ?_
  refine l_q (by decide) (r_loadow Try.underlying25 rfl inf_25 rfl (by repeat constructor) (by rfl)).q ?_
  refine l_call (X := RedR X) (fun z => z.1.V) (fun z => z.1.Y.mem) (by decide) call_19 rfl (fun w hs => reduce_ok X hX w (GI.of hs (by repeat constructor) (by repeat constructor) (by repeat constructor) (by repeat constructor)) ok hv) (fun z => ?_)
  obtain ⟨⟨Y, Az, nz, cz, ez⟩, hz⟩ := z
  refine l_q (by decide) (p_move rfl).q ?_
  refine l_q (by decide) (((p_extract rfl rfl)).to (u := .agg #[.slice Y.At Y.terms.length Y.ct, .slice Y.An Y.nts.length Y.cn, .int .i64 Y.start, .slice Y.Ar Y.xs.length Y.cr]) (rfl)).q ?_
  refine l_q (by decide) (((p_extract rfl rfl)).to (u := .slice Az nz cz) (rfl)).q ?_
  refine l_q (by decide) (((p_extract rfl rfl)).to (u := .int .i64 ((ez : Nat) : Int)) (rfl)).q ?_
  refine l_alloc (by decide) inf_25 _ rfl (fun b5 => ?_)
  (refine l_storew inf_25 rfl rfl rfl rfl rfl ?_)
  refine l_q (by decide) (p_assign rfl).q ?_
  refine l_q (by decide) (p_assign rfl).q ?_
  refine l_nil ?_
  refine c_seq ?_
  refine c_reg ?_
  refine l_q (by decide) (r_loadow Try.underlying25 rfl inf_25 rfl (by repeat constructor) (by rfl)).q ?_
  refine l_q (by decide) (p_move rfl).q ?_
  refine l_call (X := Option Addr × Nat) (fun x => .tuple #[.slice x.1 (expL X.g s X.terms.length).length x.2, .bool (sentB X.g s)]) (fun x => Sl 1 intF x.1 (expL X.g s X.terms.length)) (by decide) call_16 rfl (fun w hs => expected_ok X hX As cs s (by omega) w (GI.of hs (by repeat constructor) (by repeat constructor) (by repeat constructor) (by repeat constructor)) ok (hs.facts (Sl 1 intF As s) (by repeat constructor)).1) (fun x26 => ?_)
  refine l_q (by decide) (p_move rfl).q ?_
  refine l_q (by decide) (p_extract rfl rfl).q ?_
  refine l_q (by decide) (p_extract rfl rfl).q ?_
  refine l_q (by decide) (p_assign rfl).q ?_
  refine l_q (by decide) (p_assign rfl).q ?_
  refine l_nil ?_
  refine c_seq ?_
  refine c_seq ?_
  refine c_reg ?_
  refine l_q (by decide) (p_move rfl).q ?_
  refine l_q (by decide) (p_neq (j := 0) rfl rfl rfl rfl).q ?_
  refine l_nil ?_
  refine c_dec rfl (fun h30 => ?_) (fun h30 => ?_)
  ·skip
   have hnp := hz.no h30
   have hvia : ∀ u, viaB X.g u = false := fun u => Ana.dec_false (via_empty ok.s0 hnp u)
   have hsent : sentB X.g s = false := Ana.dec_false (fun h => by have := hvia s; rw [sent_viaB (Ana.dec_true h)] at this; cases this)
   have hexp0 : expL X.g s X.terms.length = [] := expL_none hvia _
   refine c_seq ?_
   refine c_reg ?_
   refine l_q (by decide) (q_call call_11 rfl (fun w hs => awake_ok w)) ?_
   refine l_q (by decide) (p_move rfl).q ?_
   refine l_g (j := 1) rfl rfl (by decide) (p_move rfl).q ?_
   refine l_g (j := 1) rfl rfl (by decide) (((p_not rfl)).to (u := .bool true) (by rw [hsent]; rfl)).q ?_
   refine l_q (by decide) (p_pick rfl rfl).q ?_
   refine l_q (by decide) (p_move rfl).q ?_
   refine l_g (j := 5) rfl rfl (by decide) (p_move rfl).q ?_
   refine l_g (j := 5) rfl rfl (by decide) (p_len_sl Try.underlying26 rfl).q ?_
   refine l_g (j := 5) rfl rfl (by decide) (((p_eql (j := 0) rfl rfl rfl rfl)).to (u := .bool true) (by rw [hexp0]; rfl)).q ?_
   refine l_q (by decide) (p_pick rfl rfl).q ?_
   refine l_q (by decide) (p_move rfl).q ?_
   refine l_g (j := 10) rfl rfl (by decide) (r_loadow Try.underlying25 rfl inf_25 rfl (by repeat constructor) (by rfl)).q ?_
   refine l_g (j := 10) rfl rfl (by decide) (p_move rfl).q ?_
   refine l_g (j := 10) rfl rfl (by decide) (q_call call_14 rfl (fun w hs => viable_ok X hX As cs s (by omega) w (GI.of hs (by repeat constructor) (by repeat constructor) (by repeat constructor) (by repeat constructor)) ok (hs.facts (Sl 1 intF As s) (by repeat constructor)).1)) ?_
   refine l_g (j := 10) rfl rfl (by decide) (((p_not rfl)).to (u := .bool true) (by rw [hvia s]; rfl)).q ?_
   refine l_q (by decide) (p_pick rfl rfl).q ?_
   refine l_q (by decide) (p_assign rfl).q ?_
   refine l_nil ?_
   refine c_ret ?_
   refine c_ret1 rfl rfl (fun w hs => ?_)
   exact ⟨rfl, hs.ext⟩
  ·skip
   have he0 : ez = 0 := by omega
   obtain ⟨hYg, hYs, hpn⟩ := hz.yes he0
   have okY : Ana.Ok2 Y.g := by rw [show Y.g = _ from hYg]; exact ok2_red ok us_useful
   have hYt : Y.terms.length = X.terms.length := congrArg Ana.Gr.t hYg
   have hexp : expL X.g s X.terms.length = expL Y.g s Y.terms.length := by rw [hYt]; exact (expL_congr (fun u => red_viaB ok hYg u) s _).symm
   have hss : sentB Y.g s = sentB X.g s := red_sentB ok hYg s
   refine c_skip ?_
   refine c_seq ?_
   refine c_reg ?_
   refine l_q (by decide) (r_loadow Try.underlying25 rfl inf_25 rfl (by repeat constructor) (by rfl)).q ?_
   refine l_q (by decide) (p_move rfl).q ?_
   refine l_call (X := Option Addr × Nat) (fun x => .tuple #[.slice x.1 (expL Y.g s Y.terms.length).length x.2, .bool (sentB Y.g s)]) (fun x => Sl 1 intF x.1 (expL Y.g s Y.terms.length)) (by decide) call_16 rfl (fun w hs => expected_ok Y hYs As cs s (by omega) w (hs.facts (GI.mem Y) (by repeat constructor)).1 okY (hs.facts (Sl 1 intF As s) (by repeat constructor)).1) (fun x50 => ?_)
   refine l_q (by decide) (p_move rfl).q ?_
   refine l_q (by decide) (p_extract rfl rfl).q ?_
   refine l_q (by decide) (p_extract rfl rfl).q ?_
   refine l_q (by decide) (p_assign rfl).q ?_
   refine l_q (by decide) (p_assign rfl).q ?_
   refine l_nil ?_
   refine c_seq ?_
   refine c_reg ?_
   refine l_q (by decide) (q_call call_11 rfl (fun w hs => awake_ok w)) ?_
   refine l_q (by decide) (p_move rfl).q ?_
   refine l_g (j := 1) rfl rfl (by decide) (p_move rfl).q ?_
   refine l_g (j := 1) rfl rfl (by decide) (p_move rfl).q ?_
   refine l_g (j := 1) rfl rfl (by decide) (q_call call_18 rfl (fun w hs => ints_yes (l := (expL X.g s X.terms.length)) (k := (expL Y.g s Y.terms.length)) rfl rfl hexp (by have := expL_len X.g s X.terms.length; have h2 : X.terms.length ≤ 12 := ok.tl; omega) (hs.facts (Sl 1 intF x26.1 (expL X.g s X.terms.length)) (by repeat constructor)).1 (hs.facts (Sl 1 intF x50.1 (expL Y.g s Y.terms.length)) (by repeat constructor)).1)) ?_
   refine l_q (by decide) (p_pick rfl rfl).q ?_
   refine l_q (by decide) (p_move rfl).q ?_
   refine l_g (j := 6) rfl rfl (by decide) (p_move rfl).q ?_
   refine l_g (j := 6) rfl rfl (by decide) (p_move rfl).q ?_
   refine l_g (j := 6) rfl rfl (by decide) (((p_eqb Try.underlying4 rfl rfl)).to (u := .bool true) (by rw [hss, beq_self_eq_true])).q ?_
   refine l_q (by decide) (p_pick rfl rfl).q ?_
   refine l_q (by decide) (p_assign rfl).q ?_
   refine l_nil ?_
   refine c_ret ?_
   refine c_ret1 rfl rfl (fun w hs => ?_)
   exact ⟨rfl, hs.ext⟩

theorem law_nested (n m : Nat) (hn : n ≤ 255) (hm : m ≤ 255) (w : World) :
   Calls Try.prog 9 #[.int .u8 (n : Int), .int .u8 (m : Int)] w (Ret fun v w' => v = .bool true ∧ Ext [] w w') := by
 refine calls_fx (l := [.int .u8 (n : Int), .int .u8 (m : Int)]) Try.func9 rfl Try.ntmps9 (Nat.le_of_ble_eq_true rfl) (St.start w) ?_
 refine c_seq ?_
 refine c_reg ?_
 refine l_q (by decide) (p_assign rfl).q ?_
 refine l_nil ?_
 refine c_seq ?_
 refine c_reg ?_
 refine l_q (by decide) (p_assign rfl).q ?_
 refine l_nil ?_
 refine c_seq ?_
 refine c_seq ?_
 refine c_reg ?_
 refine l_q (by decide) (p_assign (v := .int .i64 ((0 : Nat) : Int)) rfl).q ?_
 refine l_nil ?_
 refine c_block ?_
 refine c_sl0 3 1 intF ?_
 refine c_loop (S := Nat × Option Addr × Nat) (fun zs => zs.1 ≤ n % 20) (fun zs => n % 20 - zs.1) (fun zs => [(0, .int .u8 (n : Int)), (1, .int .u8 (m : Int)), (5, .slice zs.2.1 (List.replicate zs.1 (0 : Int)).length zs.2.2), (6, .int .i64 (zs.1 : Int))]) (fun zs => [iSl 3 1 intF zs.2.1 zs.2.2 (List.replicate zs.1 (0 : Int))]) (fun zs => []) (0, none, 0) ?_ ?_ ?_ ?_ ?_
 · show (0) ≤ n % 20
   exact Nat.zero_le _
 · exact ⟨rfl, rfl, rfl, rfl, trivial⟩
 · exact .refl _
 · exact fun _ h => absurd h List.not_mem_nil
 rintro ⟨i, A, c⟩ hinv
 have hinv : i ≤ n % 20 := hinv
 have hi := hinv
 show Cont _ _ _ _ [(0, .int .u8 (n : Int)), (1, .int .u8 (m : Int)), (5, .slice A (List.replicate i (0 : Int)).length c), (6, .int .i64 (i : Int))] ([iSl 3 1 intF A c (List.replicate i (0 : Int))]) []
 refine c_seq ?_
 refine c_seq ?_
 refine c_reg ?_
 refine l_q (by decide) (p_move rfl).q ?_
 refine l_q (by decide) (p_move rfl).q ?_
 refine l_q (by decide) (p_rem (j := 20) rfl rfl rfl rfl (by omega)).q ?_
 refine l_q (by decide) (p_convn Try.underlying5 Try.underlying3 rfl rfl (by show _ ≤ (9223372036854775807 : Nat); omega)).q ?_
 refine l_q (by decide) (p_lss rfl rfl rfl rfl).q ?_
 refine l_nil ?_
 refine c_dec rfl (fun h12 => ?_) (fun h12 => ?_)
 ·skip
  refine c_skip ?_
  refine c_seq ?_
  refine c_block ?_
  refine c_reg ?_
  refine l_q (by decide) (p_move rfl).q ?_
  refine l_buildSlice (by decide) Try.underlying26 inf_3 (by decide) (by decide) rfl rfl rfl rfl (fun b16 => ?_)
  (refine l_append1 ((0 : Int)) (by decide) Try.underlying26 inf_3 rfl (by decide) rfl rfl rfl rfl rfl rfl (by rw [List.length_replicate]; omega) (by rw [List.length_replicate]; omega) (fun A17 c17 hA17 => ?_))
  refine l_q (by decide) (p_assign rfl).q ?_
  refine l_nil ?_
  refine c_reg ?_
  refine l_q (by decide) (p_move rfl).q ?_
  refine l_q (by decide) (p_add (j := 1) rfl rfl rfl rfl (by show _ ≤ (9223372036854775807 : Nat); omega)).q ?_
  refine l_q (by decide) (p_assign rfl).q ?_
  refine l_nil ?_
  refine c_join ((i + 1), (A17), (c17)) ?_ ?_ ?_ ?_
  ·show ((i + 1) ≤ n % 20) ∧ n % 20 - (i + 1) < n % 20 - i
   exact ⟨by omega, by omega⟩
  · exact ⟨rfl, rfl, (by show some (Value.slice A17 (List.replicate i (0 : Int) ++ [0]).length c17) = _; rw [← List.replicate_succ']), rfl, trivial⟩
  ·show List.Perm _ ([iSl 3 1 intF (A17) (c17) (List.replicate (i + 1) (0 : Int))])
   rw [← List.replicate_succ']
  · exact fun _ h => absurd h List.not_mem_nil
 ·skip
  refine c_exit ?_
  refine c_here ?_
  refine c_seq ?_
  refine c_seq ?_
  refine c_reg ?_
  refine l_q (by decide) (p_assign (v := .int .i64 ((0 : Nat) : Int)) rfl).q ?_
  refine l_nil ?_
  refine c_block ?_
  obtain rfl : i = n % 20 := by omega
  rw [show List.replicate (n % 20) (0 : Int) = anbm (n % 20) 0 by unfold anbm; rw [List.replicate_zero, List.append_nil]]
  refine c_loop (S := Nat × Option Addr × Nat) (fun zs => zs.1 ≤ m % 20) (fun zs => m % 20 - zs.1) (fun zs => [(0, .int .u8 (n : Int)), (1, .int .u8 (m : Int)), (5, .slice zs.2.1 (anbm (n % 20) zs.1).length zs.2.2), (7, .int .i64 (zs.1 : Int))]) (fun zs => [iSl 3 1 intF zs.2.1 zs.2.2 (anbm (n % 20) zs.1)]) (fun zs => []) (0, A, c) ?_ ?_ ?_ ?_ ?_
  · show (0) ≤ m % 20
    exact Nat.zero_le _
  · exact ⟨rfl, rfl, rfl, rfl, trivial⟩
  · exact .refl _
  · exact fun _ h => absurd h List.not_mem_nil
  rintro ⟨j, A, c⟩ hinv
  have hinv : j ≤ m % 20 := hinv
  have hj := hinv
  show Cont _ _ _ _ [(0, .int .u8 (n : Int)), (1, .int .u8 (m : Int)), (5, .slice A (anbm (n % 20) j).length c), (7, .int .i64 (j : Int))] ([iSl 3 1 intF A c (anbm (n % 20) j)]) []
  refine c_seq ?_
  refine c_seq ?_
  refine c_reg ?_
  refine l_q (by decide) (p_move rfl).q ?_
  refine l_q (by decide) (p_move rfl).q ?_
  refine l_q (by decide) (p_rem (j := 20) rfl rfl rfl rfl (by omega)).q ?_
  refine l_q (by decide) (p_convn Try.underlying5 Try.underlying3 rfl rfl (by show _ ≤ (9223372036854775807 : Nat); omega)).q ?_
  refine l_q (by decide) (p_lss rfl rfl rfl rfl).q ?_
  refine l_nil ?_
  refine c_dec rfl (fun h22 => ?_) (fun h22 => ?_)
  ·skip
   refine c_skip ?_
   refine c_seq ?_
   refine c_block ?_
   refine c_reg ?_
   refine l_q (by decide) (p_move rfl).q ?_
   refine l_buildSlice (by decide) Try.underlying26 inf_3 (by decide) (by decide) rfl rfl rfl rfl (fun b26 => ?_)
   (refine l_append1 ((1 : Int)) (by decide) Try.underlying26 inf_3 rfl (by decide) rfl rfl rfl rfl rfl rfl (by unfold anbm; rw [List.length_append, List.length_replicate, List.length_replicate]; omega) (by unfold anbm; rw [List.length_append, List.length_replicate, List.length_replicate]; omega) (fun A27 c27 hA27 => ?_))
   refine l_q (by decide) (p_assign rfl).q ?_
   refine l_nil ?_
   refine c_reg ?_
   refine l_q (by decide) (p_move rfl).q ?_
   refine l_q (by decide) (p_add (j := 1) rfl rfl rfl rfl (by show _ ≤ (9223372036854775807 : Nat); omega)).q ?_
   refine l_q (by decide) (p_assign rfl).q ?_
   refine l_nil ?_
   refine c_join ((j + 1), (A27), (c27)) ?_ ?_ ?_ ?_
   ·show ((j + 1) ≤ m % 20) ∧ m % 20 - (j + 1) < m % 20 - j
    exact ⟨by omega, by omega⟩
   · exact ⟨rfl, rfl, (by show some (Value.slice A27 (anbm (n % 20) j ++ [1]).length c27) = _; rw [anbm_more]), rfl, trivial⟩
   ·show List.Perm _ ([iSl 3 1 intF (A27) (c27) (anbm (n % 20) (j + 1))])
    rw [anbm_more]
   · exact fun _ h => absurd h List.not_mem_nil
  ·skip
   refine c_exit ?_
   refine c_here ?_
   refine c_seq ?_
   obtain rfl : j = m % 20 := by omega
   have hab : (anbm (n % 20) (m % 20)).length ≤ 40 := by unfold anbm; rw [List.length_append, List.length_replicate, List.length_replicate]; omega
   refine c_reg ?_
   refine l_q (by decide) (q_call call_11 rfl (fun w hs => awake_ok w)) ?_
   refine l_q (by decide) (p_move rfl).q ?_
   refine l_strip (j := 1) rfl rfl ?_
   refine l_callf [] (fun X : NeG => .agg #[.slice X.1.At X.1.terms.length X.1.ct, .slice X.1.An X.1.nts.length X.1.cn, .int .i64 X.1.start, .slice X.1.Ar X.1.xs.length X.1.cr]) (fun X => [Bd X.1.xs, Sl 3 ruF X.1.Ar X.1.xs, Sl 1 strF X.1.An X.1.nts, Sl 1 strF X.1.At X.1.terms]) (by decide) call_20 rfl (fun _ h => absurd h List.not_mem_nil) (fun w hs => nested_ok _ w hs) (fun x30 => ?_)
   obtain ⟨X, hXg, hX⟩ := x30
   dsimp only
   have okX : Ana.Ok2 X.g := by rw [hXg]; exact ne_ok
   refine l_g (j := 1) rfl rfl (by decide) (p_move rfl).q ?_
   refine l_g (j := 1) rfl rfl (by decide) (q_call call_12 rfl (fun w hs => recognize_ok X hX A c (anbm (n % 20) (m % 20)) (by have := hab; omega) w (GI.of (X := X) hs (by repeat constructor) (by repeat constructor) (by repeat constructor) (by repeat constructor)) okX (SlIn.own (e := 3) (size := 1) (f := intF) (A := A) (c := c) (by repeat constructor) (by decide) (fun _ => rfl) w hs))) ?_
   refine l_g (j := 1) rfl rfl (by decide) (p_move rfl).q ?_
   refine l_g (j := 1) rfl rfl (by decide) (p_rem (j := 20) rfl rfl rfl rfl (by omega)).q ?_
   refine l_g (j := 1) rfl rfl (by decide) (p_move rfl).q ?_
   refine l_g (j := 1) rfl rfl (by decide) (p_rem (j := 20) rfl rfl rfl rfl (by omega)).q ?_
   refine l_g (j := 1) rfl rfl (by decide) (p_eql rfl rfl rfl rfl).q ?_
   refine l_g (j := 1) rfl rfl (by decide) (((p_eqb Try.underlying4 rfl rfl)).to (u := .bool true) (by rw [hXg, ne_sentB, beq_self_eq_true])).q ?_
   refine l_q (by decide) (p_pick rfl rfl).q ?_
   refine l_q (by decide) (p_move rfl).q ?_
   refine l_strip (j := 12) rfl rfl ?_
   refine l_callf [] (fun X : NeG => .agg #[.slice X.1.At X.1.terms.length X.1.ct, .slice X.1.An X.1.nts.length X.1.cn, .int .i64 X.1.start, .slice X.1.Ar X.1.xs.length X.1.cr]) (fun X => [Bd X.1.xs, Sl 3 ruF X.1.Ar X.1.xs, Sl 1 strF X.1.An X.1.nts, Sl 1 strF X.1.At X.1.terms]) (by decide) call_20 rfl (fun _ h => absurd h List.not_mem_nil) (fun w hs => nested_ok _ w hs) (fun x41 => ?_)
   obtain ⟨Z, hZg, hZ⟩ := x41
   dsimp only
   have okZ : Ana.Ok2 Z.g := by rw [hZg]; exact ne_ok
   refine l_g (j := 12) rfl rfl (by decide) (p_move rfl).q ?_
   refine l_g (j := 12) rfl rfl (by decide) (q_call call_14 rfl (fun w hs => viable_ok Z hZ A c (anbm (n % 20) (m % 20)) (by have := hab; omega) w (GI.of (X := Z) hs (by repeat constructor) (by repeat constructor) (by repeat constructor) (by repeat constructor)) okZ (SlIn.own (e := 3) (size := 1) (f := intF) (A := A) (c := c) (by repeat constructor) (by decide) (fun _ => rfl) w hs))) ?_
   refine l_g (j := 12) rfl rfl (by decide) (p_move rfl).q ?_
   refine l_g (j := 12) rfl rfl (by decide) (p_rem (j := 20) rfl rfl rfl rfl (by omega)).q ?_
   refine l_g (j := 12) rfl rfl (by decide) (p_move rfl).q ?_
   refine l_g (j := 12) rfl rfl (by decide) (p_rem (j := 20) rfl rfl rfl rfl (by omega)).q ?_
   refine l_g (j := 12) rfl rfl (by decide) (p_geq rfl rfl rfl rfl).q ?_
   refine l_g (j := 12) rfl rfl (by decide) (((p_eqb Try.underlying4 rfl rfl)).to (u := .bool true) (by rw [hZg, ne_viaB, beq_self_eq_true])).q ?_
   refine l_q (by decide) (p_pick rfl rfl).q ?_
   refine l_q (by decide) (p_assign rfl).q ?_
   refine l_nil ?_
   refine c_ret ?_
   refine c_ret1 rfl rfl (fun w hs => ?_)
   exact ⟨rfl, hs.ext⟩
end Go.Proofs.Ytncagpppmaehhaa
