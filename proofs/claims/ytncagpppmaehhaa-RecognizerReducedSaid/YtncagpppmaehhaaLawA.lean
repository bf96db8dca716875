/- The laws of the recognizer: Recognize, Viable, Expected, Prefixes; conditions: lengths. -/
import Derived.Test.YtncagpppmaehhaaWalksZ
namespace Go.Proofs.Ytncagpppmaehhaa
open Go Go.Fx Go.Proofs

open Go.Proofs.Rec
theorem ints_yes {A B : Option Addr} {c d n m : Nat} {l k : List Int} (h1 : l.length = n) (h2 : k.length = m) (he : l = k) (hl : n ≤ 1000) {w : World} (hq : Sl 1 intF A l w) (hp : Sl 1 intF B k w) : Calls Try.prog 18 #[.slice A n c, .slice B m d] w (Ret fun v w' => v = .bool true ∧ Ext [] w w') := by
  subst h1; subst h2
  have := ints_ok A B c d l k (by omega) w hq hp
  rw [decide_eq_true he] at this
  exact this
theorem sent_viaB {g : Ana.Gr} {s : List Int} (h : sentB g s = true) : viaB g s = true := Ana.dec_true (sent_via (Ana.dec_iff.1 h))
theorem take_viaB {g : Ana.Gr} {s : List Int} (h : viaB g s = true) (i : Nat) : viaB g (s.take i) = true := Ana.dec_true (via_take (Ana.dec_iff.1 h) i)
theorem call_10 : Callable Try.prog 10 := ⟨_, Try.func10, by kernel_rfl, rfl⟩
theorem call_11 : Callable Try.prog 11 := ⟨_, Try.func11, by kernel_rfl, rfl⟩
theorem call_17 : Callable Try.prog 17 := ⟨_, Try.func17, by kernel_rfl, rfl⟩
theorem law_recognize (X : GI) (hX : X.small) (As : Option Addr) (cs : Nat) (s : List Int) (hl : s.length ≤ 140737488355328) (hcs : s.length ≤ cs) (w : World) (hM : X.mem w) (hp : Sl 1 intF As s w) :
   Calls Try.prog 3 #[.agg #[.slice X.At X.terms.length X.ct, .slice X.An X.nts.length X.cn, .int .i64 X.start, .slice X.Ar X.xs.length X.cr], .slice As s.length cs] w (Ret fun v w' => v = .bool true ∧ Ext [] w w') := by
 refine calls_fx (l := [.agg #[.slice X.At X.terms.length X.ct, .slice X.An X.nts.length X.cn, .int .i64 X.start, .slice X.Ar X.xs.length X.cr], .slice As s.length cs]) Try.func3 rfl Try.ntmps3 (Nat.le_of_ble_eq_true rfl) ((X.begin hM).old hp (dep_sl (by decide) hp)) ?_
 refine c_seq ?_
 refine c_reg ?_
 refine l_box (by decide) rfl _ rfl (fun b2 => ?_)
 refine l_q (by decide) (p_assign rfl).q ?_
 refine l_nil ?_
 refine c_seq ?_
 refine c_seq ?_
 refine c_reg ?_
 refine l_q (by decide) (r_loadow Try.underlying25 rfl inf_25 rfl (by repeat constructor) (by rfl)).q ?_
 refine l_q (by decide) (p_move rfl).q ?_
 refine l_call (X := BW (May X s 6)) (fun x => .bool x.1) (fun _ _ => True) (by decide) call_10 rfl (fun w hs => may_ok X hX As cs s hl 6 (by omega) w (GI.of hs (by repeat constructor) (by repeat constructor) (by repeat constructor) (by repeat constructor))) (fun x7 => ?_)
 refine l_q (by decide) (p_not rfl).q ?_
 refine l_nil ?_
 refine c_cond rfl (fun h8 => ?_) (fun h8 => ?_)
 ·skip
  refine c_seq ?_
  refine c_reg ?_
  refine l_q (by decide) (q_call call_11 rfl (fun w hs => awake_ok w)) ?_
  refine l_q (by decide) (p_assign rfl).q ?_
  refine l_nil ?_
  refine c_ret ?_
  refine c_ret1 rfl rfl (fun w hs => ?_)
  exact ⟨rfl, hs.ext⟩
 ·skip
  have hmay := x7.2 (by simpa using h8)
  have ok := hmay.ok2
  have hv := hmay.val
  have hlen := hmay.len
  refine c_skip ?_
  refine c_seq ?_
  refine c_draw mixed (by decide +kernel) ?_
  refine q_q (by decide) (q_call call_11 rfl (fun w hs => awake_ok w)) ?_
  refine q_q (by decide) (p_move rfl).q ?_
  refine q_g (j := 1) rfl rfl (by decide) (r_loadow Try.underlying25 rfl inf_25 rfl (by repeat constructor) (by rfl)).q ?_
  refine q_g (j := 1) rfl rfl (by decide) (p_move rfl).q ?_
  refine q_g (j := 1) rfl rfl (by decide) (q_call call_12 rfl (fun w hs => recognize_ok X hX As cs s (by omega) w (GI.of hs (by repeat constructor) (by repeat constructor) (by repeat constructor) (by repeat constructor)) ok (hs.facts (Sl 1 intF As s) (by repeat constructor)).1)) ?_
  refine q_g (j := 1) rfl rfl (by decide) (r_loadow Try.underlying25 rfl inf_25 rfl (by repeat constructor) (by rfl)).q ?_
  refine q_g (j := 1) rfl rfl (by decide) (p_move rfl).q ?_
  refine q_g (j := 1) rfl rfl (by decide) (q_call call_13 rfl (fun w hs => rrec_ok X hX As cs s (by omega) w (GI.of hs (by repeat constructor) (by repeat constructor) (by repeat constructor) (by repeat constructor)) ok (hs.facts (Sl 1 intF As s) (by repeat constructor)).1)) ?_
  refine q_g (j := 1) rfl rfl (by decide) (((p_eqb Try.underlying4 rfl rfl)).to (u := .bool true) (by rw [beq_self_eq_true])).q ?_
  refine q_q (by decide) (p_pick rfl rfl).q ?_
  refine q_q (by decide) (p_assign rfl).q ?_
  refine q_nil ?_
  refine c_ret ?_
  refine c_ret1 rfl rfl (fun w hs => ?_)
  exact ⟨rfl, hs.ext⟩

theorem law_viable (X : GI) (hX : X.small) (As : Option Addr) (cs : Nat) (s : List Int) (hl : s.length ≤ 140737488355328) (hcs : s.length ≤ cs) (w : World) (hM : X.mem w) (hp : Sl 1 intF As s w) :
   Calls Try.prog 4 #[.agg #[.slice X.At X.terms.length X.ct, .slice X.An X.nts.length X.cn, .int .i64 X.start, .slice X.Ar X.xs.length X.cr], .slice As s.length cs] w (Ret fun v w' => v = .bool true ∧ Ext [] w w') := by
 refine calls_fx (l := [.agg #[.slice X.At X.terms.length X.ct, .slice X.An X.nts.length X.cn, .int .i64 X.start, .slice X.Ar X.xs.length X.cr], .slice As s.length cs]) Try.func4 rfl Try.ntmps4 (Nat.le_of_ble_eq_true rfl) ((X.begin hM).old hp (dep_sl (by decide) hp)) ?_
 refine c_seq ?_
 refine c_reg ?_
 refine l_box (by decide) rfl _ rfl (fun b2 => ?_)
 refine l_q (by decide) (p_assign rfl).q ?_
 refine l_nil ?_
 refine c_seq ?_
 refine c_seq ?_
 refine c_reg ?_
 refine l_q (by decide) (r_loadow Try.underlying25 rfl inf_25 rfl (by repeat constructor) (by rfl)).q ?_
 refine l_q (by decide) (p_move rfl).q ?_
 refine l_call (X := BW (May X s 6)) (fun x => .bool x.1) (fun _ _ => True) (by decide) call_10 rfl (fun w hs => may_ok X hX As cs s hl 6 (by omega) w (GI.of hs (by repeat constructor) (by repeat constructor) (by repeat constructor) (by repeat constructor))) (fun x7 => ?_)
 refine l_q (by decide) (p_not rfl).q ?_
 refine l_nil ?_
 refine c_cond rfl (fun h8 => ?_) (fun h8 => ?_)
 ·skip
  refine c_seq ?_
  refine c_reg ?_
  refine l_q (by decide) (q_call call_11 rfl (fun w hs => awake_ok w)) ?_
  refine l_q (by decide) (p_assign rfl).q ?_
  refine l_nil ?_
  refine c_ret ?_
  refine c_ret1 rfl rfl (fun w hs => ?_)
  exact ⟨rfl, hs.ext⟩
 ·skip
  have hmay := x7.2 (by simpa using h8)
  have ok := hmay.ok2
  have hv := hmay.val
  have hlen := hmay.len
  refine c_skip ?_
  refine c_seq ?_
  refine c_draw mixed (by decide +kernel) ?_
  refine q_q (by decide) (q_call call_11 rfl (fun w hs => awake_ok w)) ?_
  refine q_q (by decide) (p_move rfl).q ?_
  refine q_g (j := 1) rfl rfl (by decide) (r_loadow Try.underlying25 rfl inf_25 rfl (by repeat constructor) (by rfl)).q ?_
  refine q_g (j := 1) rfl rfl (by decide) (p_move rfl).q ?_
  refine q_g (j := 1) rfl rfl (by decide) (q_call call_14 rfl (fun w hs => viable_ok X hX As cs s (by omega) w (GI.of hs (by repeat constructor) (by repeat constructor) (by repeat constructor) (by repeat constructor)) ok (hs.facts (Sl 1 intF As s) (by repeat constructor)).1)) ?_
  refine q_g (j := 1) rfl rfl (by decide) (r_loadow Try.underlying25 rfl inf_25 rfl (by repeat constructor) (by rfl)).q ?_
  refine q_g (j := 1) rfl rfl (by decide) (p_move rfl).q ?_
  refine q_g (j := 1) rfl rfl (by decide) (q_call call_15 rfl (fun w hs => rvia_ok X hX As cs s (by omega) w (GI.of hs (by repeat constructor) (by repeat constructor) (by repeat constructor) (by repeat constructor)) ok hv (hs.facts (Sl 1 intF As s) (by repeat constructor)).1)) ?_
  refine q_g (j := 1) rfl rfl (by decide) (((p_eqb Try.underlying4 rfl rfl)).to (u := .bool true) (by rw [beq_self_eq_true])).q ?_
  refine q_q (by decide) (p_pick rfl rfl).q ?_
  refine q_q (by decide) (p_assign rfl).q ?_
  refine q_nil ?_
  refine c_ret ?_
  refine c_ret1 rfl rfl (fun w hs => ?_)
  exact ⟨rfl, hs.ext⟩

theorem law_expected (X : GI) (hX : X.small) (As : Option Addr) (cs : Nat) (s : List Int) (hl : s.length ≤ 140737488355328) (hcs : s.length ≤ cs) (w : World) (hM : X.mem w) (hp : Sl 1 intF As s w) :
   Calls Try.prog 5 #[.agg #[.slice X.At X.terms.length X.ct, .slice X.An X.nts.length X.cn, .int .i64 X.start, .slice X.Ar X.xs.length X.cr], .slice As s.length cs] w (Ret fun v w' => v = .bool true ∧ Ext [] w w') := by
 refine calls_fx (l := [.agg #[.slice X.At X.terms.length X.ct, .slice X.An X.nts.length X.cn, .int .i64 X.start, .slice X.Ar X.xs.length X.cr], .slice As s.length cs]) Try.func5 rfl Try.ntmps5 (Nat.le_of_ble_eq_true rfl) ((X.begin hM).old hp (dep_sl (by decide) hp)) ?_
 refine c_seq ?_
 refine c_reg ?_
 refine l_box (by decide) rfl _ rfl (fun b2 => ?_)
 refine l_q (by decide) (p_assign rfl).q ?_
 refine l_nil ?_
 refine c_seq ?_
 refine c_seq ?_
 refine c_reg ?_
 refine l_q (by decide) (r_loadow Try.underlying25 rfl inf_25 rfl (by repeat constructor) (by rfl)).q ?_
 refine l_q (by decide) (p_move rfl).q ?_
 refine l_call (X := BW (May X s 5)) (fun x => .bool x.1) (fun _ _ => True) (by decide) call_10 rfl (fun w hs => may_ok X hX As cs s hl 5 (by omega) w (GI.of hs (by repeat constructor) (by repeat constructor) (by repeat constructor) (by repeat constructor))) (fun x11 => ?_)
 refine l_q (by decide) (p_not rfl).q ?_
 refine l_nil ?_
 refine c_cond rfl (fun h12 => ?_) (fun h12 => ?_)
 ·skip
  refine c_seq ?_
  refine c_reg ?_
  refine l_q (by decide) (q_call call_11 rfl (fun w hs => awake_ok w)) ?_
  refine l_q (by decide) (p_assign rfl).q ?_
  refine l_nil ?_
  refine c_ret ?_
  refine c_ret1 rfl rfl (fun w hs => ?_)
  exact ⟨rfl, hs.ext⟩
 ·skip
  have hmay := x11.2 (by simpa using h12)
  have ok := hmay.ok2
  have hv := hmay.val
  have hlen := hmay.len
  refine c_skip ?_
  refine c_seq ?_
  refine c_reg ?_
  refine l_q (by decide) (r_loadow Try.underlying25 rfl inf_25 rfl (by repeat constructor) (by rfl)).q ?_
  refine l_q (by decide) (p_move rfl).q ?_
  refine l_call (X := Option Addr × Nat) (fun x => .tuple #[.slice x.1 (expL X.g s X.terms.length).length x.2, .bool (sentB X.g s)]) (fun x => Sl 1 intF x.1 (expL X.g s X.terms.length)) (by decide) call_16 rfl (fun w hs => expected_ok X hX As cs s (by omega) w (GI.of hs (by repeat constructor) (by repeat constructor) (by repeat constructor) (by repeat constructor)) ok (hs.facts (Sl 1 intF As s) (by repeat constructor)).1) (fun x17 => ?_)
  refine l_q (by decide) (p_move rfl).q ?_
  refine l_q (by decide) (p_extract rfl rfl).q ?_
  refine l_q (by decide) (p_extract rfl rfl).q ?_
  refine l_q (by decide) (p_assign rfl).q ?_
  refine l_q (by decide) (p_assign rfl).q ?_
  refine l_nil ?_
  refine c_seq ?_
  refine c_reg ?_
  refine l_q (by decide) (r_loadow Try.underlying25 rfl inf_25 rfl (by repeat constructor) (by rfl)).q ?_
  refine l_q (by decide) (p_move rfl).q ?_
  refine l_call (X := Option Addr × Nat) (fun x => .tuple #[.slice x.1 (expL X.g s X.terms.length).length x.2, .bool (sentB X.g s)]) (fun x => Sl 1 intF x.1 (expL X.g s X.terms.length)) (by decide) call_17 rfl (fun w hs => rexp_ok X hX As cs s (by omega) w (GI.of hs (by repeat constructor) (by repeat constructor) (by repeat constructor) (by repeat constructor)) ok hv (hs.facts (Sl 1 intF As s) (by repeat constructor)).1) (fun x23 => ?_)
  refine l_q (by decide) (p_move rfl).q ?_
  refine l_q (by decide) (p_extract rfl rfl).q ?_
  refine l_q (by decide) (p_extract rfl rfl).q ?_
  refine l_q (by decide) (p_assign rfl).q ?_
  refine l_q (by decide) (p_assign rfl).q ?_
  refine l_nil ?_
  refine c_seq ?_
  refine c_reg ?_
  refine l_q (by decide) (q_call call_11 rfl (fun w hs => awake_ok w)) ?_
  refine l_q (by decide) (p_move rfl).q ?_
  refine l_g (j := 1) rfl rfl (by decide) (p_move rfl).q ?_
  refine l_g (j := 1) rfl rfl (by decide) (p_move rfl).q ?_
  refine l_g (j := 1) rfl rfl (by decide) (q_call call_18 rfl (fun w hs => ints_yes (l := (expL X.g s X.terms.length)) (k := (expL X.g s X.terms.length)) rfl rfl rfl (by have := expL_len X.g s X.terms.length; have h2 : X.terms.length ≤ 12 := ok.tl; omega) (hs.facts (Sl 1 intF x17.1 (expL X.g s X.terms.length)) (by repeat constructor)).1 (hs.facts (Sl 1 intF x23.1 (expL X.g s X.terms.length)) (by repeat constructor)).1)) ?_
  refine l_q (by decide) (p_pick rfl rfl).q ?_
  refine l_q (by decide) (p_move rfl).q ?_
  refine l_g (j := 6) rfl rfl (by decide) (p_move rfl).q ?_
  refine l_g (j := 6) rfl rfl (by decide) (p_move rfl).q ?_
  refine l_g (j := 6) rfl rfl (by decide) (((p_eqb Try.underlying4 rfl rfl)).to (u := .bool true) (by rw [beq_self_eq_true])).q ?_
  refine l_q (by decide) (p_pick rfl rfl).q ?_
  refine l_q (by decide) (p_assign rfl).q ?_
  refine l_nil ?_
  refine c_ret ?_
  refine c_ret1 rfl rfl (fun w hs => ?_)
  exact ⟨rfl, hs.ext⟩

theorem law_prefixes (X : GI) (hX : X.small) (As : Option Addr) (cs : Nat) (s : List Int) (hl : s.length ≤ 140737488355328) (hcs : s.length ≤ cs) (w : World) (hM : X.mem w) (hp : Sl 1 intF As s w) :
   Calls Try.prog 6 #[.agg #[.slice X.At X.terms.length X.ct, .slice X.An X.nts.length X.cn, .int .i64 X.start, .slice X.Ar X.xs.length X.cr], .slice As s.length cs] w (Ret fun v w' => v = .bool true ∧ Ext [] w w') := by
 refine calls_fx (l := [.agg #[.slice X.At X.terms.length X.ct, .slice X.An X.nts.length X.cn, .int .i64 X.start, .slice X.Ar X.xs.length X.cr], .slice As s.length cs]) Try.func6 rfl Try.ntmps6 (Nat.le_of_ble_eq_true rfl) ((X.begin hM).old hp (dep_sl (by decide) hp)) ?_
 refine c_seq ?_
 refine c_reg ?_
 refine l_box (by decide) rfl _ rfl (fun b2 => ?_)
 refine l_q (by decide) (p_assign rfl).q ?_
 refine l_nil ?_
 refine c_seq ?_
 refine c_seq ?_
 refine c_reg ?_
 refine l_q (by decide) (r_loadow Try.underlying25 rfl inf_25 rfl (by repeat constructor) (by rfl)).q ?_
 refine l_q (by decide) (p_move rfl).q ?_
 refine l_call (X := BW (May X s 10)) (fun x => .bool x.1) (fun _ _ => True) (by decide) call_10 rfl (fun w hs => may_ok X hX As cs s hl 10 (by omega) w (GI.of hs (by repeat constructor) (by repeat constructor) (by repeat constructor) (by repeat constructor))) (fun x9 => ?_)
 refine l_q (by decide) (p_not rfl).q ?_
 refine l_nil ?_
 refine c_cond rfl (fun h10 => ?_) (fun h10 => ?_)
 ·skip
  refine c_seq ?_
  refine c_reg ?_
  refine l_q (by decide) (q_call call_11 rfl (fun w hs => awake_ok w)) ?_
  refine l_q (by decide) (p_assign rfl).q ?_
  refine l_nil ?_
  refine c_ret ?_
  refine c_ret1 rfl rfl (fun w hs => ?_)
  exact ⟨rfl, hs.ext⟩
 ·skip
  have hmay := x9.2 (by simpa using h10)
  have ok := hmay.ok2
  have hv := hmay.val
  have hlen := hmay.len
  refine c_skip ?_
  refine c_seq ?_
  refine c_reg ?_
  refine l_q (by decide) (r_loadow Try.underlying25 rfl inf_25 rfl (by repeat constructor) (by rfl)).q ?_
  refine l_q (by decide) (p_move rfl).q ?_
  refine l_q (by decide) (q_call call_14 rfl (fun w hs => viable_ok X hX As cs s (by omega) w (GI.of hs (by repeat constructor) (by repeat constructor) (by repeat constructor) (by repeat constructor)) ok (hs.facts (Sl 1 intF As s) (by repeat constructor)).1)) ?_
  refine l_q (by decide) (p_assign rfl).q ?_
  refine l_nil ?_
  refine c_seq ?_
  refine c_seq ?_
  refine c_reg ?_
  refine l_q (by decide) (r_loadow Try.underlying25 rfl inf_25 rfl (by repeat constructor) (by rfl)).q ?_
  refine l_q (by decide) (p_move rfl).q ?_
  refine l_q (by decide) (q_call call_12 rfl (fun w hs => recognize_ok X hX As cs s (by omega) w (GI.of hs (by repeat constructor) (by repeat constructor) (by repeat constructor) (by repeat constructor)) ok (hs.facts (Sl 1 intF As s) (by repeat constructor)).1)) ?_
  refine l_q (by decide) (p_move rfl).q ?_
  refine l_splitb (t := 18) rfl (fun h18 => ?_) (fun h18 => ?_)
  ·skip
   refine l_g (j := 3) rfl rfl (by decide) (p_move rfl).q ?_
   refine l_g (j := 3) rfl rfl (by decide) (p_not rfl).q ?_
   refine l_q (by decide) (p_pick rfl rfl).q ?_
   refine l_nil ?_
   refine c_cond rfl (fun h21 => ?_) (fun h21 => ?_)
   ·skip
    refine c_seq ?_
    refine c_reg ?_
    refine l_q (by decide) (p_assign rfl).q ?_
    refine l_nil ?_
    refine c_ret ?_
    refine c_ret1 rfl rfl (fun w hs => ?_)
    have := sent_viaB h18
    rw [this] at h21
    cases h21
   ·skip
    refine c_skip ?_
    refine c_seq ?_
    refine c_seq ?_
    refine c_reg ?_
    refine l_q (by decide) (p_assign (v := .int .i64 ((0 : Nat) : Int)) rfl).q ?_
    refine l_nil ?_
    refine c_block ?_
    refine c_loop (S := Nat) (fun zs => zs ≤ s.length) (fun zs => s.length - zs) (fun zs => [(1, .slice As s.length cs), (2, .pointer (some ⟨b2, 0, none⟩)), (5, .bool (viaB X.g s)), (6, .int .i64 (zs : Int))]) (fun zs => [iCells b2 25 [.slice X.At X.terms.length X.ct, .slice X.An X.nts.length X.cn, .int .i64 X.start, .slice X.Ar X.xs.length X.cr]]) (fun zs => ((fun _ => True) :: (Sl 1 intF As s :: [Bd X.xs, Sl 3 ruF X.Ar X.xs, Sl 1 strF X.An X.nts, Sl 1 strF X.At X.terms]))) (0) ?_ ?_ ?_ ?_ ?_
    · show (0) ≤ s.length
      exact Nat.zero_le _
    · exact ⟨rfl, rfl, rfl, rfl, trivial⟩
    · exact .refl _
    · exact fun _ h => h
    rintro i hinv
    have hinv : i ≤ s.length := hinv
    have hi := hinv
    show Cont _ _ _ _ [(1, .slice As s.length cs), (2, .pointer (some ⟨b2, 0, none⟩)), (5, .bool (viaB X.g s)), (6, .int .i64 (i : Int))] ([iCells b2 25 [.slice X.At X.terms.length X.ct, .slice X.An X.nts.length X.cn, .int .i64 X.start, .slice X.Ar X.xs.length X.cr]]) ((fun _ => True) :: (Sl 1 intF As s :: [Bd X.xs, Sl 3 ruF X.Ar X.xs, Sl 1 strF X.An X.nts, Sl 1 strF X.At X.terms]))
    refine c_seq ?_
    refine c_seq ?_
    refine c_reg ?_
    refine l_q (by decide) (p_move rfl).q ?_
    refine l_q (by decide) (p_move rfl).q ?_
    refine l_q (by decide) (p_len_sl Try.underlying26 rfl).q ?_
    refine l_q (by decide) (p_lss rfl rfl rfl rfl).q ?_
    refine l_q (by decide) (p_move rfl).q ?_
    refine l_splitd (t := 26) rfl (fun h26 => ?_) (fun h26 => ?_)
    ·skip
     refine l_g (j := 4) rfl rfl (by decide) (p_move rfl).q ?_
     refine l_q (by decide) (p_pick rfl rfl).q ?_
     refine l_nil ?_
     refine c_cond rfl (fun h28 => ?_) (fun h28 => ?_)
     ·skip
      refine c_skip ?_
      refine c_seq ?_
      refine c_block ?_
      refine c_seq ?_
      refine c_draw mixed (by decide +kernel) ?_
      refine q_q (by decide) (r_loadow Try.underlying25 rfl inf_25 rfl (by repeat constructor) (by rfl)).q ?_
      refine q_q (by decide) (p_move rfl).q ?_
      refine q_q (by decide) (p_move rfl).q ?_
      refine q_q (by decide) (((p_part_h Try.underlying26 inf_3 rfl rfl rfl (by omega) (by omega))).to (u := .slice (subA As cs 0 1) (s.take i).length cs) (by rfl)).q ?_
      refine q_q (by decide) (q_call call_14 rfl (fun w hs => viable_ok X hX (subA As cs 0 1) cs (s.take i) (by rw [List.length_take]; omega) w (GI.of hs (by repeat constructor) (by repeat constructor) (by repeat constructor) (by repeat constructor)) ok (Sl.sub (hs.facts (Sl 1 intF As s) (by repeat constructor)).1 cs 0 i hcs))) ?_
      refine q_q (by decide) (p_not rfl).q ?_
      refine q_nil ?_
      refine c_cond rfl (fun h36 => ?_) (fun h36 => ?_)
      ·skip
       refine c_seq ?_
       refine c_reg ?_
       refine l_q (by decide) (p_assign rfl).q ?_
       refine l_nil ?_
       refine c_ret ?_
       refine c_ret1 rfl rfl (fun w hs => ?_)
       rw [take_viaB h28 i] at h36
       cases h36
      ·skip
       refine c_skip ?_
       refine c_reg ?_
       refine l_q (by decide) (p_move rfl).q ?_
       refine l_q (by decide) (p_add (j := 1) rfl rfl rfl rfl (by show _ ≤ (9223372036854775807 : Nat); omega)).q ?_
       refine l_q (by decide) (p_assign rfl).q ?_
       refine l_nil ?_
       refine c_join ((i + 1)) ?_ ?_ ?_ ?_
       ·show ((i + 1) ≤ s.length) ∧ s.length - (i + 1) < s.length - i
        exact ⟨by omega, by omega⟩
       · exact ⟨rfl, rfl, rfl, rfl, trivial⟩
       ·show List.Perm _ ([iCells b2 25 [.slice X.At X.terms.length X.ct, .slice X.An X.nts.length X.cn, .int .i64 X.start, .slice X.Ar X.xs.length X.cr]])
        exact .refl _
       · exact fun _ h => h
     ·skip
      refine c_exit ?_
      refine c_here ?_
      refine c_seq ?_
      refine c_reg ?_
      refine l_q (by decide) (q_call call_11 rfl (fun w hs => awake_ok w)) ?_
      refine l_q (by decide) (p_assign rfl).q ?_
      refine l_nil ?_
      refine c_ret ?_
      refine c_ret1 rfl rfl (fun w hs => ?_)
      exact ⟨rfl, hs.ext⟩
    ·skip
     refine l_off (j := 4) rfl rfl (by (simp; done)) (by decide) ?_
     refine l_q (by decide) (p_pick rfl rfl).q ?_
     refine l_nil ?_
     refine c_false rfl ?_
     refine c_exit ?_
     refine c_here ?_
     refine c_seq ?_
     refine c_reg ?_
     refine l_q (by decide) (q_call call_11 rfl (fun w hs => awake_ok w)) ?_
     refine l_q (by decide) (p_assign rfl).q ?_
     refine l_nil ?_
     refine c_ret ?_
     refine c_ret1 rfl rfl (fun w hs => ?_)
     exact ⟨rfl, hs.ext⟩
  ·skip
   refine l_off (j := 3) rfl rfl (by (simp; done)) (by decide) ?_
   refine l_off (j := 3) rfl rfl (by (simp; done)) (by decide) ?_
   refine l_q (by decide) (p_pick rfl rfl).q ?_
   refine l_nil ?_
   refine c_false rfl ?_
   refine c_skip ?_
   refine c_seq ?_
   refine c_seq ?_
   refine c_reg ?_
   refine l_q (by decide) (p_assign (v := .int .i64 ((0 : Nat) : Int)) rfl).q ?_
   refine l_nil ?_
   refine c_block ?_
   refine c_loop (S := Nat) (fun zs => zs ≤ s.length) (fun zs => s.length - zs) (fun zs => [(1, .slice As s.length cs), (2, .pointer (some ⟨b2, 0, none⟩)), (5, .bool (viaB X.g s)), (6, .int .i64 (zs : Int))]) (fun zs => [iCells b2 25 [.slice X.At X.terms.length X.ct, .slice X.An X.nts.length X.cn, .int .i64 X.start, .slice X.Ar X.xs.length X.cr]]) (fun zs => ((fun _ => True) :: (Sl 1 intF As s :: [Bd X.xs, Sl 3 ruF X.Ar X.xs, Sl 1 strF X.An X.nts, Sl 1 strF X.At X.terms]))) (0) ?_ ?_ ?_ ?_ ?_
   · show (0) ≤ s.length
     exact Nat.zero_le _
   · exact ⟨rfl, rfl, rfl, rfl, trivial⟩
   · exact .refl _
   · exact fun _ h => h
   rintro i hinv
   have hinv : i ≤ s.length := hinv
   have hi := hinv
   show Cont _ _ _ _ [(1, .slice As s.length cs), (2, .pointer (some ⟨b2, 0, none⟩)), (5, .bool (viaB X.g s)), (6, .int .i64 (i : Int))] ([iCells b2 25 [.slice X.At X.terms.length X.ct, .slice X.An X.nts.length X.cn, .int .i64 X.start, .slice X.Ar X.xs.length X.cr]]) ((fun _ => True) :: (Sl 1 intF As s :: [Bd X.xs, Sl 3 ruF X.Ar X.xs, Sl 1 strF X.An X.nts, Sl 1 strF X.At X.terms]))
   refine c_seq ?_
   refine c_seq ?_
   refine c_reg ?_
   refine l_q (by decide) (p_move rfl).q ?_
   refine l_q (by decide) (p_move rfl).q ?_
   refine l_q (by decide) (p_len_sl Try.underlying26 rfl).q ?_
   refine l_q (by decide) (p_lss rfl rfl rfl rfl).q ?_
   refine l_q (by decide) (p_move rfl).q ?_
   refine l_splitd (t := 26) rfl (fun h26 => ?_) (fun h26 => ?_)
   ·skip
    refine l_g (j := 4) rfl rfl (by decide) (p_move rfl).q ?_
    refine l_q (by decide) (p_pick rfl rfl).q ?_
    refine l_nil ?_
    refine c_cond rfl (fun h28 => ?_) (fun h28 => ?_)
    ·skip
     refine c_skip ?_
     refine c_seq ?_
     refine c_block ?_
     refine c_seq ?_
     refine c_draw mixed (by decide +kernel) ?_
     refine q_q (by decide) (r_loadow Try.underlying25 rfl inf_25 rfl (by repeat constructor) (by rfl)).q ?_
     refine q_q (by decide) (p_move rfl).q ?_
     refine q_q (by decide) (p_move rfl).q ?_
     refine q_q (by decide) (((p_part_h Try.underlying26 inf_3 rfl rfl rfl (by omega) (by omega))).to (u := .slice (subA As cs 0 1) (s.take i).length cs) (by rfl)).q ?_
     refine q_q (by decide) (q_call call_14 rfl (fun w hs => viable_ok X hX (subA As cs 0 1) cs (s.take i) (by rw [List.length_take]; omega) w (GI.of hs (by repeat constructor) (by repeat constructor) (by repeat constructor) (by repeat constructor)) ok (Sl.sub (hs.facts (Sl 1 intF As s) (by repeat constructor)).1 cs 0 i hcs))) ?_
     refine q_q (by decide) (p_not rfl).q ?_
     refine q_nil ?_
     refine c_cond rfl (fun h36 => ?_) (fun h36 => ?_)
     ·skip
      refine c_seq ?_
      refine c_reg ?_
      refine l_q (by decide) (p_assign rfl).q ?_
      refine l_nil ?_
      refine c_ret ?_
      refine c_ret1 rfl rfl (fun w hs => ?_)
      rw [take_viaB h28 i] at h36
      cases h36
     ·skip
      refine c_skip ?_
      refine c_reg ?_
      refine l_q (by decide) (p_move rfl).q ?_
      refine l_q (by decide) (p_add (j := 1) rfl rfl rfl rfl (by show _ ≤ (9223372036854775807 : Nat); omega)).q ?_
      refine l_q (by decide) (p_assign rfl).q ?_
      refine l_nil ?_
      refine c_join ((i + 1)) ?_ ?_ ?_ ?_
      ·show ((i + 1) ≤ s.length) ∧ s.length - (i + 1) < s.length - i
       exact ⟨by omega, by omega⟩
      · exact ⟨rfl, rfl, rfl, rfl, trivial⟩
      ·show List.Perm _ ([iCells b2 25 [.slice X.At X.terms.length X.ct, .slice X.An X.nts.length X.cn, .int .i64 X.start, .slice X.Ar X.xs.length X.cr]])
       exact .refl _
      · exact fun _ h => h
    ·skip
     refine c_exit ?_
     refine c_here ?_
     refine c_seq ?_
     refine c_reg ?_
     refine l_q (by decide) (q_call call_11 rfl (fun w hs => awake_ok w)) ?_
     refine l_q (by decide) (p_assign rfl).q ?_
     refine l_nil ?_
     refine c_ret ?_
     refine c_ret1 rfl rfl (fun w hs => ?_)
     exact ⟨rfl, hs.ext⟩
   ·skip
    refine l_off (j := 4) rfl rfl (by (simp; done)) (by decide) ?_
    refine l_q (by decide) (p_pick rfl rfl).q ?_
    refine l_nil ?_
    refine c_false rfl ?_
    refine c_exit ?_
    refine c_here ?_
    refine c_seq ?_
    refine c_reg ?_
    refine l_q (by decide) (q_call call_11 rfl (fun w hs => awake_ok w)) ?_
    refine l_q (by decide) (p_assign rfl).q ?_
    refine l_nil ?_
    refine c_ret ?_
    refine c_ret1 rfl rfl (fun w hs => ?_)
    exact ⟨rfl, hs.ext⟩
end Go.Proofs.Ytncagpppmaehhaa
