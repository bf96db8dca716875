/- The walks of analysis: the law of the leaf behind a node; conditions: sizes. -/
import Derived.Test.YtidbhgolhiaijaaWalksP
import Derived.Test.YtidbhgolhiaijaaWalksK
namespace Go.Proofs.Ytidbhgolhiaijaa
open Go Go.Fx Go.Proofs

theorem next_ok (X : GI) (hX : X.small) (ok : Ana.Ok X.g) (A : Option Addr) (c : Nat) (m : List XL) (hm : m.map (·.l) = Ana.rowsOf X.g.n (fun i a => Ana.fo X.g i a) (-1) (X.g.t + 1)) : ∀ (n : Nat) (x : XT), x.size ≤ n → x.size ≤ 1048576 → ∀ y : Int, TreeP X.g y x → ∀ a : Int, (y < 0 → Ana.fo X.g (Ana.nt y) a = true) → ∀ w : World, X.mem w → XT.In w x → Sl 1 lsF A m w → Ld m w →
    Calls Try.prog 30 #[.agg #[.slice X.At X.terms.length X.ct, .slice X.An X.nts.length X.cn, .int .i64 X.start, .slice X.Ar X.xs.length X.cr], .slice A m.length c, .agg #[.int .i64 x.rule, .int .i64 x.term, .slice x.A x.kids.length x.c], .int .i64 a] w (Ret fun v w' => v = .bool true ∧ Ext [] w w')
  | 0, x, h, _, _, _, _, _, _, _, _, _, _ => by rw [XT.size_eq] at h; omega
  | n + 1, x, h, hsz, y, hT, a, hf, w, hM, hI, h1, h2 => next_step X hX ok A c m hm y x hsz hT a hf (fun k hk z hz b hb w2 hm2 hi2 g1 g2 => next_ok X hX ok A c m hm n k (by have := kid_size hk; omega) (by have := kid_size hk; omega) z hz b hb w2 hm2 hi2 g1 g2) w hM hI h1 h2
theorem next_yes {X : GI} (hX : X.small) (ok : Ana.Ok X.g) {m : List XL} {A : Option Addr} {c n : Nat} (hn : m.length = n) (hm : m.map (·.l) = Ana.rowsOf X.g.n (fun i a => Ana.fo X.g i a) (-1) (X.g.t + 1)) {x : XT} (hsz : x.size ≤ 1048576) (ht : treB X.g (-1 - X.start) x = true) {w : World} (hM : X.mem w) (hI : XT.In w x) (h1 : Sl 1 lsF A m w) (h2 : Ld m w) :
    Calls Try.prog 30 #[.agg #[.slice X.At X.terms.length X.ct, .slice X.An X.nts.length X.cn, .int .i64 X.start, .slice X.Ar X.xs.length X.cr], .slice A n c, .agg #[.int .i64 x.rule, .int .i64 x.term, .slice x.A x.kids.length x.c], .int .i64 (-1)] w (Ret fun v w' => v = .bool true ∧ Ext [] w w') := by
  subst hn
  refine next_ok X hX ok A c m hm x.size x (Nat.le_refl _) hsz _ (Ana.dec_iff.1 ht) (-1) (fun _ => ?_) w hM hI h1 h2
  rw [show Ana.nt (-1 - X.start) = X.g.start.toNat by unfold Ana.nt; show _ = X.start.toNat; congr 1; omega]
  exact Ana.dec_true .start
theorem call_10 : Callable Try.prog 10 := ⟨_, Try.func10, by kernel_rfl, rfl⟩
theorem call_11 : Callable Try.prog 11 := ⟨_, Try.func11, by kernel_rfl, rfl⟩
theorem law_follows (X : GI) (hX : X.small) (x : XT) (hsz : x.size ≤ 1048576) (w : World) (hM : X.mem w) (hI : XT.In w x) :
   Calls Try.prog 8 #[.agg #[.slice X.At X.terms.length X.ct, .slice X.An X.nts.length X.cn, .int .i64 X.start, .slice X.Ar X.xs.length X.cr], .agg #[.int .i64 x.rule, .int .i64 x.term, .slice x.A x.kids.length x.c]] w (Ret fun v w' => v = .bool true ∧ Ext [] w w') := by
 obtain ⟨lo, hlo⟩ : ∃ lo, lo = w.heap.size := ⟨_, rfl⟩
 have hkl := sizes_len x.kids
 have hxs0 := XT.size_eq x
 have hxl := hX.x
 refine calls_fx (l := [.agg #[.slice X.At X.terms.length X.ct, .slice X.An X.nts.length X.cn, .int .i64 X.start, .slice X.Ar X.xs.length X.cr], .agg #[.int .i64 x.rule, .int .i64 x.term, .slice x.A x.kids.length x.c]]) Try.func8 rfl Try.ntmps8 (Nat.le_of_ble_eq_true rfl) ((X.begin hM).old hI (dep_in hI)) ?_
 refine c_seq ?_
 refine c_reg ?_
 refine l_box (by decide) rfl _ rfl (fun b2 => ?_)
 refine l_box (by decide) rfl _ rfl (fun b3 => ?_)
 refine l_q (by decide) (p_assign rfl).q ?_
 refine l_nil ?_
 refine c_seq ?_
 refine c_seq ?_
 refine c_reg ?_
 refine l_q (by decide) (q_call call_10 rfl (fun w hs => awake_ok w)) ?_
 refine l_q (by decide) (p_not rfl).q ?_
 refine l_nil ?_
 refine c_false rfl ?_
 refine c_skip ?_
 refine c_seq ?_
 refine c_seq ?_
 refine c_reg ?_
 first | refine l_q (by decide) (r_loada Try.underlying25 rfl inf_25 rfl (by first | exact .fact (by repeat constructor) | exact .own (by repeat constructor) (by decide) (fun _ => rfl) | exact (fun _ hs => (hs.facts (InF x) (by repeat constructor)).1.sl) | exact SlIn.row (by assumption) (by repeat constructor) | exact SlIn.body (by repeat constructor) (by assumption)) (by assumption)).q ?_ | refine l_q (by decide) (r_loadow Try.underlying25 rfl inf_25 rfl (by repeat constructor) (by rfl)).q ?_ | refine l_q (by decide) (r_loadoa Try.underlying25 rfl inf_25 rfl (by repeat constructor) (by rfl) (fun j u h => h)).q ?_
 refine l_call (X := BW (Ana.Ok X.g)) (fun x => .bool x.1) (fun _ _ => True) (by decide) call_11 rfl (fun w hs => small_ok X hX w (GI.of hs (by repeat constructor) (by repeat constructor) (by repeat constructor) (by repeat constructor))) (fun x9 => ?_)
 first | refine l_q (by decide) (p_notd rfl).q ?_ | refine l_q (by decide) (p_not rfl).q ?_
 refine l_q (by decide) (p_move rfl).q ?_
 first | refine l_splitd (t := 11) rfl (fun h11 => ?_) (fun h11 => ?_) | refine l_splitb (t := 11) rfl (fun h11 => ?_) (fun h11 => ?_)
 ·skip
  refine l_off (j := 3) rfl rfl (by first | (simp; done) | (simp [undef]; done)) (by decide) ?_
  refine l_off (j := 3) rfl rfl (by first | (simp; done) | (simp [undef]; done)) (by decide) ?_
  refine l_off (j := 3) rfl rfl (by first | (simp; done) | (simp [undef]; done)) (by decide) ?_
  refine l_q (by decide) (p_pick rfl rfl).q ?_
  refine l_q (by decide) (p_move rfl).q ?_
  refine l_off (j := 8) rfl rfl (by first | (simp; done) | (simp [undef]; done)) (by decide) ?_
  refine l_off (j := 8) rfl rfl (by first | (simp; done) | (simp [undef]; done)) (by decide) ?_
  refine l_off (j := 8) rfl rfl (by first | (simp; done) | (simp [undef]; done)) (by decide) ?_
  refine l_off (j := 8) rfl rfl (by first | (simp; done) | (simp [undef]; done)) (by decide) ?_
  refine l_off (j := 8) rfl rfl (by first | (simp; done) | (simp [undef]; done)) (by decide) ?_
  refine l_off (j := 8) rfl rfl (by first | (simp; done) | (simp [undef]; done)) (by decide) ?_
  refine l_off (j := 8) rfl rfl (by first | (simp; done) | (simp [undef]; done)) (by decide) ?_
  refine l_q (by decide) (p_pick rfl rfl).q ?_
  refine l_nil ?_
  refine c_true rfl ?_
  refine c_seq ?_
  refine c_reg ?_
  refine l_q (by decide) (p_assign rfl).q ?_
  refine l_nil ?_
  refine c_ret ?_
  refine c_ret1 rfl rfl (fun w hs => ?_)
  exact ⟨rfl, hs.ext⟩
 ·skip
  have ok : Ana.Ok X.g := x9.2 (by simpa using h11)
  have hnl := ok.nl
  have hnn : X.nts.length ≤ 8 := hnl
  have htl : X.terms.length ≤ 6 := ok.tl
  have hs0 : 0 ≤ X.start := ok.s0
  have hs1 : X.start < (X.nts.length : Int) := ok.s1
  first | refine l_g (j := 3) rfl rfl (by decide) (r_loada Try.underlying36 rfl inf_36 rfl (by first | exact .fact (by repeat constructor) | exact .own (by repeat constructor) (by decide) (fun _ => rfl) | exact (fun _ hs => (hs.facts (InF x) (by repeat constructor)).1.sl) | exact SlIn.row (by assumption) (by repeat constructor) | exact SlIn.body (by repeat constructor) (by assumption)) (by assumption)).q ?_ | refine l_g (j := 3) rfl rfl (by decide) (r_loadow Try.underlying36 rfl inf_36 rfl (by repeat constructor) (by rfl)).q ?_ | refine l_g (j := 3) rfl rfl (by decide) (r_loadoa Try.underlying36 rfl inf_36 rfl (by repeat constructor) (by rfl) (fun j u h => h)).q ?_
  refine l_g (j := 3) rfl rfl (by decide) (q_call call_26 rfl (fun w hs => nodes_ok x.size x (Nat.le_refl _) hsz w (hs.facts (InF x) (by repeat constructor)).1)) ?_
  first | refine l_g (j := 3) rfl rfl (by decide) (p_gtr (j := 200) rfl rfl rfl rfl).q ?_ | refine l_g (j := 3) rfl rfl (by decide) (p_gtri rfl rfl).q ?_
  refine l_q (by decide) (p_pick rfl rfl).q ?_
  refine l_q (by decide) (p_move rfl).q ?_
  first | refine l_splitd (t := 16) rfl (fun h16 => ?_) (fun h16 => ?_) | refine l_splitb (t := 16) rfl (fun h16 => ?_) (fun h16 => ?_)
  ·skip
   refine l_off (j := 8) rfl rfl (by first | (simp; done) | (simp [undef]; done)) (by decide) ?_
   refine l_off (j := 8) rfl rfl (by first | (simp; done) | (simp [undef]; done)) (by decide) ?_
   refine l_off (j := 8) rfl rfl (by first | (simp; done) | (simp [undef]; done)) (by decide) ?_
   refine l_off (j := 8) rfl rfl (by first | (simp; done) | (simp [undef]; done)) (by decide) ?_
   refine l_off (j := 8) rfl rfl (by first | (simp; done) | (simp [undef]; done)) (by decide) ?_
   refine l_off (j := 8) rfl rfl (by first | (simp; done) | (simp [undef]; done)) (by decide) ?_
   refine l_off (j := 8) rfl rfl (by first | (simp; done) | (simp [undef]; done)) (by decide) ?_
   refine l_q (by decide) (p_pick rfl rfl).q ?_
   refine l_nil ?_
   refine c_true rfl ?_
   refine c_seq ?_
   refine c_reg ?_
   refine l_q (by decide) (p_assign rfl).q ?_
   refine l_nil ?_
   refine c_ret ?_
   refine c_ret1 rfl rfl (fun w hs => ?_)
   exact ⟨rfl, hs.ext⟩
  ·skip
   first | refine l_g (j := 8) rfl rfl (by decide) (r_loada Try.underlying25 rfl inf_25 rfl (by first | exact .fact (by repeat constructor) | exact .own (by repeat constructor) (by decide) (fun _ => rfl) | exact (fun _ hs => (hs.facts (InF x) (by repeat constructor)).1.sl) | exact SlIn.row (by assumption) (by repeat constructor) | exact SlIn.body (by repeat constructor) (by assumption)) (by assumption)).q ?_ | refine l_g (j := 8) rfl rfl (by decide) (r_loadow Try.underlying25 rfl inf_25 rfl (by repeat constructor) (by rfl)).q ?_ | refine l_g (j := 8) rfl rfl (by decide) (r_loadoa Try.underlying25 rfl inf_25 rfl (by repeat constructor) (by rfl) (fun j u h => h)).q ?_
   first | refine l_g (j := 8) rfl rfl (by decide) (p_faddr (i := 2) 2 Try.underlying25 rfl inf_3 (by decide) rfl rfl).q ?_ | refine l_g (j := 8) rfl rfl (by decide) (p_faddro (i := 2) 2 Try.underlying25 rfl inf_3 (by decide) rfl rfl).q ?_
   first | refine l_g (j := 8) rfl rfl (by decide) (r_loado Try.underlying3 rfl rfl (by repeat constructor) (by rfl)).q ?_ | refine l_g (j := 8) rfl rfl (by decide) (r_load1 Try.underlying3 rfl rfl (by first | exact .fact (by repeat constructor) | exact .own (by repeat constructor) (by decide) (fun _ => rfl) | exact (fun _ hs => (hs.facts (InF x) (by repeat constructor)).1.sl) | exact SlIn.row (by assumption) (by repeat constructor) | exact SlIn.body (by repeat constructor) (by assumption)) (by first | assumption | rfl) (by rfl)).q ?_ | refine l_g (j := 8) rfl rfl (by decide) (r_loadf Try.underlying3 rfl rfl (by first | exact .fact (by repeat constructor) | exact .own (by repeat constructor) (by decide) (fun _ => rfl) | exact (fun _ hs => (hs.facts (InF x) (by repeat constructor)).1.sl) | exact SlIn.row (by assumption) (by repeat constructor) | exact SlIn.body (by repeat constructor) (by assumption)) (by assumption) (by rfl)).q ?_
   first | refine l_g (j := 8) rfl rfl (by decide) (p_sub rfl rfl rfl rfl (by omega) (by show _ ≤ (9223372036854775807 : Nat); omega)).q ?_ | refine l_g (j := 8) rfl rfl (by decide) (p_subi rfl rfl (by show (-9223372036854775808 : Int) ≤ _; omega) (by show _ ≤ ((9223372036854775807 : Nat) : Int); omega)).q ?_
   first | refine l_g (j := 8) rfl rfl (by decide) (r_loada Try.underlying36 rfl inf_36 rfl (by first | exact .fact (by repeat constructor) | exact .own (by repeat constructor) (by decide) (fun _ => rfl) | exact (fun _ hs => (hs.facts (InF x) (by repeat constructor)).1.sl) | exact SlIn.row (by assumption) (by repeat constructor) | exact SlIn.body (by repeat constructor) (by assumption)) (by assumption)).q ?_ | refine l_g (j := 8) rfl rfl (by decide) (r_loadow Try.underlying36 rfl inf_36 rfl (by repeat constructor) (by rfl)).q ?_ | refine l_g (j := 8) rfl rfl (by decide) (r_loadoa Try.underlying36 rfl inf_36 rfl (by repeat constructor) (by rfl) (fun j u h => h)).q ?_
   refine l_g (j := 8) rfl rfl (by decide) (q_call call_27 rfl (fun w hs => tree_ok X hX ok x.size x (Nat.le_refl _) hsz (-1 - X.start) (by omega) w (GI.of hs (by repeat constructor) (by repeat constructor) (by repeat constructor) (by repeat constructor)) (hs.facts (InF x) (by repeat constructor)).1)) ?_
   first | refine l_g (j := 8) rfl rfl (by decide) (p_notd rfl).q ?_ | refine l_g (j := 8) rfl rfl (by decide) (p_not rfl).q ?_
   refine l_q (by decide) (p_pick rfl rfl).q ?_
   refine l_nil ?_
   first | refine c_dec rfl (fun h24 => ?_) (fun h24 => ?_) | refine c_cond rfl (fun h24 => ?_) (fun h24 => ?_)
   ·skip
    refine c_seq ?_
    refine c_reg ?_
    refine l_q (by decide) (p_assign rfl).q ?_
    refine l_nil ?_
    refine c_ret ?_
    refine c_ret1 rfl rfl (fun w hs => ?_)
    exact ⟨rfl, hs.ext⟩
   ·skip
    refine c_skip ?_
    refine c_seq ?_
    refine c_reg ?_
    first | refine l_q (by decide) (r_loada Try.underlying25 rfl inf_25 rfl (by first | exact .fact (by repeat constructor) | exact .own (by repeat constructor) (by decide) (fun _ => rfl) | exact (fun _ hs => (hs.facts (InF x) (by repeat constructor)).1.sl) | exact SlIn.row (by assumption) (by repeat constructor) | exact SlIn.body (by repeat constructor) (by assumption)) (by assumption)).q ?_ | refine l_q (by decide) (r_loadow Try.underlying25 rfl inf_25 rfl (by repeat constructor) (by rfl)).q ?_ | refine l_q (by decide) (r_loadoa Try.underlying25 rfl inf_25 rfl (by repeat constructor) (by rfl) (fun j u h => h)).q ?_
    refine l_callf (X := RLs X.g.n (fun i a => Ana.fo X.g i a) (-1) (X.g.t + 1)) [Bd X.xs, Sl 3 ruF X.Ar X.xs, Sl 1 strF X.An X.nts, Sl 1 strF X.At X.terms] (fun x => rlV x) rlQ (by decide) call_24 rfl (by intro p hp; simp only [List.mem_cons, List.not_mem_nil, or_false] at hp; rcases hp with rfl | rfl | rfl | rfl <;> repeat constructor) (fun w hs => follow_ok X hX ok _ w hs) (fun x26 => ?_)
    refine l_q (by decide) (p_assign rfl).q ?_
    refine l_nil ?_
    refine c_seq ?_
    refine c_reg ?_
    refine l_q (by decide) (p_move rfl).q ?_
    refine l_q (by decide) (p_len_sl Try.underlying32 rfl).q ?_
    first | refine l_q (by decide) (p_faddr (i := 1) 1 Try.underlying25 rfl inf_22 (by decide) rfl rfl).q ?_ | refine l_q (by decide) (p_faddro (i := 1) 1 Try.underlying25 rfl inf_22 (by decide) rfl rfl).q ?_
    first | refine l_q (by decide) (r_loado Try.underlying22 rfl rfl (by repeat constructor) (by rfl)).q ?_ | refine l_q (by decide) (r_load1 Try.underlying22 rfl rfl (by first | exact .fact (by repeat constructor) | exact .own (by repeat constructor) (by decide) (fun _ => rfl) | exact (fun _ hs => (hs.facts (InF x) (by repeat constructor)).1.sl) | exact SlIn.row (by assumption) (by repeat constructor) | exact SlIn.body (by repeat constructor) (by assumption)) (by first | assumption | rfl) (by rfl)).q ?_ | refine l_q (by decide) (r_loadf Try.underlying22 rfl rfl (by first | exact .fact (by repeat constructor) | exact .own (by repeat constructor) (by decide) (fun _ => rfl) | exact (fun _ hs => (hs.facts (InF x) (by repeat constructor)).1.sl) | exact SlIn.row (by assumption) (by repeat constructor) | exact SlIn.body (by repeat constructor) (by assumption)) (by assumption) (by rfl)).q ?_
    refine l_q (by decide) (p_len_sl Try.underlying22 rfl).q ?_
    first | refine l_q (by decide) (((p_eql rfl rfl rfl rfl)).to (u := .bool true) (congrArg Value.bool (decide_eq_true (by rw [rl_len]; rfl)))).q ?_ | refine l_q (by decide) (((p_eqli rfl rfl)).to (u := .bool true) (congrArg Value.bool (decide_eq_true (by rw [rl_len]; rfl)))).q ?_
    refine l_q (by decide) (p_move rfl).q ?_
    first | refine l_g (j := 6) rfl rfl (by decide) (r_loada Try.underlying25 rfl inf_25 rfl (by first | exact .fact (by repeat constructor) | exact .own (by repeat constructor) (by decide) (fun _ => rfl) | exact (fun _ hs => (hs.facts (InF x) (by repeat constructor)).1.sl) | exact SlIn.row (by assumption) (by repeat constructor) | exact SlIn.body (by repeat constructor) (by assumption)) (by assumption)).q ?_ | refine l_g (j := 6) rfl rfl (by decide) (r_loadow Try.underlying25 rfl inf_25 rfl (by repeat constructor) (by rfl)).q ?_ | refine l_g (j := 6) rfl rfl (by decide) (r_loadoa Try.underlying25 rfl inf_25 rfl (by repeat constructor) (by rfl) (fun j u h => h)).q ?_
    refine l_g (j := 6) rfl rfl (by decide) (p_move rfl).q ?_
    first | refine l_g (j := 6) rfl rfl (by decide) (r_loada Try.underlying36 rfl inf_36 rfl (by first | exact .fact (by repeat constructor) | exact .own (by repeat constructor) (by decide) (fun _ => rfl) | exact (fun _ hs => (hs.facts (InF x) (by repeat constructor)).1.sl) | exact SlIn.row (by assumption) (by repeat constructor) | exact SlIn.body (by repeat constructor) (by assumption)) (by assumption)).q ?_ | refine l_g (j := 6) rfl rfl (by decide) (r_loadow Try.underlying36 rfl inf_36 rfl (by repeat constructor) (by rfl)).q ?_ | refine l_g (j := 6) rfl rfl (by decide) (r_loadoa Try.underlying36 rfl inf_36 rfl (by repeat constructor) (by rfl) (fun j u h => h)).q ?_
    refine l_g (j := 6) rfl rfl (by decide) (q_call call_30 rfl (fun w hs => next_yes hX ok rfl x26.2 hsz (by simpa using h24) (GI.of hs (by repeat constructor) (by repeat constructor) (by repeat constructor) (by repeat constructor)) (hs.facts (InF x) (by repeat constructor)).1 (hs.facts (Sl 1 lsF x26.1.1 x26.1.2.2) (by repeat constructor)).1 (hs.facts (Ld x26.1.2.2) (by repeat constructor)).1)) ?_
    refine l_q (by decide) (p_pick rfl rfl).q ?_
    refine l_q (by decide) (p_assign rfl).q ?_
    refine l_nil ?_
    refine c_ret ?_
    refine c_ret1 rfl rfl (fun w hs => ?_)
    exact ⟨rfl, hs.ext⟩
end Go.Proofs.Ytidbhgolhiaijaa
