/- The walks of the recognizer, fourteenth part (Viable of the reference); conditions: lengths. -/
import Derived.Test.YtncagpppmaehhaaWalksM
namespace Go.Proofs.Ytncagpppmaehhaa
open Go Go.Fx Go.Proofs

open Go.Proofs.Rec
noncomputable def viaB (g : Ana.Gr) (s : List Int) : Bool := Ana.dec (Via g s)
theorem via_known {X : GI} (ok : Ana.Ok2 X.g) {s : List Int} (h : Via X.g s) : knownB X s = true := by
  obtain ⟨t, ht⟩ := h
  have := sent_known ok ht
  unfold knownB at this ⊢
  rw [List.all_append, Bool.and_eq_true] at this
  exact this.1
theorem via_unknown {X : GI} (ok : Ana.Ok2 X.g) {s : List Int} (h : knownB X s = false) : viaB X.g s = false := Ana.dec_false fun hs => by
  rw [via_known ok hs] at h; cases h
theorem dr_sound {g : Ana.Gr} {s : List Int} : SoundD g s (dr g s) := fun A i k h => Ana.dec_iff.1 h
theorem dr_fullD {g : Ana.Gr} (ok : ∀ r, r ∈ g.rules → 0 ≤ r.head) {s : List Int} : FullD g s (dr g s) := fun r hr i k h1 h2 h3 => by
  have := (bd_der dr_sound h2 h3).2
  have h0 := ok r hr
  exact Ana.dec_true ⟨h1, h2, Der.one hr (by omega) (by omega) this⟩
def upd2 (b : T2) (h i : Nat) : T2 := fun A i2 => if A = h ∧ i2 = i then true else b A i2
def flat2 (L : Nat) (b : T2) (q : Nat) : Bool := b (q / L) (q % L)
def lack2 (n L : Nat) (b : T2) : Nat := Ana.lack (n * L) (flat2 L b)
theorem flat2_upd {L h i : Nat} {b : T2} (hi : i < L) : flat2 L (upd2 b h i) = Ana.upd (flat2 L b) (h * L + i) true := by
  funext q
  unfold flat2 upd2 Ana.upd
  by_cases e : q = h * L + i
  · subst e
    obtain ⟨_, e3, e4⟩ := idx3 (n := h + 1) (Nat.lt_succ_self h) hi
    rw [e3, e4, if_pos ⟨rfl, rfl⟩, if_pos rfl]
  · rw [if_neg e, if_neg]
    rintro ⟨h1, h2⟩
    refine e ?_
    rw [← h1, ← h2, Nat.div_add_mod']
theorem lack2_upd {n L h i : Nat} {b : T2} (hh : h < n) (hi : i < L) (hb : b h i = false) : lack2 n L (upd2 b h i) < lack2 n L b := by
  unfold lack2
  rw [flat2_upd hi]
  obtain ⟨h1, h2, h3⟩ := idx3 hh hi
  refine Ana.lack_upd h1 ?_
  unfold flat2
  rw [h2, h3]
  exact hb
def rowb (L : Nat) (B : NF) (b : T2) (i : Nat) : Fx.Item := iCells (B i) 4 (bl L (b i))
theorem rowb_out {n L h : Nat} {B : NF} {b : T2} (l : Fx.Own) (hh : h < n) : (l ++ fam n (rowb L B b)).Perm (iCells (B h) 4 (bl L (b h)) :: (l ++ famx n h (rowb L B b))) := fam_out (F := rowb L B b) l hh
theorem rowb_in {n L h i : Nat} {B : NF} {b : T2} (l : Fx.Own) (hh : h < n) : (iCells (B h) 4 ((bl L (b h)).set (i * 1) (.bool true)) :: (l ++ famx n h (rowb L B b))).Perm (l ++ fam n (rowb L B (upd2 b h i))) :=
  fam_in l hh (by
    unfold rowb
    rw [bl_set]
    congr 2
    funext q
    unfold Ana.upd upd2
    by_cases e : q = i
    · rw [if_pos e, if_pos ⟨rfl, e⟩]
    · rw [if_neg e, if_neg (fun h => e h.2)]) (fun j _ hj => by
    unfold rowb
    congr 2
    funext q
    unfold upd2
    rw [if_neg (fun h => hj h.1)])
theorem bm_own {w0 w : World} {K : List Nat} {ρ : Fx.Facts} {n L T : Nat} {B : NF} {b : T2} {y z : Fx.Item} (hs : St w0 K w (iCells T 42 (hdm n L n B) :: y :: z :: fam n (rowb L B b)) ρ) : BM n L T B b w :=
  ⟨(hs.own _ (List.mem_cons_self ..)).1, fun i hi => (hs.own (rowb L B b i) (List.mem_cons_of_mem _ (List.mem_cons_of_mem _ (List.mem_cons_of_mem _ (mem_fam hi))))).1⟩
def GoodB (s : List Int) (d : T3) (x : XR) (b : T2) : Prop := ∀ i, i ≤ s.length → BE d b s x.r.body i → b x.r.head.toNat i = true
theorem soundB_zero {g : Ana.Gr} {s : List Int} : SoundB g s (fun _ _ => false) := fun _ _ h => by cases h
theorem soundB_step {g : Ana.Gr} (ok : ∀ r, r ∈ g.rules → 0 ≤ r.head) {s : List Int} {b : T2} (h : SoundB g s b) {r : Ana.Rl} (hr : r ∈ g.rules) (hw : Works g r.body) {i : Nat} (hi : i ≤ s.length) (hb : beB (dr g s) b s r.body i = true) : SoundB g s (upd2 b r.head.toNat i) := fun A i2 hd => by
  unfold upd2 at hd
  by_cases e : A = r.head.toNat ∧ i2 = i
  · obtain ⟨rfl, rfl⟩ := e
    obtain ⟨w, hw2⟩ := be_beg ok dr_sound h hw hi (Ana.dec_iff.1 hb)
    have h0 := ok r hr
    exact ⟨hi, w, Der.one hr (by omega) (by omega) hw2⟩
  · rw [if_neg e] at hd
    exact h A i2 hd
theorem via_table {Y : GI} (ok : Ana.Ok2 Y.g) {s : List Int} {b : T2} (hb : SoundB Y.g s b) (hg : ∀ x, x ∈ Y.xs → GoodB s (dr Y.g s) x b) : b Y.g.start.toNat 0 = viaB Y.g s := by
  refine Ana.eq_dec ?_
  have h0 := ok.s0
  have := beg_iff (dr_fullD (g := Y.g) (s := s) ok.h0) hb (fun r hr => by obtain ⟨x, hx, rfl⟩ := List.mem_map.1 hr; exact hg x hx) (A := Y.g.start.toNat) (Nat.zero_le _)
  rw [this]
  unfold Beg Via Sent
  rw [List.drop_zero, show -1 - ((Y.g.start.toNat : Nat) : Int) = -1 - Y.g.start by omega]
theorem call_19 : Callable Try.prog 19 := ⟨_, Try.func19, by kernel_rfl, rfl⟩
theorem rvia_ok (X : GI) (hX : X.small) (As : Option Addr) (cs : Nat) (s : List Int) (hsl : s.length ≤ 900) (w : World) (hM : X.mem w) (ok : Ana.Ok2 X.g) (hv : validB X = true) (hp : Sl 1 intF As s w) :
   Calls Try.prog 15 #[.agg #[.slice X.At X.terms.length X.ct, .slice X.An X.nts.length X.cn, .int .i64 X.start, .slice X.Ar X.xs.length X.cr], .slice As s.length cs] w (Ret fun v w' => v = .bool (viaB X.g s) ∧ Ext [] w w') := by
 have hnl := ok.nl
 refine calls_fx (l := [.agg #[.slice X.At X.terms.length X.ct, .slice X.An X.nts.length X.cn, .int .i64 X.start, .slice X.Ar X.xs.length X.cr], .slice As s.length cs]) Try.func15 rfl Try.ntmps15 (Nat.le_of_ble_eq_true rfl) ((X.begin hM).old hp (dep_sl (by decide) hp)) ?_
 refine c_seq ?_
 refine c_reg ?_
 refine l_box (by decide) rfl _ rfl (fun b2 => ?_)
 refine l_q (by decide) (p_assign rfl).q ?_
 refine l_nil ?_
 refine c_seq ?_
 refine c_reg ?_
 refine l_q (by decide) (r_loadow Try.underlying25 rfl inf_25 rfl (by repeat constructor) (by rfl)).q ?_
 refine l_call (X := RedR X) (fun z => z.1.V) (fun z => z.1.Y.mem) (by decide) call_19 rfl (fun w hs => reduce_ok X hX w (GI.of hs (by repeat constructor) (by repeat constructor) (by repeat constructor) (by repeat constructor)) ok hv) (fun z => ?_)
 obtain ⟨⟨Y, Az, nz, cz, ez⟩, hz⟩ := z
 refine l_q (by decide) (p_move rfl).q ?_
 refine l_q (by decide) (((p_extract rfl rfl)).to (u := .agg #[.slice Y.At Y.terms.length Y.ct, .slice Y.An Y.nts.length Y.cn, .int .i64 Y.start, .slice Y.Ar Y.xs.length Y.cr]) (rfl)).q ?_
 refine l_q (by decide) (((p_extract rfl rfl)).to (u := .slice Az nz cz) (rfl)).q ?_
 refine l_q (by decide) (((p_extract rfl rfl)).to (u := .int .i64 ((ez : Nat) : Int)) (rfl)).q ?_
 refine l_alloc (by decide) inf_25 _ rfl (fun b5 => ?_)
 (refine l_storew inf_25 rfl rfl rfl rfl rfl ?_)
 refine l_q (by decide) (p_assign rfl).q ?_
 refine l_q (by decide) (p_assign rfl).q ?_
 refine l_nil ?_
 refine c_seq ?_
 refine c_seq ?_
 refine c_reg ?_
 refine l_q (by decide) (p_move rfl).q ?_
 refine l_q (by decide) (p_neq (j := 0) rfl rfl rfl rfl).q ?_
 refine l_q (by decide) (p_move rfl).q ?_
 refine l_splitd (t := 22) rfl (fun h22 => ?_) (fun h22 => ?_)
 ·skip
  refine l_off (j := 2) rfl rfl (by (simp; done)) (by decide) ?_
  refine l_off (j := 2) rfl rfl (by (simp; done)) (by decide) ?_
  refine l_off (j := 2) rfl rfl (by (simp; done)) (by decide) ?_
  refine l_off (j := 2) rfl rfl (by (simp; done)) (by decide) ?_
  refine l_q (by decide) (p_pick rfl rfl).q ?_
  refine l_nil ?_
  refine c_true rfl ?_
  refine c_seq ?_
  refine c_reg ?_
  refine l_q (by decide) (p_assign rfl).q ?_
  refine l_nil ?_
  refine c_ret ?_
  refine c_ret1 rfl rfl (fun w hs => ?_)
  exact ⟨by rw [show viaB X.g s = false from Ana.dec_false (via_empty ok.s0 (hz.no (by simpa using h22)) s)], hs.ext⟩
 ·skip
  refine l_g (j := 2) rfl rfl (by decide) (r_loadow Try.underlying25 rfl inf_25 rfl (by repeat constructor) (by rfl)).q ?_
  refine l_g (j := 2) rfl rfl (by decide) (p_move rfl).q ?_
  refine l_g (j := 2) rfl rfl (by decide) (q_call call_25 rfl (fun w hs => known_ok X As cs s (by omega) w (GI.of hs (by repeat constructor) (by repeat constructor) (by repeat constructor) (by repeat constructor)) (hs.facts (Sl 1 intF As s) (by repeat constructor)).1)) ?_
  refine l_g (j := 2) rfl rfl (by decide) (p_not rfl).q ?_
  refine l_q (by decide) (p_pick rfl rfl).q ?_
  refine l_nil ?_
  refine c_cond rfl (fun h27 => ?_) (fun h27 => ?_)
  ·skip
   refine c_seq ?_
   refine c_reg ?_
   refine l_q (by decide) (p_assign rfl).q ?_
   refine l_nil ?_
   refine c_ret ?_
   refine c_ret1 rfl rfl (fun w hs => ?_)
   exact ⟨by rw [via_unknown ok (by simpa using h27)], hs.ext⟩
  ·skip
   have he0 : ez = 0 := by omega
   obtain ⟨hYg, hYs, hpn⟩ := hz.yes he0
   have okY : Ana.Ok2 Y.g := by rw [show Y.g = _ from hYg]; exact ok2_red ok us_useful
   have hwk : ∀ r, r ∈ Y.g.rules → Works Y.g r.body := by rw [show Y.g = _ from hYg]; exact fun r hr => works_red ok.h0 us_useful hr
   have hnY : Y.nts.length ≤ 16 := okY.nl
   have hxY : Y.xs.length ≤ 20 := by have := okY.rl; rwa [show Y.g.rules.length = Y.xs.length from List.length_map ..] at this
   have hst1 : ((Y.g.start.toNat : Nat) : Int) = Y.start := by have := okY.s0; show ((Y.start.toNat : Nat) : Int) = _; have h : 0 ≤ Y.start := this; omega
   have hst2 : Y.g.start.toNat < Y.nts.length := by have h0 : 0 ≤ Y.start := okY.s0; have h1 : Y.start < (Y.nts.length : Int) := okY.s1; show Y.start.toNat < Y.nts.length; omega
   refine c_skip ?_
   refine c_seq ?_
   refine c_reg ?_
   refine l_q (by decide) (r_loadow Try.underlying25 rfl inf_25 rfl (by repeat constructor) (by rfl)).q ?_
   refine l_q (by decide) (p_move rfl).q ?_
   refine l_call (X := Nat × NF × NF) (fun x => .slice (some ⟨x.1, 0, none⟩) Y.nts.length Y.nts.length) (fun x => TM Y.nts.length (s.length + 1) x.1 x.2.1 x.2.2 (dr Y.g s)) (by decide) call_26 rfl (fun w hs => derives_ok Y hYs As cs s hsl w (hs.facts (GI.mem Y) (by repeat constructor)).1 okY (hs.facts (Sl 1 intF As s) (by repeat constructor)).1) (fun xt => ?_)
   refine l_q (by decide) (p_assign rfl).q ?_
   refine l_nil ?_
   refine c_seq ?_
   refine c_reg ?_
   refine l_q (by decide) (p_faddro (i := 1) 1 Try.underlying25 rfl inf_22 (by decide) rfl rfl).q ?_
   refine l_q (by decide) (r_loado Try.underlying22 rfl rfl (by repeat constructor) (by rfl)).q ?_
   refine l_q (by decide) (p_len_sl Try.underlying22 rfl).q ?_
   refine l_make (by decide) Try.underlying43 inf_42 rfl rfl rfl rfl rfl rfl (by omega) (by omega) (fun b34 => ?_)
   refine l_q (by decide) (p_assign rfl).q ?_
   refine l_nil ?_
   refine c_seq ?_
   refine c_seq ?_
   refine c_reg ?_
   refine l_q (by decide) (p_assign (v := .int .i64 ((0 : Nat) : Int)) rfl).q ?_
   refine l_nil ?_
   refine c_block ?_
   rw [hdm_rep Y.nts.length (s.length + 1) (fun _ => 0)]
   refine c_loop (S := Nat × NF) (fun zs => zs.1 ≤ Y.nts.length) (fun zs => Y.nts.length - zs.1) (fun zs => [(1, .slice As s.length cs), (5, .pointer (some ⟨b5, 0, none⟩)), (8, .slice (some ⟨xt.1, 0, none⟩) Y.nts.length Y.nts.length), (9, .slice (some ⟨b34, 0, none⟩) Y.nts.length Y.nts.length), (10, .int .i64 (zs.1 : Int))]) (fun zs => (iCells b34 42 (hdm Y.nts.length (s.length + 1) zs.1 zs.2) :: iCells b5 25 [.slice Y.At Y.terms.length Y.ct, .slice Y.An Y.nts.length Y.cn, .int .i64 Y.start, .slice Y.Ar Y.xs.length Y.cr] :: iCells b2 25 [.slice X.At X.terms.length X.ct, .slice X.An X.nts.length X.cn, .int .i64 X.start, .slice X.Ar X.xs.length X.cr] :: fam zs.1 (rowb (s.length + 1) zs.2 (fun _ _ => false)))) (fun zs => (TM Y.nts.length (s.length + 1) xt.1 xt.2.1 xt.2.2 (dr Y.g s) :: GI.mem Y :: (Sl 1 intF As s :: [Bd X.xs, Sl 3 ruF X.Ar X.xs, Sl 1 strF X.An X.nts, Sl 1 strF X.At X.terms]))) (0, fun _ => 0) ?_ ?_ ?_ ?_ ?_
   · show (0) ≤ Y.nts.length
     exact Nat.zero_le _
   · exact ⟨rfl, rfl, rfl, rfl, rfl, trivial⟩
   · exact .refl _
   · exact fun _ h => h
   rintro ⟨i, B⟩ hinv
   have hinv : i ≤ Y.nts.length := hinv
   have hi := hinv
   show Cont _ _ _ _ [(1, .slice As s.length cs), (5, .pointer (some ⟨b5, 0, none⟩)), (8, .slice (some ⟨xt.1, 0, none⟩) Y.nts.length Y.nts.length), (9, .slice (some ⟨b34, 0, none⟩) Y.nts.length Y.nts.length), (10, .int .i64 (i : Int))] ((iCells b34 42 (hdm Y.nts.length (s.length + 1) i B) :: iCells b5 25 [.slice Y.At Y.terms.length Y.ct, .slice Y.An Y.nts.length Y.cn, .int .i64 Y.start, .slice Y.Ar Y.xs.length Y.cr] :: iCells b2 25 [.slice X.At X.terms.length X.ct, .slice X.An X.nts.length X.cn, .int .i64 X.start, .slice X.Ar X.xs.length X.cr] :: fam i (rowb (s.length + 1) B (fun _ _ => false)))) (TM Y.nts.length (s.length + 1) xt.1 xt.2.1 xt.2.2 (dr Y.g s) :: GI.mem Y :: (Sl 1 intF As s :: [Bd X.xs, Sl 3 ruF X.Ar X.xs, Sl 1 strF X.An X.nts, Sl 1 strF X.At X.terms]))
   refine c_seq ?_
   refine c_seq ?_
   refine c_reg ?_
   refine l_q (by decide) (p_move rfl).q ?_
   refine l_q (by decide) (p_move rfl).q ?_
   refine l_q (by decide) (p_len_sl Try.underlying43 rfl).q ?_
   refine l_q (by decide) (p_lss rfl rfl rfl rfl).q ?_
   refine l_nil ?_
   refine c_dec rfl (fun h38 => ?_) (fun h38 => ?_)
   ·skip
    have hkb2 : i * 1 < (hdm Y.nts.length (s.length + 1) i B).length := by rw [hdm_len]; omega
    refine c_skip ?_
    refine c_seq ?_
    refine c_block ?_
    refine c_reg ?_
    refine l_q (by decide) (p_move rfl).q ?_
    refine l_q (by decide) (p_move rfl).q ?_
    refine l_q (by decide) (p_move rfl).q ?_
    refine l_q (by decide) (p_len_sl Try.underlying26 rfl).q ?_
    refine l_q (by decide) (p_add (j := 1) rfl rfl rfl rfl (by show _ ≤ (9223372036854775807 : Nat); omega)).q ?_
    refine l_make (by decide) Try.underlying42 inf_4 rfl rfl rfl rfl rfl rfl (by omega) (by omega) (fun b46 => ?_)
    refine l_q (by decide) (p_indexo Try.underlying43 inf_42 rfl rfl rfl (by omega)).q ?_
    (refine l_perm (front1 _ _ _) ?_; refine l_store inf_42 rfl rfl rfl rfl (by omega) ?_)
    refine l_nil ?_
    refine c_reg ?_
    refine l_q (by decide) (p_move rfl).q ?_
    refine l_q (by decide) (p_add (j := 1) rfl rfl rfl rfl (by show _ ≤ (9223372036854775807 : Nat); omega)).q ?_
    refine l_q (by decide) (p_assign rfl).q ?_
    refine l_nil ?_
    refine c_join ((i + 1), (Ana.upd B i b46)) ?_ ?_ ?_ ?_
    ·show ((i + 1) ≤ Y.nts.length) ∧ Y.nts.length - (i + 1) < Y.nts.length - i
     exact ⟨by omega, by omega⟩
    · exact ⟨rfl, rfl, rfl, rfl, rfl, trivial⟩
    ·show List.Perm _ ((iCells b34 42 (hdm Y.nts.length (s.length + 1) (i + 1) (Ana.upd B i b46)) :: iCells b5 25 [.slice Y.At Y.terms.length Y.ct, .slice Y.An Y.nts.length Y.cn, .int .i64 Y.start, .slice Y.Ar Y.xs.length Y.cr] :: iCells b2 25 [.slice X.At X.terms.length X.ct, .slice X.An X.nts.length X.cn, .int .i64 X.start, .slice X.Ar X.xs.length X.cr] :: fam (i + 1) (rowb (s.length + 1) (Ana.upd B i b46) (fun _ _ => false))))
     rw [hdm_set, bl_rep]
     refine (List.Perm.swap _ _ _).trans ?_
     refine fam_push (F := rowb (s.length + 1) B (fun _ _ => false)) (G := rowb (s.length + 1) (Ana.upd B i b46) (fun _ _ => false)) [_, _, _] ?_ ?_
     · unfold rowb; rw [updN_at]
     · intro j hj; unfold rowb; rw [updN_off (by omega)]
    · exact fun _ h => h
   ·skip
    refine c_exit ?_
    refine c_here ?_
    refine c_seq ?_
    refine c_seq ?_
    refine c_reg ?_
    refine l_q (by decide) (p_assign rfl).q ?_
    refine l_nil ?_
    refine c_block ?_
    obtain rfl : i = Y.nts.length := by omega
    refine c_loop (S := T2 × Bool) (fun zs => SoundB Y.g s zs.1 ∧ (zs.2 = false → ∀ zz, zz ∈ Y.xs → GoodB s (dr Y.g s) zz zs.1)) (fun zs => 2 * lack2 Y.nts.length (s.length + 1) zs.1 + zs.2.toNat) (fun zs => [(1, .slice As s.length cs), (5, .pointer (some ⟨b5, 0, none⟩)), (8, .slice (some ⟨xt.1, 0, none⟩) Y.nts.length Y.nts.length), (9, .slice (some ⟨b34, 0, none⟩) Y.nts.length Y.nts.length), (11, .bool zs.2)]) (fun zs => (iCells b34 42 (hdm Y.nts.length (s.length + 1) Y.nts.length B) :: iCells b5 25 [.slice Y.At Y.terms.length Y.ct, .slice Y.An Y.nts.length Y.cn, .int .i64 Y.start, .slice Y.Ar Y.xs.length Y.cr] :: iCells b2 25 [.slice X.At X.terms.length X.ct, .slice X.An X.nts.length X.cn, .int .i64 X.start, .slice X.Ar X.xs.length X.cr] :: fam Y.nts.length (rowb (s.length + 1) B zs.1))) (fun zs => (TM Y.nts.length (s.length + 1) xt.1 xt.2.1 xt.2.2 (dr Y.g s) :: GI.mem Y :: (Sl 1 intF As s :: [Bd X.xs, Sl 3 ruF X.Ar X.xs, Sl 1 strF X.An X.nts, Sl 1 strF X.At X.terms]))) (fun _ _ => false, true) ?_ ?_ ?_ ?_ ?_
    · show SoundB Y.g s (fun _ _ => false) ∧ ((true) = false → ∀ zz, zz ∈ Y.xs → GoodB s (dr Y.g s) zz (fun _ _ => false))
      exact ⟨soundB_zero, fun h => by cases h⟩
    · exact ⟨rfl, rfl, rfl, rfl, rfl, trivial⟩
    · exact .refl _
    · exact fun _ h => h
    rintro ⟨f, ch⟩ hinv
    have hinv : SoundB Y.g s f ∧ (ch = false → ∀ zz, zz ∈ Y.xs → GoodB s (dr Y.g s) zz f) := hinv
    obtain ⟨hI1, hI2⟩ := hinv
    show Cont _ _ _ _ [(1, .slice As s.length cs), (5, .pointer (some ⟨b5, 0, none⟩)), (8, .slice (some ⟨xt.1, 0, none⟩) Y.nts.length Y.nts.length), (9, .slice (some ⟨b34, 0, none⟩) Y.nts.length Y.nts.length), (11, .bool ch)] ((iCells b34 42 (hdm Y.nts.length (s.length + 1) Y.nts.length B) :: iCells b5 25 [.slice Y.At Y.terms.length Y.ct, .slice Y.An Y.nts.length Y.cn, .int .i64 Y.start, .slice Y.Ar Y.xs.length Y.cr] :: iCells b2 25 [.slice X.At X.terms.length X.ct, .slice X.An X.nts.length X.cn, .int .i64 X.start, .slice X.Ar X.xs.length X.cr] :: fam Y.nts.length (rowb (s.length + 1) B f))) (TM Y.nts.length (s.length + 1) xt.1 xt.2.1 xt.2.2 (dr Y.g s) :: GI.mem Y :: (Sl 1 intF As s :: [Bd X.xs, Sl 3 ruF X.Ar X.xs, Sl 1 strF X.An X.nts, Sl 1 strF X.At X.terms]))
    refine c_seq ?_
    refine c_seq ?_
    refine c_reg ?_
    refine l_q (by decide) (p_move rfl).q ?_
    refine l_nil ?_
    refine c_cond rfl (fun h48 => ?_) (fun h48 => ?_)
    ·skip
     refine c_skip ?_
     refine c_block ?_
     refine c_seq ?_
     refine c_reg ?_
     refine l_q (by decide) (p_assign rfl).q ?_
     refine l_nil ?_
     refine c_seq ?_
     refine c_reg ?_
     refine l_q (by decide) (p_assign (v := .int .i64 ((0 : Nat) : Int)) rfl).q ?_
     refine l_nil ?_
     refine c_block ?_
     refine c_loop (S := Nat × T2 × Bool) (fun zs => zs.1 ≤ Y.xs.length ∧ SoundB Y.g s zs.2.1 ∧ (zs.2.2 = true → lack2 Y.nts.length (s.length + 1) zs.2.1 < lack2 Y.nts.length (s.length + 1) f) ∧ (zs.2.2 = false → zs.2.1 = f ∧ ∀ zz, zz ∈ Y.xs.take zs.1 → GoodB s (dr Y.g s) zz zs.2.1)) (fun zs => Y.xs.length - zs.1) (fun zs => [(1, .slice As s.length cs), (5, .pointer (some ⟨b5, 0, none⟩)), (8, .slice (some ⟨xt.1, 0, none⟩) Y.nts.length Y.nts.length), (9, .slice (some ⟨b34, 0, none⟩) Y.nts.length Y.nts.length), (11, .bool zs.2.2), (12, .int .i64 (zs.1 : Int))]) (fun zs => (iCells b34 42 (hdm Y.nts.length (s.length + 1) Y.nts.length B) :: iCells b5 25 [.slice Y.At Y.terms.length Y.ct, .slice Y.An Y.nts.length Y.cn, .int .i64 Y.start, .slice Y.Ar Y.xs.length Y.cr] :: iCells b2 25 [.slice X.At X.terms.length X.ct, .slice X.An X.nts.length X.cn, .int .i64 X.start, .slice X.Ar X.xs.length X.cr] :: fam Y.nts.length (rowb (s.length + 1) B zs.2.1))) (fun zs => (TM Y.nts.length (s.length + 1) xt.1 xt.2.1 xt.2.2 (dr Y.g s) :: GI.mem Y :: (Sl 1 intF As s :: [Bd X.xs, Sl 3 ruF X.Ar X.xs, Sl 1 strF X.An X.nts, Sl 1 strF X.At X.terms]))) (0, f, false) ?_ ?_ ?_ ?_ ?_
     · show (0) ≤ Y.xs.length ∧ SoundB Y.g s (f) ∧ ((false) = true → lack2 Y.nts.length (s.length + 1) (f) < lack2 Y.nts.length (s.length + 1) f) ∧ ((false) = false → (f) = f ∧ ∀ zz, zz ∈ Y.xs.take (0) → GoodB s (dr Y.g s) zz (f))
       exact ⟨Nat.zero_le _, hI1, fun h => (by cases h), fun _ => ⟨rfl, fun x h => absurd h (by simp)⟩⟩
     · exact ⟨rfl, rfl, rfl, rfl, rfl, rfl, trivial⟩
     · exact .refl _
     · exact fun _ h => h
     rintro ⟨k, g, c1⟩ hinv
     have hinv : k ≤ Y.xs.length ∧ SoundB Y.g s g ∧ (c1 = true → lack2 Y.nts.length (s.length + 1) g < lack2 Y.nts.length (s.length + 1) f) ∧ (c1 = false → g = f ∧ ∀ zz, zz ∈ Y.xs.take k → GoodB s (dr Y.g s) zz g) := hinv
     obtain ⟨hJ1, hJ2, hJ3, hJ4⟩ := hinv
     show Cont _ _ _ _ [(1, .slice As s.length cs), (5, .pointer (some ⟨b5, 0, none⟩)), (8, .slice (some ⟨xt.1, 0, none⟩) Y.nts.length Y.nts.length), (9, .slice (some ⟨b34, 0, none⟩) Y.nts.length Y.nts.length), (11, .bool c1), (12, .int .i64 (k : Int))] ((iCells b34 42 (hdm Y.nts.length (s.length + 1) Y.nts.length B) :: iCells b5 25 [.slice Y.At Y.terms.length Y.ct, .slice Y.An Y.nts.length Y.cn, .int .i64 Y.start, .slice Y.Ar Y.xs.length Y.cr] :: iCells b2 25 [.slice X.At X.terms.length X.ct, .slice X.An X.nts.length X.cn, .int .i64 X.start, .slice X.Ar X.xs.length X.cr] :: fam Y.nts.length (rowb (s.length + 1) B g))) (TM Y.nts.length (s.length + 1) xt.1 xt.2.1 xt.2.2 (dr Y.g s) :: GI.mem Y :: (Sl 1 intF As s :: [Bd X.xs, Sl 3 ruF X.Ar X.xs, Sl 1 strF X.An X.nts, Sl 1 strF X.At X.terms]))
     refine c_seq ?_
     refine c_seq ?_
     refine c_reg ?_
     refine l_q (by decide) (p_move rfl).q ?_
     refine l_q (by decide) (p_faddro (i := 3) 3 Try.underlying25 rfl inf_23 (by decide) rfl rfl).q ?_
     refine l_q (by decide) (r_loado Try.underlying23 rfl rfl (by repeat constructor) (by rfl)).q ?_
     refine l_q (by decide) (p_len_sl Try.underlying23 rfl).q ?_
     refine l_q (by decide) (p_lss rfl rfl rfl rfl).q ?_
     refine l_nil ?_
     refine c_dec rfl (fun h53 => ?_) (fun h53 => ?_)
     ·skip
      obtain ⟨x, hx⟩ := at_some (l := Y.xs) (n := k) (by omega)
      obtain ⟨hh1, hh2⟩ := okY.hd (rule_mem hx)
      have hh2 : x.r.head.toNat < Y.nts.length := hh2
      have hbl := okY.bl _ (rule_mem hx)
      have hbc := (hYs.b x (List.mem_of_getElem? hx)).2
      refine c_skip ?_
      refine c_seq ?_
      refine c_block ?_
      refine c_seq ?_
      refine c_reg ?_
      refine l_q (by decide) (p_assign (v := .int .i64 ((0 : Nat) : Int)) rfl).q ?_
      refine l_nil ?_
      refine c_block ?_
      refine c_loop (S := Nat × T2 × Bool) (fun zs => zs.1 ≤ s.length + 1 ∧ SoundB Y.g s zs.2.1 ∧ (zs.2.2 = true → lack2 Y.nts.length (s.length + 1) zs.2.1 < lack2 Y.nts.length (s.length + 1) f) ∧ (zs.2.2 = false → zs.2.1 = f ∧ c1 = false ∧ ∀ ii, ii < zs.1 → BE (dr Y.g s) zs.2.1 s x.r.body ii → zs.2.1 x.r.head.toNat ii = true)) (fun zs => s.length + 1 - zs.1) (fun zs => [(1, .slice As s.length cs), (5, .pointer (some ⟨b5, 0, none⟩)), (8, .slice (some ⟨xt.1, 0, none⟩) Y.nts.length Y.nts.length), (9, .slice (some ⟨b34, 0, none⟩) Y.nts.length Y.nts.length), (11, .bool zs.2.2), (12, .int .i64 (k : Int)), (13, .int .i64 (zs.1 : Int))]) (fun zs => (iCells b34 42 (hdm Y.nts.length (s.length + 1) Y.nts.length B) :: iCells b5 25 [.slice Y.At Y.terms.length Y.ct, .slice Y.An Y.nts.length Y.cn, .int .i64 Y.start, .slice Y.Ar Y.xs.length Y.cr] :: iCells b2 25 [.slice X.At X.terms.length X.ct, .slice X.An X.nts.length X.cn, .int .i64 X.start, .slice X.Ar X.xs.length X.cr] :: fam Y.nts.length (rowb (s.length + 1) B zs.2.1))) (fun zs => (TM Y.nts.length (s.length + 1) xt.1 xt.2.1 xt.2.2 (dr Y.g s) :: GI.mem Y :: (Sl 1 intF As s :: [Bd X.xs, Sl 3 ruF X.Ar X.xs, Sl 1 strF X.An X.nts, Sl 1 strF X.At X.terms]))) (0, g, c1) ?_ ?_ ?_ ?_ ?_
      · show (0) ≤ s.length + 1 ∧ SoundB Y.g s (g) ∧ ((c1) = true → lack2 Y.nts.length (s.length + 1) (g) < lack2 Y.nts.length (s.length + 1) f) ∧ ((c1) = false → (g) = f ∧ c1 = false ∧ ∀ ii, ii < (0) → BE (dr Y.g s) (g) s x.r.body ii → (g) x.r.head.toNat ii = true)
        exact ⟨Nat.zero_le _, hJ2, hJ3, fun hc => ⟨(hJ4 hc).1, hc, fun ii h => absurd h (by omega)⟩⟩
      · exact ⟨rfl, rfl, rfl, rfl, rfl, rfl, rfl, trivial⟩
      · exact .refl _
      · exact fun _ h => h
      rintro ⟨i, g2, c2⟩ hinv
      have hinv : i ≤ s.length + 1 ∧ SoundB Y.g s g2 ∧ (c2 = true → lack2 Y.nts.length (s.length + 1) g2 < lack2 Y.nts.length (s.length + 1) f) ∧ (c2 = false → g2 = f ∧ c1 = false ∧ ∀ ii, ii < i → BE (dr Y.g s) g2 s x.r.body ii → g2 x.r.head.toNat ii = true) := hinv
      obtain ⟨hL1, hL2, hL3, hL4⟩ := hinv
      show Cont _ _ _ _ [(1, .slice As s.length cs), (5, .pointer (some ⟨b5, 0, none⟩)), (8, .slice (some ⟨xt.1, 0, none⟩) Y.nts.length Y.nts.length), (9, .slice (some ⟨b34, 0, none⟩) Y.nts.length Y.nts.length), (11, .bool c2), (12, .int .i64 (k : Int)), (13, .int .i64 (i : Int))] ((iCells b34 42 (hdm Y.nts.length (s.length + 1) Y.nts.length B) :: iCells b5 25 [.slice Y.At Y.terms.length Y.ct, .slice Y.An Y.nts.length Y.cn, .int .i64 Y.start, .slice Y.Ar Y.xs.length Y.cr] :: iCells b2 25 [.slice X.At X.terms.length X.ct, .slice X.An X.nts.length X.cn, .int .i64 X.start, .slice X.Ar X.xs.length X.cr] :: fam Y.nts.length (rowb (s.length + 1) B g2))) (TM Y.nts.length (s.length + 1) xt.1 xt.2.1 xt.2.2 (dr Y.g s) :: GI.mem Y :: (Sl 1 intF As s :: [Bd X.xs, Sl 3 ruF X.Ar X.xs, Sl 1 strF X.An X.nts, Sl 1 strF X.At X.terms]))
      refine c_seq ?_
      refine c_seq ?_
      refine c_reg ?_
      refine l_q (by decide) (p_move rfl).q ?_
      refine l_q (by decide) (p_move rfl).q ?_
      refine l_q (by decide) (p_len_sl Try.underlying26 rfl).q ?_
      refine l_q (by decide) (p_leq rfl rfl rfl rfl).q ?_
      refine l_nil ?_
      refine c_dec rfl (fun h59 => ?_) (fun h59 => ?_)
      ·skip
       have hiL : i < s.length + 1 := by omega
       refine c_skip ?_
       refine c_seq ?_
       refine c_block ?_
       refine c_seq ?_
       refine c_reg ?_
       refine l_q (by decide) (p_move rfl).q ?_
       refine l_q (by decide) (p_faddro (i := 3) 3 Try.underlying25 rfl inf_23 (by decide) rfl rfl).q ?_
       refine l_q (by decide) (r_loado Try.underlying23 rfl rfl (by repeat constructor) (by rfl)).q ?_
       refine l_q (by decide) (p_move rfl).q ?_
       refine l_q (by decide) (r_index Try.underlying23 inf_49 rfl rfl rfl (by exact (fun _ hs => (hs.facts (GI.mem Y) (by repeat constructor)).1.x)) rfl (by omega)).q ?_
       refine l_q (by decide) (p_faddr (i := 0) 0 Try.underlying49 rfl inf_3 (by decide) rfl rfl).q ?_
       refine l_q (by decide) (((r_loadf Try.underlying3 rfl rfl (by exact (fun _ hs => (hs.facts (GI.mem Y) (by repeat constructor)).1.x)) (by assumption) (by rfl))).to (u := .int .i64 ((x.r.head.toNat : Nat) : Int)) (by rw [hh1])).q ?_
       refine l_q (by decide) (p_indexo Try.underlying43 inf_42 rfl rfl rfl (by omega)).q ?_
       refine l_q (by decide) (r_loado Try.underlying42 rfl rfl (by repeat constructor) (hdm_at hh2 hh2)).q ?_
       refine l_q (by decide) (p_move rfl).q ?_
       refine l_q (by decide) (p_indexo Try.underlying42 inf_4 rfl rfl rfl (by omega)).q ?_
       refine l_q (by decide) (r_loado Try.underlying4 rfl rfl (List.mem_cons_of_mem _ (List.mem_cons_of_mem _ (List.mem_cons_of_mem _ (mem_fam (F := rowb (s.length + 1) B g2) hh2)))) (bl_at hiL)).q ?_
       refine l_q (by decide) (p_not rfl).q ?_
       refine l_q (by decide) (p_move rfl).q ?_
       refine l_splitb (t := 75) rfl (fun h75 => ?_) (fun h75 => ?_)
       ·skip
        refine l_g (j := 13) rfl rfl (by decide) (p_move rfl).q ?_
        refine l_g (j := 13) rfl rfl (by decide) (p_move rfl).q ?_
        refine l_g (j := 13) rfl rfl (by decide) (p_move rfl).q ?_
        refine l_g (j := 13) rfl rfl (by decide) (p_faddro (i := 3) 3 Try.underlying25 rfl inf_23 (by decide) rfl rfl).q ?_
        refine l_g (j := 13) rfl rfl (by decide) (r_loado Try.underlying23 rfl rfl (by repeat constructor) (by rfl)).q ?_
        refine l_g (j := 13) rfl rfl (by decide) (p_move rfl).q ?_
        refine l_g (j := 13) rfl rfl (by decide) (r_index Try.underlying23 inf_49 rfl rfl rfl (by exact (fun _ hs => (hs.facts (GI.mem Y) (by repeat constructor)).1.x)) rfl (by omega)).q ?_
        refine l_g (j := 13) rfl rfl (by decide) (p_faddr (i := 1) 1 Try.underlying49 rfl inf_26 (by decide) rfl rfl).q ?_
        refine l_g (j := 13) rfl rfl (by decide) (r_loadf Try.underlying26 rfl rfl (by exact (fun _ hs => (hs.facts (GI.mem Y) (by repeat constructor)).1.x)) (by assumption) (by rfl)).q ?_
        refine l_g (j := 13) rfl rfl (by decide) (p_move rfl).q ?_
        refine l_g (j := 13) rfl rfl (by decide) (q_call call_28 rfl (fun w hs => beg_ok (dr Y.g s) g2 s Y.nts.length xt.1 b34 xt.2.1 xt.2.2 B As cs (by omega) (by omega) 1000 x.r.body x.A x.c i w (by omega) (Nat.le_refl _) hbc (fun y hy h0 => okY.nt_lt (rule_mem hx) hy h0) (by omega) ((hs.facts (GI.mem Y) (by repeat constructor)).1.b k x hx) (hs.facts (TM Y.nts.length (s.length + 1) xt.1 xt.2.1 xt.2.2 (dr Y.g s)) (by repeat constructor)).1 (bm_own hs) (hs.facts (Sl 1 intF As s) (by repeat constructor)).1)) ?_
        refine l_q (by decide) (p_pick rfl rfl).q ?_
        refine l_nil ?_
        refine c_cond rfl (fun h87 => ?_) (fun h87 => ?_)
        ·skip
         refine c_reg ?_
         refine l_q (by decide) (p_move rfl).q ?_
         refine l_q (by decide) (p_faddro (i := 3) 3 Try.underlying25 rfl inf_23 (by decide) rfl rfl).q ?_
         refine l_q (by decide) (r_loado Try.underlying23 rfl rfl (by repeat constructor) (by rfl)).q ?_
         refine l_q (by decide) (p_move rfl).q ?_
         refine l_q (by decide) (r_index Try.underlying23 inf_49 rfl rfl rfl (by exact (fun _ hs => (hs.facts (GI.mem Y) (by repeat constructor)).1.x)) rfl (by omega)).q ?_
         refine l_q (by decide) (p_faddr (i := 0) 0 Try.underlying49 rfl inf_3 (by decide) rfl rfl).q ?_
         refine l_q (by decide) (((r_loadf Try.underlying3 rfl rfl (by exact (fun _ hs => (hs.facts (GI.mem Y) (by repeat constructor)).1.x)) (by assumption) (by rfl))).to (u := .int .i64 ((x.r.head.toNat : Nat) : Int)) (by rw [hh1])).q ?_
         refine l_q (by decide) (p_indexo Try.underlying43 inf_42 rfl rfl rfl (by omega)).q ?_
         refine l_q (by decide) (r_loado Try.underlying42 rfl rfl (by repeat constructor) (hdm_at hh2 hh2)).q ?_
         refine l_q (by decide) (p_move rfl).q ?_
         refine l_q (by decide) (p_indexo Try.underlying42 inf_4 rfl rfl rfl (by omega)).q ?_
         refine l_perm (rowb_out [iCells b34 42 _, _, _] hh2) ?_
         refine l_store inf_4 rfl rfl rfl rfl (by rw [bl_len, Nat.mul_one]; exact hiL) ?_
         refine l_q (by decide) (p_assign rfl).q ?_
         refine l_nil ?_
         refine c_reg ?_
         refine l_q (by decide) (p_move rfl).q ?_
         refine l_q (by decide) (p_add (j := 1) rfl rfl rfl rfl (by show _ ≤ (9223372036854775807 : Nat); omega)).q ?_
         refine l_q (by decide) (p_assign rfl).q ?_
         refine l_nil ?_
         refine c_join ((i + 1), (upd2 g2 x.r.head.toNat i), (true)) ?_ ?_ ?_ ?_
         ·show ((i + 1) ≤ s.length + 1 ∧ SoundB Y.g s (upd2 g2 x.r.head.toNat i) ∧ ((true) = true → lack2 Y.nts.length (s.length + 1) (upd2 g2 x.r.head.toNat i) < lack2 Y.nts.length (s.length + 1) f) ∧ ((true) = false → (upd2 g2 x.r.head.toNat i) = f ∧ c1 = false ∧ ∀ ii, ii < (i + 1) → BE (dr Y.g s) (upd2 g2 x.r.head.toNat i) s x.r.body ii → (upd2 g2 x.r.head.toNat i) x.r.head.toNat ii = true)) ∧ s.length + 1 - (i + 1) < s.length + 1 - i
          refine ⟨⟨by omega, soundB_step okY.h0 hL2 (rule_mem hx) (hwk _ (rule_mem hx)) (by omega) h87, fun _ => ?_, fun h => (by cases h)⟩, by omega⟩
          have hl := lack2_upd hh2 hiL (by simpa using h75)
          cases c2 with
          | true => have := hL3 rfl; omega
          | false => rw [(hL4 rfl).1] at hl ⊢; exact hl
         · exact ⟨rfl, rfl, rfl, rfl, rfl, rfl, rfl, trivial⟩
         ·show List.Perm _ ((iCells b34 42 (hdm Y.nts.length (s.length + 1) Y.nts.length B) :: iCells b5 25 [.slice Y.At Y.terms.length Y.ct, .slice Y.An Y.nts.length Y.cn, .int .i64 Y.start, .slice Y.Ar Y.xs.length Y.cr] :: iCells b2 25 [.slice X.At X.terms.length X.ct, .slice X.An X.nts.length X.cn, .int .i64 X.start, .slice X.Ar X.xs.length X.cr] :: fam Y.nts.length (rowb (s.length + 1) B (upd2 g2 x.r.head.toNat i))))
          exact rowb_in [_, _, _] hh2
         · exact fun _ h => h
        ·skip
         refine c_skip ?_
         refine c_reg ?_
         refine l_q (by decide) (p_move rfl).q ?_
         refine l_q (by decide) (p_add (j := 1) rfl rfl rfl rfl (by show _ ≤ (9223372036854775807 : Nat); omega)).q ?_
         refine l_q (by decide) (p_assign rfl).q ?_
         refine l_nil ?_
         refine c_join ((i + 1), (g2), (c2)) ?_ ?_ ?_ ?_
         ·show ((i + 1) ≤ s.length + 1 ∧ SoundB Y.g s (g2) ∧ ((c2) = true → lack2 Y.nts.length (s.length + 1) (g2) < lack2 Y.nts.length (s.length + 1) f) ∧ ((c2) = false → (g2) = f ∧ c1 = false ∧ ∀ ii, ii < (i + 1) → BE (dr Y.g s) (g2) s x.r.body ii → (g2) x.r.head.toNat ii = true)) ∧ s.length + 1 - (i + 1) < s.length + 1 - i
          refine ⟨⟨by omega, hL2, hL3, fun hc => ⟨(hL4 hc).1, (hL4 hc).2.1, fun ii h1 => ?_⟩⟩, by omega⟩
          by_cases e : ii = i
          · subst e; exact fun hb => by rw [show beB (dr Y.g s) g2 s x.r.body ii = true from Ana.dec_true hb] at h87; cases h87
          · exact (hL4 hc).2.2 ii (by omega)
         · exact ⟨rfl, rfl, rfl, rfl, rfl, rfl, rfl, trivial⟩
         ·show List.Perm _ ((iCells b34 42 (hdm Y.nts.length (s.length + 1) Y.nts.length B) :: iCells b5 25 [.slice Y.At Y.terms.length Y.ct, .slice Y.An Y.nts.length Y.cn, .int .i64 Y.start, .slice Y.Ar Y.xs.length Y.cr] :: iCells b2 25 [.slice X.At X.terms.length X.ct, .slice X.An X.nts.length X.cn, .int .i64 X.start, .slice X.Ar X.xs.length X.cr] :: fam Y.nts.length (rowb (s.length + 1) B (g2))))
          repeat (first | exact List.Perm.refl _ | refine List.Perm.cons _ ?_ | refine (front1 _ _ _).trans (List.Perm.cons _ ?_) | refine (front2 _ _ _ _).trans (List.Perm.cons _ ?_) | refine (front3 _ _ _ _ _).trans (List.Perm.cons _ ?_) | refine (front4 _ _ _ _ _ _).trans (List.Perm.cons _ ?_))
         · exact fun _ h => h
       ·skip
        refine l_off (j := 13) rfl rfl (by (simp; done)) (by decide) ?_
        refine l_off (j := 13) rfl rfl (by (simp; done)) (by decide) ?_
        refine l_off (j := 13) rfl rfl (by (simp; done)) (by decide) ?_
        refine l_off (j := 13) rfl rfl (by (simp; done)) (by decide) ?_
        refine l_off (j := 13) rfl rfl (by (simp; done)) (by decide) ?_
        refine l_off (j := 13) rfl rfl (by (simp; done)) (by decide) ?_
        refine l_off (j := 13) rfl rfl (by (simp; done)) (by decide) ?_
        refine l_off (j := 13) rfl rfl (by (simp; done)) (by decide) ?_
        refine l_off (j := 13) rfl rfl (by (simp; done)) (by decide) ?_
        refine l_off (j := 13) rfl rfl (by (simp; done)) (by decide) ?_
        refine l_off (j := 13) rfl rfl (by (simp; done)) (by decide) ?_
        refine l_q (by decide) (p_pick rfl rfl).q ?_
        refine l_nil ?_
        refine c_false rfl ?_
        refine c_skip ?_
        refine c_reg ?_
        refine l_q (by decide) (p_move rfl).q ?_
        refine l_q (by decide) (p_add (j := 1) rfl rfl rfl rfl (by show _ ≤ (9223372036854775807 : Nat); omega)).q ?_
        refine l_q (by decide) (p_assign rfl).q ?_
        refine l_nil ?_
        refine c_join ((i + 1), (g2), (c2)) ?_ ?_ ?_ ?_
        ·show ((i + 1) ≤ s.length + 1 ∧ SoundB Y.g s (g2) ∧ ((c2) = true → lack2 Y.nts.length (s.length + 1) (g2) < lack2 Y.nts.length (s.length + 1) f) ∧ ((c2) = false → (g2) = f ∧ c1 = false ∧ ∀ ii, ii < (i + 1) → BE (dr Y.g s) (g2) s x.r.body ii → (g2) x.r.head.toNat ii = true)) ∧ s.length + 1 - (i + 1) < s.length + 1 - i
         refine ⟨⟨by omega, hL2, hL3, fun hc => ⟨(hL4 hc).1, (hL4 hc).2.1, fun ii h1 => ?_⟩⟩, by omega⟩
         by_cases e : ii = i
         · subst e; exact fun _ => by simpa using h75
         · exact (hL4 hc).2.2 ii (by omega)
        · exact ⟨rfl, rfl, rfl, rfl, rfl, rfl, rfl, trivial⟩
        ·show List.Perm _ ((iCells b34 42 (hdm Y.nts.length (s.length + 1) Y.nts.length B) :: iCells b5 25 [.slice Y.At Y.terms.length Y.ct, .slice Y.An Y.nts.length Y.cn, .int .i64 Y.start, .slice Y.Ar Y.xs.length Y.cr] :: iCells b2 25 [.slice X.At X.terms.length X.ct, .slice X.An X.nts.length X.cn, .int .i64 X.start, .slice X.Ar X.xs.length X.cr] :: fam Y.nts.length (rowb (s.length + 1) B (g2))))
         repeat (first | exact List.Perm.refl _ | refine List.Perm.cons _ ?_ | refine (front1 _ _ _).trans (List.Perm.cons _ ?_) | refine (front2 _ _ _ _).trans (List.Perm.cons _ ?_) | refine (front3 _ _ _ _ _).trans (List.Perm.cons _ ?_) | refine (front4 _ _ _ _ _ _).trans (List.Perm.cons _ ?_))
        · exact fun _ h => h
      ·skip
       refine c_exit ?_
       refine c_here ?_
       refine c_reg ?_
       refine l_q (by decide) (p_move rfl).q ?_
       refine l_q (by decide) (p_add (j := 1) rfl rfl rfl rfl (by show _ ≤ (9223372036854775807 : Nat); omega)).q ?_
       refine l_q (by decide) (p_assign rfl).q ?_
       refine l_nil ?_
       refine c_join ((k + 1), (g2), (c2)) ?_ ?_ ?_ ?_
       ·show ((k + 1) ≤ Y.xs.length ∧ SoundB Y.g s (g2) ∧ ((c2) = true → lack2 Y.nts.length (s.length + 1) (g2) < lack2 Y.nts.length (s.length + 1) f) ∧ ((c2) = false → (g2) = f ∧ ∀ zz, zz ∈ Y.xs.take (k + 1) → GoodB s (dr Y.g s) zz (g2))) ∧ Y.xs.length - (k + 1) < Y.xs.length - k
        refine ⟨⟨by omega, hL2, hL3, fun hc => ⟨(hL4 hc).1, fun zz hz => ?_⟩⟩, by omega⟩
        rw [take_at hx] at hz
        rcases List.mem_append.1 hz with h5 | h5
        · have := (hJ4 (hL4 hc).2.1).2 zz h5
          rw [(hL4 hc).1, ← (hJ4 (hL4 hc).2.1).1]; exact this
        · rw [List.mem_singleton.1 h5]; exact fun ii h1 h2 => (hL4 hc).2.2 ii (by omega) h2
       · exact ⟨rfl, rfl, rfl, rfl, rfl, rfl, trivial⟩
       ·show List.Perm _ ((iCells b34 42 (hdm Y.nts.length (s.length + 1) Y.nts.length B) :: iCells b5 25 [.slice Y.At Y.terms.length Y.ct, .slice Y.An Y.nts.length Y.cn, .int .i64 Y.start, .slice Y.Ar Y.xs.length Y.cr] :: iCells b2 25 [.slice X.At X.terms.length X.ct, .slice X.An X.nts.length X.cn, .int .i64 X.start, .slice X.Ar X.xs.length X.cr] :: fam Y.nts.length (rowb (s.length + 1) B (g2))))
        exact .refl _
       · exact fun _ h => h
     ·skip
      refine c_exit ?_
      refine c_here ?_
      rw [List.take_of_length_le (by omega)] at hJ4
      refine c_join ((g), (c1)) ?_ ?_ ?_ ?_
      ·show (SoundB Y.g s (g) ∧ ((c1) = false → ∀ zz, zz ∈ Y.xs → GoodB s (dr Y.g s) zz (g))) ∧ 2 * lack2 Y.nts.length (s.length + 1) (g) + (c1).toNat < 2 * lack2 Y.nts.length (s.length + 1) f + ch.toNat
       subst h48
       refine ⟨⟨hJ2, fun hc => (hJ4 hc).2⟩, ?_⟩
       cases c1 with
       | true => have := hJ3 rfl; simp only [Bool.toNat_true]; omega
       | false => have := (hJ4 rfl).1; subst this; simp only [Bool.toNat_true, Bool.toNat_false]; omega
      · exact ⟨rfl, rfl, rfl, rfl, rfl, trivial⟩
      ·show List.Perm _ ((iCells b34 42 (hdm Y.nts.length (s.length + 1) Y.nts.length B) :: iCells b5 25 [.slice Y.At Y.terms.length Y.ct, .slice Y.An Y.nts.length Y.cn, .int .i64 Y.start, .slice Y.Ar Y.xs.length Y.cr] :: iCells b2 25 [.slice X.At X.terms.length X.ct, .slice X.An X.nts.length X.cn, .int .i64 X.start, .slice X.Ar X.xs.length X.cr] :: fam Y.nts.length (rowb (s.length + 1) B (g))))
       exact .refl _
      · exact fun _ h => h
    ·skip
     refine c_exit ?_
     refine c_here ?_
     refine c_seq ?_
     refine c_reg ?_
     refine l_q (by decide) (p_move rfl).q ?_
     refine l_q (by decide) (p_faddro (i := 2) 2 Try.underlying25 rfl inf_3 (by decide) rfl rfl).q ?_
     refine l_q (by decide) (((r_loado Try.underlying3 rfl rfl (by repeat constructor) (by rfl))).to (u := .int .i64 ((Y.g.start.toNat : Nat) : Int)) (by rw [hst1])).q ?_
     refine l_q (by decide) (p_indexo Try.underlying43 inf_42 rfl rfl rfl (by omega)).q ?_
     refine l_q (by decide) (r_loado Try.underlying42 rfl rfl (by repeat constructor) (hdm_at hst2 hst2)).q ?_
     refine l_q (by decide) (p_indexo (j := 0) Try.underlying42 inf_4 rfl rfl rfl (by omega)).q ?_
     refine l_q (by decide) (r_loado Try.underlying4 rfl rfl (List.mem_cons_of_mem _ (List.mem_cons_of_mem _ (List.mem_cons_of_mem _ (mem_fam (F := rowb (s.length + 1) B f) hst2)))) (bl_at (Nat.zero_lt_succ _))).q ?_
     refine l_q (by decide) (p_assign rfl).q ?_
     refine l_nil ?_
     refine c_ret ?_
     refine c_ret1 rfl rfl (fun w hs => ?_)
     refine ⟨?_, hs.ext⟩
     rw [via_table okY hI1 (hI2 (by simpa using h48))]
     unfold viaB
     rw [show Y.g = _ from hYg]
     congr 1
     exact Ana.eq_dec (by rw [Ana.dec_iff]; exact via_red ok.h0 ok.s0 us_useful)
end Go.Proofs.Ytncagpppmaehhaa
