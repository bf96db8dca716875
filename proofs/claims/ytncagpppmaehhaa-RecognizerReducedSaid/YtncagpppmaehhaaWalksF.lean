/- The walks of the recognizer, sixth part; conditions: lengths. -/
import Derived.Test.YtncagpppmaehhaaWalksE
namespace Go.Proofs.Ytncagpppmaehhaa
open Go Go.Fx Go.Proofs

open Go.Proofs.Rec in
inductive US (g : Ana.Gr) : Nat → Prop where
  | start : US g g.start.toNat
  | step (r : Ana.Rl) (x : Int) : r ∈ g.rules → US g r.head.toNat → Go.Proofs.Rec.Works g r.body → x ∈ r.body → x < 0 → US g (Ana.nt x)
noncomputable def us (g : Ana.Gr) (i : Nat) : Bool := Ana.dec (US g i)
noncomputable abbrev pP (X : GI) : Nat → Bool := Ana.pn X.g true
theorem works_all {X : GI} {l : List Int} : Ana.allG true (pP X) l = true ↔ Go.Proofs.Rec.Works X.g l := by
  rw [Ana.allG_iff]
  exact ⟨fun h x hx h0 => Ana.dec_iff.1 (h.2 x hx h0), fun h => ⟨fun _ _ _ => rfl, fun x hx h0 => Ana.dec_iff.2 (h x hx h0)⟩⟩
def SoundU (X : GI) (f : Nat → Bool) : Prop := (∀ i, f i = true → US X.g i) ∧ f X.g.start.toNat = true
def GoodU (X : GI) (x : XR) (f : Nat → Bool) : Prop := f x.r.head.toNat = true → Ana.allG true (pP X) x.r.body = true → ∀ y, y ∈ x.r.body → y < 0 → f (Ana.nt y) = true
theorem SoundU.step {X : GI} {f : Nat → Bool} (h : SoundU X f) {r : Ana.Rl} {y : Int} (hr : r ∈ X.g.rules) (hy : y ∈ r.body) (h1 : f r.head.toNat = true) (hw : Ana.allG true (pP X) r.body = true) (h0 : y < 0) : SoundU X (Ana.upd f (Ana.nt y) true) := by
  refine ⟨fun i hi => ?_, ?_⟩
  · unfold Ana.upd at hi
    by_cases e : i = Ana.nt y
    · subst e; exact .step r y hr (h.1 _ h1) (works_all.1 hw) hy h0
    · rw [if_neg e] at hi; exact h.1 i hi
  · have h2 := h.2
    unfold Ana.upd
    by_cases e : X.g.start.toNat = Ana.nt y
    · rw [if_pos e]
    · rw [if_neg e]; exact h2
theorem SoundU.init {X : GI} : SoundU X (Ana.upd (fun _ => false) X.g.start.toNat true) := by
  refine ⟨fun i hi => ?_, ?_⟩
  · unfold Ana.upd at hi
    by_cases e : i = X.g.start.toNat
    · subst e; exact .start
    · rw [if_neg e] at hi; cases hi
  · unfold Ana.upd; rw [if_pos rfl]
theorem useful_full {X : GI} {f : Nat → Bool} (hs : SoundU X f) (hg : ∀ x, x ∈ X.xs → GoodU X x f) : bl X.g.n f = bl X.g.n (us X.g) := by
  have key : ∀ j, f j = us X.g j := fun j => Ana.eq_dec ⟨hs.1 j, fun h => by
    induction h with
    | start => exact hs.2
    | step r x hr _ hw hx h0 ih =>
      obtain ⟨z, hz, rfl⟩ := rule_of hr
      exact hg z hz ih (works_all.2 hw) x hx h0⟩
  unfold bl
  rw [Ana.mkl_ext (fun j _ => key j)]
theorem us_useful {X : GI} : Go.Proofs.Rec.Useful X.g (us X.g) (pP X) where
  prod := fun i => Ana.dec_iff
  start := Ana.dec_true .start
  closed := fun r hr hst x hx h0 => by
    obtain ⟨h1, h2⟩ := (Go.Proofs.Rec.stays_iff (g := X.g) (P := pP X) (fun i => Ana.dec_iff)).1 hst
    exact Ana.dec_true (.step r x hr (Ana.dec_iff.1 h1) h2 hx h0)
theorem lack_chain {n : Nat} {f g : Nat → Bool} {j : Nat} {c : Bool} (hj : j < n) (h : g j = false) (h1 : c = true → Ana.lack n g < Ana.lack n f) (h2 : c = false → g = f) : Ana.lack n (Ana.upd g j true) < Ana.lack n f := by
  have hl := Ana.lack_upd hj h
  cases c with
  | true => have := h1 rfl; omega
  | false => rw [h2 rfl] at hl ⊢; exact hl
theorem call_29 : Callable Try.prog 29 := ⟨_, Try.func29, by kernel_rfl, rfl⟩
theorem useful_ok (X : GI) (hX : X.small) (w : World) (hM : X.mem w) (ok : Ana.Ok2 X.g) :
   Calls Try.prog 30 #[.agg #[.slice X.At X.terms.length X.ct, .slice X.An X.nts.length X.cn, .int .i64 X.start, .slice X.Ar X.xs.length X.cr]] w (Ret fun v w' => ∃ bo : Nat, v = .slice (some ⟨bo, 0, none⟩) X.g.n X.g.n ∧ Sl 1 boolF (some ⟨bo, 0, none⟩) (Ana.mkl X.g.n (us X.g)) w' ∧ (w.heap.size ≤ bo ∧ bo < w'.heap.size) ∧ Ext [] w w') := by
 have hnl := ok.nl
 have hnn : X.nts.length ≤ 16 := hnl
 have hxl := hX.x
 have hst1 : ((X.g.start.toNat : Nat) : Int) = X.start := by have := ok.s0; show ((X.start.toNat : Nat) : Int) = _; have h : 0 ≤ X.start := this; omega
 have hst2 : X.g.start.toNat < X.g.n := by have h0 : 0 ≤ X.start := ok.s0; have h1 : X.start < (X.nts.length : Int) := ok.s1; show X.start.toNat < X.nts.length; omega
 refine calls_fx (l := [.agg #[.slice X.At X.terms.length X.ct, .slice X.An X.nts.length X.cn, .int .i64 X.start, .slice X.Ar X.xs.length X.cr]]) Try.func30 rfl Try.ntmps30 (Nat.le_of_ble_eq_true rfl) (X.begin hM) ?_
 refine c_seq ?_
 refine c_reg ?_
 refine l_box (by decide) rfl _ rfl (fun b1 => ?_)
 refine l_q (by decide) (p_assign rfl).q ?_
 refine l_nil ?_
 refine c_seq ?_
 obtain ⟨lo, hlo⟩ : ∃ lo, lo = w.heap.size := ⟨_, rfl⟩
 refine c_reg ?_
 refine l_q (by decide) (r_loadow Try.underlying25 rfl inf_25 rfl (by repeat constructor) (by rfl)).q ?_
 refine l_call (X := { bo : Nat // lo ≤ bo }) (fun x => .slice (some ⟨x.1, 0, none⟩) X.g.n X.g.n) (fun x => Sl 1 boolF (some ⟨x.1, 0, none⟩) (Ana.mkl X.g.n (Ana.pn X.g true))) (by decide) call_29 rfl (fun w hs => tab_call (by rw [hlo]; exact hs.ext.size) (rprod_ok X hX w (GI.of hs (by repeat constructor) (by repeat constructor) (by repeat constructor) (by repeat constructor)) ok)) (fun x10 => ?_)
 refine l_q (by decide) (p_assign rfl).q ?_
 refine l_nil ?_
 refine c_seq ?_
 refine c_reg ?_
 refine l_q (by decide) (p_faddro (i := 1) 1 Try.underlying25 rfl inf_22 (by decide) rfl rfl).q ?_
 refine l_q (by decide) (r_loado Try.underlying22 rfl rfl (by repeat constructor) (by rfl)).q ?_
 refine l_q (by decide) (p_len_sl Try.underlying22 rfl).q ?_
 refine l_make (by decide) Try.underlying42 inf_4 rfl rfl rfl rfl rfl rfl (by omega) (by omega) (fun b14 => ?_)
 refine l_q (by decide) (p_assign rfl).q ?_
 refine l_nil ?_
 refine c_seq ?_
 have hst3 : X.g.start.toNat < X.nts.length := hst2
 rw [show List.replicate X.nts.length (Value.bool false) = bl X.g.n (fun _ => false) from bl_rep _]
 have hkb0 : X.g.start.toNat * 1 < (bl X.g.n (fun _ => false)).length := by rw [bl_len, Nat.mul_one]; exact hst2
 refine c_reg ?_
 refine l_q (by decide) (p_move rfl).q ?_
 refine l_q (by decide) (p_faddro (i := 2) 2 Try.underlying25 rfl inf_3 (by decide) rfl rfl).q ?_
 refine l_q (by decide) (((r_loado Try.underlying3 rfl rfl (by repeat constructor) (by rfl))).to (u := .int .i64 ((X.g.start.toNat : Nat) : Int)) (by rw [hst1])).q ?_
 refine l_q (by decide) (p_indexo Try.underlying42 inf_4 rfl rfl rfl (by omega)).q ?_
 (refine l_store inf_4 rfl rfl rfl rfl (by omega) ?_)
 refine l_nil ?_
 refine c_seq ?_
 refine c_seq ?_
 refine c_reg ?_
 refine l_q (by decide) (p_assign rfl).q ?_
 refine l_nil ?_
 refine c_block ?_
 rw [bl_set]
 refine c_loop (S := BF × Bool) (fun zs => SoundU X zs.1 ∧ (zs.2 = false → ∀ zz, zz ∈ X.xs → GoodU X zz zs.1)) (fun zs => 2 * Ana.lack X.g.n zs.1 + zs.2.toNat) (fun zs => [(1, .pointer (some ⟨b1, 0, none⟩)), (3, .slice (some ⟨x10.1, 0, none⟩) X.g.n X.g.n), (4, .slice (some ⟨b14, 0, none⟩) X.g.n X.g.n), (5, .bool zs.2)]) (fun zs => [iCells b14 4 (bl X.g.n zs.1), iCells b1 25 [.slice X.At X.terms.length X.ct, .slice X.An X.nts.length X.cn, .int .i64 X.start, .slice X.Ar X.xs.length X.cr]]) (fun zs => [Sl 1 boolF (some ⟨x10.1, 0, none⟩) (Ana.mkl X.g.n (Ana.pn X.g true)), Bd X.xs, Sl 3 ruF X.Ar X.xs, Sl 1 strF X.An X.nts, Sl 1 strF X.At X.terms]) (Ana.upd (fun _ => false) X.g.start.toNat true, true) ?_ ?_ ?_ ?_ ?_
 · show SoundU X (Ana.upd (fun _ => false) X.g.start.toNat true) ∧ ((true) = false → ∀ zz, zz ∈ X.xs → GoodU X zz (Ana.upd (fun _ => false) X.g.start.toNat true))
   exact ⟨SoundU.init, fun h => by cases h⟩
 · exact ⟨rfl, rfl, rfl, rfl, trivial⟩
 · exact .refl _
 · exact fun _ h => h
 rintro ⟨f, ch⟩ hinv
 have hinv : SoundU X f ∧ (ch = false → ∀ zz, zz ∈ X.xs → GoodU X zz f) := hinv
 obtain ⟨hI1, hI2⟩ := hinv
 show Cont _ _ _ _ [(1, .pointer (some ⟨b1, 0, none⟩)), (3, .slice (some ⟨x10.1, 0, none⟩) X.g.n X.g.n), (4, .slice (some ⟨b14, 0, none⟩) X.g.n X.g.n), (5, .bool ch)] ([iCells b14 4 (bl X.g.n f), iCells b1 25 [.slice X.At X.terms.length X.ct, .slice X.An X.nts.length X.cn, .int .i64 X.start, .slice X.Ar X.xs.length X.cr]]) [Sl 1 boolF (some ⟨x10.1, 0, none⟩) (Ana.mkl X.g.n (Ana.pn X.g true)), Bd X.xs, Sl 3 ruF X.Ar X.xs, Sl 1 strF X.An X.nts, Sl 1 strF X.At X.terms]
 refine c_seq ?_
 refine c_seq ?_
 refine c_reg ?_
 refine l_q (by decide) (p_move rfl).q ?_
 refine l_nil ?_
 refine c_cond rfl (fun h19 => ?_) (fun h19 => ?_)
 ·skip
  refine c_skip ?_
  refine c_block ?_
  refine c_seq ?_
  refine c_reg ?_
  refine l_q (by decide) (p_assign rfl).q ?_
  refine l_nil ?_
  refine c_seq ?_
  refine c_reg ?_
  refine l_q (by decide) (p_assign (v := .int .i64 ((0 : Nat) : Int)) rfl).q ?_
  refine l_nil ?_
  refine c_block ?_
  refine c_loop (S := Nat × BF × Bool) (fun zs => zs.1 ≤ X.xs.length ∧ SoundU X zs.2.1 ∧ (zs.2.2 = true → Ana.lack X.g.n zs.2.1 < Ana.lack X.g.n f) ∧ (zs.2.2 = false → zs.2.1 = f ∧ ∀ zz, zz ∈ X.xs.take zs.1 → GoodU X zz zs.2.1)) (fun zs => X.xs.length - zs.1) (fun zs => [(1, .pointer (some ⟨b1, 0, none⟩)), (3, .slice (some ⟨x10.1, 0, none⟩) X.g.n X.g.n), (4, .slice (some ⟨b14, 0, none⟩) X.g.n X.g.n), (5, .bool zs.2.2), (6, .int .i64 (zs.1 : Int))]) (fun zs => [iCells b14 4 (bl X.g.n zs.2.1), iCells b1 25 [.slice X.At X.terms.length X.ct, .slice X.An X.nts.length X.cn, .int .i64 X.start, .slice X.Ar X.xs.length X.cr]]) (fun zs => [Sl 1 boolF (some ⟨x10.1, 0, none⟩) (Ana.mkl X.g.n (Ana.pn X.g true)), Bd X.xs, Sl 3 ruF X.Ar X.xs, Sl 1 strF X.An X.nts, Sl 1 strF X.At X.terms]) (0, f, false) ?_ ?_ ?_ ?_ ?_
  · show (0) ≤ X.xs.length ∧ SoundU X (f) ∧ ((false) = true → Ana.lack X.g.n (f) < Ana.lack X.g.n f) ∧ ((false) = false → (f) = f ∧ ∀ zz, zz ∈ X.xs.take (0) → GoodU X zz (f))
    exact ⟨Nat.zero_le _, hI1, fun h => (by cases h), fun _ => ⟨rfl, fun x h => absurd h (by simp)⟩⟩
  · exact ⟨rfl, rfl, rfl, rfl, rfl, trivial⟩
  · exact .refl _
  · exact fun _ h => h
  rintro ⟨k, g, cg⟩ hinv
  have hinv : k ≤ X.xs.length ∧ SoundU X g ∧ (cg = true → Ana.lack X.g.n g < Ana.lack X.g.n f) ∧ (cg = false → g = f ∧ ∀ zz, zz ∈ X.xs.take k → GoodU X zz g) := hinv
  obtain ⟨hJ1, hJ2, hJ3, hJ4⟩ := hinv
  show Cont _ _ _ _ [(1, .pointer (some ⟨b1, 0, none⟩)), (3, .slice (some ⟨x10.1, 0, none⟩) X.g.n X.g.n), (4, .slice (some ⟨b14, 0, none⟩) X.g.n X.g.n), (5, .bool cg), (6, .int .i64 (k : Int))] ([iCells b14 4 (bl X.g.n g), iCells b1 25 [.slice X.At X.terms.length X.ct, .slice X.An X.nts.length X.cn, .int .i64 X.start, .slice X.Ar X.xs.length X.cr]]) [Sl 1 boolF (some ⟨x10.1, 0, none⟩) (Ana.mkl X.g.n (Ana.pn X.g true)), Bd X.xs, Sl 3 ruF X.Ar X.xs, Sl 1 strF X.An X.nts, Sl 1 strF X.At X.terms]
  refine c_seq ?_
  refine c_seq ?_
  refine c_reg ?_
  refine l_q (by decide) (p_move rfl).q ?_
  refine l_q (by decide) (p_faddro (i := 3) 3 Try.underlying25 rfl inf_23 (by decide) rfl rfl).q ?_
  refine l_q (by decide) (r_loado Try.underlying23 rfl rfl (by repeat constructor) (by rfl)).q ?_
  refine l_q (by decide) (p_len_sl Try.underlying23 rfl).q ?_
  refine l_q (by decide) (p_lss rfl rfl rfl rfl).q ?_
  refine l_nil ?_
  refine c_dec rfl (fun h24 => ?_) (fun h24 => ?_)
  ·skip
   obtain ⟨x, hx⟩ := at_some (l := X.xs) (n := k) (by omega)
   obtain ⟨hh1, hh2⟩ := ok.hd (rule_mem hx)
   have hbl := ok.bl _ (rule_mem hx)
   refine c_skip ?_
   refine c_seq ?_
   refine c_block ?_
   refine c_seq ?_
   refine c_reg ?_
   refine l_q (by decide) (p_faddro (i := 3) 3 Try.underlying25 rfl inf_23 (by decide) rfl rfl).q ?_
   refine l_q (by decide) (r_loado Try.underlying23 rfl rfl (by repeat constructor) (by rfl)).q ?_
   refine l_q (by decide) (p_move rfl).q ?_
   refine l_q (by decide) (r_index Try.underlying23 inf_49 rfl rfl rfl (by exact .fact (by repeat constructor)) rfl (by omega)).q ?_
   refine l_q (by decide) (r_loada Try.underlying49 rfl inf_49 rfl (by exact .fact (by repeat constructor)) (by assumption)).q ?_
   refine l_alloc (by decide) inf_49 _ rfl (fun b7 => ?_)
   (refine l_storew inf_49 rfl rfl rfl rfl rfl ?_)
   refine l_nil ?_
   refine c_seq ?_
   refine c_seq ?_
   refine c_reg ?_
   refine l_q (by decide) (p_move rfl).q ?_
   refine l_q (by decide) (p_faddro (i := 0) 0 Try.underlying49 rfl inf_3 (by decide) rfl rfl).q ?_
   refine l_q (by decide) (((r_loado Try.underlying3 rfl rfl (by repeat constructor) (by rfl))).to (u := .int .i64 ((x.r.head.toNat : Nat) : Int)) (by rw [hh1])).q ?_
   refine l_q (by decide) (p_indexo Try.underlying42 inf_4 rfl rfl rfl (by omega)).q ?_
   refine l_q (by decide) (r_loado Try.underlying4 rfl rfl (by repeat constructor) (bl_at hh2)).q ?_
   refine l_q (by decide) (p_not rfl).q ?_
   refine l_q (by decide) (p_move rfl).q ?_
   refine l_splitb (t := 38) rfl (fun h38 => ?_) (fun h38 => ?_)
   ·skip
    refine l_off (j := 6) rfl rfl (by (simp; done)) (by decide) ?_
    refine l_off (j := 6) rfl rfl (by (simp; done)) (by decide) ?_
    refine l_off (j := 6) rfl rfl (by (simp; done)) (by decide) ?_
    refine l_off (j := 6) rfl rfl (by (simp; done)) (by decide) ?_
    refine l_off (j := 6) rfl rfl (by (simp; done)) (by decide) ?_
    refine l_q (by decide) (p_pick rfl rfl).q ?_
    refine l_nil ?_
    refine c_true rfl ?_
    refine c_exit ?_
    refine c_here ?_
    refine c_reg ?_
    refine l_q (by decide) (p_move rfl).q ?_
    refine l_q (by decide) (p_add (j := 1) rfl rfl rfl rfl (by show _ ≤ (9223372036854775807 : Nat); omega)).q ?_
    refine l_q (by decide) (p_assign rfl).q ?_
    refine l_nil ?_
    (refine c_drop (x := iCells b7 _ _) ?_)
    refine c_join ((k + 1), (g), (cg)) ?_ ?_ ?_ ?_
    ·show ((k + 1) ≤ X.xs.length ∧ SoundU X (g) ∧ ((cg) = true → Ana.lack X.g.n (g) < Ana.lack X.g.n f) ∧ ((cg) = false → (g) = f ∧ ∀ zz, zz ∈ X.xs.take (k + 1) → GoodU X zz (g))) ∧ X.xs.length - (k + 1) < X.xs.length - k
     refine ⟨⟨by omega, hJ2, hJ3, fun hc => ⟨(hJ4 hc).1, fun zz hz => ?_⟩⟩, by omega⟩
     rw [take_at hx] at hz
     rcases List.mem_append.1 hz with h5 | h5
     · exact (hJ4 hc).2 zz h5
     · rw [List.mem_singleton.1 h5]; exact fun h1 => by first | (rw [h1] at h38; cases h38; done) | (simp [h1] at h38)
    · exact ⟨rfl, rfl, rfl, rfl, rfl, trivial⟩
    ·show List.Perm _ ([iCells b14 4 (bl X.g.n (g)), iCells b1 25 [.slice X.At X.terms.length X.ct, .slice X.An X.nts.length X.cn, .int .i64 X.start, .slice X.Ar X.xs.length X.cr]])
     repeat (first | exact List.Perm.refl _ | refine List.Perm.cons _ ?_ | refine (front1 _ _ _).trans (List.Perm.cons _ ?_) | refine (front2 _ _ _ _).trans (List.Perm.cons _ ?_) | refine (front3 _ _ _ _ _).trans (List.Perm.cons _ ?_) | refine (front4 _ _ _ _ _ _).trans (List.Perm.cons _ ?_))
    · exact fun _ h => h
   ·skip
    refine l_g (j := 6) rfl rfl (by decide) (p_move rfl).q ?_
    refine l_g (j := 6) rfl rfl (by decide) (p_faddro (i := 1) 1 Try.underlying49 rfl inf_26 (by decide) rfl rfl).q ?_
    refine l_g (j := 6) rfl rfl (by decide) (r_loado Try.underlying26 rfl rfl (by repeat constructor) (by rfl)).q ?_
    refine l_g (j := 6) rfl rfl (by decide) (q_call call_31 rfl (fun w hs => prodl_ok x.A (some ⟨x10.1, 0, none⟩) x.c X.g.n x.r.body X.g.n (pP X) (by omega) (by show X.nts.length ≤ 1000; omega) (fun y hy h0 => ok.nt_lt (rule_mem hx) hy h0) w ((hs.facts (Bd X.xs) (by repeat constructor)).1 k x hx) (hs.facts (Sl 1 boolF (some ⟨x10.1, 0, none⟩) (Ana.mkl X.g.n (Ana.pn X.g true))) (by repeat constructor)).1)) ?_
    refine l_g (j := 6) rfl rfl (by decide) (p_not rfl).q ?_
    refine l_q (by decide) (p_pick rfl rfl).q ?_
    refine l_nil ?_
    refine c_cond rfl (fun h44 => ?_) (fun h44 => ?_)
    ·skip
     refine c_exit ?_
     refine c_here ?_
     refine c_reg ?_
     refine l_q (by decide) (p_move rfl).q ?_
     refine l_q (by decide) (p_add (j := 1) rfl rfl rfl rfl (by show _ ≤ (9223372036854775807 : Nat); omega)).q ?_
     refine l_q (by decide) (p_assign rfl).q ?_
     refine l_nil ?_
     (refine c_drop (x := iCells b7 _ _) ?_)
     refine c_join ((k + 1), (g), (cg)) ?_ ?_ ?_ ?_
     ·show ((k + 1) ≤ X.xs.length ∧ SoundU X (g) ∧ ((cg) = true → Ana.lack X.g.n (g) < Ana.lack X.g.n f) ∧ ((cg) = false → (g) = f ∧ ∀ zz, zz ∈ X.xs.take (k + 1) → GoodU X zz (g))) ∧ X.xs.length - (k + 1) < X.xs.length - k
      refine ⟨⟨by omega, hJ2, hJ3, fun hc => ⟨(hJ4 hc).1, fun zz hz => ?_⟩⟩, by omega⟩
      rw [take_at hx] at hz
      rcases List.mem_append.1 hz with h5 | h5
      · exact (hJ4 hc).2 zz h5
      · rw [List.mem_singleton.1 h5]; exact fun _ h2 => by first | (rw [h2] at h44; cases h44; done) | (simp [h2] at h44)
     · exact ⟨rfl, rfl, rfl, rfl, rfl, trivial⟩
     ·show List.Perm _ ([iCells b14 4 (bl X.g.n (g)), iCells b1 25 [.slice X.At X.terms.length X.ct, .slice X.An X.nts.length X.cn, .int .i64 X.start, .slice X.Ar X.xs.length X.cr]])
      repeat (first | exact List.Perm.refl _ | refine List.Perm.cons _ ?_ | refine (front1 _ _ _).trans (List.Perm.cons _ ?_) | refine (front2 _ _ _ _).trans (List.Perm.cons _ ?_) | refine (front3 _ _ _ _ _).trans (List.Perm.cons _ ?_) | refine (front4 _ _ _ _ _ _).trans (List.Perm.cons _ ?_))
     · exact fun _ h => h
    ·skip
     refine c_skip ?_
     refine c_seq ?_
     refine c_reg ?_
     refine l_q (by decide) (p_assign (v := .int .i64 ((0 : Nat) : Int)) rfl).q ?_
     refine l_nil ?_
     refine c_block ?_
     refine c_loop (S := Nat × BF × Bool) (fun zs => zs.1 ≤ x.r.body.length ∧ SoundU X zs.2.1 ∧ zs.2.1 x.r.head.toNat = true ∧ (zs.2.2 = true → Ana.lack X.g.n zs.2.1 < Ana.lack X.g.n f) ∧ (zs.2.2 = false → zs.2.1 = f ∧ cg = false ∧ ∀ zz, zz ∈ x.r.body.take zs.1 → zz < 0 → zs.2.1 (Ana.nt zz) = true)) (fun zs => x.r.body.length - zs.1) (fun zs => [(1, .pointer (some ⟨b1, 0, none⟩)), (3, .slice (some ⟨x10.1, 0, none⟩) X.g.n X.g.n), (4, .slice (some ⟨b14, 0, none⟩) X.g.n X.g.n), (5, .bool zs.2.2), (6, .int .i64 (k : Int)), (7, .pointer (some ⟨b7, 0, none⟩)), (8, .int .i64 (zs.1 : Int))]) (fun zs => [iCells b7 49 (ruF x), iCells b14 4 (bl X.g.n zs.2.1), iCells b1 25 [.slice X.At X.terms.length X.ct, .slice X.An X.nts.length X.cn, .int .i64 X.start, .slice X.Ar X.xs.length X.cr]]) (fun zs => [Sl 1 boolF (some ⟨x10.1, 0, none⟩) (Ana.mkl X.g.n (Ana.pn X.g true)), Bd X.xs, Sl 3 ruF X.Ar X.xs, Sl 1 strF X.An X.nts, Sl 1 strF X.At X.terms]) (0, g, cg) ?_ ?_ ?_ ?_ ?_
     · show (0) ≤ x.r.body.length ∧ SoundU X (g) ∧ (g) x.r.head.toNat = true ∧ ((cg) = true → Ana.lack X.g.n (g) < Ana.lack X.g.n f) ∧ ((cg) = false → (g) = f ∧ cg = false ∧ ∀ zz, zz ∈ x.r.body.take (0) → zz < 0 → (g) (Ana.nt zz) = true)
       exact ⟨Nat.zero_le _, hJ2, by simpa using h38, hJ3, fun hc => ⟨(hJ4 hc).1, hc, fun x h => absurd h (by simp)⟩⟩
     · exact ⟨rfl, rfl, rfl, rfl, rfl, rfl, rfl, trivial⟩
     · exact .refl _
     · exact fun _ h => h
     rintro ⟨j, h, c2⟩ hinv
     have hinv : j ≤ x.r.body.length ∧ SoundU X h ∧ h x.r.head.toNat = true ∧ (c2 = true → Ana.lack X.g.n h < Ana.lack X.g.n f) ∧ (c2 = false → h = f ∧ cg = false ∧ ∀ zz, zz ∈ x.r.body.take j → zz < 0 → h (Ana.nt zz) = true) := hinv
     obtain ⟨hL1, hL2, hL5, hL3, hL4⟩ := hinv
     show Cont _ _ _ _ [(1, .pointer (some ⟨b1, 0, none⟩)), (3, .slice (some ⟨x10.1, 0, none⟩) X.g.n X.g.n), (4, .slice (some ⟨b14, 0, none⟩) X.g.n X.g.n), (5, .bool c2), (6, .int .i64 (k : Int)), (7, .pointer (some ⟨b7, 0, none⟩)), (8, .int .i64 (j : Int))] ([iCells b7 49 (ruF x), iCells b14 4 (bl X.g.n h), iCells b1 25 [.slice X.At X.terms.length X.ct, .slice X.An X.nts.length X.cn, .int .i64 X.start, .slice X.Ar X.xs.length X.cr]]) [Sl 1 boolF (some ⟨x10.1, 0, none⟩) (Ana.mkl X.g.n (Ana.pn X.g true)), Bd X.xs, Sl 3 ruF X.Ar X.xs, Sl 1 strF X.An X.nts, Sl 1 strF X.At X.terms]
     refine c_seq ?_
     refine c_seq ?_
     refine c_reg ?_
     refine l_q (by decide) (p_move rfl).q ?_
     refine l_q (by decide) (p_faddro (i := 1) 1 Try.underlying49 rfl inf_26 (by decide) rfl rfl).q ?_
     refine l_q (by decide) (r_loado Try.underlying26 rfl rfl (by repeat constructor) (by rfl)).q ?_
     refine l_q (by decide) (p_len_sl Try.underlying26 rfl).q ?_
     refine l_q (by decide) (p_lss rfl rfl rfl rfl).q ?_
     refine l_nil ?_
     refine c_dec rfl (fun h49 => ?_) (fun h49 => ?_)
     ·skip
      obtain ⟨y, hy⟩ := at_some (l := x.r.body) (n := j) (by omega)
      have hyb := ok.b0 _ (rule_mem hx) y (List.mem_of_getElem? hy)
      refine c_skip ?_
      refine c_seq ?_
      refine c_block ?_
      refine c_seq ?_
      refine c_reg ?_
      refine l_q (by decide) (p_faddro (i := 1) 1 Try.underlying49 rfl inf_26 (by decide) rfl rfl).q ?_
      refine l_q (by decide) (r_loado Try.underlying26 rfl rfl (by repeat constructor) (by rfl)).q ?_
      refine l_q (by decide) (p_move rfl).q ?_
      refine l_q (by decide) (r_index Try.underlying26 inf_3 rfl rfl rfl (by exact SlIn.body (by repeat constructor) (by assumption)) rfl (by omega)).q ?_
      refine l_q (by decide) (r_load1 Try.underlying3 rfl rfl (by exact SlIn.body (by repeat constructor) (by assumption)) (by assumption) (by rfl)).q ?_
      refine l_q (by decide) (p_lssi rfl rfl).q ?_
      refine l_q (by decide) (p_move rfl).q ?_
      refine l_splitd (t := 58) rfl (fun h58 => ?_) (fun h58 => ?_)
      ·skip
       have hn2 := ok.nt_lt (rule_mem hx) (List.mem_of_getElem? hy) h58
       have hncs : Ana.nt y = (-1 - y).toNat := rfl
       have hkb : Ana.nt y * 1 < (bl X.g.n h).length := by rw [bl_len, Nat.mul_one]; exact hn2
       refine l_g (j := 6) rfl rfl (by decide) (p_move rfl).q ?_
       refine l_g (j := 6) rfl rfl (by decide) (p_faddro (i := 1) 1 Try.underlying49 rfl inf_26 (by decide) rfl rfl).q ?_
       refine l_g (j := 6) rfl rfl (by decide) (r_loado Try.underlying26 rfl rfl (by repeat constructor) (by rfl)).q ?_
       refine l_g (j := 6) rfl rfl (by decide) (p_move rfl).q ?_
       refine l_g (j := 6) rfl rfl (by decide) (r_index Try.underlying26 inf_3 rfl rfl rfl (by exact SlIn.body (by repeat constructor) (by assumption)) rfl (by omega)).q ?_
       refine l_g (j := 6) rfl rfl (by decide) (r_load1 Try.underlying3 rfl rfl (by exact SlIn.body (by repeat constructor) (by assumption)) (by assumption) (by rfl)).q ?_
       refine l_g (j := 6) rfl rfl (by decide) (((p_subi rfl rfl (by show (-9223372036854775808 : Int) ≤ _; omega) (by show _ ≤ ((9223372036854775807 : Nat) : Int); omega))).to (u := .int .i64 ((Ana.nt y : Nat) : Int)) (by rw [Ana.nt_cast h58])).q ?_
       refine l_g (j := 6) rfl rfl (by decide) (p_indexo Try.underlying42 inf_4 rfl rfl rfl (by omega)).q ?_
       refine l_g (j := 6) rfl rfl (by decide) (r_loado Try.underlying4 rfl rfl (by repeat constructor) (bl_at hn2)).q ?_
       refine l_g (j := 6) rfl rfl (by decide) (p_not rfl).q ?_
       refine l_q (by decide) (p_pick rfl rfl).q ?_
       refine l_nil ?_
       refine c_cond rfl (fun h69 => ?_) (fun h69 => ?_)
       ·skip
        refine c_reg ?_
        refine l_q (by decide) (p_move rfl).q ?_
        refine l_q (by decide) (p_faddro (i := 1) 1 Try.underlying49 rfl inf_26 (by decide) rfl rfl).q ?_
        refine l_q (by decide) (r_loado Try.underlying26 rfl rfl (by repeat constructor) (by rfl)).q ?_
        refine l_q (by decide) (p_move rfl).q ?_
        refine l_q (by decide) (r_index Try.underlying26 inf_3 rfl rfl rfl (by exact SlIn.body (by repeat constructor) (by assumption)) rfl (by omega)).q ?_
        refine l_q (by decide) (r_load1 Try.underlying3 rfl rfl (by exact SlIn.body (by repeat constructor) (by assumption)) (by assumption) (by rfl)).q ?_
        refine l_q (by decide) (((p_subi rfl rfl (by show (-9223372036854775808 : Int) ≤ _; omega) (by show _ ≤ ((9223372036854775807 : Nat) : Int); omega))).to (u := .int .i64 ((Ana.nt y : Nat) : Int)) (by rw [Ana.nt_cast h58])).q ?_
        refine l_q (by decide) (p_indexo Try.underlying42 inf_4 rfl rfl rfl (by omega)).q ?_
        (refine l_perm (front1 _ _ _) ?_; refine l_store inf_4 rfl rfl rfl rfl (by omega) ?_)
        refine l_q (by decide) (p_assign rfl).q ?_
        refine l_nil ?_
        refine c_reg ?_
        refine l_q (by decide) (p_move rfl).q ?_
        refine l_q (by decide) (p_add (j := 1) rfl rfl rfl rfl (by show _ ≤ (9223372036854775807 : Nat); omega)).q ?_
        refine l_q (by decide) (p_assign rfl).q ?_
        refine l_nil ?_
        refine c_join ((j + 1), (Ana.upd h (Ana.nt y) true), (true)) ?_ ?_ ?_ ?_
        ·show ((j + 1) ≤ x.r.body.length ∧ SoundU X (Ana.upd h (Ana.nt y) true) ∧ (Ana.upd h (Ana.nt y) true) x.r.head.toNat = true ∧ ((true) = true → Ana.lack X.g.n (Ana.upd h (Ana.nt y) true) < Ana.lack X.g.n f) ∧ ((true) = false → (Ana.upd h (Ana.nt y) true) = f ∧ cg = false ∧ ∀ zz, zz ∈ x.r.body.take (j + 1) → zz < 0 → (Ana.upd h (Ana.nt y) true) (Ana.nt zz) = true)) ∧ x.r.body.length - (j + 1) < x.r.body.length - j
         refine ⟨⟨by omega, hL2.step (rule_mem hx) (List.mem_of_getElem? hy) hL5 (by simpa using h44) h58, ?_, fun _ => lack_chain hn2 (by simpa using h69) hL3 (fun hc => (hL4 hc).1), fun h => (by cases h)⟩, by omega⟩
         unfold Ana.upd
         split
         · rfl
         · exact hL5
        · exact ⟨rfl, rfl, rfl, rfl, rfl, rfl, rfl, trivial⟩
        ·show List.Perm _ ([iCells b7 49 (ruF x), iCells b14 4 (bl X.g.n (Ana.upd h (Ana.nt y) true)), iCells b1 25 [.slice X.At X.terms.length X.ct, .slice X.An X.nts.length X.cn, .int .i64 X.start, .slice X.Ar X.xs.length X.cr]])
         rw [bl_set]
         repeat (first | exact List.Perm.refl _ | refine List.Perm.cons _ ?_ | refine (front1 _ _ _).trans (List.Perm.cons _ ?_) | refine (front2 _ _ _ _).trans (List.Perm.cons _ ?_) | refine (front3 _ _ _ _ _).trans (List.Perm.cons _ ?_) | refine (front4 _ _ _ _ _ _).trans (List.Perm.cons _ ?_))
        · exact fun _ h => h
       ·skip
        refine c_skip ?_
        refine c_reg ?_
        refine l_q (by decide) (p_move rfl).q ?_
        refine l_q (by decide) (p_add (j := 1) rfl rfl rfl rfl (by show _ ≤ (9223372036854775807 : Nat); omega)).q ?_
        refine l_q (by decide) (p_assign rfl).q ?_
        refine l_nil ?_
        refine c_join ((j + 1), (h), (c2)) ?_ ?_ ?_ ?_
        ·show ((j + 1) ≤ x.r.body.length ∧ SoundU X (h) ∧ (h) x.r.head.toNat = true ∧ ((c2) = true → Ana.lack X.g.n (h) < Ana.lack X.g.n f) ∧ ((c2) = false → (h) = f ∧ cg = false ∧ ∀ zz, zz ∈ x.r.body.take (j + 1) → zz < 0 → (h) (Ana.nt zz) = true)) ∧ x.r.body.length - (j + 1) < x.r.body.length - j
         refine ⟨⟨by omega, hL2, hL5, hL3, fun hc => ⟨(hL4 hc).1, (hL4 hc).2.1, fun zz hz => ?_⟩⟩, by omega⟩
         rw [take_at hy] at hz
         rcases List.mem_append.1 hz with h5 | h5
         · exact (hL4 hc).2.2 zz h5
         · rw [List.mem_singleton.1 h5]; exact fun _ => by simpa using h69
        · exact ⟨rfl, rfl, rfl, rfl, rfl, rfl, rfl, trivial⟩
        ·show List.Perm _ ([iCells b7 49 (ruF x), iCells b14 4 (bl X.g.n (h)), iCells b1 25 [.slice X.At X.terms.length X.ct, .slice X.An X.nts.length X.cn, .int .i64 X.start, .slice X.Ar X.xs.length X.cr]])
         repeat (first | exact List.Perm.refl _ | refine List.Perm.cons _ ?_ | refine (front1 _ _ _).trans (List.Perm.cons _ ?_) | refine (front2 _ _ _ _).trans (List.Perm.cons _ ?_) | refine (front3 _ _ _ _ _).trans (List.Perm.cons _ ?_) | refine (front4 _ _ _ _ _ _).trans (List.Perm.cons _ ?_))
        · exact fun _ h => h
      ·skip
       refine l_off (j := 6) rfl rfl (by (simp; done)) (by decide) ?_
       refine l_off (j := 6) rfl rfl (by (simp; done)) (by decide) ?_
       refine l_off (j := 6) rfl rfl (by (simp; done)) (by decide) ?_
       refine l_off (j := 6) rfl rfl (by (simp; done)) (by decide) ?_
       refine l_off (j := 6) rfl rfl (by (simp; done)) (by decide) ?_
       refine l_off (j := 6) rfl rfl (by (simp; done)) (by decide) ?_
       refine l_off (j := 6) rfl rfl (by (simp; done)) (by decide) ?_
       refine l_off (j := 6) rfl rfl (by (simp; done)) (by decide) ?_
       refine l_off (j := 6) rfl rfl (by (simp; done)) (by decide) ?_
       refine l_off (j := 6) rfl rfl (by (simp; done)) (by decide) ?_
       refine l_q (by decide) (p_pick rfl rfl).q ?_
       refine l_nil ?_
       refine c_false rfl ?_
       refine c_skip ?_
       refine c_reg ?_
       refine l_q (by decide) (p_move rfl).q ?_
       refine l_q (by decide) (p_add (j := 1) rfl rfl rfl rfl (by show _ ≤ (9223372036854775807 : Nat); omega)).q ?_
       refine l_q (by decide) (p_assign rfl).q ?_
       refine l_nil ?_
       refine c_join ((j + 1), (h), (c2)) ?_ ?_ ?_ ?_
       ·show ((j + 1) ≤ x.r.body.length ∧ SoundU X (h) ∧ (h) x.r.head.toNat = true ∧ ((c2) = true → Ana.lack X.g.n (h) < Ana.lack X.g.n f) ∧ ((c2) = false → (h) = f ∧ cg = false ∧ ∀ zz, zz ∈ x.r.body.take (j + 1) → zz < 0 → (h) (Ana.nt zz) = true)) ∧ x.r.body.length - (j + 1) < x.r.body.length - j
        refine ⟨⟨by omega, hL2, hL5, hL3, fun hc => ⟨(hL4 hc).1, (hL4 hc).2.1, fun zz hz => ?_⟩⟩, by omega⟩
        rw [take_at hy] at hz
        rcases List.mem_append.1 hz with h5 | h5
        · exact (hL4 hc).2.2 zz h5
        · rw [List.mem_singleton.1 h5]; exact fun h0 => absurd h0 h58
       · exact ⟨rfl, rfl, rfl, rfl, rfl, rfl, rfl, trivial⟩
       ·show List.Perm _ ([iCells b7 49 (ruF x), iCells b14 4 (bl X.g.n (h)), iCells b1 25 [.slice X.At X.terms.length X.ct, .slice X.An X.nts.length X.cn, .int .i64 X.start, .slice X.Ar X.xs.length X.cr]])
        repeat (first | exact List.Perm.refl _ | refine List.Perm.cons _ ?_ | refine (front1 _ _ _).trans (List.Perm.cons _ ?_) | refine (front2 _ _ _ _).trans (List.Perm.cons _ ?_) | refine (front3 _ _ _ _ _).trans (List.Perm.cons _ ?_) | refine (front4 _ _ _ _ _ _).trans (List.Perm.cons _ ?_))
       · exact fun _ h => h
     ·skip
      refine c_exit ?_
      refine c_here ?_
      refine c_reg ?_
      refine l_q (by decide) (p_move rfl).q ?_
      refine l_q (by decide) (p_add (j := 1) rfl rfl rfl rfl (by show _ ≤ (9223372036854775807 : Nat); omega)).q ?_
      refine l_q (by decide) (p_assign rfl).q ?_
      refine l_nil ?_
      (refine c_drop (x := iCells b7 _ _) ?_)
      refine c_join ((k + 1), (h), (c2)) ?_ ?_ ?_ ?_
      ·show ((k + 1) ≤ X.xs.length ∧ SoundU X (h) ∧ ((c2) = true → Ana.lack X.g.n (h) < Ana.lack X.g.n f) ∧ ((c2) = false → (h) = f ∧ ∀ zz, zz ∈ X.xs.take (k + 1) → GoodU X zz (h))) ∧ X.xs.length - (k + 1) < X.xs.length - k
       rw [List.take_of_length_le (by omega)] at hL4
       refine ⟨⟨by omega, hL2, hL3, fun hc => ⟨(hL4 hc).1, fun zz hz => ?_⟩⟩, by omega⟩
       rw [take_at hx] at hz
       rcases List.mem_append.1 hz with h5 | h5
       · have := (hJ4 (hL4 hc).2.1).2 zz h5
         rw [(hL4 hc).1, ← (hJ4 (hL4 hc).2.1).1]; exact this
       · rw [List.mem_singleton.1 h5]; exact fun _ _ => (hL4 hc).2.2
      · exact ⟨rfl, rfl, rfl, rfl, rfl, trivial⟩
      ·show List.Perm _ ([iCells b14 4 (bl X.g.n (h)), iCells b1 25 [.slice X.At X.terms.length X.ct, .slice X.An X.nts.length X.cn, .int .i64 X.start, .slice X.Ar X.xs.length X.cr]])
       repeat (first | exact List.Perm.refl _ | refine List.Perm.cons _ ?_ | refine (front1 _ _ _).trans (List.Perm.cons _ ?_) | refine (front2 _ _ _ _).trans (List.Perm.cons _ ?_) | refine (front3 _ _ _ _ _).trans (List.Perm.cons _ ?_) | refine (front4 _ _ _ _ _ _).trans (List.Perm.cons _ ?_))
      · exact fun _ h => h
  ·skip
   refine c_exit ?_
   refine c_here ?_
   rw [List.take_of_length_le (by omega)] at hJ4
   refine c_join ((g), (cg)) ?_ ?_ ?_ ?_
   ·show (SoundU X (g) ∧ ((cg) = false → ∀ zz, zz ∈ X.xs → GoodU X zz (g))) ∧ 2 * Ana.lack X.g.n (g) + (cg).toNat < 2 * Ana.lack X.g.n f + ch.toNat
    subst h19
    refine ⟨⟨hJ2, fun hc => (hJ4 hc).2⟩, ?_⟩
    cases cg with
    | true => have := hJ3 rfl; simp only [Bool.toNat_true]; omega
    | false => have := (hJ4 rfl).1; subst this; simp only [Bool.toNat_true, Bool.toNat_false]; omega
   · exact ⟨rfl, rfl, rfl, rfl, trivial⟩
   ·show List.Perm _ ([iCells b14 4 (bl X.g.n (g)), iCells b1 25 [.slice X.At X.terms.length X.ct, .slice X.An X.nts.length X.cn, .int .i64 X.start, .slice X.Ar X.xs.length X.cr]])
    exact .refl _
   · exact fun _ h => h
 ·skip
  refine c_exit ?_
  refine c_here ?_
  refine c_seq ?_
  refine c_reg ?_
  refine l_q (by decide) (p_move rfl).q ?_
  refine l_q (by decide) (p_assign rfl).q ?_
  refine l_nil ?_
  refine c_ret ?_
  refine c_ret1 rfl rfl (fun w hs => ?_)
  rw [useful_full hI1 (hI2 (by simpa using h19))] at hs
  have hgo := hs.own (iCells b14 4 (bl X.g.n (us X.g))) (by repeat constructor)
  have hgk := hgo.2.2 b14 (by simp [iCells])
  have hgh := hgo.1
  rw [bl_flat] at hgh
  exact ⟨b14, rfl, cells_sl (fun _ => rfl) hgh, ⟨by simpa using hgk.2, hgk.1⟩, hs.ext⟩
end Go.Proofs.Ytncagpppmaehhaa
