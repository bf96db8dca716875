/- The walks of analysis, fourth part; conditions: lengths. -/
import Derived.Test.YtidbhgolhiaijaaWalksC
namespace Go.Proofs.Ytidbhgolhiaijaa
open Go Go.Fx Go.Proofs

abbrev tauR (X : GI) (b2 bo : Nat) (f : Nat → Bool) : Fx.Own := [iCells b2 29 [.slice (some ⟨bo, 0, none⟩) X.g.n X.g.n], iCells bo 4 (bl X.g.n f)]
def SoundR (X : GI) (f : Nat → Bool) : Prop := (∀ i, f i = true → Ana.RC X.g i) ∧ f X.g.start.toNat = true
def GoodR (x : XR) (f : Nat → Bool) : Prop := ∀ y, y ∈ x.r.body → f x.r.head.toNat = true → y < 0 → f (Ana.nt y) = true
theorem SoundR.step {X : GI} {f : Nat → Bool} (h : SoundR X f) {r : Ana.Rl} {y : Int} (hr : r ∈ X.g.rules) (hy : y ∈ r.body) (h1 : f r.head.toNat = true) (h0 : y < 0) : SoundR X (Ana.upd f (Ana.nt y) true) := by
  refine ⟨Ana.rc_step h.1 hr hy h1 h0, ?_⟩
  have h2 := h.2
  unfold Ana.upd
  by_cases e : X.g.start.toNat = Ana.nt y
  · rw [if_pos e]
  · rw [if_neg e]; exact h2
theorem SoundR.init {X : GI} : SoundR X (Ana.upd (fun _ => false) X.g.start.toNat true) := by
  refine ⟨fun i hi => ?_, ?_⟩
  · unfold Ana.upd at hi
    by_cases e : i = X.g.start.toNat
    · subst e; exact .start
    · rw [if_neg e] at hi; cases hi
  · unfold Ana.upd; rw [if_pos rfl]
theorem reach_full {X : GI} {f : Nat → Bool} (hs : SoundR X f) (hg : ∀ x, x ∈ X.xs → GoodR x f) : bl X.g.n f = bl X.g.n (Ana.rc X.g) := by
  unfold bl
  rw [Ana.mkl_ext (fun j _ => Ana.rc_full hs.1 hs.2 (fun r hr y hy h1 h0 => by obtain ⟨x, hx, rfl⟩ := List.mem_map.1 hr; exact hg x hx y hy h1 h0) j)]
theorem lack_chain {n : Nat} {f g : Nat → Bool} {j : Nat} {c : Bool} (hj : j < n) (h : g j = false) (h1 : c = true → Ana.lack n g < Ana.lack n f) (h2 : c = false → g = f) : Ana.lack n (Ana.upd g j true) < Ana.lack n f := by
  have hl := Ana.lack_upd hj h
  cases c with
  | true => have := h1 rfl; omega
  | false => rw [h2 rfl] at hl ⊢; exact hl
theorem call_37 : Callable Try.prog 37 := ⟨_, Try.func37, by kernel_rfl, rfl⟩
theorem reach1_ok (X : GI) (ok : Ana.Ok X.g) (bb bo : Nat) (x : XR) (hx : x ∈ X.xs) (f : Nat → Bool) (hf : SoundR X f) (ρ : Fx.Facts) (w : World) (h : St w (keysOf (tauR X bb bo f)) w (tauR X bb bo f) (Bd X.xs :: ρ)) :
   Calls Try.prog 37 #[.agg #[.int .i64 x.r.head, .slice x.A x.r.body.length x.c, .int .i64 x.r.price], .pointer (some ⟨bb, 0, none⟩)] w (Ret fun v w' => ∃ (z : FixR (Ana.lack X.g.n) (SoundR X) (GoodR x) f) (ρ' : Facts), v = .bool z.1.1 ∧ St w (keysOf (tauR X bb bo f)) w' (tauR X bb bo z.1.2) ρ') := by
 refine calls_fx (l := [.agg #[.int .i64 x.r.head, .slice x.A x.r.body.length x.c, .int .i64 x.r.price], .pointer (some ⟨bb, 0, none⟩)]) Try.func37 rfl Try.ntmps37 (Nat.le_of_ble_eq_true rfl) h ?_
 refine c_seq ?_
 refine c_reg ?_
 refine l_box (by decide) rfl _ rfl (fun b2 => ?_)
 refine l_q (by decide) (p_assign rfl).q ?_
 refine l_nil ?_
 refine c_seq ?_
 obtain ⟨kx, hkx⟩ := List.getElem?_of_mem hx
 obtain ⟨hh1, hh2⟩ := ok.hd (mem_g hx)
 have hbl := ok.bl _ (mem_g hx)
 refine c_reg ?_
 refine l_q (by decide) (p_assign rfl).q ?_
 refine l_nil ?_
 refine c_seq ?_
 refine c_seq ?_
 refine c_reg ?_
 first | refine l_q (by decide) (p_faddr (i := 1) 1 Try.underlying41 rfl inf_39 (by decide) rfl rfl).q ?_ | refine l_q (by decide) (p_faddro (i := 1) 1 Try.underlying41 rfl inf_39 (by decide) rfl rfl).q ?_
 first | refine l_q (by decide) (r_loado Try.underlying39 rfl rfl (by repeat constructor) (by rfl)).q ?_ | refine l_q (by decide) (r_load1 Try.underlying39 rfl rfl (by first | exact .fact (by repeat constructor) | exact .own (by repeat constructor) (by decide) (fun _ => rfl) | exact SlIn.body (by repeat constructor) (by assumption)) (by first | assumption | rfl) (by rfl)).q ?_ | refine l_q (by decide) (r_loadf Try.underlying39 rfl rfl (by first | exact .fact (by repeat constructor) | exact .own (by repeat constructor) (by decide) (fun _ => rfl) | exact SlIn.body (by repeat constructor) (by assumption)) (by assumption) (by rfl)).q ?_
 refine l_q (by decide) (p_len_sl Try.underlying39 rfl).q ?_
 refine l_q (by decide) (p_move (v := .int .i64 ((0 : Nat) : Int)) rfl).q ?_
 refine l_nil ?_
 refine c_block ?_
 refine c_loop (S := Nat × BF × Bool) (fun zs => zs.1 ≤ x.r.body.length ∧ SoundR X zs.2.1 ∧ (zs.2.2 = true → Ana.lack X.g.n zs.2.1 < Ana.lack X.g.n f) ∧ (zs.2.2 = false → zs.2.1 = f ∧ ∀ zz, zz ∈ x.r.body.take zs.1 → zs.2.1 x.r.head.toNat = true → zz < 0 → zs.2.1 (Ana.nt zz) = true)) (fun zs => x.r.body.length - zs.1) (fun zs => [(1, .pointer (some ⟨bb, 0, none⟩)), (2, .pointer (some ⟨b2, 0, none⟩)), (4, .bool zs.2.2), (8, .slice x.A x.r.body.length x.c), (9, .int .i64 (x.r.body.length : Int)), (10, .int .i64 (zs.1 : Int))]) (fun zs => [iCells b2 41 [.int .i64 x.r.head, .slice x.A x.r.body.length x.c, .int .i64 x.r.price], iCells bb 29 [.slice (some ⟨bo, 0, none⟩) X.g.n X.g.n], iCells bo 4 (bl X.g.n zs.2.1)]) (fun zs => (Bd X.xs :: ρ)) (0, f, false) ?_ ?_ ?_ ?_ ?_
 · show (0) ≤ x.r.body.length ∧ SoundR X (f) ∧ ((false) = true → Ana.lack X.g.n (f) < Ana.lack X.g.n f) ∧ ((false) = false → (f) = f ∧ ∀ zz, zz ∈ x.r.body.take (0) → (f) x.r.head.toNat = true → zz < 0 → (f) (Ana.nt zz) = true)
   exact ⟨Nat.zero_le _, hf, fun h => (by cases h), fun _ => ⟨rfl, fun x h => absurd h (by simp)⟩⟩
 · exact ⟨rfl, rfl, rfl, rfl, rfl, rfl, trivial⟩
 · exact .refl _
 · exact fun _ h => h
 rintro ⟨k, g, ch⟩ hinv
 have hinv : k ≤ x.r.body.length ∧ SoundR X g ∧ (ch = true → Ana.lack X.g.n g < Ana.lack X.g.n f) ∧ (ch = false → g = f ∧ ∀ zz, zz ∈ x.r.body.take k → g x.r.head.toNat = true → zz < 0 → g (Ana.nt zz) = true) := hinv
 obtain ⟨hJ1, hJ2, hJ3, hJ4⟩ := hinv
 show Cont _ _ _ _ [(1, .pointer (some ⟨bb, 0, none⟩)), (2, .pointer (some ⟨b2, 0, none⟩)), (4, .bool ch), (8, .slice x.A x.r.body.length x.c), (9, .int .i64 (x.r.body.length : Int)), (10, .int .i64 (k : Int))] ([iCells b2 41 [.int .i64 x.r.head, .slice x.A x.r.body.length x.c, .int .i64 x.r.price], iCells bb 29 [.slice (some ⟨bo, 0, none⟩) X.g.n X.g.n], iCells bo 4 (bl X.g.n g)]) (Bd X.xs :: ρ)
 refine c_seq ?_
 refine c_reg ?_
 first | refine l_q (by decide) (p_lss rfl rfl rfl rfl).q ?_ | refine l_q (by decide) (p_lssi rfl rfl).q ?_
 refine l_nil ?_
 refine c_seq ?_
 first | refine c_dec rfl (fun h11 => ?_) (fun h11 => ?_) | refine c_cond rfl (fun h11 => ?_) (fun h11 => ?_)
 ·skip
  obtain ⟨y, hy⟩ := at_some (l := x.r.body) (n := k) (by omega)
  have hyb := ok.b0 _ (mem_g hx) y (List.mem_of_getElem? hy)
  have hnl := ok.nl
  refine c_skip ?_
  refine c_seq ?_
  refine c_block ?_
  refine c_seq ?_
  refine c_reg ?_
  first | refine l_q (by decide) (r_index Try.underlying39 inf_3 rfl rfl rfl (by first | exact .fact (by repeat constructor) | exact .own (by repeat constructor) (by decide) (fun _ => rfl) | exact SlIn.body (by repeat constructor) (by assumption)) rfl (by omega)).q ?_ | refine l_q (by decide) (r_index Try.underlying39 inf_3 rfl rfl rfl (by first | exact .fact (by repeat constructor) | exact .own (by repeat constructor) (by decide) (fun _ => rfl) | exact SlIn.body (by repeat constructor) (by assumption)) rfl (by decide)).q ?_ | refine l_q (by decide) (p_indexo Try.underlying39 inf_3 rfl rfl rfl (by omega)).q ?_
  first | refine l_q (by decide) (r_loado Try.underlying3 rfl rfl (by repeat constructor) (by rfl)).q ?_ | refine l_q (by decide) (r_load1 Try.underlying3 rfl rfl (by first | exact .fact (by repeat constructor) | exact .own (by repeat constructor) (by decide) (fun _ => rfl) | exact SlIn.body (by repeat constructor) (by assumption)) (by first | assumption | rfl) (by rfl)).q ?_ | refine l_q (by decide) (r_loadf Try.underlying3 rfl rfl (by first | exact .fact (by repeat constructor) | exact .own (by repeat constructor) (by decide) (fun _ => rfl) | exact SlIn.body (by repeat constructor) (by assumption)) (by assumption) (by rfl)).q ?_
  refine l_q (by decide) (p_assign rfl).q ?_
  refine l_nil ?_
  refine c_seq ?_
  refine c_reg ?_
  first | refine l_q (by decide) (r_loado Try.underlying29 rfl rfl (by repeat constructor) (by rfl)).q ?_ | refine l_q (by decide) (r_load1 Try.underlying29 rfl rfl (by first | exact .fact (by repeat constructor) | exact .own (by repeat constructor) (by decide) (fun _ => rfl) | exact SlIn.body (by repeat constructor) (by assumption)) (by first | assumption | rfl) (by rfl)).q ?_ | refine l_q (by decide) (r_loadf Try.underlying29 rfl rfl (by first | exact .fact (by repeat constructor) | exact .own (by repeat constructor) (by decide) (fun _ => rfl) | exact SlIn.body (by repeat constructor) (by assumption)) (by assumption) (by rfl)).q ?_
  first | refine l_q (by decide) (p_faddr (i := 0) 0 Try.underlying41 rfl inf_3 (by decide) rfl rfl).q ?_ | refine l_q (by decide) (p_faddro (i := 0) 0 Try.underlying41 rfl inf_3 (by decide) rfl rfl).q ?_
  first | refine l_q (by decide) (((r_loado Try.underlying3 rfl rfl (by repeat constructor) (by rfl))).to (u := .int .i64 ((x.r.head.toNat : Nat) : Int)) (by rw [hh1])).q ?_ | refine l_q (by decide) (((r_load1 Try.underlying3 rfl rfl (by first | exact .fact (by repeat constructor) | exact .own (by repeat constructor) (by decide) (fun _ => rfl) | exact SlIn.body (by repeat constructor) (by assumption)) (by first | assumption | rfl) (by rfl))).to (u := .int .i64 ((x.r.head.toNat : Nat) : Int)) (by rw [hh1])).q ?_ | refine l_q (by decide) (((r_loadf Try.underlying3 rfl rfl (by first | exact .fact (by repeat constructor) | exact .own (by repeat constructor) (by decide) (fun _ => rfl) | exact SlIn.body (by repeat constructor) (by assumption)) (by assumption) (by rfl))).to (u := .int .i64 ((x.r.head.toNat : Nat) : Int)) (by rw [hh1])).q ?_
  first | refine l_q (by decide) (r_index Try.underlying29 inf_4 rfl rfl rfl (by first | exact .fact (by repeat constructor) | exact .own (by repeat constructor) (by decide) (fun _ => rfl) | exact SlIn.body (by repeat constructor) (by assumption)) rfl (by omega)).q ?_ | refine l_q (by decide) (r_index Try.underlying29 inf_4 rfl rfl rfl (by first | exact .fact (by repeat constructor) | exact .own (by repeat constructor) (by decide) (fun _ => rfl) | exact SlIn.body (by repeat constructor) (by assumption)) rfl (by decide)).q ?_ | refine l_q (by decide) (p_indexo Try.underlying29 inf_4 rfl rfl rfl (by omega)).q ?_
  refine l_q (by decide) (r_loado Try.underlying4 rfl rfl (by repeat constructor) (bl_at hh2)).q ?_
  refine l_q (by decide) (p_move rfl).q ?_
  first | refine l_splitd (t := 19) rfl (fun h19 => ?_) (fun h19 => ?_) | refine l_splitb (t := 19) rfl (fun h19 => ?_) (fun h19 => ?_)
  ·skip
   refine l_g (j := 5) rfl rfl (by decide) (p_move rfl).q ?_
   first | refine l_g (j := 5) rfl rfl (by decide) (p_lss (j := 0) rfl rfl rfl rfl).q ?_ | refine l_g (j := 5) rfl rfl (by decide) (p_lssi rfl rfl).q ?_
   refine l_q (by decide) (p_pick rfl rfl).q ?_
   refine l_q (by decide) (p_move rfl).q ?_
   first | refine l_splitd (t := 23) rfl (fun h23 => ?_) (fun h23 => ?_) | refine l_splitb (t := 23) rfl (fun h23 => ?_) (fun h23 => ?_)
   ·skip
    have hy0 : y < 0 := h23
    have hn2 := ok.nt_lt (mem_g hx) (List.mem_of_getElem? hy) hy0
    have hkb : Ana.nt y * 1 < (bl X.g.n g).length := by rw [bl_len, Nat.mul_one]; exact hn2
    first | refine l_g (j := 9) rfl rfl (by decide) (r_loado Try.underlying29 rfl rfl (by repeat constructor) (by rfl)).q ?_ | refine l_g (j := 9) rfl rfl (by decide) (r_load1 Try.underlying29 rfl rfl (by first | exact .fact (by repeat constructor) | exact .own (by repeat constructor) (by decide) (fun _ => rfl) | exact SlIn.body (by repeat constructor) (by assumption)) (by first | assumption | rfl) (by rfl)).q ?_ | refine l_g (j := 9) rfl rfl (by decide) (r_loadf Try.underlying29 rfl rfl (by first | exact .fact (by repeat constructor) | exact .own (by repeat constructor) (by decide) (fun _ => rfl) | exact SlIn.body (by repeat constructor) (by assumption)) (by assumption) (by rfl)).q ?_
    refine l_g (j := 9) rfl rfl (by decide) (p_move rfl).q ?_
    first | refine l_g (j := 9) rfl rfl (by decide) (((p_sub rfl rfl rfl rfl (by omega) (by show _ ≤ (9223372036854775807 : Nat); omega))).to (u := .int .i64 ((Ana.nt y : Nat) : Int)) (by rw [Ana.nt_cast hy0])).q ?_ | refine l_g (j := 9) rfl rfl (by decide) (((p_subi rfl rfl (by show (-9223372036854775808 : Int) ≤ _; omega) (by show _ ≤ ((9223372036854775807 : Nat) : Int); omega))).to (u := .int .i64 ((Ana.nt y : Nat) : Int)) (by rw [Ana.nt_cast hy0])).q ?_
    first | refine l_g (j := 9) rfl rfl (by decide) (r_index Try.underlying29 inf_4 rfl rfl rfl (by first | exact .fact (by repeat constructor) | exact .own (by repeat constructor) (by decide) (fun _ => rfl) | exact SlIn.body (by repeat constructor) (by assumption)) rfl (by omega)).q ?_ | refine l_g (j := 9) rfl rfl (by decide) (r_index Try.underlying29 inf_4 rfl rfl rfl (by first | exact .fact (by repeat constructor) | exact .own (by repeat constructor) (by decide) (fun _ => rfl) | exact SlIn.body (by repeat constructor) (by assumption)) rfl (by decide)).q ?_ | refine l_g (j := 9) rfl rfl (by decide) (p_indexo Try.underlying29 inf_4 rfl rfl rfl (by omega)).q ?_
    refine l_g (j := 9) rfl rfl (by decide) (r_loado Try.underlying4 rfl rfl (by repeat constructor) (bl_at hn2)).q ?_
    first | refine l_g (j := 9) rfl rfl (by decide) (p_notd rfl).q ?_ | refine l_g (j := 9) rfl rfl (by decide) (p_not rfl).q ?_
    refine l_q (by decide) (p_pick rfl rfl).q ?_
    refine l_nil ?_
    first | refine c_dec rfl (fun h30 => ?_) (fun h30 => ?_) | refine c_cond rfl (fun h30 => ?_) (fun h30 => ?_)
    ·skip
     refine c_reg ?_
     first | refine l_q (by decide) (r_loado Try.underlying29 rfl rfl (by repeat constructor) (by rfl)).q ?_ | refine l_q (by decide) (r_load1 Try.underlying29 rfl rfl (by first | exact .fact (by repeat constructor) | exact .own (by repeat constructor) (by decide) (fun _ => rfl) | exact SlIn.body (by repeat constructor) (by assumption)) (by first | assumption | rfl) (by rfl)).q ?_ | refine l_q (by decide) (r_loadf Try.underlying29 rfl rfl (by first | exact .fact (by repeat constructor) | exact .own (by repeat constructor) (by decide) (fun _ => rfl) | exact SlIn.body (by repeat constructor) (by assumption)) (by assumption) (by rfl)).q ?_
     refine l_q (by decide) (p_move rfl).q ?_
     first | refine l_q (by decide) (((p_sub rfl rfl rfl rfl (by omega) (by show _ ≤ (9223372036854775807 : Nat); omega))).to (u := .int .i64 ((Ana.nt y : Nat) : Int)) (by rw [Ana.nt_cast hy0])).q ?_ | refine l_q (by decide) (((p_subi rfl rfl (by show (-9223372036854775808 : Int) ≤ _; omega) (by show _ ≤ ((9223372036854775807 : Nat) : Int); omega))).to (u := .int .i64 ((Ana.nt y : Nat) : Int)) (by rw [Ana.nt_cast hy0])).q ?_
     first | refine l_q (by decide) (r_index Try.underlying29 inf_4 rfl rfl rfl (by first | exact .fact (by repeat constructor) | exact .own (by repeat constructor) (by decide) (fun _ => rfl) | exact SlIn.body (by repeat constructor) (by assumption)) rfl (by omega)).q ?_ | refine l_q (by decide) (r_index Try.underlying29 inf_4 rfl rfl rfl (by first | exact .fact (by repeat constructor) | exact .own (by repeat constructor) (by decide) (fun _ => rfl) | exact SlIn.body (by repeat constructor) (by assumption)) rfl (by decide)).q ?_ | refine l_q (by decide) (p_indexo Try.underlying29 inf_4 rfl rfl rfl (by omega)).q ?_
     first | (refine l_store inf_4 rfl rfl rfl rfl (by first | decide | exact Nat.le_of_ble_eq_true rfl | (simp; done) | omega | (simp only [Nat.mul_one]; assumption)) ?_) | (refine l_perm (front1 _ _ _) ?_; refine l_store inf_4 rfl rfl rfl rfl (by first | decide | exact Nat.le_of_ble_eq_true rfl | (simp; done) | omega | (simp only [Nat.mul_one]; assumption)) ?_) | (refine l_perm (front2 _ _ _ _) ?_; refine l_store inf_4 rfl rfl rfl rfl (by first | decide | exact Nat.le_of_ble_eq_true rfl | (simp; done) | omega | (simp only [Nat.mul_one]; assumption)) ?_) | (refine l_perm (front3 _ _ _ _ _) ?_; refine l_store inf_4 rfl rfl rfl rfl (by first | decide | exact Nat.le_of_ble_eq_true rfl | (simp; done) | omega | (simp only [Nat.mul_one]; assumption)) ?_) | (refine l_perm (front4 _ _ _ _ _ _) ?_; refine l_store inf_4 rfl rfl rfl rfl (by first | decide | exact Nat.le_of_ble_eq_true rfl | (simp; done) | omega | (simp only [Nat.mul_one]; assumption)) ?_)
     refine l_q (by decide) (p_assign rfl).q ?_
     refine l_nil ?_
     refine c_reg ?_
     first | refine l_q (by decide) (p_add (j := 1) rfl rfl rfl rfl (by show _ ≤ (9223372036854775807 : Nat); omega)).q ?_ | refine l_q (by decide) (p_addi rfl rfl (by show (-9223372036854775808 : Int) ≤ _; omega) (by show _ ≤ ((9223372036854775807 : Nat) : Int); omega)).q ?_
     refine l_q (by decide) (p_move rfl).q ?_
     refine l_nil ?_
     refine c_join ((k + 1), (Ana.upd g (Ana.nt y) true), (true)) ?_ ?_ ?_ ?_
     ·show ((k + 1) ≤ x.r.body.length ∧ SoundR X (Ana.upd g (Ana.nt y) true) ∧ ((true) = true → Ana.lack X.g.n (Ana.upd g (Ana.nt y) true) < Ana.lack X.g.n f) ∧ ((true) = false → (Ana.upd g (Ana.nt y) true) = f ∧ ∀ zz, zz ∈ x.r.body.take (k + 1) → (Ana.upd g (Ana.nt y) true) x.r.head.toNat = true → zz < 0 → (Ana.upd g (Ana.nt y) true) (Ana.nt zz) = true)) ∧ x.r.body.length - (k + 1) < x.r.body.length - k
      exact ⟨⟨by omega, hJ2.step (mem_g hx) (List.mem_of_getElem? hy) h19 hy0, fun _ => lack_chain hn2 (by simpa using h30) hJ3 (fun hc => (hJ4 hc).1), fun h => (by cases h)⟩, by omega⟩
     · exact ⟨rfl, rfl, rfl, rfl, rfl, rfl, trivial⟩
     ·show List.Perm _ ([iCells b2 41 [.int .i64 x.r.head, .slice x.A x.r.body.length x.c, .int .i64 x.r.price], iCells bb 29 [.slice (some ⟨bo, 0, none⟩) X.g.n X.g.n], iCells bo 4 (bl X.g.n (Ana.upd g (Ana.nt y) true))])
      rw [bl_set]
      repeat (first | exact List.Perm.refl _ | refine List.Perm.cons _ ?_ | refine (front1 _ _ _).trans (List.Perm.cons _ ?_) | refine (front2 _ _ _ _).trans (List.Perm.cons _ ?_) | refine (front3 _ _ _ _ _).trans (List.Perm.cons _ ?_) | refine (front4 _ _ _ _ _ _).trans (List.Perm.cons _ ?_))
     · exact fun _ h => h
    ·skip
     refine c_skip ?_
     refine c_reg ?_
     first | refine l_q (by decide) (p_add (j := 1) rfl rfl rfl rfl (by show _ ≤ (9223372036854775807 : Nat); omega)).q ?_ | refine l_q (by decide) (p_addi rfl rfl (by show (-9223372036854775808 : Int) ≤ _; omega) (by show _ ≤ ((9223372036854775807 : Nat) : Int); omega)).q ?_
     refine l_q (by decide) (p_move rfl).q ?_
     refine l_nil ?_
     refine c_join ((k + 1), (g), (ch)) ?_ ?_ ?_ ?_
     ·show ((k + 1) ≤ x.r.body.length ∧ SoundR X (g) ∧ ((ch) = true → Ana.lack X.g.n (g) < Ana.lack X.g.n f) ∧ ((ch) = false → (g) = f ∧ ∀ zz, zz ∈ x.r.body.take (k + 1) → (g) x.r.head.toNat = true → zz < 0 → (g) (Ana.nt zz) = true)) ∧ x.r.body.length - (k + 1) < x.r.body.length - k
      refine ⟨⟨by omega, hJ2, hJ3, fun hc => ⟨(hJ4 hc).1, fun zz hz => ?_⟩⟩, by omega⟩
      rw [take_at hy] at hz
      rcases List.mem_append.1 hz with h | h
      · exact (hJ4 hc).2 zz h
      · rw [List.mem_singleton.1 h]; exact fun _ _ => by simpa using h30
     · exact ⟨rfl, rfl, rfl, rfl, rfl, rfl, trivial⟩
     ·show List.Perm _ ([iCells b2 41 [.int .i64 x.r.head, .slice x.A x.r.body.length x.c, .int .i64 x.r.price], iCells bb 29 [.slice (some ⟨bo, 0, none⟩) X.g.n X.g.n], iCells bo 4 (bl X.g.n (g))])
      repeat (first | exact List.Perm.refl _ | refine List.Perm.cons _ ?_ | refine (front1 _ _ _).trans (List.Perm.cons _ ?_) | refine (front2 _ _ _ _).trans (List.Perm.cons _ ?_) | refine (front3 _ _ _ _ _).trans (List.Perm.cons _ ?_) | refine (front4 _ _ _ _ _ _).trans (List.Perm.cons _ ?_))
     · exact fun _ h => h
   ·skip
    refine l_off (j := 9) rfl rfl (by first | (simp; done) | (simp [undef]; done)) (by decide) ?_
    refine l_off (j := 9) rfl rfl (by first | (simp; done) | (simp [undef]; done)) (by decide) ?_
    refine l_off (j := 9) rfl rfl (by first | (simp; done) | (simp [undef]; done)) (by decide) ?_
    refine l_off (j := 9) rfl rfl (by first | (simp; done) | (simp [undef]; done)) (by decide) ?_
    refine l_off (j := 9) rfl rfl (by first | (simp; done) | (simp [undef]; done)) (by decide) ?_
    refine l_off (j := 9) rfl rfl (by first | (simp; done) | (simp [undef]; done)) (by decide) ?_
    refine l_q (by decide) (p_pick rfl rfl).q ?_
    refine l_nil ?_
    refine c_false rfl ?_
    refine c_skip ?_
    refine c_reg ?_
    first | refine l_q (by decide) (p_add (j := 1) rfl rfl rfl rfl (by show _ ≤ (9223372036854775807 : Nat); omega)).q ?_ | refine l_q (by decide) (p_addi rfl rfl (by show (-9223372036854775808 : Int) ≤ _; omega) (by show _ ≤ ((9223372036854775807 : Nat) : Int); omega)).q ?_
    refine l_q (by decide) (p_move rfl).q ?_
    refine l_nil ?_
    refine c_join ((k + 1), (g), (ch)) ?_ ?_ ?_ ?_
    ·show ((k + 1) ≤ x.r.body.length ∧ SoundR X (g) ∧ ((ch) = true → Ana.lack X.g.n (g) < Ana.lack X.g.n f) ∧ ((ch) = false → (g) = f ∧ ∀ zz, zz ∈ x.r.body.take (k + 1) → (g) x.r.head.toNat = true → zz < 0 → (g) (Ana.nt zz) = true)) ∧ x.r.body.length - (k + 1) < x.r.body.length - k
     refine ⟨⟨by omega, hJ2, hJ3, fun hc => ⟨(hJ4 hc).1, fun zz hz => ?_⟩⟩, by omega⟩
     rw [take_at hy] at hz
     rcases List.mem_append.1 hz with h | h
     · exact (hJ4 hc).2 zz h
     · rw [List.mem_singleton.1 h]; exact fun _ h0 => absurd h0 h23
    · exact ⟨rfl, rfl, rfl, rfl, rfl, rfl, trivial⟩
    ·show List.Perm _ ([iCells b2 41 [.int .i64 x.r.head, .slice x.A x.r.body.length x.c, .int .i64 x.r.price], iCells bb 29 [.slice (some ⟨bo, 0, none⟩) X.g.n X.g.n], iCells bo 4 (bl X.g.n (g))])
     repeat (first | exact List.Perm.refl _ | refine List.Perm.cons _ ?_ | refine (front1 _ _ _).trans (List.Perm.cons _ ?_) | refine (front2 _ _ _ _).trans (List.Perm.cons _ ?_) | refine (front3 _ _ _ _ _).trans (List.Perm.cons _ ?_) | refine (front4 _ _ _ _ _ _).trans (List.Perm.cons _ ?_))
    · exact fun _ h => h
  ·skip
   refine l_off (j := 5) rfl rfl (by first | (simp; done) | (simp [undef]; done)) (by decide) ?_
   refine l_off (j := 5) rfl rfl (by first | (simp; done) | (simp [undef]; done)) (by decide) ?_
   refine l_q (by decide) (p_pick rfl rfl).q ?_
   refine l_q (by decide) (p_move rfl).q ?_
   refine l_off (j := 9) rfl rfl (by first | (simp; done) | (simp [undef]; done)) (by decide) ?_
   refine l_off (j := 9) rfl rfl (by first | (simp; done) | (simp [undef]; done)) (by decide) ?_
   refine l_off (j := 9) rfl rfl (by first | (simp; done) | (simp [undef]; done)) (by decide) ?_
   refine l_off (j := 9) rfl rfl (by first | (simp; done) | (simp [undef]; done)) (by decide) ?_
   refine l_off (j := 9) rfl rfl (by first | (simp; done) | (simp [undef]; done)) (by decide) ?_
   refine l_off (j := 9) rfl rfl (by first | (simp; done) | (simp [undef]; done)) (by decide) ?_
   refine l_q (by decide) (p_pick rfl rfl).q ?_
   refine l_nil ?_
   refine c_false rfl ?_
   refine c_skip ?_
   refine c_reg ?_
   first | refine l_q (by decide) (p_add (j := 1) rfl rfl rfl rfl (by show _ ≤ (9223372036854775807 : Nat); omega)).q ?_ | refine l_q (by decide) (p_addi rfl rfl (by show (-9223372036854775808 : Int) ≤ _; omega) (by show _ ≤ ((9223372036854775807 : Nat) : Int); omega)).q ?_
   refine l_q (by decide) (p_move rfl).q ?_
   refine l_nil ?_
   refine c_join ((k + 1), (g), (ch)) ?_ ?_ ?_ ?_
   ·show ((k + 1) ≤ x.r.body.length ∧ SoundR X (g) ∧ ((ch) = true → Ana.lack X.g.n (g) < Ana.lack X.g.n f) ∧ ((ch) = false → (g) = f ∧ ∀ zz, zz ∈ x.r.body.take (k + 1) → (g) x.r.head.toNat = true → zz < 0 → (g) (Ana.nt zz) = true)) ∧ x.r.body.length - (k + 1) < x.r.body.length - k
    refine ⟨⟨by omega, hJ2, hJ3, fun hc => ⟨(hJ4 hc).1, fun zz hz => ?_⟩⟩, by omega⟩
    rw [take_at hy] at hz
    rcases List.mem_append.1 hz with h | h
    · exact (hJ4 hc).2 zz h
    · rw [List.mem_singleton.1 h]; exact fun h1 _ => by rw [h19] at h1; cases h1
   · exact ⟨rfl, rfl, rfl, rfl, rfl, rfl, trivial⟩
   ·show List.Perm _ ([iCells b2 41 [.int .i64 x.r.head, .slice x.A x.r.body.length x.c, .int .i64 x.r.price], iCells bb 29 [.slice (some ⟨bo, 0, none⟩) X.g.n X.g.n], iCells bo 4 (bl X.g.n (g))])
    repeat (first | exact List.Perm.refl _ | refine List.Perm.cons _ ?_ | refine (front1 _ _ _).trans (List.Perm.cons _ ?_) | refine (front2 _ _ _ _).trans (List.Perm.cons _ ?_) | refine (front3 _ _ _ _ _).trans (List.Perm.cons _ ?_) | refine (front4 _ _ _ _ _ _).trans (List.Perm.cons _ ?_))
   · exact fun _ h => h
 ·skip
  refine c_exit ?_
  refine c_here ?_
  refine c_seq ?_
  refine c_reg ?_
  refine l_q (by decide) (p_move rfl).q ?_
  refine l_q (by decide) (p_assign rfl).q ?_
  refine l_nil ?_
  refine c_ret ?_
  refine c_ret1 rfl rfl (fun w hs => ?_)
  rw [List.take_of_length_le (by omega)] at hJ4
  exact ⟨⟨(ch, g), hJ2, hJ3, fun hc => ⟨(hJ4 hc).1, by rw [← (hJ4 hc).1]; exact fun y hy h1 h0 => (hJ4 hc).2 y hy h1 h0⟩⟩, _, rfl, hs.drop⟩

theorem reach_ok (X : GI) (hX : X.small) (w : World) (hM : X.mem w) (ok : Ana.Ok X.g) :
   Calls Try.prog 17 #[.agg #[.slice X.At X.terms.length X.ct, .slice X.An X.nts.length X.cn, .int .i64 X.start, .slice X.Ar X.xs.length X.cr]] w (Ret fun v w' => ∃ bo : Nat, v = .slice (some ⟨bo, 0, none⟩) X.g.n X.g.n ∧ Sl 1 boolF (some ⟨bo, 0, none⟩) (Ana.mkl X.g.n (Ana.rc X.g)) w' ∧ (w.heap.size ≤ bo ∧ bo < w'.heap.size) ∧ Ext [] w w') := by
 have hnl := ok.nl
 have hnn : X.nts.length ≤ 8 := hnl
 have hst1 : ((X.g.start.toNat : Nat) : Int) = X.start := by have := ok.s0; show ((X.start.toNat : Nat) : Int) = _; have h : 0 ≤ X.start := this; omega
 have hst2 : X.g.start.toNat < X.g.n := by have h0 : 0 ≤ X.start := ok.s0; have h1 : X.start < (X.nts.length : Int) := ok.s1; show X.start.toNat < X.nts.length; omega
 refine calls_fx (l := [.agg #[.slice X.At X.terms.length X.ct, .slice X.An X.nts.length X.cn, .int .i64 X.start, .slice X.Ar X.xs.length X.cr]]) Try.func17 rfl Try.ntmps17 (Nat.le_of_ble_eq_true rfl) (X.begin hM) ?_
 refine c_seq ?_
 refine c_reg ?_
 refine l_box (by decide) rfl _ rfl (fun b1 => ?_)
 refine l_q (by decide) (p_assign rfl).q ?_
 refine l_nil ?_
 refine c_seq ?_
 refine c_reg ?_
 first | refine l_q (by decide) (p_faddr (i := 1) 1 Try.underlying25 rfl inf_22 (by decide) rfl rfl).q ?_ | refine l_q (by decide) (p_faddro (i := 1) 1 Try.underlying25 rfl inf_22 (by decide) rfl rfl).q ?_
 first | refine l_q (by decide) (r_loado Try.underlying22 rfl rfl (by repeat constructor) (by rfl)).q ?_ | refine l_q (by decide) (r_load1 Try.underlying22 rfl rfl (by first | exact .fact (by repeat constructor) | exact .own (by repeat constructor) (by decide) (fun _ => rfl) | exact SlIn.body (by repeat constructor) (by assumption)) (by first | assumption | rfl) (by rfl)).q ?_ | refine l_q (by decide) (r_loadf Try.underlying22 rfl rfl (by first | exact .fact (by repeat constructor) | exact .own (by repeat constructor) (by decide) (fun _ => rfl) | exact SlIn.body (by repeat constructor) (by assumption)) (by assumption) (by rfl)).q ?_
 refine l_q (by decide) (p_len_sl Try.underlying22 rfl).q ?_
 refine l_make (by decide) Try.underlying29 inf_4 rfl rfl rfl rfl rfl rfl (by omega) (by omega) (fun b7 => ?_)
 refine l_alloc (by decide) inf_29 _ rfl (fun b3 => ?_)
 first | (refine l_store inf_29 rfl rfl rfl rfl (by first | decide | exact Nat.le_of_ble_eq_true rfl | (simp; done) | omega | (simp only [Nat.mul_one]; assumption)) ?_) | (refine l_perm (front1 _ _ _) ?_; refine l_store inf_29 rfl rfl rfl rfl (by first | decide | exact Nat.le_of_ble_eq_true rfl | (simp; done) | omega | (simp only [Nat.mul_one]; assumption)) ?_) | (refine l_perm (front2 _ _ _ _) ?_; refine l_store inf_29 rfl rfl rfl rfl (by first | decide | exact Nat.le_of_ble_eq_true rfl | (simp; done) | omega | (simp only [Nat.mul_one]; assumption)) ?_) | (refine l_perm (front3 _ _ _ _ _) ?_; refine l_store inf_29 rfl rfl rfl rfl (by first | decide | exact Nat.le_of_ble_eq_true rfl | (simp; done) | omega | (simp only [Nat.mul_one]; assumption)) ?_) | (refine l_perm (front4 _ _ _ _ _ _) ?_; refine l_store inf_29 rfl rfl rfl rfl (by first | decide | exact Nat.le_of_ble_eq_true rfl | (simp; done) | omega | (simp only [Nat.mul_one]; assumption)) ?_)
 refine l_nil ?_
 refine c_seq ?_
 rw [show List.replicate X.nts.length (Value.bool false) = bl X.g.n (fun _ => false) from bl_rep _]
 have hkb : X.g.start.toNat * 1 < (bl X.g.n (fun _ => false)).length := by rw [bl_len, Nat.mul_one]; exact hst2
 have hst3 : X.g.start.toNat < X.nts.length := hst2
 refine c_reg ?_
 first | refine l_q (by decide) (r_loado Try.underlying29 rfl rfl (by repeat constructor) (by rfl)).q ?_ | refine l_q (by decide) (r_load1 Try.underlying29 rfl rfl (by first | exact .fact (by repeat constructor) | exact .own (by repeat constructor) (by decide) (fun _ => rfl) | exact SlIn.body (by repeat constructor) (by assumption)) (by first | assumption | rfl) (by rfl)).q ?_ | refine l_q (by decide) (r_loadf Try.underlying29 rfl rfl (by first | exact .fact (by repeat constructor) | exact .own (by repeat constructor) (by decide) (fun _ => rfl) | exact SlIn.body (by repeat constructor) (by assumption)) (by assumption) (by rfl)).q ?_
 first | refine l_q (by decide) (p_faddr (i := 2) 2 Try.underlying25 rfl inf_3 (by decide) rfl rfl).q ?_ | refine l_q (by decide) (p_faddro (i := 2) 2 Try.underlying25 rfl inf_3 (by decide) rfl rfl).q ?_
 first | refine l_q (by decide) (((r_loado Try.underlying3 rfl rfl (by repeat constructor) (by rfl))).to (u := .int .i64 ((X.g.start.toNat : Nat) : Int)) (by rw [hst1])).q ?_ | refine l_q (by decide) (((r_load1 Try.underlying3 rfl rfl (by first | exact .fact (by repeat constructor) | exact .own (by repeat constructor) (by decide) (fun _ => rfl) | exact SlIn.body (by repeat constructor) (by assumption)) (by first | assumption | rfl) (by rfl))).to (u := .int .i64 ((X.g.start.toNat : Nat) : Int)) (by rw [hst1])).q ?_ | refine l_q (by decide) (((r_loadf Try.underlying3 rfl rfl (by first | exact .fact (by repeat constructor) | exact .own (by repeat constructor) (by decide) (fun _ => rfl) | exact SlIn.body (by repeat constructor) (by assumption)) (by assumption) (by rfl))).to (u := .int .i64 ((X.g.start.toNat : Nat) : Int)) (by rw [hst1])).q ?_
 first | refine l_q (by decide) (r_index Try.underlying29 inf_4 rfl rfl rfl (by first | exact .fact (by repeat constructor) | exact .own (by repeat constructor) (by decide) (fun _ => rfl) | exact SlIn.body (by repeat constructor) (by assumption)) rfl (by omega)).q ?_ | refine l_q (by decide) (r_index Try.underlying29 inf_4 rfl rfl rfl (by first | exact .fact (by repeat constructor) | exact .own (by repeat constructor) (by decide) (fun _ => rfl) | exact SlIn.body (by repeat constructor) (by assumption)) rfl (by decide)).q ?_ | refine l_q (by decide) (p_indexo Try.underlying29 inf_4 rfl rfl rfl (by omega)).q ?_
 first | (refine l_store inf_4 rfl rfl rfl rfl (by first | decide | exact Nat.le_of_ble_eq_true rfl | (simp; done) | omega | (simp only [Nat.mul_one]; assumption)) ?_) | (refine l_perm (front1 _ _ _) ?_; refine l_store inf_4 rfl rfl rfl rfl (by first | decide | exact Nat.le_of_ble_eq_true rfl | (simp; done) | omega | (simp only [Nat.mul_one]; assumption)) ?_) | (refine l_perm (front2 _ _ _ _) ?_; refine l_store inf_4 rfl rfl rfl rfl (by first | decide | exact Nat.le_of_ble_eq_true rfl | (simp; done) | omega | (simp only [Nat.mul_one]; assumption)) ?_) | (refine l_perm (front3 _ _ _ _ _) ?_; refine l_store inf_4 rfl rfl rfl rfl (by first | decide | exact Nat.le_of_ble_eq_true rfl | (simp; done) | omega | (simp only [Nat.mul_one]; assumption)) ?_) | (refine l_perm (front4 _ _ _ _ _ _) ?_; refine l_store inf_4 rfl rfl rfl rfl (by first | decide | exact Nat.le_of_ble_eq_true rfl | (simp; done) | omega | (simp only [Nat.mul_one]; assumption)) ?_)
 refine l_nil ?_
 refine c_seq ?_
 refine c_reg ?_
 first | refine l_q (by decide) (r_loada Try.underlying25 rfl inf_25 rfl (by first | exact .fact (by repeat constructor) | exact .own (by repeat constructor) (by decide) (fun _ => rfl) | exact SlIn.body (by repeat constructor) (by assumption)) (by assumption)).q ?_ | refine l_q (by decide) (r_loadow Try.underlying25 rfl inf_25 rfl (by repeat constructor) (by rfl)).q ?_ | refine l_q (by decide) (r_loadoa Try.underlying25 rfl inf_25 rfl (by repeat constructor) (by rfl) (fun j u h => h)).q ?_
 refine l_q (by decide) (p_makeFn rfl rfl).q ?_
 rw [bl_set]
 refine l_perm (List.Perm.swap _ _ _) ?_
 refine l_callo (τ := tauR X b3 b7 (Ana.upd (fun _ => false) X.g.start.toNat true)) (σ := [iCells b1 25 [.slice X.At X.terms.length X.ct, .slice X.An X.nts.length X.cn, .int .i64 X.start, .slice X.Ar X.xs.length X.cr]]) (fun _ => .tuple #[]) (fun y : { f : Nat → Bool // SoundR X f ∧ ∀ x, x ∈ X.xs → GoodR x f } => tauR X b3 b7 y.1) (by decide) call_36 rfl (fun w hs => fix_ok X hX 37 call_37 #[.pointer (some ⟨b3, 0, none⟩)] (tauR X b3 b7) (Ana.lack X.g.n) (SoundR X) GoodR [] (fun x hx f hf w h => reach1_ok X ok b3 b7 x hx f hf _ w h) _ SoundR.init w hs) (fun y => ?_)
 refine l_nil ?_
 refine c_seq ?_
 refine c_reg ?_
 first | refine l_q (by decide) (r_loado Try.underlying29 rfl rfl (by repeat constructor) (by rfl)).q ?_ | refine l_q (by decide) (r_load1 Try.underlying29 rfl rfl (by first | exact .fact (by repeat constructor) | exact .own (by repeat constructor) (by decide) (fun _ => rfl) | exact SlIn.body (by repeat constructor) (by assumption)) (by first | assumption | rfl) (by rfl)).q ?_ | refine l_q (by decide) (r_loadf Try.underlying29 rfl rfl (by first | exact .fact (by repeat constructor) | exact .own (by repeat constructor) (by decide) (fun _ => rfl) | exact SlIn.body (by repeat constructor) (by assumption)) (by assumption) (by rfl)).q ?_
 refine l_q (by decide) (p_assign rfl).q ?_
 refine l_nil ?_
 refine c_ret ?_
 refine c_ret1 rfl rfl (fun w hs => ?_)
 obtain ⟨f, hf1, hf2⟩ := y
 replace hs : St _ [] w [iCells b3 29 [.slice (some ⟨b7, 0, none⟩) X.g.n X.g.n], iCells b7 4 (bl X.g.n f), iCells b1 25 [.slice X.At X.terms.length X.ct, .slice X.An X.nts.length X.cn, .int .i64 X.start, .slice X.Ar X.xs.length X.cr]] _ := hs
 rw [reach_full hf1 hf2] at hs
 have hgo := hs.own (iCells b7 4 (bl X.g.n (Ana.rc X.g))) (by repeat constructor)
 have hgk := hgo.2.2 b7 (by simp [iCells])
 have hgh := hgo.1
 rw [bl_flat] at hgh
 exact ⟨b7, rfl, cells_sl (fun _ => rfl) hgh, ⟨by simpa using hgk.2, hgk.1⟩, hs.ext⟩

theorem rreach_ok (X : GI) (hX : X.small) (w : World) (hM : X.mem w) (ok : Ana.Ok X.g) :
   Calls Try.prog 18 #[.agg #[.slice X.At X.terms.length X.ct, .slice X.An X.nts.length X.cn, .int .i64 X.start, .slice X.Ar X.xs.length X.cr]] w (Ret fun v w' => ∃ bo : Nat, v = .slice (some ⟨bo, 0, none⟩) X.g.n X.g.n ∧ Sl 1 boolF (some ⟨bo, 0, none⟩) (Ana.mkl X.g.n (Ana.rc X.g)) w' ∧ (w.heap.size ≤ bo ∧ bo < w'.heap.size) ∧ Ext [] w w') := by
 have hnl := ok.nl
 have hnn : X.nts.length ≤ 8 := hnl
 have hxl := hX.x
 have hst1 : ((X.g.start.toNat : Nat) : Int) = X.start := by have := ok.s0; show ((X.start.toNat : Nat) : Int) = _; have h : 0 ≤ X.start := this; omega
 have hst2 : X.g.start.toNat < X.g.n := by have h0 : 0 ≤ X.start := ok.s0; have h1 : X.start < (X.nts.length : Int) := ok.s1; show X.start.toNat < X.nts.length; omega
 refine calls_fx (l := [.agg #[.slice X.At X.terms.length X.ct, .slice X.An X.nts.length X.cn, .int .i64 X.start, .slice X.Ar X.xs.length X.cr]]) Try.func18 rfl Try.ntmps18 (Nat.le_of_ble_eq_true rfl) (X.begin hM) ?_
 refine c_seq ?_
 refine c_reg ?_
 refine l_box (by decide) rfl _ rfl (fun b1 => ?_)
 refine l_q (by decide) (p_assign rfl).q ?_
 refine l_nil ?_
 refine c_seq ?_
 refine c_reg ?_
 first | refine l_q (by decide) (p_faddr (i := 1) 1 Try.underlying25 rfl inf_22 (by decide) rfl rfl).q ?_ | refine l_q (by decide) (p_faddro (i := 1) 1 Try.underlying25 rfl inf_22 (by decide) rfl rfl).q ?_
 first | refine l_q (by decide) (r_loado Try.underlying22 rfl rfl (by repeat constructor) (by rfl)).q ?_ | refine l_q (by decide) (r_load1 Try.underlying22 rfl rfl (by first | exact .fact (by repeat constructor) | exact .own (by repeat constructor) (by decide) (fun _ => rfl) | exact SlIn.body (by repeat constructor) (by assumption)) (by first | assumption | rfl) (by rfl)).q ?_ | refine l_q (by decide) (r_loadf Try.underlying22 rfl rfl (by first | exact .fact (by repeat constructor) | exact .own (by repeat constructor) (by decide) (fun _ => rfl) | exact SlIn.body (by repeat constructor) (by assumption)) (by assumption) (by rfl)).q ?_
 refine l_q (by decide) (p_len_sl Try.underlying22 rfl).q ?_
 refine l_make (by decide) Try.underlying29 inf_4 rfl rfl rfl rfl rfl rfl (by omega) (by omega) (fun b11 => ?_)
 refine l_q (by decide) (p_assign rfl).q ?_
 refine l_nil ?_
 refine c_seq ?_
 have hst3 : X.g.start.toNat < X.nts.length := hst2
 rw [show List.replicate X.nts.length (Value.bool false) = bl X.g.n (fun _ => false) from bl_rep _]
 have hkb0 : X.g.start.toNat * 1 < (bl X.g.n (fun _ => false)).length := by rw [bl_len, Nat.mul_one]; exact hst2
 refine c_reg ?_
 refine l_q (by decide) (p_move rfl).q ?_
 first | refine l_q (by decide) (p_faddr (i := 2) 2 Try.underlying25 rfl inf_3 (by decide) rfl rfl).q ?_ | refine l_q (by decide) (p_faddro (i := 2) 2 Try.underlying25 rfl inf_3 (by decide) rfl rfl).q ?_
 first | refine l_q (by decide) (((r_loado Try.underlying3 rfl rfl (by repeat constructor) (by rfl))).to (u := .int .i64 ((X.g.start.toNat : Nat) : Int)) (by rw [hst1])).q ?_ | refine l_q (by decide) (((r_load1 Try.underlying3 rfl rfl (by first | exact .fact (by repeat constructor) | exact .own (by repeat constructor) (by decide) (fun _ => rfl) | exact SlIn.body (by repeat constructor) (by assumption)) (by first | assumption | rfl) (by rfl))).to (u := .int .i64 ((X.g.start.toNat : Nat) : Int)) (by rw [hst1])).q ?_ | refine l_q (by decide) (((r_loadf Try.underlying3 rfl rfl (by first | exact .fact (by repeat constructor) | exact .own (by repeat constructor) (by decide) (fun _ => rfl) | exact SlIn.body (by repeat constructor) (by assumption)) (by assumption) (by rfl))).to (u := .int .i64 ((X.g.start.toNat : Nat) : Int)) (by rw [hst1])).q ?_
 first | refine l_q (by decide) (r_index Try.underlying29 inf_4 rfl rfl rfl (by first | exact .fact (by repeat constructor) | exact .own (by repeat constructor) (by decide) (fun _ => rfl) | exact SlIn.body (by repeat constructor) (by assumption)) rfl (by omega)).q ?_ | refine l_q (by decide) (r_index Try.underlying29 inf_4 rfl rfl rfl (by first | exact .fact (by repeat constructor) | exact .own (by repeat constructor) (by decide) (fun _ => rfl) | exact SlIn.body (by repeat constructor) (by assumption)) rfl (by decide)).q ?_ | refine l_q (by decide) (p_indexo Try.underlying29 inf_4 rfl rfl rfl (by omega)).q ?_
 first | (refine l_store inf_4 rfl rfl rfl rfl (by first | decide | exact Nat.le_of_ble_eq_true rfl | (simp; done) | omega | (simp only [Nat.mul_one]; assumption)) ?_) | (refine l_perm (front1 _ _ _) ?_; refine l_store inf_4 rfl rfl rfl rfl (by first | decide | exact Nat.le_of_ble_eq_true rfl | (simp; done) | omega | (simp only [Nat.mul_one]; assumption)) ?_) | (refine l_perm (front2 _ _ _ _) ?_; refine l_store inf_4 rfl rfl rfl rfl (by first | decide | exact Nat.le_of_ble_eq_true rfl | (simp; done) | omega | (simp only [Nat.mul_one]; assumption)) ?_) | (refine l_perm (front3 _ _ _ _ _) ?_; refine l_store inf_4 rfl rfl rfl rfl (by first | decide | exact Nat.le_of_ble_eq_true rfl | (simp; done) | omega | (simp only [Nat.mul_one]; assumption)) ?_) | (refine l_perm (front4 _ _ _ _ _ _) ?_; refine l_store inf_4 rfl rfl rfl rfl (by first | decide | exact Nat.le_of_ble_eq_true rfl | (simp; done) | omega | (simp only [Nat.mul_one]; assumption)) ?_)
 refine l_nil ?_
 refine c_seq ?_
 refine c_seq ?_
 refine c_reg ?_
 refine l_q (by decide) (p_assign rfl).q ?_
 refine l_nil ?_
 refine c_block ?_
 rw [bl_set]
 refine c_loop (S := BF × Bool) (fun zs => SoundR X zs.1 ∧ (zs.2 = false → ∀ zz, zz ∈ X.xs → GoodR zz zs.1)) (fun zs => 2 * Ana.lack X.g.n zs.1 + zs.2.toNat) (fun zs => [(1, .pointer (some ⟨b1, 0, none⟩)), (3, .slice (some ⟨b11, 0, none⟩) X.g.n X.g.n), (4, .bool zs.2)]) (fun zs => [iCells b11 4 (bl X.g.n zs.1), iCells b1 25 [.slice X.At X.terms.length X.ct, .slice X.An X.nts.length X.cn, .int .i64 X.start, .slice X.Ar X.xs.length X.cr]]) (fun zs => [Bd X.xs, Sl 3 ruF X.Ar X.xs, Sl 1 strF X.An X.nts, Sl 1 strF X.At X.terms]) (Ana.upd (fun _ => false) X.g.start.toNat true, true) ?_ ?_ ?_ ?_ ?_
 · show SoundR X (Ana.upd (fun _ => false) X.g.start.toNat true) ∧ ((true) = false → ∀ zz, zz ∈ X.xs → GoodR zz (Ana.upd (fun _ => false) X.g.start.toNat true))
   exact ⟨SoundR.init, fun h => by cases h⟩
 · exact ⟨rfl, rfl, rfl, trivial⟩
 · exact .refl _
 · exact fun _ h => h
 rintro ⟨f, ch⟩ hinv
 have hinv : SoundR X f ∧ (ch = false → ∀ zz, zz ∈ X.xs → GoodR zz f) := hinv
 obtain ⟨hI1, hI2⟩ := hinv
 show Cont _ _ _ _ [(1, .pointer (some ⟨b1, 0, none⟩)), (3, .slice (some ⟨b11, 0, none⟩) X.g.n X.g.n), (4, .bool ch)] ([iCells b11 4 (bl X.g.n f), iCells b1 25 [.slice X.At X.terms.length X.ct, .slice X.An X.nts.length X.cn, .int .i64 X.start, .slice X.Ar X.xs.length X.cr]]) [Bd X.xs, Sl 3 ruF X.Ar X.xs, Sl 1 strF X.An X.nts, Sl 1 strF X.At X.terms]
 refine c_seq ?_
 refine c_seq ?_
 refine c_reg ?_
 refine l_q (by decide) (p_move rfl).q ?_
 refine l_nil ?_
 first | refine c_dec rfl (fun h16 => ?_) (fun h16 => ?_) | refine c_cond rfl (fun h16 => ?_) (fun h16 => ?_)
 ·skip
  refine c_skip ?_
  refine c_block ?_
  refine c_seq ?_
  refine c_reg ?_
  refine l_q (by decide) (p_assign rfl).q ?_
  refine l_nil ?_
  refine c_seq ?_
  refine c_reg ?_
  refine l_q (by decide) (p_assign (v := .int .i64 ((0 : Nat) : Int)) rfl).q ?_
  refine l_nil ?_
  refine c_block ?_
  refine c_loop (S := Nat × BF × Bool) (fun zs => zs.1 ≤ X.xs.length ∧ SoundR X zs.2.1 ∧ (zs.2.2 = true → Ana.lack X.g.n zs.2.1 < Ana.lack X.g.n f) ∧ (zs.2.2 = false → zs.2.1 = f ∧ ∀ zz, zz ∈ X.xs.take zs.1 → GoodR zz zs.2.1)) (fun zs => X.xs.length - zs.1) (fun zs => [(1, .pointer (some ⟨b1, 0, none⟩)), (3, .slice (some ⟨b11, 0, none⟩) X.g.n X.g.n), (4, .bool zs.2.2), (5, .int .i64 (zs.1 : Int))]) (fun zs => [iCells b11 4 (bl X.g.n zs.2.1), iCells b1 25 [.slice X.At X.terms.length X.ct, .slice X.An X.nts.length X.cn, .int .i64 X.start, .slice X.Ar X.xs.length X.cr]]) (fun zs => [Bd X.xs, Sl 3 ruF X.Ar X.xs, Sl 1 strF X.An X.nts, Sl 1 strF X.At X.terms]) (0, f, false) ?_ ?_ ?_ ?_ ?_
  · show (0) ≤ X.xs.length ∧ SoundR X (f) ∧ ((false) = true → Ana.lack X.g.n (f) < Ana.lack X.g.n f) ∧ ((false) = false → (f) = f ∧ ∀ zz, zz ∈ X.xs.take (0) → GoodR zz (f))
    exact ⟨Nat.zero_le _, hI1, fun h => (by cases h), fun _ => ⟨rfl, fun x h => absurd h (by simp)⟩⟩
  · exact ⟨rfl, rfl, rfl, rfl, trivial⟩
  · exact .refl _
  · exact fun _ h => h
  rintro ⟨k, g, cg⟩ hinv
  have hinv : k ≤ X.xs.length ∧ SoundR X g ∧ (cg = true → Ana.lack X.g.n g < Ana.lack X.g.n f) ∧ (cg = false → g = f ∧ ∀ zz, zz ∈ X.xs.take k → GoodR zz g) := hinv
  obtain ⟨hJ1, hJ2, hJ3, hJ4⟩ := hinv
  show Cont _ _ _ _ [(1, .pointer (some ⟨b1, 0, none⟩)), (3, .slice (some ⟨b11, 0, none⟩) X.g.n X.g.n), (4, .bool cg), (5, .int .i64 (k : Int))] ([iCells b11 4 (bl X.g.n g), iCells b1 25 [.slice X.At X.terms.length X.ct, .slice X.An X.nts.length X.cn, .int .i64 X.start, .slice X.Ar X.xs.length X.cr]]) [Bd X.xs, Sl 3 ruF X.Ar X.xs, Sl 1 strF X.An X.nts, Sl 1 strF X.At X.terms]
  refine c_seq ?_
  refine c_seq ?_
  refine c_reg ?_
  refine l_q (by decide) (p_move rfl).q ?_
  first | refine l_q (by decide) (p_faddr (i := 3) 3 Try.underlying25 rfl inf_23 (by decide) rfl rfl).q ?_ | refine l_q (by decide) (p_faddro (i := 3) 3 Try.underlying25 rfl inf_23 (by decide) rfl rfl).q ?_
  first | refine l_q (by decide) (r_loado Try.underlying23 rfl rfl (by repeat constructor) (by rfl)).q ?_ | refine l_q (by decide) (r_load1 Try.underlying23 rfl rfl (by first | exact .fact (by repeat constructor) | exact .own (by repeat constructor) (by decide) (fun _ => rfl) | exact SlIn.body (by repeat constructor) (by assumption)) (by first | assumption | rfl) (by rfl)).q ?_ | refine l_q (by decide) (r_loadf Try.underlying23 rfl rfl (by first | exact .fact (by repeat constructor) | exact .own (by repeat constructor) (by decide) (fun _ => rfl) | exact SlIn.body (by repeat constructor) (by assumption)) (by assumption) (by rfl)).q ?_
  refine l_q (by decide) (p_len_sl Try.underlying23 rfl).q ?_
  first | refine l_q (by decide) (p_lss rfl rfl rfl rfl).q ?_ | refine l_q (by decide) (p_lssi rfl rfl).q ?_
  refine l_nil ?_
  first | refine c_dec rfl (fun h21 => ?_) (fun h21 => ?_) | refine c_cond rfl (fun h21 => ?_) (fun h21 => ?_)
  ·skip
   obtain ⟨x, hx⟩ := at_some (l := X.xs) (n := k) (by omega)
   obtain ⟨hh1, hh2⟩ := ok.hd (rule_mem hx)
   have hbl := ok.bl _ (rule_mem hx)
   refine c_skip ?_
   refine c_seq ?_
   refine c_block ?_
   refine c_seq ?_
   refine c_reg ?_
   first | refine l_q (by decide) (p_faddr (i := 3) 3 Try.underlying25 rfl inf_23 (by decide) rfl rfl).q ?_ | refine l_q (by decide) (p_faddro (i := 3) 3 Try.underlying25 rfl inf_23 (by decide) rfl rfl).q ?_
   first | refine l_q (by decide) (r_loado Try.underlying23 rfl rfl (by repeat constructor) (by rfl)).q ?_ | refine l_q (by decide) (r_load1 Try.underlying23 rfl rfl (by first | exact .fact (by repeat constructor) | exact .own (by repeat constructor) (by decide) (fun _ => rfl) | exact SlIn.body (by repeat constructor) (by assumption)) (by first | assumption | rfl) (by rfl)).q ?_ | refine l_q (by decide) (r_loadf Try.underlying23 rfl rfl (by first | exact .fact (by repeat constructor) | exact .own (by repeat constructor) (by decide) (fun _ => rfl) | exact SlIn.body (by repeat constructor) (by assumption)) (by assumption) (by rfl)).q ?_
   refine l_q (by decide) (p_move rfl).q ?_
   first | refine l_q (by decide) (r_index Try.underlying23 inf_41 rfl rfl rfl (by first | exact .fact (by repeat constructor) | exact .own (by repeat constructor) (by decide) (fun _ => rfl) | exact SlIn.body (by repeat constructor) (by assumption)) rfl (by omega)).q ?_ | refine l_q (by decide) (r_index Try.underlying23 inf_41 rfl rfl rfl (by first | exact .fact (by repeat constructor) | exact .own (by repeat constructor) (by decide) (fun _ => rfl) | exact SlIn.body (by repeat constructor) (by assumption)) rfl (by decide)).q ?_ | refine l_q (by decide) (p_indexo Try.underlying23 inf_41 rfl rfl rfl (by omega)).q ?_
   first | refine l_q (by decide) (r_loada Try.underlying41 rfl inf_41 rfl (by first | exact .fact (by repeat constructor) | exact .own (by repeat constructor) (by decide) (fun _ => rfl) | exact SlIn.body (by repeat constructor) (by assumption)) (by assumption)).q ?_ | refine l_q (by decide) (r_loadow Try.underlying41 rfl inf_41 rfl (by repeat constructor) (by rfl)).q ?_ | refine l_q (by decide) (r_loadoa Try.underlying41 rfl inf_41 rfl (by repeat constructor) (by rfl) (fun j u h => h)).q ?_
   refine l_alloc (by decide) inf_41 _ rfl (fun b6 => ?_)
   first | (refine l_storew inf_41 rfl rfl rfl rfl rfl ?_) | (refine l_perm (front1 _ _ _) ?_; refine l_storew inf_41 rfl rfl rfl rfl rfl ?_) | (refine l_perm (front2 _ _ _ _) ?_; refine l_storew inf_41 rfl rfl rfl rfl rfl ?_) | (refine l_perm (front3 _ _ _ _ _) ?_; refine l_storew inf_41 rfl rfl rfl rfl rfl ?_) | (refine l_perm (front4 _ _ _ _ _ _) ?_; refine l_storew inf_41 rfl rfl rfl rfl rfl ?_) | (refine l_storea inf_41 rfl rfl rfl rfl (by decide) ?_) | (refine l_perm (front1 _ _ _) ?_; refine l_storea inf_41 rfl rfl rfl rfl (by decide) ?_) | (refine l_perm (front2 _ _ _ _) ?_; refine l_storea inf_41 rfl rfl rfl rfl (by decide) ?_)
   refine l_nil ?_
   refine c_seq ?_
   refine c_reg ?_
   refine l_q (by decide) (p_assign (v := .int .i64 ((0 : Nat) : Int)) rfl).q ?_
   refine l_nil ?_
   refine c_block ?_
   refine c_loop (S := Nat × BF × Bool) (fun zs => zs.1 ≤ x.r.body.length ∧ SoundR X zs.2.1 ∧ (zs.2.2 = true → Ana.lack X.g.n zs.2.1 < Ana.lack X.g.n f) ∧ (zs.2.2 = false → zs.2.1 = f ∧ cg = false ∧ ∀ zz, zz ∈ x.r.body.take zs.1 → zs.2.1 x.r.head.toNat = true → zz < 0 → zs.2.1 (Ana.nt zz) = true)) (fun zs => x.r.body.length - zs.1) (fun zs => [(1, .pointer (some ⟨b1, 0, none⟩)), (3, .slice (some ⟨b11, 0, none⟩) X.g.n X.g.n), (4, .bool zs.2.2), (5, .int .i64 (k : Int)), (6, .pointer (some ⟨b6, 0, none⟩)), (7, .int .i64 (zs.1 : Int))]) (fun zs => [iCells b6 41 (ruF x), iCells b11 4 (bl X.g.n zs.2.1), iCells b1 25 [.slice X.At X.terms.length X.ct, .slice X.An X.nts.length X.cn, .int .i64 X.start, .slice X.Ar X.xs.length X.cr]]) (fun zs => [Bd X.xs, Sl 3 ruF X.Ar X.xs, Sl 1 strF X.An X.nts, Sl 1 strF X.At X.terms]) (0, g, cg) ?_ ?_ ?_ ?_ ?_
   · show (0) ≤ x.r.body.length ∧ SoundR X (g) ∧ ((cg) = true → Ana.lack X.g.n (g) < Ana.lack X.g.n f) ∧ ((cg) = false → (g) = f ∧ cg = false ∧ ∀ zz, zz ∈ x.r.body.take (0) → (g) x.r.head.toNat = true → zz < 0 → (g) (Ana.nt zz) = true)
     exact ⟨Nat.zero_le _, hJ2, hJ3, fun hc => ⟨(hJ4 hc).1, hc, fun x h => absurd h (by simp)⟩⟩
   · exact ⟨rfl, rfl, rfl, rfl, rfl, rfl, trivial⟩
   · exact .refl _
   · exact fun _ h => h
   rintro ⟨j, h, c2⟩ hinv
   have hinv : j ≤ x.r.body.length ∧ SoundR X h ∧ (c2 = true → Ana.lack X.g.n h < Ana.lack X.g.n f) ∧ (c2 = false → h = f ∧ cg = false ∧ ∀ zz, zz ∈ x.r.body.take j → h x.r.head.toNat = true → zz < 0 → h (Ana.nt zz) = true) := hinv
   obtain ⟨hL1, hL2, hL3, hL4⟩ := hinv
   show Cont _ _ _ _ [(1, .pointer (some ⟨b1, 0, none⟩)), (3, .slice (some ⟨b11, 0, none⟩) X.g.n X.g.n), (4, .bool c2), (5, .int .i64 (k : Int)), (6, .pointer (some ⟨b6, 0, none⟩)), (7, .int .i64 (j : Int))] ([iCells b6 41 (ruF x), iCells b11 4 (bl X.g.n h), iCells b1 25 [.slice X.At X.terms.length X.ct, .slice X.An X.nts.length X.cn, .int .i64 X.start, .slice X.Ar X.xs.length X.cr]]) [Bd X.xs, Sl 3 ruF X.Ar X.xs, Sl 1 strF X.An X.nts, Sl 1 strF X.At X.terms]
   refine c_seq ?_
   refine c_seq ?_
   refine c_reg ?_
   refine l_q (by decide) (p_move rfl).q ?_
   first | refine l_q (by decide) (p_faddr (i := 1) 1 Try.underlying41 rfl inf_39 (by decide) rfl rfl).q ?_ | refine l_q (by decide) (p_faddro (i := 1) 1 Try.underlying41 rfl inf_39 (by decide) rfl rfl).q ?_
   first | refine l_q (by decide) (r_loado Try.underlying39 rfl rfl (by repeat constructor) (by rfl)).q ?_ | refine l_q (by decide) (r_load1 Try.underlying39 rfl rfl (by first | exact .fact (by repeat constructor) | exact .own (by repeat constructor) (by decide) (fun _ => rfl) | exact SlIn.body (by repeat constructor) (by assumption)) (by first | assumption | rfl) (by rfl)).q ?_ | refine l_q (by decide) (r_loadf Try.underlying39 rfl rfl (by first | exact .fact (by repeat constructor) | exact .own (by repeat constructor) (by decide) (fun _ => rfl) | exact SlIn.body (by repeat constructor) (by assumption)) (by assumption) (by rfl)).q ?_
   refine l_q (by decide) (p_len_sl Try.underlying39 rfl).q ?_
   first | refine l_q (by decide) (p_lss rfl rfl rfl rfl).q ?_ | refine l_q (by decide) (p_lssi rfl rfl).q ?_
   refine l_q (by decide) (p_move rfl).q ?_
   first | refine l_splitd (t := 34) rfl (fun h34 => ?_) (fun h34 => ?_) | refine l_splitb (t := 34) rfl (fun h34 => ?_) (fun h34 => ?_)
   ·skip
    obtain ⟨y, hy⟩ := at_some (l := x.r.body) (n := j) (by omega)
    have hyb := ok.b0 _ (rule_mem hx) y (List.mem_of_getElem? hy)
    have hnl := ok.nl
    refine l_g (j := 5) rfl rfl (by decide) (p_move rfl).q ?_
    first | refine l_g (j := 5) rfl rfl (by decide) (p_faddr (i := 0) 0 Try.underlying41 rfl inf_3 (by decide) rfl rfl).q ?_ | refine l_g (j := 5) rfl rfl (by decide) (p_faddro (i := 0) 0 Try.underlying41 rfl inf_3 (by decide) rfl rfl).q ?_
    first | refine l_g (j := 5) rfl rfl (by decide) (((r_loado Try.underlying3 rfl rfl (by repeat constructor) (by rfl))).to (u := .int .i64 ((x.r.head.toNat : Nat) : Int)) (by rw [hh1])).q ?_ | refine l_g (j := 5) rfl rfl (by decide) (((r_load1 Try.underlying3 rfl rfl (by first | exact .fact (by repeat constructor) | exact .own (by repeat constructor) (by decide) (fun _ => rfl) | exact SlIn.body (by repeat constructor) (by assumption)) (by first | assumption | rfl) (by rfl))).to (u := .int .i64 ((x.r.head.toNat : Nat) : Int)) (by rw [hh1])).q ?_ | refine l_g (j := 5) rfl rfl (by decide) (((r_loadf Try.underlying3 rfl rfl (by first | exact .fact (by repeat constructor) | exact .own (by repeat constructor) (by decide) (fun _ => rfl) | exact SlIn.body (by repeat constructor) (by assumption)) (by assumption) (by rfl))).to (u := .int .i64 ((x.r.head.toNat : Nat) : Int)) (by rw [hh1])).q ?_
    first | refine l_g (j := 5) rfl rfl (by decide) (r_index Try.underlying29 inf_4 rfl rfl rfl (by first | exact .fact (by repeat constructor) | exact .own (by repeat constructor) (by decide) (fun _ => rfl) | exact SlIn.body (by repeat constructor) (by assumption)) rfl (by omega)).q ?_ | refine l_g (j := 5) rfl rfl (by decide) (r_index Try.underlying29 inf_4 rfl rfl rfl (by first | exact .fact (by repeat constructor) | exact .own (by repeat constructor) (by decide) (fun _ => rfl) | exact SlIn.body (by repeat constructor) (by assumption)) rfl (by decide)).q ?_ | refine l_g (j := 5) rfl rfl (by decide) (p_indexo Try.underlying29 inf_4 rfl rfl rfl (by omega)).q ?_
    refine l_g (j := 5) rfl rfl (by decide) (r_loado Try.underlying4 rfl rfl (by repeat constructor) (bl_at hh2)).q ?_
    refine l_q (by decide) (p_pick rfl rfl).q ?_
    refine l_nil ?_
    first | refine c_dec rfl (fun h40 => ?_) (fun h40 => ?_) | refine c_cond rfl (fun h40 => ?_) (fun h40 => ?_)
    ·skip
     refine c_skip ?_
     refine c_seq ?_
     refine c_block ?_
     refine c_seq ?_
     refine c_reg ?_
     first | refine l_q (by decide) (p_faddr (i := 1) 1 Try.underlying41 rfl inf_39 (by decide) rfl rfl).q ?_ | refine l_q (by decide) (p_faddro (i := 1) 1 Try.underlying41 rfl inf_39 (by decide) rfl rfl).q ?_
     first | refine l_q (by decide) (r_loado Try.underlying39 rfl rfl (by repeat constructor) (by rfl)).q ?_ | refine l_q (by decide) (r_load1 Try.underlying39 rfl rfl (by first | exact .fact (by repeat constructor) | exact .own (by repeat constructor) (by decide) (fun _ => rfl) | exact SlIn.body (by repeat constructor) (by assumption)) (by first | assumption | rfl) (by rfl)).q ?_ | refine l_q (by decide) (r_loadf Try.underlying39 rfl rfl (by first | exact .fact (by repeat constructor) | exact .own (by repeat constructor) (by decide) (fun _ => rfl) | exact SlIn.body (by repeat constructor) (by assumption)) (by assumption) (by rfl)).q ?_
     refine l_q (by decide) (p_move rfl).q ?_
     first | refine l_q (by decide) (r_index Try.underlying39 inf_3 rfl rfl rfl (by first | exact .fact (by repeat constructor) | exact .own (by repeat constructor) (by decide) (fun _ => rfl) | exact SlIn.body (by repeat constructor) (by assumption)) rfl (by omega)).q ?_ | refine l_q (by decide) (r_index Try.underlying39 inf_3 rfl rfl rfl (by first | exact .fact (by repeat constructor) | exact .own (by repeat constructor) (by decide) (fun _ => rfl) | exact SlIn.body (by repeat constructor) (by assumption)) rfl (by decide)).q ?_ | refine l_q (by decide) (p_indexo Try.underlying39 inf_3 rfl rfl rfl (by omega)).q ?_
     first | refine l_q (by decide) (r_loado Try.underlying3 rfl rfl (by repeat constructor) (by rfl)).q ?_ | refine l_q (by decide) (r_load1 Try.underlying3 rfl rfl (by first | exact .fact (by repeat constructor) | exact .own (by repeat constructor) (by decide) (fun _ => rfl) | exact SlIn.body (by repeat constructor) (by assumption)) (by first | assumption | rfl) (by rfl)).q ?_ | refine l_q (by decide) (r_loadf Try.underlying3 rfl rfl (by first | exact .fact (by repeat constructor) | exact .own (by repeat constructor) (by decide) (fun _ => rfl) | exact SlIn.body (by repeat constructor) (by assumption)) (by assumption) (by rfl)).q ?_
     first | refine l_q (by decide) (p_lss (j := 0) rfl rfl rfl rfl).q ?_ | refine l_q (by decide) (p_lssi rfl rfl).q ?_
     refine l_q (by decide) (p_move rfl).q ?_
     first | refine l_splitd (t := 49) rfl (fun h49 => ?_) (fun h49 => ?_) | refine l_splitb (t := 49) rfl (fun h49 => ?_) (fun h49 => ?_)
     ·skip
      have hy0 : y < 0 := h49
      have hn2 := ok.nt_lt (rule_mem hx) (List.mem_of_getElem? hy) hy0
      have hkb : Ana.nt y * 1 < (bl X.g.n h).length := by rw [bl_len, Nat.mul_one]; exact hn2
      refine l_g (j := 6) rfl rfl (by decide) (p_move rfl).q ?_
      first | refine l_g (j := 6) rfl rfl (by decide) (p_faddr (i := 1) 1 Try.underlying41 rfl inf_39 (by decide) rfl rfl).q ?_ | refine l_g (j := 6) rfl rfl (by decide) (p_faddro (i := 1) 1 Try.underlying41 rfl inf_39 (by decide) rfl rfl).q ?_
      first | refine l_g (j := 6) rfl rfl (by decide) (r_loado Try.underlying39 rfl rfl (by repeat constructor) (by rfl)).q ?_ | refine l_g (j := 6) rfl rfl (by decide) (r_load1 Try.underlying39 rfl rfl (by first | exact .fact (by repeat constructor) | exact .own (by repeat constructor) (by decide) (fun _ => rfl) | exact SlIn.body (by repeat constructor) (by assumption)) (by first | assumption | rfl) (by rfl)).q ?_ | refine l_g (j := 6) rfl rfl (by decide) (r_loadf Try.underlying39 rfl rfl (by first | exact .fact (by repeat constructor) | exact .own (by repeat constructor) (by decide) (fun _ => rfl) | exact SlIn.body (by repeat constructor) (by assumption)) (by assumption) (by rfl)).q ?_
      refine l_g (j := 6) rfl rfl (by decide) (p_move rfl).q ?_
      first | refine l_g (j := 6) rfl rfl (by decide) (r_index Try.underlying39 inf_3 rfl rfl rfl (by first | exact .fact (by repeat constructor) | exact .own (by repeat constructor) (by decide) (fun _ => rfl) | exact SlIn.body (by repeat constructor) (by assumption)) rfl (by omega)).q ?_ | refine l_g (j := 6) rfl rfl (by decide) (r_index Try.underlying39 inf_3 rfl rfl rfl (by first | exact .fact (by repeat constructor) | exact .own (by repeat constructor) (by decide) (fun _ => rfl) | exact SlIn.body (by repeat constructor) (by assumption)) rfl (by decide)).q ?_ | refine l_g (j := 6) rfl rfl (by decide) (p_indexo Try.underlying39 inf_3 rfl rfl rfl (by omega)).q ?_
      first | refine l_g (j := 6) rfl rfl (by decide) (r_loado Try.underlying3 rfl rfl (by repeat constructor) (by rfl)).q ?_ | refine l_g (j := 6) rfl rfl (by decide) (r_load1 Try.underlying3 rfl rfl (by first | exact .fact (by repeat constructor) | exact .own (by repeat constructor) (by decide) (fun _ => rfl) | exact SlIn.body (by repeat constructor) (by assumption)) (by first | assumption | rfl) (by rfl)).q ?_ | refine l_g (j := 6) rfl rfl (by decide) (r_loadf Try.underlying3 rfl rfl (by first | exact .fact (by repeat constructor) | exact .own (by repeat constructor) (by decide) (fun _ => rfl) | exact SlIn.body (by repeat constructor) (by assumption)) (by assumption) (by rfl)).q ?_
      first | refine l_g (j := 6) rfl rfl (by decide) (((p_sub rfl rfl rfl rfl (by omega) (by show _ ≤ (9223372036854775807 : Nat); omega))).to (u := .int .i64 ((Ana.nt y : Nat) : Int)) (by rw [Ana.nt_cast hy0])).q ?_ | refine l_g (j := 6) rfl rfl (by decide) (((p_subi rfl rfl (by show (-9223372036854775808 : Int) ≤ _; omega) (by show _ ≤ ((9223372036854775807 : Nat) : Int); omega))).to (u := .int .i64 ((Ana.nt y : Nat) : Int)) (by rw [Ana.nt_cast hy0])).q ?_
      first | refine l_g (j := 6) rfl rfl (by decide) (r_index Try.underlying29 inf_4 rfl rfl rfl (by first | exact .fact (by repeat constructor) | exact .own (by repeat constructor) (by decide) (fun _ => rfl) | exact SlIn.body (by repeat constructor) (by assumption)) rfl (by omega)).q ?_ | refine l_g (j := 6) rfl rfl (by decide) (r_index Try.underlying29 inf_4 rfl rfl rfl (by first | exact .fact (by repeat constructor) | exact .own (by repeat constructor) (by decide) (fun _ => rfl) | exact SlIn.body (by repeat constructor) (by assumption)) rfl (by decide)).q ?_ | refine l_g (j := 6) rfl rfl (by decide) (p_indexo Try.underlying29 inf_4 rfl rfl rfl (by omega)).q ?_
      refine l_g (j := 6) rfl rfl (by decide) (r_loado Try.underlying4 rfl rfl (by repeat constructor) (bl_at hn2)).q ?_
      first | refine l_g (j := 6) rfl rfl (by decide) (p_notd rfl).q ?_ | refine l_g (j := 6) rfl rfl (by decide) (p_not rfl).q ?_
      refine l_q (by decide) (p_pick rfl rfl).q ?_
      refine l_nil ?_
      first | refine c_dec rfl (fun h60 => ?_) (fun h60 => ?_) | refine c_cond rfl (fun h60 => ?_) (fun h60 => ?_)
      ·skip
       refine c_seq ?_
       refine c_reg ?_
       refine l_q (by decide) (p_move rfl).q ?_
       first | refine l_q (by decide) (p_faddr (i := 1) 1 Try.underlying41 rfl inf_39 (by decide) rfl rfl).q ?_ | refine l_q (by decide) (p_faddro (i := 1) 1 Try.underlying41 rfl inf_39 (by decide) rfl rfl).q ?_
       first | refine l_q (by decide) (r_loado Try.underlying39 rfl rfl (by repeat constructor) (by rfl)).q ?_ | refine l_q (by decide) (r_load1 Try.underlying39 rfl rfl (by first | exact .fact (by repeat constructor) | exact .own (by repeat constructor) (by decide) (fun _ => rfl) | exact SlIn.body (by repeat constructor) (by assumption)) (by first | assumption | rfl) (by rfl)).q ?_ | refine l_q (by decide) (r_loadf Try.underlying39 rfl rfl (by first | exact .fact (by repeat constructor) | exact .own (by repeat constructor) (by decide) (fun _ => rfl) | exact SlIn.body (by repeat constructor) (by assumption)) (by assumption) (by rfl)).q ?_
       refine l_q (by decide) (p_move rfl).q ?_
       first | refine l_q (by decide) (r_index Try.underlying39 inf_3 rfl rfl rfl (by first | exact .fact (by repeat constructor) | exact .own (by repeat constructor) (by decide) (fun _ => rfl) | exact SlIn.body (by repeat constructor) (by assumption)) rfl (by omega)).q ?_ | refine l_q (by decide) (r_index Try.underlying39 inf_3 rfl rfl rfl (by first | exact .fact (by repeat constructor) | exact .own (by repeat constructor) (by decide) (fun _ => rfl) | exact SlIn.body (by repeat constructor) (by assumption)) rfl (by decide)).q ?_ | refine l_q (by decide) (p_indexo Try.underlying39 inf_3 rfl rfl rfl (by omega)).q ?_
       first | refine l_q (by decide) (r_loado Try.underlying3 rfl rfl (by repeat constructor) (by rfl)).q ?_ | refine l_q (by decide) (r_load1 Try.underlying3 rfl rfl (by first | exact .fact (by repeat constructor) | exact .own (by repeat constructor) (by decide) (fun _ => rfl) | exact SlIn.body (by repeat constructor) (by assumption)) (by first | assumption | rfl) (by rfl)).q ?_ | refine l_q (by decide) (r_loadf Try.underlying3 rfl rfl (by first | exact .fact (by repeat constructor) | exact .own (by repeat constructor) (by decide) (fun _ => rfl) | exact SlIn.body (by repeat constructor) (by assumption)) (by assumption) (by rfl)).q ?_
       first | refine l_q (by decide) (((p_sub rfl rfl rfl rfl (by omega) (by show _ ≤ (9223372036854775807 : Nat); omega))).to (u := .int .i64 ((Ana.nt y : Nat) : Int)) (by rw [Ana.nt_cast hy0])).q ?_ | refine l_q (by decide) (((p_subi rfl rfl (by show (-9223372036854775808 : Int) ≤ _; omega) (by show _ ≤ ((9223372036854775807 : Nat) : Int); omega))).to (u := .int .i64 ((Ana.nt y : Nat) : Int)) (by rw [Ana.nt_cast hy0])).q ?_
       first | refine l_q (by decide) (r_index Try.underlying29 inf_4 rfl rfl rfl (by first | exact .fact (by repeat constructor) | exact .own (by repeat constructor) (by decide) (fun _ => rfl) | exact SlIn.body (by repeat constructor) (by assumption)) rfl (by omega)).q ?_ | refine l_q (by decide) (r_index Try.underlying29 inf_4 rfl rfl rfl (by first | exact .fact (by repeat constructor) | exact .own (by repeat constructor) (by decide) (fun _ => rfl) | exact SlIn.body (by repeat constructor) (by assumption)) rfl (by decide)).q ?_ | refine l_q (by decide) (p_indexo Try.underlying29 inf_4 rfl rfl rfl (by omega)).q ?_
       first | (refine l_store inf_4 rfl rfl rfl rfl (by first | decide | exact Nat.le_of_ble_eq_true rfl | (simp; done) | omega | (simp only [Nat.mul_one]; assumption)) ?_) | (refine l_perm (front1 _ _ _) ?_; refine l_store inf_4 rfl rfl rfl rfl (by first | decide | exact Nat.le_of_ble_eq_true rfl | (simp; done) | omega | (simp only [Nat.mul_one]; assumption)) ?_) | (refine l_perm (front2 _ _ _ _) ?_; refine l_store inf_4 rfl rfl rfl rfl (by first | decide | exact Nat.le_of_ble_eq_true rfl | (simp; done) | omega | (simp only [Nat.mul_one]; assumption)) ?_) | (refine l_perm (front3 _ _ _ _ _) ?_; refine l_store inf_4 rfl rfl rfl rfl (by first | decide | exact Nat.le_of_ble_eq_true rfl | (simp; done) | omega | (simp only [Nat.mul_one]; assumption)) ?_) | (refine l_perm (front4 _ _ _ _ _ _) ?_; refine l_store inf_4 rfl rfl rfl rfl (by first | decide | exact Nat.le_of_ble_eq_true rfl | (simp; done) | omega | (simp only [Nat.mul_one]; assumption)) ?_)
       refine l_nil ?_
       refine c_reg ?_
       refine l_q (by decide) (p_assign rfl).q ?_
       refine l_nil ?_
       refine c_reg ?_
       refine l_q (by decide) (p_move rfl).q ?_
       first | refine l_q (by decide) (p_add (j := 1) rfl rfl rfl rfl (by show _ ≤ (9223372036854775807 : Nat); omega)).q ?_ | refine l_q (by decide) (p_addi rfl rfl (by show (-9223372036854775808 : Int) ≤ _; omega) (by show _ ≤ ((9223372036854775807 : Nat) : Int); omega)).q ?_
       refine l_q (by decide) (p_assign rfl).q ?_
       refine l_nil ?_
       refine c_join ((j + 1), (Ana.upd h (Ana.nt y) true), (true)) ?_ ?_ ?_ ?_
       ·show ((j + 1) ≤ x.r.body.length ∧ SoundR X (Ana.upd h (Ana.nt y) true) ∧ ((true) = true → Ana.lack X.g.n (Ana.upd h (Ana.nt y) true) < Ana.lack X.g.n f) ∧ ((true) = false → (Ana.upd h (Ana.nt y) true) = f ∧ cg = false ∧ ∀ zz, zz ∈ x.r.body.take (j + 1) → (Ana.upd h (Ana.nt y) true) x.r.head.toNat = true → zz < 0 → (Ana.upd h (Ana.nt y) true) (Ana.nt zz) = true)) ∧ x.r.body.length - (j + 1) < x.r.body.length - j
        exact ⟨⟨by omega, hL2.step (rule_mem hx) (List.mem_of_getElem? hy) h40 hy0, fun _ => lack_chain hn2 (by simpa using h60) hL3 (fun hc => (hL4 hc).1), fun h => (by cases h)⟩, by omega⟩
       · exact ⟨rfl, rfl, rfl, rfl, rfl, rfl, trivial⟩
       ·show List.Perm _ ([iCells b6 41 (ruF x), iCells b11 4 (bl X.g.n (Ana.upd h (Ana.nt y) true)), iCells b1 25 [.slice X.At X.terms.length X.ct, .slice X.An X.nts.length X.cn, .int .i64 X.start, .slice X.Ar X.xs.length X.cr]])
        rw [bl_set]
        repeat (first | exact List.Perm.refl _ | refine List.Perm.cons _ ?_ | refine (front1 _ _ _).trans (List.Perm.cons _ ?_) | refine (front2 _ _ _ _).trans (List.Perm.cons _ ?_) | refine (front3 _ _ _ _ _).trans (List.Perm.cons _ ?_) | refine (front4 _ _ _ _ _ _).trans (List.Perm.cons _ ?_))
       · exact fun _ h => h
      ·skip
       refine c_skip ?_
       refine c_reg ?_
       refine l_q (by decide) (p_move rfl).q ?_
       first | refine l_q (by decide) (p_add (j := 1) rfl rfl rfl rfl (by show _ ≤ (9223372036854775807 : Nat); omega)).q ?_ | refine l_q (by decide) (p_addi rfl rfl (by show (-9223372036854775808 : Int) ≤ _; omega) (by show _ ≤ ((9223372036854775807 : Nat) : Int); omega)).q ?_
       refine l_q (by decide) (p_assign rfl).q ?_
       refine l_nil ?_
       refine c_join ((j + 1), (h), (c2)) ?_ ?_ ?_ ?_
       ·show ((j + 1) ≤ x.r.body.length ∧ SoundR X (h) ∧ ((c2) = true → Ana.lack X.g.n (h) < Ana.lack X.g.n f) ∧ ((c2) = false → (h) = f ∧ cg = false ∧ ∀ zz, zz ∈ x.r.body.take (j + 1) → (h) x.r.head.toNat = true → zz < 0 → (h) (Ana.nt zz) = true)) ∧ x.r.body.length - (j + 1) < x.r.body.length - j
        refine ⟨⟨by omega, hL2, hL3, fun hc => ⟨(hL4 hc).1, (hL4 hc).2.1, fun zz hz => ?_⟩⟩, by omega⟩
        rw [take_at hy] at hz
        rcases List.mem_append.1 hz with h5 | h5
        · exact (hL4 hc).2.2 zz h5
        · rw [List.mem_singleton.1 h5]; exact fun _ _ => by simpa using h60
       · exact ⟨rfl, rfl, rfl, rfl, rfl, rfl, trivial⟩
       ·show List.Perm _ ([iCells b6 41 (ruF x), iCells b11 4 (bl X.g.n (h)), iCells b1 25 [.slice X.At X.terms.length X.ct, .slice X.An X.nts.length X.cn, .int .i64 X.start, .slice X.Ar X.xs.length X.cr]])
        repeat (first | exact List.Perm.refl _ | refine List.Perm.cons _ ?_ | refine (front1 _ _ _).trans (List.Perm.cons _ ?_) | refine (front2 _ _ _ _).trans (List.Perm.cons _ ?_) | refine (front3 _ _ _ _ _).trans (List.Perm.cons _ ?_) | refine (front4 _ _ _ _ _ _).trans (List.Perm.cons _ ?_))
       · exact fun _ h => h
     ·skip
      refine l_off (j := 6) rfl rfl (by first | (simp; done) | (simp [undef]; done)) (by decide) ?_
      refine l_off (j := 6) rfl rfl (by first | (simp; done) | (simp [undef]; done)) (by decide) ?_
      refine l_off (j := 6) rfl rfl (by first | (simp; done) | (simp [undef]; done)) (by decide) ?_
      refine l_off (j := 6) rfl rfl (by first | (simp; done) | (simp [undef]; done)) (by decide) ?_
      refine l_off (j := 6) rfl rfl (by first | (simp; done) | (simp [undef]; done)) (by decide) ?_
      refine l_off (j := 6) rfl rfl (by first | (simp; done) | (simp [undef]; done)) (by decide) ?_
      refine l_off (j := 6) rfl rfl (by first | (simp; done) | (simp [undef]; done)) (by decide) ?_
      refine l_off (j := 6) rfl rfl (by first | (simp; done) | (simp [undef]; done)) (by decide) ?_
      refine l_off (j := 6) rfl rfl (by first | (simp; done) | (simp [undef]; done)) (by decide) ?_
      refine l_off (j := 6) rfl rfl (by first | (simp; done) | (simp [undef]; done)) (by decide) ?_
      refine l_q (by decide) (p_pick rfl rfl).q ?_
      refine l_nil ?_
      refine c_false rfl ?_
      refine c_skip ?_
      refine c_reg ?_
      refine l_q (by decide) (p_move rfl).q ?_
      first | refine l_q (by decide) (p_add (j := 1) rfl rfl rfl rfl (by show _ ≤ (9223372036854775807 : Nat); omega)).q ?_ | refine l_q (by decide) (p_addi rfl rfl (by show (-9223372036854775808 : Int) ≤ _; omega) (by show _ ≤ ((9223372036854775807 : Nat) : Int); omega)).q ?_
      refine l_q (by decide) (p_assign rfl).q ?_
      refine l_nil ?_
      refine c_join ((j + 1), (h), (c2)) ?_ ?_ ?_ ?_
      ·show ((j + 1) ≤ x.r.body.length ∧ SoundR X (h) ∧ ((c2) = true → Ana.lack X.g.n (h) < Ana.lack X.g.n f) ∧ ((c2) = false → (h) = f ∧ cg = false ∧ ∀ zz, zz ∈ x.r.body.take (j + 1) → (h) x.r.head.toNat = true → zz < 0 → (h) (Ana.nt zz) = true)) ∧ x.r.body.length - (j + 1) < x.r.body.length - j
       refine ⟨⟨by omega, hL2, hL3, fun hc => ⟨(hL4 hc).1, (hL4 hc).2.1, fun zz hz => ?_⟩⟩, by omega⟩
       rw [take_at hy] at hz
       rcases List.mem_append.1 hz with h5 | h5
       · exact (hL4 hc).2.2 zz h5
       · rw [List.mem_singleton.1 h5]; exact fun _ h0 => absurd h0 h49
      · exact ⟨rfl, rfl, rfl, rfl, rfl, rfl, trivial⟩
      ·show List.Perm _ ([iCells b6 41 (ruF x), iCells b11 4 (bl X.g.n (h)), iCells b1 25 [.slice X.At X.terms.length X.ct, .slice X.An X.nts.length X.cn, .int .i64 X.start, .slice X.Ar X.xs.length X.cr]])
       repeat (first | exact List.Perm.refl _ | refine List.Perm.cons _ ?_ | refine (front1 _ _ _).trans (List.Perm.cons _ ?_) | refine (front2 _ _ _ _).trans (List.Perm.cons _ ?_) | refine (front3 _ _ _ _ _).trans (List.Perm.cons _ ?_) | refine (front4 _ _ _ _ _ _).trans (List.Perm.cons _ ?_))
      · exact fun _ h => h
    ·skip
     refine c_exit ?_
     refine c_here ?_
     refine c_reg ?_
     refine l_q (by decide) (p_move rfl).q ?_
     first | refine l_q (by decide) (p_add (j := 1) rfl rfl rfl rfl (by show _ ≤ (9223372036854775807 : Nat); omega)).q ?_ | refine l_q (by decide) (p_addi rfl rfl (by show (-9223372036854775808 : Int) ≤ _; omega) (by show _ ≤ ((9223372036854775807 : Nat) : Int); omega)).q ?_
     refine l_q (by decide) (p_assign rfl).q ?_
     refine l_nil ?_
     first | (refine c_drop (x := iCells b6 _ _) ?_) | (refine c_perm (front1 _ _ _) ?_; refine c_drop (x := iCells b6 _ _) ?_) | (refine c_perm (front2 _ _ _ _) ?_; refine c_drop (x := iCells b6 _ _) ?_) | (refine c_perm (front3 _ _ _ _ _) ?_; refine c_drop (x := iCells b6 _ _) ?_) | (refine c_perm (front4 _ _ _ _ _ _) ?_; refine c_drop (x := iCells b6 _ _) ?_)
     refine c_join ((k + 1), (h), (c2)) ?_ ?_ ?_ ?_
     ·show ((k + 1) ≤ X.xs.length ∧ SoundR X (h) ∧ ((c2) = true → Ana.lack X.g.n (h) < Ana.lack X.g.n f) ∧ ((c2) = false → (h) = f ∧ ∀ zz, zz ∈ X.xs.take (k + 1) → GoodR zz (h))) ∧ X.xs.length - (k + 1) < X.xs.length - k
      refine ⟨⟨by omega, hL2, hL3, fun hc => ⟨(hL4 hc).1, fun zz hz => ?_⟩⟩, by omega⟩
      rw [take_at hx] at hz
      rcases List.mem_append.1 hz with h5 | h5
      · have := (hJ4 (hL4 hc).2.1).2 zz h5
        rw [(hL4 hc).1, ← (hJ4 (hL4 hc).2.1).1]; exact this
      · rw [List.mem_singleton.1 h5]; exact fun z hz h1 h0 => by rw [h40] at h1; cases h1
     · exact ⟨rfl, rfl, rfl, rfl, trivial⟩
     ·show List.Perm _ ([iCells b11 4 (bl X.g.n (h)), iCells b1 25 [.slice X.At X.terms.length X.ct, .slice X.An X.nts.length X.cn, .int .i64 X.start, .slice X.Ar X.xs.length X.cr]])
      repeat (first | exact List.Perm.refl _ | refine List.Perm.cons _ ?_ | refine (front1 _ _ _).trans (List.Perm.cons _ ?_) | refine (front2 _ _ _ _).trans (List.Perm.cons _ ?_) | refine (front3 _ _ _ _ _).trans (List.Perm.cons _ ?_) | refine (front4 _ _ _ _ _ _).trans (List.Perm.cons _ ?_))
     · exact fun _ h => h
   ·skip
    refine l_off (j := 5) rfl rfl (by first | (simp; done) | (simp [undef]; done)) (by decide) ?_
    refine l_off (j := 5) rfl rfl (by first | (simp; done) | (simp [undef]; done)) (by decide) ?_
    refine l_off (j := 5) rfl rfl (by first | (simp; done) | (simp [undef]; done)) (by decide) ?_
    refine l_off (j := 5) rfl rfl (by first | (simp; done) | (simp [undef]; done)) (by decide) ?_
    refine l_off (j := 5) rfl rfl (by first | (simp; done) | (simp [undef]; done)) (by decide) ?_
    refine l_q (by decide) (p_pick rfl rfl).q ?_
    refine l_nil ?_
    refine c_false rfl ?_
    refine c_exit ?_
    refine c_here ?_
    refine c_reg ?_
    refine l_q (by decide) (p_move rfl).q ?_
    first | refine l_q (by decide) (p_add (j := 1) rfl rfl rfl rfl (by show _ ≤ (9223372036854775807 : Nat); omega)).q ?_ | refine l_q (by decide) (p_addi rfl rfl (by show (-9223372036854775808 : Int) ≤ _; omega) (by show _ ≤ ((9223372036854775807 : Nat) : Int); omega)).q ?_
    refine l_q (by decide) (p_assign rfl).q ?_
    refine l_nil ?_
    first | (refine c_drop (x := iCells b6 _ _) ?_) | (refine c_perm (front1 _ _ _) ?_; refine c_drop (x := iCells b6 _ _) ?_) | (refine c_perm (front2 _ _ _ _) ?_; refine c_drop (x := iCells b6 _ _) ?_) | (refine c_perm (front3 _ _ _ _ _) ?_; refine c_drop (x := iCells b6 _ _) ?_) | (refine c_perm (front4 _ _ _ _ _ _) ?_; refine c_drop (x := iCells b6 _ _) ?_)
    refine c_join ((k + 1), (h), (c2)) ?_ ?_ ?_ ?_
    ·show ((k + 1) ≤ X.xs.length ∧ SoundR X (h) ∧ ((c2) = true → Ana.lack X.g.n (h) < Ana.lack X.g.n f) ∧ ((c2) = false → (h) = f ∧ ∀ zz, zz ∈ X.xs.take (k + 1) → GoodR zz (h))) ∧ X.xs.length - (k + 1) < X.xs.length - k
     refine ⟨⟨by omega, hL2, hL3, fun hc => ⟨(hL4 hc).1, fun zz hz => ?_⟩⟩, by omega⟩
     rw [take_at hx] at hz
     rcases List.mem_append.1 hz with h5 | h5
     · have := (hJ4 (hL4 hc).2.1).2 zz h5
       rw [(hL4 hc).1, ← (hJ4 (hL4 hc).2.1).1]; exact this
     · rw [List.mem_singleton.1 h5]; rw [List.take_of_length_le (by omega)] at hL4; exact fun z hz h1 h0 => (hL4 hc).2.2 z hz h1 h0
    · exact ⟨rfl, rfl, rfl, rfl, trivial⟩
    ·show List.Perm _ ([iCells b11 4 (bl X.g.n (h)), iCells b1 25 [.slice X.At X.terms.length X.ct, .slice X.An X.nts.length X.cn, .int .i64 X.start, .slice X.Ar X.xs.length X.cr]])
     repeat (first | exact List.Perm.refl _ | refine List.Perm.cons _ ?_ | refine (front1 _ _ _).trans (List.Perm.cons _ ?_) | refine (front2 _ _ _ _).trans (List.Perm.cons _ ?_) | refine (front3 _ _ _ _ _).trans (List.Perm.cons _ ?_) | refine (front4 _ _ _ _ _ _).trans (List.Perm.cons _ ?_))
    · exact fun _ h => h
  ·skip
   refine c_exit ?_
   refine c_here ?_
   rw [List.take_of_length_le (by omega)] at hJ4
   refine c_join ((g), (cg)) ?_ ?_ ?_ ?_
   ·show (SoundR X (g) ∧ ((cg) = false → ∀ zz, zz ∈ X.xs → GoodR zz (g))) ∧ 2 * Ana.lack X.g.n (g) + (cg).toNat < 2 * Ana.lack X.g.n f + ch.toNat
    subst h16
    refine ⟨⟨hJ2, fun hc => (hJ4 hc).2⟩, ?_⟩
    cases cg with
    | true => have := hJ3 rfl; simp only [Bool.toNat_true]; omega
    | false => have := (hJ4 rfl).1; subst this; simp only [Bool.toNat_true, Bool.toNat_false]; omega
   · exact ⟨rfl, rfl, rfl, trivial⟩
   ·show List.Perm _ ([iCells b11 4 (bl X.g.n (g)), iCells b1 25 [.slice X.At X.terms.length X.ct, .slice X.An X.nts.length X.cn, .int .i64 X.start, .slice X.Ar X.xs.length X.cr]])
    exact .refl _
   · exact fun _ h => h
 ·skip
  refine c_exit ?_
  refine c_here ?_
  refine c_seq ?_
  refine c_reg ?_
  refine l_q (by decide) (p_move rfl).q ?_
  refine l_q (by decide) (p_assign rfl).q ?_
  refine l_nil ?_
  refine c_ret ?_
  refine c_ret1 rfl rfl (fun w hs => ?_)
  rw [reach_full hI1 (hI2 (by simpa using h16))] at hs
  have hgo := hs.own (iCells b11 4 (bl X.g.n (Ana.rc X.g))) (by repeat constructor)
  have hgk := hgo.2.2 b11 (by simp [iCells])
  have hgh := hgo.1
  rw [bl_flat] at hgh
  exact ⟨b11, rfl, cells_sl (fun _ => rfl) hgh, ⟨by simpa using hgk.2, hgk.1⟩, hs.ext⟩
end Go.Proofs.Ytidbhgolhiaijaa
