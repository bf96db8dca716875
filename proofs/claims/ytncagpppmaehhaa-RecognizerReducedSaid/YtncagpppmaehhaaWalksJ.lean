/- The walks of the recognizer, tenth part (Derives); conditions: lengths. -/
import Derived.Test.YtncagpppmaehhaaWalksI
namespace Go.Proofs.Ytncagpppmaehhaa
open Go Go.Fx Go.Proofs

open Go.Proofs.Rec
theorem body_ok (d : T3) (s : List Int) (n T : Nat) (M R : NF) (As : Option Addr) (cs k : Nat) (hn : n ≤ 1000) (hs1 : s.length ≤ 1000) (hk : k ≤ s.length) : ∀ (m : Nat) (l : List Int) (A : Option Addr) (c i : Nat) (w : World), l.length ≤ m → m ≤ 1000 → l.length ≤ c → (∀ x, x ∈ l → x < 0 → Ana.nt x < n) → i ≤ k → Sl 1 intF A l w → TM n (s.length + 1) T M R d w → Sl 1 intF As s w → bodyC d s l n T As A cs c i k w := fun m => by
  induction m with
  | zero => exact fun l A c i w hl hm hc hr hik hq ht hp => body_step d s l n T M R As A cs c i k hn hs1 (by omega) hc hr hik hk (fun A2 c2 l2 i2 w2 h => by omega) w hq ht hp
  | succ m ih => exact fun l A c i w hl hm hc hr hik hq ht hp => body_step d s l n T M R As A cs c i k hn hs1 (by omega) hc hr hik hk (fun A2 c2 l2 i2 w2 h hc2 hr2 hi2 hq2 ht2 hp2 => ih l2 A2 c2 i2 w2 (by omega) (by omega) hc2 hr2 hi2 hq2 ht2 hp2) w hq ht hp
/-- what is derived, as a table -/
noncomputable def dr (g : Ana.Gr) (s : List Int) : T3 := fun A i k => Ana.dec (i ≤ k ∧ k ≤ s.length ∧ Der g [-1 - (A : Int)] (Rec.part s i k))
def upd3 (d : T3) (h i k : Nat) : T3 := fun A i2 k2 => if A = h ∧ i2 = i ∧ k2 = k then true else d A i2 k2
def flat3 (L : Nat) (d : T3) (q : Nat) : Bool := d (q / L / L) (q / L % L) (q % L)
def lack3 (n L : Nat) (d : T3) : Nat := Ana.lack (n * L * L) (flat3 L d)
theorem flat_upd {L h i k : Nat} {d : T3} (hi : i < L) (hk : k < L) : flat3 L (upd3 d h i k) = Ana.upd (flat3 L d) ((h * L + i) * L + k) true := by
  funext q
  unfold flat3 upd3 Ana.upd
  have hL : 0 < L := by omega
  by_cases e : q = (h * L + i) * L + k
  · subst e
    have e1 : ((h * L + i) * L + k) / L = h * L + i := by rw [Nat.mul_comm (h * L + i) L, Nat.mul_add_div hL, Nat.div_eq_of_lt hk, Nat.add_zero]
    have e2 : ((h * L + i) * L + k) % L = k := by rw [Nat.mul_comm (h * L + i) L, Nat.mul_add_mod, Nat.mod_eq_of_lt hk]
    have e3 : (h * L + i) / L = h := by rw [Nat.mul_comm h L, Nat.mul_add_div hL, Nat.div_eq_of_lt hi, Nat.add_zero]
    have e4 : (h * L + i) % L = i := by rw [Nat.mul_comm h L, Nat.mul_add_mod, Nat.mod_eq_of_lt hi]
    rw [e1, e2, e3, e4, if_pos ⟨rfl, rfl, rfl⟩, if_pos rfl]
  · rw [if_neg e, if_neg]
    rintro ⟨h1, h2, h3⟩
    refine e ?_
    rw [← h1, ← h2, ← h3, Nat.div_add_mod', Nat.div_add_mod']
theorem lack3_upd {n L h i k : Nat} {d : T3} (hh : h < n) (hi : i < L) (hk : k < L) (hd : d h i k = false) : lack3 n L (upd3 d h i k) < lack3 n L d := by
  unfold lack3
  rw [flat_upd hi hk]
  obtain ⟨h1, _, _⟩ := idx3 hh hi
  obtain ⟨h2, h3, h4⟩ := idx3 h1 hk
  refine Ana.lack_upd h2 ?_
  obtain ⟨_, h5, h6⟩ := idx3 hh hi
  unfold flat3
  rw [h3, h4, h5, h6]
  exact hd
theorem row3_upd {L h i k : Nat} {R : NF} {d : T3} (hi : i < L) : iCells (R (h * L + i)) 4 ((bl L (d h i)).set (k * 1) (.bool true)) = row3 L R (upd3 d h i k) (h * L + i) := by
  unfold row3
  obtain ⟨_, e3, e4⟩ := idx3 (n := h + 1) (Nat.lt_succ_self h) hi
  rw [e3, e4, bl_set]
  congr 2
  funext q
  unfold Ana.upd upd3
  by_cases e : q = k
  · rw [if_pos e, if_pos ⟨rfl, rfl, e⟩]
  · rw [if_neg e, if_neg (fun h => e h.2.2)]
theorem row3_off {L h i k q : Nat} {R : NF} {d : T3} (hq : q ≠ h * L + i) : row3 L R d q = row3 L R (upd3 d h i k) q := by
  unfold row3
  congr 2
  funext k2
  unfold upd3
  rw [if_neg]
  rintro ⟨h1, h2, _⟩
  exact hq (by rw [← h1, ← h2, Nat.div_add_mod'])
theorem row_out {n L h i : Nat} {R : NF} {d : T3} (l : Fx.Own) (hh : h < n) (hi : i < L) : (l ++ fam (n * L) (row3 L R d)).Perm (iCells (R (h * L + i)) 4 (bl L (d h i)) :: (l ++ famx (n * L) (h * L + i) (row3 L R d))) := by
  obtain ⟨h1, h2, h3⟩ := idx3 hh hi
  have := fam_out (F := row3 L R d) l h1
  rw [show row3 L R d (h * L + i) = iCells (R (h * L + i)) 4 (bl L (d h i)) by unfold row3; rw [h2, h3]] at this
  exact this
theorem row_in {n L h i k : Nat} {R : NF} {d : T3} (l : Fx.Own) (hh : h < n) (hi : i < L) : (iCells (R (h * L + i)) 4 ((bl L (d h i)).set (k * 1) (.bool true)) :: (l ++ famx (n * L) (h * L + i) (row3 L R d))).Perm (l ++ fam (n * L) (row3 L R (upd3 d h i k))) :=
  fam_in l (idx3 hh hi).1 (row3_upd hi) (fun q _ hq => row3_off hq)
def GoodD (s : List Int) (x : XR) (d : T3) : Prop := ∀ i k, i ≤ k → k ≤ s.length → BD d s x.r.body i k → d x.r.head.toNat i k = true
theorem soundD_zero {g : Ana.Gr} {s : List Int} : SoundD g s (fun _ _ _ => false) := fun _ _ _ h => by cases h
theorem soundD_step {g : Ana.Gr} {s : List Int} {d : T3} (h : SoundD g s d) {r : Ana.Rl} (hr : r ∈ g.rules) (h0 : 0 ≤ r.head) {i k : Nat} (hk : k ≤ s.length) (hb : bdB d s r.body i k = true) : SoundD g s (upd3 d r.head.toNat i k) := fun A i2 k2 hd => by
  unfold upd3 at hd
  by_cases e : A = r.head.toNat ∧ i2 = i ∧ k2 = k
  · obtain ⟨rfl, rfl, rfl⟩ := e
    obtain ⟨h1, h2⟩ := bd_der h hk (Ana.dec_iff.1 hb)
    exact ⟨h1, hk, Der.one hr (by omega) (by omega) h2⟩
  · rw [if_neg e] at hd
    exact h A i2 k2 hd
theorem dr_full {X : GI} {s : List Int} {d : T3} (hs : SoundD X.g s d) (hg : ∀ x, x ∈ X.xs → GoodD s x d) : d = dr X.g s := by
  funext A i k
  refine Ana.eq_dec ⟨fun h => hs A i k h, fun ⟨h1, h2, h3⟩ => (derives_iff hs (fun r hr => ?_) h1 h2).2 h3⟩
  obtain ⟨x, hx, rfl⟩ := List.mem_map.1 hr
  exact hg x hx
theorem tm_own {w0 w : World} {K : List Nat} {ρ : Fx.Facts} {n L T : Nat} {M R : NF} {d : T3} {y : Fx.Item} (hs : St w0 K w (iCells T 43 (hdm n L n M) :: y :: (fam n (mid L M R) ++ fam (n * L) (row3 L R d))) ρ) : TM n L T M R d w :=
  ⟨(hs.own _ (List.mem_cons_self ..)).1, fun i hi => (hs.own _ (List.mem_cons_of_mem _ (List.mem_cons_of_mem _ (List.mem_append.2 (.inl (mem_fam hi)))))).1, fun p hp => (hs.own _ (List.mem_cons_of_mem _ (List.mem_cons_of_mem _ (List.mem_append.2 (.inr (mem_fam hp)))))).1⟩
theorem dep_cells {b t lo hi : Nat} {vs : List Value} (h1 : lo ≤ b) (h2 : b < hi) : Dep lo hi (iCells b t vs).holds := fun w1 w2 hb hq => (hb b h1 h2).trans hq
/-- the table is made anew -/
theorem tm_new {w0 w : World} {ρ : Fx.Facts} {n L T : Nat} {M R : NF} {d : T3} {y : Fx.Item} (hs : St w0 [] w (iCells T 43 (hdm n L n M) :: y :: (fam n (mid L M R) ++ fam (n * L) (row3 L R d))) ρ) : Dep w0.heap.size w.heap.size (TM n L T M R d) := by
  have hb : ∀ x : Fx.Item, x ∈ (iCells T 43 (hdm n L n M) :: y :: (fam n (mid L M R) ++ fam (n * L) (row3 L R d))) → ∀ k, k ∈ x.keys → w0.heap.size ≤ k ∧ k < w.heap.size := fun x hx k hk => by
    have := (hs.own x hx).2.2 k hk
    exact ⟨by simpa using this.2, this.1⟩
  have h1 := hb _ (List.mem_cons_self ..) T (by simp [iCells])
  have h2 : ∀ i, i < n → w0.heap.size ≤ M i ∧ M i < w.heap.size := fun i hi => hb (mid L M R i) (List.mem_cons_of_mem _ (List.mem_cons_of_mem _ (List.mem_append.2 (.inl (mem_fam hi))))) (M i) (by simp [mid, iCells])
  have h3 : ∀ p, p < n * L → w0.heap.size ≤ R p ∧ R p < w.heap.size := fun p hp => hb (row3 L R d p) (List.mem_cons_of_mem _ (List.mem_cons_of_mem _ (List.mem_append.2 (.inr (mem_fam hp))))) (R p) (by simp [row3, iCells])
  exact fun w1 w2 hq ⟨g1, g2, g3⟩ => ⟨dep_cells h1.1 h1.2 w1 w2 hq g1, fun i hi => dep_cells (h2 i hi).1 (h2 i hi).2 w1 w2 hq (g2 i hi), fun p hp => dep_cells (h3 p hp).1 (h3 p hp).2 w1 w2 hq (g3 p hp)⟩
theorem call_39 : Callable Try.prog 39 := ⟨_, Try.func39, by kernel_rfl, rfl⟩
theorem derives_ok (X : GI) (hX : X.small) (As : Option Addr) (cs : Nat) (s : List Int) (hsl : s.length ≤ 900) (w : World) (hM : X.mem w) (ok : Ana.Ok2 X.g) (hp : Sl 1 intF As s w) :
   Calls Try.prog 26 #[.agg #[.slice X.At X.terms.length X.ct, .slice X.An X.nts.length X.cn, .int .i64 X.start, .slice X.Ar X.xs.length X.cr], .slice As s.length cs] w (Ret fun v w' => ∃ x : Nat × NF × NF, v = .slice (some ⟨x.1, 0, none⟩) X.nts.length X.nts.length ∧ TM X.nts.length (s.length + 1) x.1 x.2.1 x.2.2 (dr X.g s) w' ∧ Dep w.heap.size w'.heap.size (TM X.nts.length (s.length + 1) x.1 x.2.1 x.2.2 (dr X.g s)) ∧ Ext [] w w') := by
 have hnl := ok.nl
 have hnn : X.nts.length ≤ 16 := hnl
 have hxl := hX.x
 refine calls_fx (l := [.agg #[.slice X.At X.terms.length X.ct, .slice X.An X.nts.length X.cn, .int .i64 X.start, .slice X.Ar X.xs.length X.cr], .slice As s.length cs]) Try.func26 rfl Try.ntmps26 (Nat.le_of_ble_eq_true rfl) ((X.begin hM).old hp (dep_sl (by decide) hp)) ?_
 refine c_seq ?_
 refine c_reg ?_
 refine l_box (by decide) rfl _ rfl (fun b2 => ?_)
 refine l_q (by decide) (p_assign rfl).q ?_
 refine l_nil ?_
 refine c_seq ?_
 obtain ⟨lo, hlo⟩ : ∃ lo, lo = w.heap.size := ⟨_, rfl⟩
 refine c_reg ?_
 refine l_q (by decide) (p_faddro (i := 1) 1 Try.underlying25 rfl inf_22 (by decide) rfl rfl).q ?_
 refine l_q (by decide) (r_loado Try.underlying22 rfl rfl (by repeat constructor) (by rfl)).q ?_
 refine l_q (by decide) (p_len_sl Try.underlying22 rfl).q ?_
 refine l_q (by decide) (p_move rfl).q ?_
 refine l_q (by decide) (p_len_sl Try.underlying26 rfl).q ?_
 refine l_callo (τ := []) (X := Nat × NF × NF) (fun x => .slice (some ⟨x.1, 0, none⟩) X.nts.length X.nts.length) (fun x => tab3 X.nts.length (s.length + 1) x.1 x.2.1 x.2.2 (fun _ _ _ => false)) (by decide) call_39 rfl (fun w hs => table_ok X.nts.length s.length (by omega) (by omega) w) (fun xt => ?_)
 obtain ⟨T, M, R⟩ := xt
 refine l_q (by decide) (p_assign rfl).q ?_
 refine l_nil ?_
 refine c_seq ?_
 refine c_seq ?_
 refine c_reg ?_
 refine l_q (by decide) (p_assign rfl).q ?_
 refine l_nil ?_
 refine c_block ?_
 refine c_loop (S := T3 × Bool) (fun zs => SoundD X.g s zs.1 ∧ (zs.2 = false → ∀ zz, zz ∈ X.xs → GoodD s zz zs.1)) (fun zs => 2 * lack3 X.nts.length (s.length + 1) zs.1 + zs.2.toNat) (fun zs => [(1, .slice As s.length cs), (2, .pointer (some ⟨b2, 0, none⟩)), (5, .slice (some ⟨T, 0, none⟩) X.nts.length X.nts.length), (6, .bool zs.2)]) (fun zs => (iCells T 43 (hdm X.nts.length (s.length + 1) X.nts.length M) :: iCells b2 25 [.slice X.At X.terms.length X.ct, .slice X.An X.nts.length X.cn, .int .i64 X.start, .slice X.Ar X.xs.length X.cr] :: (fam X.nts.length (mid (s.length + 1) M R) ++ fam (X.nts.length * (s.length + 1)) (row3 (s.length + 1) R zs.1)))) (fun zs => (Sl 1 intF As s :: [Bd X.xs, Sl 3 ruF X.Ar X.xs, Sl 1 strF X.An X.nts, Sl 1 strF X.At X.terms])) (fun _ _ _ => false, true) ?_ ?_ ?_ ?_ ?_
 · show SoundD X.g s (fun _ _ _ => false) ∧ ((true) = false → ∀ zz, zz ∈ X.xs → GoodD s zz (fun _ _ _ => false))
   exact ⟨soundD_zero, fun h => by cases h⟩
 · exact ⟨rfl, rfl, rfl, rfl, trivial⟩
 · exact (List.Perm.cons _ (List.perm_append_comm (l₂ := [_])))
 · exact fun _ h => h
 rintro ⟨f, ch⟩ hinv
 have hinv : SoundD X.g s f ∧ (ch = false → ∀ zz, zz ∈ X.xs → GoodD s zz f) := hinv
 obtain ⟨hI1, hI2⟩ := hinv
 show Cont _ _ _ _ [(1, .slice As s.length cs), (2, .pointer (some ⟨b2, 0, none⟩)), (5, .slice (some ⟨T, 0, none⟩) X.nts.length X.nts.length), (6, .bool ch)] ((iCells T 43 (hdm X.nts.length (s.length + 1) X.nts.length M) :: iCells b2 25 [.slice X.At X.terms.length X.ct, .slice X.An X.nts.length X.cn, .int .i64 X.start, .slice X.Ar X.xs.length X.cr] :: (fam X.nts.length (mid (s.length + 1) M R) ++ fam (X.nts.length * (s.length + 1)) (row3 (s.length + 1) R f)))) (Sl 1 intF As s :: [Bd X.xs, Sl 3 ruF X.Ar X.xs, Sl 1 strF X.An X.nts, Sl 1 strF X.At X.terms])
 refine c_seq ?_
 refine c_seq ?_
 refine c_reg ?_
 refine l_q (by decide) (p_move rfl).q ?_
 refine l_nil ?_
 refine c_cond rfl (fun h17 => ?_) (fun h17 => ?_)
 ·skip
  refine c_skip ?_
  refine c_block ?_
  refine c_seq ?_
  refine c_reg ?_
  refine l_q (by decide) (p_assign rfl).q ?_
  refine l_nil ?_
  refine c_seq ?_
  refine c_reg ?_
  refine l_q (by decide) (p_assign (v := .int .i64 ((0 : Nat) : Int)) rfl).q ?_
  refine l_nil ?_
  refine c_block ?_
  refine c_loop (S := Nat × T3 × Bool) (fun zs => zs.1 ≤ X.xs.length ∧ SoundD X.g s zs.2.1 ∧ (zs.2.2 = true → lack3 X.nts.length (s.length + 1) zs.2.1 < lack3 X.nts.length (s.length + 1) f) ∧ (zs.2.2 = false → zs.2.1 = f ∧ ∀ zz, zz ∈ X.xs.take zs.1 → GoodD s zz zs.2.1)) (fun zs => X.xs.length - zs.1) (fun zs => [(1, .slice As s.length cs), (2, .pointer (some ⟨b2, 0, none⟩)), (5, .slice (some ⟨T, 0, none⟩) X.nts.length X.nts.length), (6, .bool zs.2.2), (7, .int .i64 (zs.1 : Int))]) (fun zs => (iCells T 43 (hdm X.nts.length (s.length + 1) X.nts.length M) :: iCells b2 25 [.slice X.At X.terms.length X.ct, .slice X.An X.nts.length X.cn, .int .i64 X.start, .slice X.Ar X.xs.length X.cr] :: (fam X.nts.length (mid (s.length + 1) M R) ++ fam (X.nts.length * (s.length + 1)) (row3 (s.length + 1) R zs.2.1)))) (fun zs => (Sl 1 intF As s :: [Bd X.xs, Sl 3 ruF X.Ar X.xs, Sl 1 strF X.An X.nts, Sl 1 strF X.At X.terms])) (0, f, false) ?_ ?_ ?_ ?_ ?_
  · show (0) ≤ X.xs.length ∧ SoundD X.g s (f) ∧ ((false) = true → lack3 X.nts.length (s.length + 1) (f) < lack3 X.nts.length (s.length + 1) f) ∧ ((false) = false → (f) = f ∧ ∀ zz, zz ∈ X.xs.take (0) → GoodD s zz (f))
    exact ⟨Nat.zero_le _, hI1, fun h => (by cases h), fun _ => ⟨rfl, fun x h => absurd h (by simp)⟩⟩
  · exact ⟨rfl, rfl, rfl, rfl, rfl, trivial⟩
  · exact .refl _
  · exact fun _ h => h
  rintro ⟨k, g, c1⟩ hinv
  have hinv : k ≤ X.xs.length ∧ SoundD X.g s g ∧ (c1 = true → lack3 X.nts.length (s.length + 1) g < lack3 X.nts.length (s.length + 1) f) ∧ (c1 = false → g = f ∧ ∀ zz, zz ∈ X.xs.take k → GoodD s zz g) := hinv
  obtain ⟨hJ1, hJ2, hJ3, hJ4⟩ := hinv
  show Cont _ _ _ _ [(1, .slice As s.length cs), (2, .pointer (some ⟨b2, 0, none⟩)), (5, .slice (some ⟨T, 0, none⟩) X.nts.length X.nts.length), (6, .bool c1), (7, .int .i64 (k : Int))] ((iCells T 43 (hdm X.nts.length (s.length + 1) X.nts.length M) :: iCells b2 25 [.slice X.At X.terms.length X.ct, .slice X.An X.nts.length X.cn, .int .i64 X.start, .slice X.Ar X.xs.length X.cr] :: (fam X.nts.length (mid (s.length + 1) M R) ++ fam (X.nts.length * (s.length + 1)) (row3 (s.length + 1) R g)))) (Sl 1 intF As s :: [Bd X.xs, Sl 3 ruF X.Ar X.xs, Sl 1 strF X.An X.nts, Sl 1 strF X.At X.terms])
  refine c_seq ?_
  refine c_seq ?_
  refine c_reg ?_
  refine l_q (by decide) (p_move rfl).q ?_
  refine l_q (by decide) (p_faddro (i := 3) 3 Try.underlying25 rfl inf_23 (by decide) rfl rfl).q ?_
  refine l_q (by decide) (r_loado Try.underlying23 rfl rfl (by repeat constructor) (by rfl)).q ?_
  refine l_q (by decide) (p_len_sl Try.underlying23 rfl).q ?_
  refine l_q (by decide) (p_lss rfl rfl rfl rfl).q ?_
  refine l_nil ?_
  refine c_dec rfl (fun h22 => ?_) (fun h22 => ?_)
  ·skip
   obtain ⟨x, hx⟩ := at_some (l := X.xs) (n := k) (by omega)
   obtain ⟨hh1, hh2⟩ := ok.hd (rule_mem hx)
   have hh2 : x.r.head.toNat < X.nts.length := hh2
   have hbl := ok.bl _ (rule_mem hx)
   have hbc := (hX.b x (List.mem_of_getElem? hx)).2
   refine c_skip ?_
   refine c_seq ?_
   refine c_block ?_
   refine c_seq ?_
   refine c_reg ?_
   refine l_q (by decide) (p_faddro (i := 3) 3 Try.underlying25 rfl inf_23 (by decide) rfl rfl).q ?_
   refine l_q (by decide) (r_loado Try.underlying23 rfl rfl (by repeat constructor) (by rfl)).q ?_
   refine l_q (by decide) (p_move rfl).q ?_
   refine l_q (by decide) (r_index Try.underlying23 inf_49 rfl rfl rfl (by exact .fact (by repeat constructor)) rfl (by omega)).q ?_
   refine l_q (by decide) (p_faddr (i := 0) 0 Try.underlying49 rfl inf_3 (by decide) rfl rfl).q ?_
   refine l_q (by decide) (((r_loadf Try.underlying3 rfl rfl (by exact .fact (by repeat constructor)) (by assumption) (by rfl))).to (u := .int .i64 ((x.r.head.toNat : Nat) : Int)) (by rw [hh1])).q ?_
   refine l_q (by decide) (p_assign rfl).q ?_
   refine l_nil ?_
   refine c_seq ?_
   refine c_reg ?_
   refine l_q (by decide) (p_assign (v := .int .i64 ((0 : Nat) : Int)) rfl).q ?_
   refine l_nil ?_
   refine c_block ?_
   refine c_loop (S := Nat × T3 × Bool) (fun zs => zs.1 ≤ s.length + 1 ∧ SoundD X.g s zs.2.1 ∧ (zs.2.2 = true → lack3 X.nts.length (s.length + 1) zs.2.1 < lack3 X.nts.length (s.length + 1) f) ∧ (zs.2.2 = false → zs.2.1 = f ∧ c1 = false ∧ ∀ ii, ii < zs.1 → ∀ kk, ii ≤ kk → kk ≤ s.length → BD zs.2.1 s x.r.body ii kk → zs.2.1 x.r.head.toNat ii kk = true)) (fun zs => s.length + 1 - zs.1) (fun zs => [(1, .slice As s.length cs), (2, .pointer (some ⟨b2, 0, none⟩)), (5, .slice (some ⟨T, 0, none⟩) X.nts.length X.nts.length), (6, .bool zs.2.2), (7, .int .i64 (k : Int)), (8, .int .i64 ((x.r.head.toNat : Nat) : Int)), (9, .int .i64 (zs.1 : Int))]) (fun zs => (iCells T 43 (hdm X.nts.length (s.length + 1) X.nts.length M) :: iCells b2 25 [.slice X.At X.terms.length X.ct, .slice X.An X.nts.length X.cn, .int .i64 X.start, .slice X.Ar X.xs.length X.cr] :: (fam X.nts.length (mid (s.length + 1) M R) ++ fam (X.nts.length * (s.length + 1)) (row3 (s.length + 1) R zs.2.1)))) (fun zs => (Sl 1 intF As s :: [Bd X.xs, Sl 3 ruF X.Ar X.xs, Sl 1 strF X.An X.nts, Sl 1 strF X.At X.terms])) (0, g, c1) ?_ ?_ ?_ ?_ ?_
   · show (0) ≤ s.length + 1 ∧ SoundD X.g s (g) ∧ ((c1) = true → lack3 X.nts.length (s.length + 1) (g) < lack3 X.nts.length (s.length + 1) f) ∧ ((c1) = false → (g) = f ∧ c1 = false ∧ ∀ ii, ii < (0) → ∀ kk, ii ≤ kk → kk ≤ s.length → BD (g) s x.r.body ii kk → (g) x.r.head.toNat ii kk = true)
     exact ⟨Nat.zero_le _, hJ2, hJ3, fun hc => ⟨(hJ4 hc).1, hc, fun ii h => absurd h (by omega)⟩⟩
   · exact ⟨rfl, rfl, rfl, rfl, rfl, rfl, rfl, trivial⟩
   · exact .refl _
   · exact fun _ h => h
   rintro ⟨i, g2, c2⟩ hinv
   have hinv : i ≤ s.length + 1 ∧ SoundD X.g s g2 ∧ (c2 = true → lack3 X.nts.length (s.length + 1) g2 < lack3 X.nts.length (s.length + 1) f) ∧ (c2 = false → g2 = f ∧ c1 = false ∧ ∀ ii, ii < i → ∀ kk, ii ≤ kk → kk ≤ s.length → BD g2 s x.r.body ii kk → g2 x.r.head.toNat ii kk = true) := hinv
   obtain ⟨hL1, hL2, hL3, hL4⟩ := hinv
   show Cont _ _ _ _ [(1, .slice As s.length cs), (2, .pointer (some ⟨b2, 0, none⟩)), (5, .slice (some ⟨T, 0, none⟩) X.nts.length X.nts.length), (6, .bool c2), (7, .int .i64 (k : Int)), (8, .int .i64 ((x.r.head.toNat : Nat) : Int)), (9, .int .i64 (i : Int))] ((iCells T 43 (hdm X.nts.length (s.length + 1) X.nts.length M) :: iCells b2 25 [.slice X.At X.terms.length X.ct, .slice X.An X.nts.length X.cn, .int .i64 X.start, .slice X.Ar X.xs.length X.cr] :: (fam X.nts.length (mid (s.length + 1) M R) ++ fam (X.nts.length * (s.length + 1)) (row3 (s.length + 1) R g2)))) (Sl 1 intF As s :: [Bd X.xs, Sl 3 ruF X.Ar X.xs, Sl 1 strF X.An X.nts, Sl 1 strF X.At X.terms])
   refine c_seq ?_
   refine c_seq ?_
   refine c_reg ?_
   refine l_q (by decide) (p_move rfl).q ?_
   refine l_q (by decide) (p_move rfl).q ?_
   refine l_q (by decide) (p_len_sl Try.underlying26 rfl).q ?_
   refine l_q (by decide) (p_leq rfl rfl rfl rfl).q ?_
   refine l_nil ?_
   refine c_dec rfl (fun h34 => ?_) (fun h34 => ?_)
   ·skip
    refine c_skip ?_
    refine c_seq ?_
    refine c_block ?_
    refine c_seq ?_
    refine c_reg ?_
    refine l_q (by decide) (p_move rfl).q ?_
    refine l_q (by decide) (p_assign rfl).q ?_
    refine l_nil ?_
    refine c_block ?_
    refine c_loop (S := Nat × T3 × Bool) (fun zs => i ≤ zs.1 ∧ zs.1 ≤ s.length + 1 ∧ SoundD X.g s zs.2.1 ∧ (zs.2.2 = true → lack3 X.nts.length (s.length + 1) zs.2.1 < lack3 X.nts.length (s.length + 1) f) ∧ (zs.2.2 = false → zs.2.1 = f ∧ c2 = false ∧ ∀ kk, i ≤ kk → kk < zs.1 → BD zs.2.1 s x.r.body i kk → zs.2.1 x.r.head.toNat i kk = true)) (fun zs => s.length + 1 - zs.1) (fun zs => [(1, .slice As s.length cs), (2, .pointer (some ⟨b2, 0, none⟩)), (5, .slice (some ⟨T, 0, none⟩) X.nts.length X.nts.length), (6, .bool zs.2.2), (7, .int .i64 (k : Int)), (8, .int .i64 ((x.r.head.toNat : Nat) : Int)), (9, .int .i64 (i : Int)), (10, .int .i64 (zs.1 : Int))]) (fun zs => (iCells T 43 (hdm X.nts.length (s.length + 1) X.nts.length M) :: iCells b2 25 [.slice X.At X.terms.length X.ct, .slice X.An X.nts.length X.cn, .int .i64 X.start, .slice X.Ar X.xs.length X.cr] :: (fam X.nts.length (mid (s.length + 1) M R) ++ fam (X.nts.length * (s.length + 1)) (row3 (s.length + 1) R zs.2.1)))) (fun zs => (Sl 1 intF As s :: [Bd X.xs, Sl 3 ruF X.Ar X.xs, Sl 1 strF X.An X.nts, Sl 1 strF X.At X.terms])) (i, g2, c2) ?_ ?_ ?_ ?_ ?_
    · show i ≤ (i) ∧ (i) ≤ s.length + 1 ∧ SoundD X.g s (g2) ∧ ((c2) = true → lack3 X.nts.length (s.length + 1) (g2) < lack3 X.nts.length (s.length + 1) f) ∧ ((c2) = false → (g2) = f ∧ c2 = false ∧ ∀ kk, i ≤ kk → kk < (i) → BD (g2) s x.r.body i kk → (g2) x.r.head.toNat i kk = true)
      exact ⟨Nat.le_refl _, by omega, hL2, hL3, fun hc => ⟨(hL4 hc).1, hc, fun kk h1 h2 => by omega⟩⟩
    · exact ⟨rfl, rfl, rfl, rfl, rfl, rfl, rfl, rfl, trivial⟩
    · exact .refl _
    · exact fun _ h => h
    rintro ⟨j, g3, c3⟩ hinv
    have hinv : i ≤ j ∧ j ≤ s.length + 1 ∧ SoundD X.g s g3 ∧ (c3 = true → lack3 X.nts.length (s.length + 1) g3 < lack3 X.nts.length (s.length + 1) f) ∧ (c3 = false → g3 = f ∧ c2 = false ∧ ∀ kk, i ≤ kk → kk < j → BD g3 s x.r.body i kk → g3 x.r.head.toNat i kk = true) := hinv
    obtain ⟨hM0, hM1, hM2, hM3, hM4⟩ := hinv
    show Cont _ _ _ _ [(1, .slice As s.length cs), (2, .pointer (some ⟨b2, 0, none⟩)), (5, .slice (some ⟨T, 0, none⟩) X.nts.length X.nts.length), (6, .bool c3), (7, .int .i64 (k : Int)), (8, .int .i64 ((x.r.head.toNat : Nat) : Int)), (9, .int .i64 (i : Int)), (10, .int .i64 (j : Int))] ((iCells T 43 (hdm X.nts.length (s.length + 1) X.nts.length M) :: iCells b2 25 [.slice X.At X.terms.length X.ct, .slice X.An X.nts.length X.cn, .int .i64 X.start, .slice X.Ar X.xs.length X.cr] :: (fam X.nts.length (mid (s.length + 1) M R) ++ fam (X.nts.length * (s.length + 1)) (row3 (s.length + 1) R g3)))) (Sl 1 intF As s :: [Bd X.xs, Sl 3 ruF X.Ar X.xs, Sl 1 strF X.An X.nts, Sl 1 strF X.At X.terms])
    refine c_seq ?_
    refine c_seq ?_
    refine c_reg ?_
    refine l_q (by decide) (p_move rfl).q ?_
    refine l_q (by decide) (p_move rfl).q ?_
    refine l_q (by decide) (p_len_sl Try.underlying26 rfl).q ?_
    refine l_q (by decide) (p_leq rfl rfl rfl rfl).q ?_
    refine l_nil ?_
    refine c_dec rfl (fun h41 => ?_) (fun h41 => ?_)
    ·skip
     have hiL : i < s.length + 1 := by omega
     have hjL : j < s.length + 1 := by omega
     have hix := idx3 hh2 hiL
     refine c_skip ?_
     refine c_seq ?_
     refine c_block ?_
     refine c_seq ?_
     refine c_reg ?_
     refine l_q (by decide) (p_move rfl).q ?_
     refine l_q (by decide) (p_move rfl).q ?_
     refine l_q (by decide) (p_indexo Try.underlying44 inf_43 rfl rfl rfl (by omega)).q ?_
     refine l_q (by decide) (r_loado Try.underlying43 rfl rfl (by repeat constructor) (hdm_at hh2 hh2)).q ?_
     refine l_q (by decide) (p_move rfl).q ?_
     refine l_q (by decide) (p_indexo Try.underlying43 inf_42 rfl rfl rfl (by omega)).q ?_
     refine l_q (by decide) (r_loado Try.underlying42 rfl rfl (List.mem_cons_of_mem _ (List.mem_cons_of_mem _ (List.mem_append.2 (.inl (mem_fam hh2))))) (hdm_at hiL hiL)).q ?_
     refine l_q (by decide) (p_move rfl).q ?_
     refine l_q (by decide) (p_indexo Try.underlying42 inf_4 rfl rfl rfl (by omega)).q ?_
     refine l_q (by decide) (((r_loado Try.underlying4 rfl rfl (List.mem_cons_of_mem _ (List.mem_cons_of_mem _ (List.mem_append.2 (.inr (mem_fam hix.1))))) (bl_at hjL))).to (u := .bool (g3 x.r.head.toNat i j)) (by rw [hix.2.1, hix.2.2])).q ?_
     refine l_q (by decide) (p_not rfl).q ?_
     refine l_q (by decide) (p_move rfl).q ?_
     refine l_splitb (t := 55) rfl (fun h55 => ?_) (fun h55 => ?_)
     ·skip
      refine l_g (j := 11) rfl rfl (by decide) (p_move rfl).q ?_
      refine l_g (j := 11) rfl rfl (by decide) (p_move rfl).q ?_
      refine l_g (j := 11) rfl rfl (by decide) (p_faddro (i := 3) 3 Try.underlying25 rfl inf_23 (by decide) rfl rfl).q ?_
      refine l_g (j := 11) rfl rfl (by decide) (r_loado Try.underlying23 rfl rfl (by repeat constructor) (by rfl)).q ?_
      refine l_g (j := 11) rfl rfl (by decide) (p_move rfl).q ?_
      refine l_g (j := 11) rfl rfl (by decide) (r_index Try.underlying23 inf_49 rfl rfl rfl (by exact .fact (by repeat constructor)) rfl (by omega)).q ?_
      refine l_g (j := 11) rfl rfl (by decide) (p_faddr (i := 1) 1 Try.underlying49 rfl inf_26 (by decide) rfl rfl).q ?_
      refine l_g (j := 11) rfl rfl (by decide) (r_loadf Try.underlying26 rfl rfl (by exact .fact (by repeat constructor)) (by assumption) (by rfl)).q ?_
      refine l_g (j := 11) rfl rfl (by decide) (p_move rfl).q ?_
      refine l_g (j := 11) rfl rfl (by decide) (p_move rfl).q ?_
      refine l_g (j := 11) rfl rfl (by decide) (q_call call_40 rfl (fun w hs => body_ok g3 s X.nts.length T M R As cs j (by omega) (by omega) (by omega) 1000 x.r.body x.A x.c i w (by omega) (Nat.le_refl _) hbc (fun y hy h0 => ok.nt_lt (rule_mem hx) hy h0) (by omega) ((hs.facts (Bd X.xs) (by repeat constructor)).1 k x hx) (tm_own hs) (hs.facts (Sl 1 intF As s) (by repeat constructor)).1)) ?_
      refine l_q (by decide) (p_pick rfl rfl).q ?_
      refine l_nil ?_
      refine c_cond rfl (fun h67 => ?_) (fun h67 => ?_)
      ·skip
       refine c_reg ?_
       refine l_q (by decide) (p_move rfl).q ?_
       refine l_q (by decide) (p_move rfl).q ?_
       refine l_q (by decide) (p_indexo Try.underlying44 inf_43 rfl rfl rfl (by omega)).q ?_
       refine l_q (by decide) (r_loado Try.underlying43 rfl rfl (by repeat constructor) (hdm_at hh2 hh2)).q ?_
       refine l_q (by decide) (p_move rfl).q ?_
       refine l_q (by decide) (p_indexo Try.underlying43 inf_42 rfl rfl rfl (by omega)).q ?_
       refine l_q (by decide) (r_loado Try.underlying42 rfl rfl (List.mem_cons_of_mem _ (List.mem_cons_of_mem _ (List.mem_append.2 (.inl (mem_fam hh2))))) (hdm_at hiL hiL)).q ?_
       refine l_q (by decide) (p_move rfl).q ?_
       refine l_q (by decide) (p_indexo Try.underlying42 inf_4 rfl rfl rfl (by omega)).q ?_
       refine l_perm (row_out (iCells T 43 _ :: iCells b2 25 _ :: fam _ (mid _ M R)) hh2 hiL) ?_
       refine l_store inf_4 rfl rfl rfl rfl (by rw [bl_len, Nat.mul_one]; exact hjL) ?_
       refine l_q (by decide) (p_assign rfl).q ?_
       refine l_nil ?_
       refine c_reg ?_
       refine l_q (by decide) (p_move rfl).q ?_
       refine l_q (by decide) (p_add (j := 1) rfl rfl rfl rfl (by show _ ≤ (9223372036854775807 : Nat); omega)).q ?_
       refine l_q (by decide) (p_assign rfl).q ?_
       refine l_nil ?_
       refine c_join ((j + 1), (upd3 g3 x.r.head.toNat i j), (true)) ?_ ?_ ?_ ?_
       ·show (i ≤ (j + 1) ∧ (j + 1) ≤ s.length + 1 ∧ SoundD X.g s (upd3 g3 x.r.head.toNat i j) ∧ ((true) = true → lack3 X.nts.length (s.length + 1) (upd3 g3 x.r.head.toNat i j) < lack3 X.nts.length (s.length + 1) f) ∧ ((true) = false → (upd3 g3 x.r.head.toNat i j) = f ∧ c2 = false ∧ ∀ kk, i ≤ kk → kk < (j + 1) → BD (upd3 g3 x.r.head.toNat i j) s x.r.body i kk → (upd3 g3 x.r.head.toNat i j) x.r.head.toNat i kk = true)) ∧ s.length + 1 - (j + 1) < s.length + 1 - j
        refine ⟨⟨by omega, by omega, soundD_step hM2 (rule_mem hx) (ok.h0 _ (rule_mem hx)) (by omega) h67, fun _ => ?_, fun h => (by cases h)⟩, by omega⟩
        have hl := lack3_upd hh2 hiL hjL (by simpa using h55)
        cases c3 with
        | true => have := hM3 rfl; omega
        | false => rw [(hM4 rfl).1] at hl ⊢; exact hl
       · exact ⟨rfl, rfl, rfl, rfl, rfl, rfl, rfl, rfl, trivial⟩
       ·show List.Perm _ ((iCells T 43 (hdm X.nts.length (s.length + 1) X.nts.length M) :: iCells b2 25 [.slice X.At X.terms.length X.ct, .slice X.An X.nts.length X.cn, .int .i64 X.start, .slice X.Ar X.xs.length X.cr] :: (fam X.nts.length (mid (s.length + 1) M R) ++ fam (X.nts.length * (s.length + 1)) (row3 (s.length + 1) R (upd3 g3 x.r.head.toNat i j)))))
        exact row_in (iCells T 43 _ :: iCells b2 25 _ :: fam _ (mid _ M R)) hh2 hiL
       · exact fun _ h => h
      ·skip
       refine c_skip ?_
       refine c_reg ?_
       refine l_q (by decide) (p_move rfl).q ?_
       refine l_q (by decide) (p_add (j := 1) rfl rfl rfl rfl (by show _ ≤ (9223372036854775807 : Nat); omega)).q ?_
       refine l_q (by decide) (p_assign rfl).q ?_
       refine l_nil ?_
       refine c_join ((j + 1), (g3), (c3)) ?_ ?_ ?_ ?_
       ·show (i ≤ (j + 1) ∧ (j + 1) ≤ s.length + 1 ∧ SoundD X.g s (g3) ∧ ((c3) = true → lack3 X.nts.length (s.length + 1) (g3) < lack3 X.nts.length (s.length + 1) f) ∧ ((c3) = false → (g3) = f ∧ c2 = false ∧ ∀ kk, i ≤ kk → kk < (j + 1) → BD (g3) s x.r.body i kk → (g3) x.r.head.toNat i kk = true)) ∧ s.length + 1 - (j + 1) < s.length + 1 - j
        refine ⟨⟨by omega, by omega, hM2, hM3, fun hc => ⟨(hM4 hc).1, (hM4 hc).2.1, fun kk h1 h2 => ?_⟩⟩, by omega⟩
        by_cases e : kk = j
        · subst e; exact fun hb => by rw [show bdB g3 s x.r.body i kk = true from Ana.dec_true hb] at h67; cases h67
        · exact (hM4 hc).2.2 kk h1 (by omega)
       · exact ⟨rfl, rfl, rfl, rfl, rfl, rfl, rfl, rfl, trivial⟩
       ·show List.Perm _ ((iCells T 43 (hdm X.nts.length (s.length + 1) X.nts.length M) :: iCells b2 25 [.slice X.At X.terms.length X.ct, .slice X.An X.nts.length X.cn, .int .i64 X.start, .slice X.Ar X.xs.length X.cr] :: (fam X.nts.length (mid (s.length + 1) M R) ++ fam (X.nts.length * (s.length + 1)) (row3 (s.length + 1) R (g3)))))
        repeat (first | exact List.Perm.refl _ | refine List.Perm.cons _ ?_ | refine (front1 _ _ _).trans (List.Perm.cons _ ?_) | refine (front2 _ _ _ _).trans (List.Perm.cons _ ?_) | refine (front3 _ _ _ _ _).trans (List.Perm.cons _ ?_) | refine (front4 _ _ _ _ _ _).trans (List.Perm.cons _ ?_))
       · exact fun _ h => h
     ·skip
      refine l_off (j := 11) rfl rfl (by (simp; done)) (by decide) ?_
      refine l_off (j := 11) rfl rfl (by (simp; done)) (by decide) ?_
      refine l_off (j := 11) rfl rfl (by (simp; done)) (by decide) ?_
      refine l_off (j := 11) rfl rfl (by (simp; done)) (by decide) ?_
      refine l_off (j := 11) rfl rfl (by (simp; done)) (by decide) ?_
      refine l_off (j := 11) rfl rfl (by (simp; done)) (by decide) ?_
      refine l_off (j := 11) rfl rfl (by (simp; done)) (by decide) ?_
      refine l_off (j := 11) rfl rfl (by (simp; done)) (by decide) ?_
      refine l_off (j := 11) rfl rfl (by (simp; done)) (by decide) ?_
      refine l_off (j := 11) rfl rfl (by (simp; done)) (by decide) ?_
      refine l_off (j := 11) rfl rfl (by (simp; done)) (by decide) ?_
      refine l_q (by decide) (p_pick rfl rfl).q ?_
      refine l_nil ?_
      refine c_false rfl ?_
      refine c_skip ?_
      refine c_reg ?_
      refine l_q (by decide) (p_move rfl).q ?_
      refine l_q (by decide) (p_add (j := 1) rfl rfl rfl rfl (by show _ ≤ (9223372036854775807 : Nat); omega)).q ?_
      refine l_q (by decide) (p_assign rfl).q ?_
      refine l_nil ?_
      refine c_join ((j + 1), (g3), (c3)) ?_ ?_ ?_ ?_
      ·show (i ≤ (j + 1) ∧ (j + 1) ≤ s.length + 1 ∧ SoundD X.g s (g3) ∧ ((c3) = true → lack3 X.nts.length (s.length + 1) (g3) < lack3 X.nts.length (s.length + 1) f) ∧ ((c3) = false → (g3) = f ∧ c2 = false ∧ ∀ kk, i ≤ kk → kk < (j + 1) → BD (g3) s x.r.body i kk → (g3) x.r.head.toNat i kk = true)) ∧ s.length + 1 - (j + 1) < s.length + 1 - j
       refine ⟨⟨by omega, by omega, hM2, hM3, fun hc => ⟨(hM4 hc).1, (hM4 hc).2.1, fun kk h1 h2 => ?_⟩⟩, by omega⟩
       by_cases e : kk = j
       · subst e; exact fun _ => by simpa using h55
       · exact (hM4 hc).2.2 kk h1 (by omega)
      · exact ⟨rfl, rfl, rfl, rfl, rfl, rfl, rfl, rfl, trivial⟩
      ·show List.Perm _ ((iCells T 43 (hdm X.nts.length (s.length + 1) X.nts.length M) :: iCells b2 25 [.slice X.At X.terms.length X.ct, .slice X.An X.nts.length X.cn, .int .i64 X.start, .slice X.Ar X.xs.length X.cr] :: (fam X.nts.length (mid (s.length + 1) M R) ++ fam (X.nts.length * (s.length + 1)) (row3 (s.length + 1) R (g3)))))
       repeat (first | exact List.Perm.refl _ | refine List.Perm.cons _ ?_ | refine (front1 _ _ _).trans (List.Perm.cons _ ?_) | refine (front2 _ _ _ _).trans (List.Perm.cons _ ?_) | refine (front3 _ _ _ _ _).trans (List.Perm.cons _ ?_) | refine (front4 _ _ _ _ _ _).trans (List.Perm.cons _ ?_))
      · exact fun _ h => h
    ·skip
     refine c_exit ?_
     refine c_here ?_
     refine c_reg ?_
     refine l_q (by decide) (p_move rfl).q ?_
     refine l_q (by decide) (p_add (j := 1) rfl rfl rfl rfl (by show _ ≤ (9223372036854775807 : Nat); omega)).q ?_
     refine l_q (by decide) (p_assign rfl).q ?_
     refine l_nil ?_
     refine c_join ((i + 1), (g3), (c3)) ?_ ?_ ?_ ?_
     ·show ((i + 1) ≤ s.length + 1 ∧ SoundD X.g s (g3) ∧ ((c3) = true → lack3 X.nts.length (s.length + 1) (g3) < lack3 X.nts.length (s.length + 1) f) ∧ ((c3) = false → (g3) = f ∧ c1 = false ∧ ∀ ii, ii < (i + 1) → ∀ kk, ii ≤ kk → kk ≤ s.length → BD (g3) s x.r.body ii kk → (g3) x.r.head.toNat ii kk = true)) ∧ s.length + 1 - (i + 1) < s.length + 1 - i
      refine ⟨⟨by omega, hM2, hM3, fun hc => ⟨(hM4 hc).1, (hL4 (hM4 hc).2.1).2.1, fun ii h1 kk h2 h3 h4 => ?_⟩⟩, by omega⟩
      by_cases e : ii = i
      · subst e; exact (hM4 hc).2.2 kk h2 (by omega) h4
      · have := (hL4 (hM4 hc).2.1).2.2 ii (by omega) kk h2 h3
        rw [(hL4 (hM4 hc).2.1).1, ← (hM4 hc).1] at this; exact this h4
     · exact ⟨rfl, rfl, rfl, rfl, rfl, rfl, rfl, trivial⟩
     ·show List.Perm _ ((iCells T 43 (hdm X.nts.length (s.length + 1) X.nts.length M) :: iCells b2 25 [.slice X.At X.terms.length X.ct, .slice X.An X.nts.length X.cn, .int .i64 X.start, .slice X.Ar X.xs.length X.cr] :: (fam X.nts.length (mid (s.length + 1) M R) ++ fam (X.nts.length * (s.length + 1)) (row3 (s.length + 1) R (g3)))))
      exact .refl _
     · exact fun _ h => h
   ·skip
    refine c_exit ?_
    refine c_here ?_
    refine c_reg ?_
    refine l_q (by decide) (p_move rfl).q ?_
    refine l_q (by decide) (p_add (j := 1) rfl rfl rfl rfl (by show _ ≤ (9223372036854775807 : Nat); omega)).q ?_
    refine l_q (by decide) (p_assign rfl).q ?_
    refine l_nil ?_
    refine c_join ((k + 1), (g2), (c2)) ?_ ?_ ?_ ?_
    ·show ((k + 1) ≤ X.xs.length ∧ SoundD X.g s (g2) ∧ ((c2) = true → lack3 X.nts.length (s.length + 1) (g2) < lack3 X.nts.length (s.length + 1) f) ∧ ((c2) = false → (g2) = f ∧ ∀ zz, zz ∈ X.xs.take (k + 1) → GoodD s zz (g2))) ∧ X.xs.length - (k + 1) < X.xs.length - k
     refine ⟨⟨by omega, hL2, hL3, fun hc => ⟨(hL4 hc).1, fun zz hz => ?_⟩⟩, by omega⟩
     rw [take_at hx] at hz
     rcases List.mem_append.1 hz with h5 | h5
     · have := (hJ4 (hL4 hc).2.1).2 zz h5
       rw [(hL4 hc).1, ← (hJ4 (hL4 hc).2.1).1]; exact this
     · rw [List.mem_singleton.1 h5]; exact fun ii kk h1 h2 h3 => (hL4 hc).2.2 ii (by omega) kk h1 h2 h3
    · exact ⟨rfl, rfl, rfl, rfl, rfl, trivial⟩
    ·show List.Perm _ ((iCells T 43 (hdm X.nts.length (s.length + 1) X.nts.length M) :: iCells b2 25 [.slice X.At X.terms.length X.ct, .slice X.An X.nts.length X.cn, .int .i64 X.start, .slice X.Ar X.xs.length X.cr] :: (fam X.nts.length (mid (s.length + 1) M R) ++ fam (X.nts.length * (s.length + 1)) (row3 (s.length + 1) R (g2)))))
     exact .refl _
    · exact fun _ h => h
  ·skip
   refine c_exit ?_
   refine c_here ?_
   rw [List.take_of_length_le (by omega)] at hJ4
   refine c_join ((g), (c1)) ?_ ?_ ?_ ?_
   ·show (SoundD X.g s (g) ∧ ((c1) = false → ∀ zz, zz ∈ X.xs → GoodD s zz (g))) ∧ 2 * lack3 X.nts.length (s.length + 1) (g) + (c1).toNat < 2 * lack3 X.nts.length (s.length + 1) f + ch.toNat
    subst h17
    refine ⟨⟨hJ2, fun hc => (hJ4 hc).2⟩, ?_⟩
    cases c1 with
    | true => have := hJ3 rfl; simp only [Bool.toNat_true]; omega
    | false => have := (hJ4 rfl).1; subst this; simp only [Bool.toNat_true, Bool.toNat_false]; omega
   · exact ⟨rfl, rfl, rfl, rfl, trivial⟩
   ·show List.Perm _ ((iCells T 43 (hdm X.nts.length (s.length + 1) X.nts.length M) :: iCells b2 25 [.slice X.At X.terms.length X.ct, .slice X.An X.nts.length X.cn, .int .i64 X.start, .slice X.Ar X.xs.length X.cr] :: (fam X.nts.length (mid (s.length + 1) M R) ++ fam (X.nts.length * (s.length + 1)) (row3 (s.length + 1) R (g)))))
    exact .refl _
   · exact fun _ h => h
 ·skip
  refine c_exit ?_
  refine c_here ?_
  refine c_seq ?_
  refine c_reg ?_
  refine l_q (by decide) (p_move rfl).q ?_
  refine l_q (by decide) (p_assign rfl).q ?_
  refine l_nil ?_
  refine c_ret ?_
  refine c_ret1 rfl rfl (fun w hs => ?_)
  rw [dr_full hI1 (hI2 (by simpa using h17))] at hs
  exact ⟨(T, M, R), rfl, tm_own hs, tm_new hs, hs.ext⟩
end Go.Proofs.Ytncagpppmaehhaa
