/- The walks of analysis, fifth part; conditions: lengths. -/
import Derived.Test.YtidbhgolhiaijaaWalksC
import Derived.Test.YtidbhgolhiaijaaFxN
namespace Go.Proofs.Ytidbhgolhiaijaa
open Go Go.Fx Go.Proofs

abbrev NF := Nat → Nat
abbrev MF := Nat → Nat → Bool
/-- the rows of a table: the first k are there -/
def hdr (n k : Nat) (B : NF) : List Value := Ana.mkl n fun i => if i < k then .slice (some ⟨B i, 0, none⟩) n n else .slice none 0 0
theorem hdr_rep (n : Nat) (B : NF) : List.replicate n (Value.slice none 0 0) = hdr n 0 B := by
  unfold hdr
  rw [show List.replicate n (Value.slice none 0 0) = Ana.mkl n (fun _ => Value.slice none 0 0) from Ana.mkl_rep ..]
  exact Ana.mkl_ext fun j _ => by rw [if_neg (by omega)]
theorem hdr_len (n k : Nat) (B : NF) : (hdr n k B).length = n := Ana.mkl_len _ _
theorem hdr_at {n i : Nat} {B : NF} (h : i < n) : (hdr n n B)[i * 1]? = some (.slice (some ⟨B i, 0, none⟩) n n) := by
  rw [Nat.mul_one, hdr, Ana.mkl_at h, if_pos h]
theorem hdr_set {n k b : Nat} {B : NF} : (hdr n k B).set (k * 1) (.slice (some ⟨b, 0, none⟩) n n) = hdr n (k + 1) (Ana.upd B k b) := by
  rw [Nat.mul_one, hdr, Ana.mkl_set]
  refine Ana.mkl_ext fun j _ => ?_
  unfold Ana.upd
  by_cases e : j = k
  · simp [e]
  · by_cases h : j < k
    · simp [e, h, show j < k + 1 by omega]
    · simp [e, h, show ¬ j < k + 1 by omega]
def mrow (n : Nat) (B : NF) (f : MF) (i : Nat) : Fx.Item := iCells (B i) 4 (bl n (f i))
theorem bl_ext {n : Nat} {f g : Nat → Bool} (h : ∀ j, j < n → f j = g j) : bl n f = bl n g := by unfold bl; rw [Ana.mkl_ext h]
theorem mrow_congr {n i : Nat} {B : NF} {f g : MF} (h : ∀ j, j < n → f i j = g i j) : mrow n B f i = mrow n B g i := by unfold mrow; rw [bl_ext h]
def upd2 (f : MF) (i j : Nat) (v : Bool) : MF := Ana.upd f i (Ana.upd (f i) j v)
theorem upd2_row (f : MF) (i j : Nat) (v : Bool) : upd2 f i j v i = Ana.upd (f i) j v := by simp [upd2, Ana.upd]
theorem upd2_other {f : MF} {i j : Nat} {v : Bool} {a : Nat} (h : a ≠ i) : upd2 f i j v a = f a := by simp [upd2, Ana.upd, h]
theorem upd2_iff {f : MF} {i j a b : Nat} : upd2 f i j true a b = true ↔ f a b = true ∨ (a = i ∧ b = j) := by
  unfold upd2 Ana.upd
  by_cases e : a = i
  · subst e
    by_cases e2 : b = j
    · simp [e2]
    · simp [e2]
  · simp [e]
theorem row_upd {n i j : Nat} {B : NF} {f : MF} : iCells (B i) 4 ((bl n (f i)).set (j * 1) (.bool true)) = mrow n B (upd2 f i j true) i := by rw [bl_set]; unfold mrow; rw [upd2_row]
theorem w_set {n m i j : Nat} {B : NF} {W : MF} {v : Bool} (hv : v = Ana.wpass m W i j) : iCells (B i) 4 ((bl n (Ana.wmid m W i j i)).set (j * 1) (.bool v)) = mrow n B (Ana.wmid m W i (j + 1)) i := by
  rw [bl_set]
  unfold mrow
  congr 1
  refine bl_ext fun b _ => ?_
  unfold Ana.upd Ana.wmid
  by_cases e : b = j
  · simp [e, hv]
  · simp only [e, if_false]
    by_cases h : b < j
    · simp [h, show b < j + 1 by omega]
    · simp [h, show ¬ b < j + 1 by omega]
theorem w_other {n m i j a : Nat} {B : NF} {W : MF} (h : a ≠ i) : mrow n B (Ana.wmid m W i j) a = mrow n B (Ana.wmid m W i (j + 1)) a := mrow_congr fun b _ => by
  unfold Ana.wmid
  by_cases h2 : a < i
  · rw [if_pos (.inl h2), if_pos (.inl h2)]
  · rw [if_neg (by omega), if_neg (by omega)]
theorem w_start (m : Nat) (W : MF) : Ana.wmid m W 0 0 = W := by
  funext a b
  unfold Ana.wmid
  rw [if_neg (by omega)]
theorem w_row {n m i a : Nat} {B : NF} {W : MF} : mrow n B (Ana.wmid m W i n) a = mrow n B (Ana.wmid m W (i + 1) 0) a := mrow_congr fun b hb => by
  unfold Ana.wmid
  by_cases h : a < i ∨ (a = i ∧ b < n)
  · rw [if_pos h, if_pos (by omega)]
  · rw [if_neg h, if_neg (by omega)]
theorem w_end {n m a : Nat} {B : NF} {W : MF} (ha : a < n) : mrow n B (Ana.wmid m W n 0) a = mrow n B (Ana.wpass m W) a := mrow_congr fun b _ => by
  unfold Ana.wmid
  rw [if_pos (.inl ha)]
theorem w_1 {m i j : Nat} {W : MF} (h : Ana.wmid m W i j i j = true) : true = Ana.wpass m W i j := by rw [Ana.wmid_at] at h; simp [Ana.wpass, h]
theorem w_2 {m i j : Nat} {W : MF} (h : Ana.wmid m W i j i j = false) (h2 : Ana.wmid m W i j i m = true) : Ana.wmid m W i j m j = Ana.wpass m W i j := by
  rw [Ana.wmid_at] at h; rw [Ana.wmid_col] at h2; rw [Ana.wmid_row]; simp [Ana.wpass, h, h2]
theorem w_3 {m i j : Nat} {W : MF} (h : Ana.wmid m W i j i j = false) (h2 : Ana.wmid m W i j i m = false) : false = Ana.wpass m W i j := by
  rw [Ana.wmid_at] at h; rw [Ana.wmid_col] at h2; simp [Ana.wpass, h, h2]
/-! what the rules say -/
def SoundC (X : GI) (f : MF) : Prop := ∀ i j, f i j = true → Ana.oneP X.g (Ana.pn X.g false) i j
def FullC (X : GI) (x : XR) (f : MF) (m : Nat) : Prop := ∀ p, p < m → ∀ i j, Ana.oneAt (Ana.pn X.g false) x.r p i j → f i j = true
theorem SoundC.step {X : GI} {f : MF} (h : SoundC X f) {x : XR} (hx : x ∈ X.xs) {p i j : Nat} (ho : Ana.oneAt (Ana.pn X.g false) x.r p i j) : SoundC X (upd2 f i j true) := fun a b hab => by
  rcases upd2_iff.1 hab with h1 | ⟨rfl, rfl⟩
  · exact h a b h1
  · exact ⟨x.r, mem_g hx, p, ho⟩
theorem FullC.mono {X : GI} {x : XR} {f g : MF} {m : Nat} (h : FullC X x f m) (hg : ∀ i j, f i j = true → g i j = true) : FullC X x g m := fun p hp i j ho => hg i j (h p hp i j ho)
theorem FullC.step {X : GI} {x : XR} {f : MF} {m : Nat} (h : FullC X x f m) (hm : ∀ i j, Ana.oneAt (Ana.pn X.g false) x.r m i j → f i j = true) : FullC X x f (m + 1) := fun p hp i j ho => by
  by_cases e : p = m
  · subst e; exact hm i j ho
  · exact h p (by omega) i j ho
theorem one_full {X : GI} {f : MF} (hs : SoundC X f) (hf : ∀ x, x ∈ X.xs → FullC X x f x.r.body.length) : f = Ana.one X.g (Ana.pn X.g false) := by
  funext i j
  refine Ana.eq_dec ⟨hs i j, fun ⟨r, hr, p, ho⟩ => ?_⟩
  obtain ⟨x, hx, rfl⟩ := List.mem_map.1 hr
  obtain ⟨y, hy, _⟩ := ho.2
  exact hf x hx p (List.getElem?_eq_some_iff.1 hy).1 i j ho
theorem oneAt_of {X : GI} {x : XR} {m : Nat} {y : Int} (hy : x.r.body[m]? = some y) (h0 : y < 0) (h1 : Ana.allG false (Ana.pn X.g false) (x.r.body.take m) = true) (h2 : Ana.allG false (Ana.pn X.g false) (x.r.body.drop (m + 1)) = true) : Ana.oneAt (Ana.pn X.g false) x.r m x.r.head.toNat (Ana.nt y) := ⟨rfl, y, hy, h0, rfl, h1, h2⟩
theorem of_oneAt {X : GI} {x : XR} {m : Nat} {y : Int} (hy : x.r.body[m]? = some y) {i j : Nat} (h : Ana.oneAt (Ana.pn X.g false) x.r m i j) : (i = x.r.head.toNat ∧ j = Ana.nt y) ∧ y < 0 ∧ Ana.allG false (Ana.pn X.g false) (x.r.body.take m) = true ∧ Ana.allG false (Ana.pn X.g false) (x.r.body.drop (m + 1)) = true := by
  obtain ⟨h1, z, h2, h3, h4, h5, h6⟩ := h
  rw [hy] at h2
  injection h2 with h2
  subst h2
  exact ⟨⟨h1.symm, h4.symm⟩, h3, h5, h6⟩
section
variable {P : Program} {w0 : World} {K : List Nat} {n : Sz} {N : Act → World → Prop} {L : Slots} {σ : Fx.Own} {ρ : Fx.Facts}
theorem st_body {w : World} {xs : List XR} (hs : St w0 K w σ ρ) (hq : Bd xs ∈ ρ) {k : Nat} {x : XR} (hx : xs[k]? = some x) : St w0 K w σ (Sl 1 intF x.A x.r.body :: ρ) := by
  refine ⟨hs.ext, hs.nodup, hs.own, fun p hp => ?_⟩
  rcases List.mem_cons.1 hp with rfl | hp
  · obtain ⟨h0, S, h1, h2, h3⟩ := hs.facts _ hq
    refine ⟨h0 k x hx, ?_⟩
    by_cases hne : x.r.body = []
    · rw [hne]; exact ⟨fun _ => False, fun _ h => h.elim, fun _ w2 _ _ => Sl.nil _ _ _ w2, fun _ _ h => h⟩
    · obtain ⟨b, off, hA, _⟩ := (h0 k x hx).lt (by decide) hne
      have hb : S b := key_in h2 h0 (fun w hw => by
        obtain ⟨e0, he0⟩ : ∃ e0, x.r.body[0]? = some e0 := by
          cases hb : x.r.body with
          | nil => exact absurd hb hne
          | cons y l => exact ⟨y, rfl⟩
        obtain ⟨_, b', off', g2, g3⟩ := hw k x hx 0 e0 he0
        rw [hA] at g2; injection g2 with g2; injection g2 with g4 g5; subst g4
        have g6 := g3 0 _ (by show (intF e0)[0]? = _; rfl)
        simp only [World.cell?] at g6
        split at g6
        · rename_i cs t m hc; exact ⟨cs, t, m, hc⟩
        · cases g6)
      refine ⟨S, h1, fun w1 w2 hbb hw => (Sl.dep (lo := b) (hi := b + 1) fun a ha => ?_) w1 w2 (fun k hk1 hk2 => by rw [show k = b by omega]; exact hbb b hb) hw, h3⟩
      rw [hA] at ha; injection ha with ha; subst ha; exact ⟨Nat.le_refl _, Nat.lt_succ_self _⟩
  · exact hs.facts p hp
/-- the body of a rule, cut at m -/
theorem c_body {xs : List XR} (hq : Bd xs ∈ ρ) {k m : Nat} {x : XR} (hx : xs[k]? = some x) (hc : x.r.body.length ≤ x.c) (h : Cont w0 K n N L σ (Sl 1 intF (subA x.A x.c (m + 1) 1) (x.r.body.drop (m + 1)) :: Sl 1 intF (subA x.A x.c 0 1) (x.r.body.take m) :: ρ)) : Cont w0 K n N L σ ρ := by
  refine c_facts (Sl 1 intF x.A x.r.body :: ρ) (fun w hs => st_body hs hq hx) ?_
  refine c_part Try.prog x.c 0 m (List.mem_cons_self ..) hc (by decide) ?_
  refine c_part Try.prog x.c (m + 1) x.r.body.length (List.mem_cons_of_mem _ (List.mem_cons_self ..)) hc (by decide) ?_
  refine c_facts _ (fun w hs => hs.weak ?_) h
  rw [List.drop_zero, show List.take x.r.body.length (List.drop (m + 1) x.r.body) = List.drop (m + 1) x.r.body from List.take_of_length_le (by rw [List.length_drop]; omega)]
  intro q hq
  rcases List.mem_cons.1 hq with rfl | hq
  · exact List.mem_cons_self ..
  · rcases List.mem_cons.1 hq with rfl | hq
    · exact List.mem_cons_of_mem _ (List.mem_cons_self ..)
    · exact List.mem_cons_of_mem _ (List.mem_cons_of_mem _ (List.mem_cons_of_mem _ hq))
end

theorem rest_all (f : Nat → Bool) (l m : List Int) : (([] ++ l) ++ m).all (Ana.good false f) = true ↔ Ana.allG false f l = true ∧ Ana.allG false f m = true := by
  rw [List.nil_append, List.all_append, Bool.and_eq_true]; rfl
def fl (n : Nat) (f : MF) : Nat → Bool := fun p => f (p / n) (p % n)
theorem fl_at {n i j : Nat} {f : MF} (h : j < n) : fl n f (i * n + j) = f i j := by
  unfold fl
  rw [Nat.mul_comm i n, Nat.mul_add_div (by omega), Nat.div_eq_of_lt h, Nat.mul_add_mod, Nat.mod_eq_of_lt h, Nat.add_zero]
theorem idx_lt {n i j : Nat} (hi : i < n) (hj : j < n) : i * n + j < n * n := by
  have h := Nat.mul_le_mul_right n (show i + 1 ≤ n by omega)
  rw [Nat.add_mul] at h
  omega
theorem fl_upd {n i j : Nat} {f : MF} {v : Bool} (h : j < n) : Ana.upd (fl n f) (i * n + j) v = fl n (upd2 f i j v) := by
  funext p
  by_cases e : p = i * n + j
  · subst e
    rw [fl_at h, upd2_row]
    simp [Ana.upd]
  · have h2 : Ana.upd (fl n f) (i * n + j) v p = fl n f p := by simp [Ana.upd, e]
    rw [h2]
    unfold fl upd2 Ana.upd
    by_cases e1 : p / n = i
    · subst e1
      have h3 := Nat.div_add_mod p n
      rw [Nat.mul_comm] at h3
      rw [if_pos rfl, if_neg (by omega)]
    · rw [if_neg e1]
theorem w_upd {m i j : Nat} {W : MF} {v : Bool} (hv : v = Ana.wpass m W i j) : upd2 (Ana.wmid m W i j) i j v = Ana.wmid m W i (j + 1) := by
  funext a b
  subst hv
  unfold upd2 Ana.upd
  by_cases e : a = i
  · subst e
    rw [if_pos rfl]
    by_cases e2 : b = j
    · subst e2
      rw [if_pos rfl]
      unfold Ana.wmid
      rw [if_pos (by omega)]
    · rw [if_neg e2]
      unfold Ana.wmid
      by_cases h : b < j
      · rw [if_pos (by omega), if_pos (by omega)]
      · rw [if_neg (by omega), if_neg (by omega)]
  · rw [if_neg e]
    unfold Ana.wmid
    by_cases h : a < i
    · rw [if_pos (.inl h), if_pos (.inl h)]
    · rw [if_neg (by omega), if_neg (by omega)]
theorem w_same {m i j : Nat} {W : MF} (hv : Ana.wmid m W i j i j = Ana.wpass m W i j) : Ana.wmid m W i j = Ana.wmid m W i (j + 1) := by
  rw [← w_upd hv]
  funext a b
  unfold upd2 Ana.upd
  by_cases e : a = i
  · subst e
    by_cases e2 : b = j
    · subst e2; rw [if_pos rfl, if_pos rfl]
    · rw [if_pos rfl, if_neg e2]
  · rw [if_neg e]
theorem w_t {m i j : Nat} {W : MF} (h : Ana.wmid m W i j i m = true) (h2 : Ana.wmid m W i j m j = true) : true = Ana.wpass m W i j := by rw [Ana.wmid_col] at h; rw [Ana.wmid_row] at h2; simp [Ana.wpass, h, h2]
theorem w_f1 {m i j : Nat} {W : MF} (h : Ana.wmid m W i j i m = false) : Ana.wmid m W i j i j = Ana.wpass m W i j := by rw [Ana.wmid_col] at h; rw [Ana.wmid_at]; simp [Ana.wpass, h]
theorem w_f2 {m i j : Nat} {W : MF} (h : Ana.wmid m W i j m j = false) : Ana.wmid m W i j i j = Ana.wpass m W i j := by rw [Ana.wmid_row] at h; rw [Ana.wmid_at]; simp [Ana.wpass, h]
theorem flw_row {n m i : Nat} {W : MF} (hn : 0 < n) : bl (n * n) (fl n (Ana.wmid m W i n)) = bl (n * n) (fl n (Ana.wmid m W (i + 1) 0)) := bl_ext fun p _ => by
  have h1 := Nat.mod_lt p hn
  unfold fl Ana.wmid
  by_cases h : p / n < i ∨ (p / n = i ∧ p % n < n)
  · rw [if_pos h, if_pos (by omega)]
  · rw [if_neg h, if_neg (by omega)]
theorem flw_end {n m : Nat} {W : MF} : bl (n * n) (fl n (Ana.wmid m W n 0)) = bl (n * n) (fl n (Ana.wpass m W)) := bl_ext fun p hp => by
  have h1 := Nat.div_lt_of_lt_mul hp
  unfold fl Ana.wmid
  rw [if_pos (.inl h1)]
theorem cyc_set {X : GI} {k : Nat} : bl X.g.n (Ana.upd (fun a => if a < k then Ana.cyc X.g a else false) k (Ana.wars X.nts.length (Ana.one X.g (Ana.pn X.g false)) k k)) = bl X.g.n (fun a => if a < k + 1 then Ana.cyc X.g a else false) := bl_ext fun a _ => by
  unfold Ana.upd
  by_cases e : a = k
  · subst e; rw [if_pos rfl, if_pos (by omega)]; rfl
  · by_cases h : a < k
    · simp [e, h, show a < k + 1 by omega]
    · simp [e, h, show ¬ a < k + 1 by omega]
theorem call_13 : Callable Try.prog 13 := ⟨_, Try.func13, by kernel_rfl, rfl⟩
theorem call_14 : Callable Try.prog 14 := ⟨_, Try.func14, by kernel_rfl, rfl⟩
theorem call_39 : Callable Try.prog 39 := ⟨_, Try.func39, by kernel_rfl, rfl⟩
theorem cyc1_ok (b2 bo n : Nat) (hn : n ≤ 1000) (f : Nat → Bool) (x : Int) (hr : x < 0 → Ana.nt x < n) (w : World) (hq2 : (iCells b2 29 [.slice (some ⟨bo, 0, none⟩) n n]).holds w) (hq3 : Sl 1 boolF (some ⟨bo, 0, none⟩) (Ana.mkl n f) w) :
   Calls Try.prog 39 #[.int .i64 x, .pointer (some ⟨b2, 0, none⟩)] w (Ret fun v w' => v = .bool (Ana.good false f x) ∧ Ext [] w w') := by
 refine calls_fx (l := [.int .i64 x, .pointer (some ⟨b2, 0, none⟩)]) Try.func39 rfl Try.ntmps39 (Nat.le_of_ble_eq_true rfl) (((St.start w).old hq3 (dep_sl (by decide) hq3)).old hq2 (old_cells hq2)) ?_
 refine c_seq ?_
 refine c_reg ?_
 refine l_q (by decide) (p_assign rfl).q ?_
 refine l_nil ?_
 refine c_seq ?_
 refine c_reg ?_
 refine l_q (by decide) (p_move rfl).q ?_
 first | refine l_q (by decide) (p_lss (j := 0) rfl rfl rfl rfl).q ?_ | refine l_q (by decide) (p_lssi rfl rfl).q ?_
 refine l_q (by decide) (p_move rfl).q ?_
 first | refine l_splitd (t := 6) rfl (fun h6 => ?_) (fun h6 => ?_) | refine l_splitb (t := 6) rfl (fun h6 => ?_) (fun h6 => ?_)
 ·skip
  have hfx := Ana.mkl_at (f := f) (hr h6)
  refine l_g (j := 2) rfl rfl (by decide) (r_loadq (q := (iCells b2 29 [.slice (some ⟨bo, 0, none⟩) n n]).holds) Try.underlying29 rfl rfl (by repeat constructor) (fun w h => (cells_cell h 0).trans rfl)).q ?_
  refine l_g (j := 2) rfl rfl (by decide) (p_move rfl).q ?_
  refine l_g (j := 2) rfl rfl (by decide) (((p_subi rfl rfl (by show (-9223372036854775808 : Int) ≤ _; have := hr h6; unfold Ana.nt at this; omega) (by show _ ≤ ((9223372036854775807 : Nat) : Int); have := hr h6; unfold Ana.nt at this; omega))).to (u := .int .i64 ((Ana.nt x : Nat) : Int)) (by rw [Ana.nt_cast h6])).q ?_
  refine l_g (j := 2) rfl rfl (by decide) (r_index (A := some ⟨bo, 0, none⟩) (j := Ana.nt x) Try.underlying29 inf_4 rfl rfl rfl (.fact (by repeat constructor)) (by rw [Ana.mkl_len]) (by rw [Ana.mkl_len]; exact hr h6)).q ?_
  first | refine l_g (j := 2) rfl rfl (by decide) (r_loado Try.underlying4 rfl rfl (by repeat constructor) (by rfl)).q ?_ | refine l_g (j := 2) rfl rfl (by decide) (r_load1 Try.underlying4 rfl rfl (by first | exact .fact (by repeat constructor) | exact .own (by repeat constructor) (by decide) (fun _ => rfl) | exact SlIn.body (by repeat constructor) (by assumption)) (by first | assumption | rfl) (by rfl)).q ?_ | refine l_g (j := 2) rfl rfl (by decide) (r_loadf Try.underlying4 rfl rfl (by first | exact .fact (by repeat constructor) | exact .own (by repeat constructor) (by decide) (fun _ => rfl) | exact SlIn.body (by repeat constructor) (by assumption)) (by assumption) (by rfl)).q ?_
  refine l_q (by decide) (p_pick rfl rfl).q ?_
  refine l_q (by decide) (p_assign rfl).q ?_
  refine l_nil ?_
  refine c_ret ?_
  refine c_ret1 rfl rfl (fun w hs => ?_)
  exact ⟨by rw [good_non h6], hs.ext⟩
 ·skip
  refine l_off (j := 2) rfl rfl (by first | (simp; done) | (simp [undef]; done)) (by decide) ?_
  refine l_off (j := 2) rfl rfl (by first | (simp; done) | (simp [undef]; done)) (by decide) ?_
  refine l_off (j := 2) rfl rfl (by first | (simp; done) | (simp [undef]; done)) (by decide) ?_
  refine l_off (j := 2) rfl rfl (by first | (simp; done) | (simp [undef]; done)) (by decide) ?_
  refine l_off (j := 2) rfl rfl (by first | (simp; done) | (simp [undef]; done)) (by decide) ?_
  refine l_q (by decide) (p_pick rfl rfl).q ?_
  refine l_q (by decide) (p_assign rfl).q ?_
  refine l_nil ?_
  refine c_ret ?_
  refine c_ret1 rfl rfl (fun w hs => ?_)
  exact ⟨by rw [show Ana.good false f x = false by simp [Ana.good, h6]], hs.ext⟩

theorem cyclic_ok (X : GI) (hX : X.small) (w : World) (hM : X.mem w) (ok : Ana.Ok X.g) :
   Calls Try.prog 19 #[.agg #[.slice X.At X.terms.length X.ct, .slice X.An X.nts.length X.cn, .int .i64 X.start, .slice X.Ar X.xs.length X.cr]] w (Ret fun v w' => ∃ bo : Nat, v = .slice (some ⟨bo, 0, none⟩) X.g.n X.g.n ∧ Sl 1 boolF (some ⟨bo, 0, none⟩) (Ana.mkl X.g.n (Ana.cyc X.g)) w' ∧ (w.heap.size ≤ bo ∧ bo < w'.heap.size) ∧ Ext [] w w') := by
 have hnl := ok.nl
 have hnn : X.nts.length ≤ 8 := hnl
 have hxl := hX.x
 refine calls_fx (l := [.agg #[.slice X.At X.terms.length X.ct, .slice X.An X.nts.length X.cn, .int .i64 X.start, .slice X.Ar X.xs.length X.cr]]) Try.func19 rfl Try.ntmps19 (Nat.le_of_ble_eq_true rfl) (X.begin hM) ?_
 refine c_seq ?_
 obtain ⟨lo, hlo⟩ : ∃ lo, lo = w.heap.size := ⟨_, rfl⟩
 refine c_reg ?_
 refine l_box (by decide) rfl _ rfl (fun b1 => ?_)
 refine l_q (by decide) (p_assign rfl).q ?_
 refine l_nil ?_
 refine c_seq ?_
 refine c_reg ?_
 first | refine l_q (by decide) (r_loada Try.underlying25 rfl inf_25 rfl (by first | exact .fact (by repeat constructor) | exact .own (by repeat constructor) (by decide) (fun _ => rfl) | exact SlIn.body (by repeat constructor) (by assumption)) (by assumption)).q ?_ | refine l_q (by decide) (r_loadow Try.underlying25 rfl inf_25 rfl (by repeat constructor) (by rfl)).q ?_ | refine l_q (by decide) (r_loadoa Try.underlying25 rfl inf_25 rfl (by repeat constructor) (by rfl) (fun j u h => h)).q ?_
 refine l_call (X := { bo : Nat // lo ≤ bo }) (fun x => .slice (some ⟨x.1, 0, none⟩) X.g.n X.g.n) (fun x => Sl 1 boolF (some ⟨x.1, 0, none⟩) (Ana.mkl X.g.n (Ana.pn X.g false))) (by decide) call_13 rfl (fun w hs => tab_call (by rw [hlo]; exact hs.ext.size) (nullable_ok X hX w (GI.of hs (by repeat constructor) (by repeat constructor) (by repeat constructor) (by repeat constructor)) ok)) (fun x18 => ?_)
 refine l_alloc (by decide) inf_29 _ rfl (fun b3 => ?_)
 first | (refine l_store inf_29 rfl rfl rfl rfl (by first | decide | exact Nat.le_of_ble_eq_true rfl | (simp; done) | omega | (simp only [Nat.mul_one]; assumption)) ?_) | (refine l_perm (front1 _ _ _) ?_; refine l_store inf_29 rfl rfl rfl rfl (by first | decide | exact Nat.le_of_ble_eq_true rfl | (simp; done) | omega | (simp only [Nat.mul_one]; assumption)) ?_) | (refine l_perm (front2 _ _ _ _) ?_; refine l_store inf_29 rfl rfl rfl rfl (by first | decide | exact Nat.le_of_ble_eq_true rfl | (simp; done) | omega | (simp only [Nat.mul_one]; assumption)) ?_) | (refine l_perm (front3 _ _ _ _ _) ?_; refine l_store inf_29 rfl rfl rfl rfl (by first | decide | exact Nat.le_of_ble_eq_true rfl | (simp; done) | omega | (simp only [Nat.mul_one]; assumption)) ?_) | (refine l_perm (front4 _ _ _ _ _ _) ?_; refine l_store inf_29 rfl rfl rfl rfl (by first | decide | exact Nat.le_of_ble_eq_true rfl | (simp; done) | omega | (simp only [Nat.mul_one]; assumption)) ?_)
 refine l_nil ?_
 refine c_seq ?_
 refine c_reg ?_
 first | refine l_q (by decide) (p_faddr (i := 1) 1 Try.underlying25 rfl inf_22 (by decide) rfl rfl).q ?_ | refine l_q (by decide) (p_faddro (i := 1) 1 Try.underlying25 rfl inf_22 (by decide) rfl rfl).q ?_
 first | refine l_q (by decide) (r_loado Try.underlying22 rfl rfl (by repeat constructor) (by rfl)).q ?_ | refine l_q (by decide) (r_load1 Try.underlying22 rfl rfl (by first | exact .fact (by repeat constructor) | exact .own (by repeat constructor) (by decide) (fun _ => rfl) | exact SlIn.body (by repeat constructor) (by assumption)) (by first | assumption | rfl) (by rfl)).q ?_ | refine l_q (by decide) (r_loadf Try.underlying22 rfl rfl (by first | exact .fact (by repeat constructor) | exact .own (by repeat constructor) (by decide) (fun _ => rfl) | exact SlIn.body (by repeat constructor) (by assumption)) (by assumption) (by rfl)).q ?_
 refine l_q (by decide) (p_len_sl Try.underlying22 rfl).q ?_
 refine l_q (by decide) (p_assign rfl).q ?_
 refine l_nil ?_
 refine c_seq ?_
 refine c_reg ?_
 refine l_q (by decide) (p_move rfl).q ?_
 refine l_make (by decide) Try.underlying51 inf_29 rfl rfl rfl rfl rfl rfl (by omega) (by omega) (fun b23 => ?_)
 refine l_q (by decide) (p_assign rfl).q ?_
 refine l_nil ?_
 refine c_seq ?_
 refine c_seq ?_
 refine c_reg ?_
 refine l_q (by decide) (p_move rfl).q ?_
 refine l_q (by decide) (p_len_sl Try.underlying51 rfl).q ?_
 refine l_q (by decide) (p_move (v := .int .i64 ((0 : Nat) : Int)) rfl).q ?_
 refine l_nil ?_
 refine c_block ?_
 rw [show List.replicate X.nts.length (Value.slice none 0 0) = hdr X.g.n 0 (fun _ => 0) from hdr_rep _ _]
 refine c_loop (S := Nat × NF) (fun zs => zs.1 ≤ X.nts.length) (fun zs => X.nts.length - zs.1) (fun zs => [(1, .pointer (some ⟨b1, 0, none⟩)), (3, .pointer (some ⟨b3, 0, none⟩)), (4, .int .i64 (X.nts.length : Int)), (5, .slice (some ⟨b23, 0, none⟩) X.g.n X.g.n), (25, .int .i64 (X.nts.length : Int)), (26, .int .i64 (zs.1 : Int))]) (fun zs => (iCells b23 29 (hdr X.g.n zs.1 zs.2) :: iCells b3 29 [.slice (some ⟨x18.1, 0, none⟩) X.g.n X.g.n] :: iCells b1 25 [.slice X.At X.terms.length X.ct, .slice X.An X.nts.length X.cn, .int .i64 X.start, .slice X.Ar X.xs.length X.cr] :: fam zs.1 (mrow X.g.n zs.2 (fun _ _ => false)))) (fun zs => [Sl 1 boolF (some ⟨x18.1, 0, none⟩) (Ana.mkl X.g.n (Ana.pn X.g false)), Bd X.xs, Sl 3 ruF X.Ar X.xs, Sl 1 strF X.An X.nts, Sl 1 strF X.At X.terms]) (0, fun _ => 0) ?_ ?_ ?_ ?_ ?_
 · show (0) ≤ X.nts.length
   exact Nat.zero_le _
 · exact ⟨rfl, rfl, rfl, rfl, rfl, rfl, trivial⟩
 · exact .refl _
 · exact fun _ h => h
 rintro ⟨k, B⟩ hinv
 have hinv : k ≤ X.nts.length := hinv
 have hk := hinv
 show Cont _ _ _ _ [(1, .pointer (some ⟨b1, 0, none⟩)), (3, .pointer (some ⟨b3, 0, none⟩)), (4, .int .i64 (X.nts.length : Int)), (5, .slice (some ⟨b23, 0, none⟩) X.g.n X.g.n), (25, .int .i64 (X.nts.length : Int)), (26, .int .i64 (k : Int))] ((iCells b23 29 (hdr X.g.n k B) :: iCells b3 29 [.slice (some ⟨x18.1, 0, none⟩) X.g.n X.g.n] :: iCells b1 25 [.slice X.At X.terms.length X.ct, .slice X.An X.nts.length X.cn, .int .i64 X.start, .slice X.Ar X.xs.length X.cr] :: fam k (mrow X.g.n B (fun _ _ => false)))) [Sl 1 boolF (some ⟨x18.1, 0, none⟩) (Ana.mkl X.g.n (Ana.pn X.g false)), Bd X.xs, Sl 3 ruF X.Ar X.xs, Sl 1 strF X.An X.nts, Sl 1 strF X.At X.terms]
 refine c_seq ?_
 refine c_reg ?_
 first | refine l_q (by decide) (p_lss rfl rfl rfl rfl).q ?_ | refine l_q (by decide) (p_lssi rfl rfl).q ?_
 refine l_nil ?_
 refine c_seq ?_
 first | refine c_dec rfl (fun h27 => ?_) (fun h27 => ?_) | refine c_cond rfl (fun h27 => ?_) (fun h27 => ?_)
 ·skip
  refine c_skip ?_
  refine c_seq ?_
  refine c_block ?_
  refine c_seq ?_
  refine c_reg ?_
  refine l_q (by decide) (p_move rfl).q ?_
  refine l_q (by decide) (p_assign rfl).q ?_
  refine l_nil ?_
  have hk : k < X.g.n := by show k < X.nts.length; omega
  have hkb : k * 1 < (hdr X.g.n k B).length := by rw [hdr_len]; show k * 1 < X.nts.length; omega
  refine c_reg ?_
  refine l_q (by decide) (p_move rfl).q ?_
  refine l_q (by decide) (p_move rfl).q ?_
  refine l_q (by decide) (p_move rfl).q ?_
  refine l_make (by decide) Try.underlying29 inf_4 rfl rfl rfl rfl rfl rfl (by omega) (by omega) (fun b32 => ?_)
  first | refine l_q (by decide) (r_index Try.underlying51 inf_29 rfl rfl rfl (by first | exact .fact (by repeat constructor) | exact .own (by repeat constructor) (by decide) (fun _ => rfl) | exact SlIn.body (by repeat constructor) (by assumption)) rfl (by omega)).q ?_ | refine l_q (by decide) (r_index Try.underlying51 inf_29 rfl rfl rfl (by first | exact .fact (by repeat constructor) | exact .own (by repeat constructor) (by decide) (fun _ => rfl) | exact SlIn.body (by repeat constructor) (by assumption)) rfl (by decide)).q ?_ | refine l_q (by decide) (p_indexo Try.underlying51 inf_29 rfl rfl rfl (by omega)).q ?_
  first | (refine l_store inf_29 rfl rfl rfl rfl (by first | decide | exact Nat.le_of_ble_eq_true rfl | (simp; done) | omega | (simp only [Nat.mul_one]; assumption)) ?_) | (refine l_perm (front1 _ _ _) ?_; refine l_store inf_29 rfl rfl rfl rfl (by first | decide | exact Nat.le_of_ble_eq_true rfl | (simp; done) | omega | (simp only [Nat.mul_one]; assumption)) ?_) | (refine l_perm (front2 _ _ _ _) ?_; refine l_store inf_29 rfl rfl rfl rfl (by first | decide | exact Nat.le_of_ble_eq_true rfl | (simp; done) | omega | (simp only [Nat.mul_one]; assumption)) ?_) | (refine l_perm (front3 _ _ _ _ _) ?_; refine l_store inf_29 rfl rfl rfl rfl (by first | decide | exact Nat.le_of_ble_eq_true rfl | (simp; done) | omega | (simp only [Nat.mul_one]; assumption)) ?_) | (refine l_perm (front4 _ _ _ _ _ _) ?_; refine l_store inf_29 rfl rfl rfl rfl (by first | decide | exact Nat.le_of_ble_eq_true rfl | (simp; done) | omega | (simp only [Nat.mul_one]; assumption)) ?_)
  refine l_nil ?_
  refine c_reg ?_
  first | refine l_q (by decide) (p_add (j := 1) rfl rfl rfl rfl (by show _ ≤ (9223372036854775807 : Nat); omega)).q ?_ | refine l_q (by decide) (p_addi rfl rfl (by show (-9223372036854775808 : Int) ≤ _; omega) (by show _ ≤ ((9223372036854775807 : Nat) : Int); omega)).q ?_
  refine l_q (by decide) (p_move rfl).q ?_
  refine l_nil ?_
  refine c_join ((k + 1), (Ana.upd B k b32)) ?_ ?_ ?_ ?_
  ·show ((k + 1) ≤ X.nts.length) ∧ X.nts.length - (k + 1) < X.nts.length - k
   exact ⟨by omega, by omega⟩
  · exact ⟨rfl, rfl, rfl, rfl, rfl, rfl, trivial⟩
  ·show List.Perm _ ((iCells b23 29 (hdr X.g.n (k + 1) (Ana.upd B k b32)) :: iCells b3 29 [.slice (some ⟨x18.1, 0, none⟩) X.g.n X.g.n] :: iCells b1 25 [.slice X.At X.terms.length X.ct, .slice X.An X.nts.length X.cn, .int .i64 X.start, .slice X.Ar X.xs.length X.cr] :: fam (k + 1) (mrow X.g.n (Ana.upd B k b32) (fun _ _ => false))))
   rw [show (hdr X.g.n k B).set (k * 1) (.slice (some ⟨b32, 0, none⟩) X.nts.length X.nts.length) = _ from hdr_set]
   refine (List.Perm.swap _ _ _).trans (fam_push [_, _, _] ?_ ?_)
   · rw [show List.replicate X.nts.length (Value.bool false) = bl X.g.n (fun _ => false) from bl_rep _]; simp [mrow, Ana.upd]
   · intro a ha; simp [mrow, Ana.upd, show a ≠ k by omega]
  · exact fun _ h => h
 ·skip
  refine c_exit ?_
  refine c_here ?_
  refine c_seq ?_
  refine c_seq ?_
  refine c_reg ?_
  first | refine l_q (by decide) (p_faddr (i := 3) 3 Try.underlying25 rfl inf_23 (by decide) rfl rfl).q ?_ | refine l_q (by decide) (p_faddro (i := 3) 3 Try.underlying25 rfl inf_23 (by decide) rfl rfl).q ?_
  first | refine l_q (by decide) (r_loado Try.underlying23 rfl rfl (by repeat constructor) (by rfl)).q ?_ | refine l_q (by decide) (r_load1 Try.underlying23 rfl rfl (by first | exact .fact (by repeat constructor) | exact .own (by repeat constructor) (by decide) (fun _ => rfl) | exact SlIn.body (by repeat constructor) (by assumption)) (by first | assumption | rfl) (by rfl)).q ?_ | refine l_q (by decide) (r_loadf Try.underlying23 rfl rfl (by first | exact .fact (by repeat constructor) | exact .own (by repeat constructor) (by decide) (fun _ => rfl) | exact SlIn.body (by repeat constructor) (by assumption)) (by assumption) (by rfl)).q ?_
  refine l_q (by decide) (p_len_sl Try.underlying23 rfl).q ?_
  refine l_q (by decide) (p_move (v := .int .i64 ((0 : Nat) : Int)) rfl).q ?_
  refine l_nil ?_
  refine c_block ?_
  obtain rfl : k = X.nts.length := by omega
  refine c_loop (S := Nat × MF) (fun zs => zs.1 ≤ X.xs.length ∧ SoundC X zs.2 ∧ ∀ z, z ∈ X.xs.take zs.1 → FullC X z zs.2 z.r.body.length) (fun zs => X.xs.length - zs.1) (fun zs => [(3, .pointer (some ⟨b3, 0, none⟩)), (4, .int .i64 (X.nts.length : Int)), (5, .slice (some ⟨b23, 0, none⟩) X.g.n X.g.n), (36, .slice X.Ar X.xs.length X.cr), (37, .int .i64 (X.xs.length : Int)), (38, .int .i64 (zs.1 : Int))]) (fun zs => (iCells b23 29 (hdr X.g.n X.g.n B) :: iCells b3 29 [.slice (some ⟨x18.1, 0, none⟩) X.g.n X.g.n] :: iCells b1 25 [.slice X.At X.terms.length X.ct, .slice X.An X.nts.length X.cn, .int .i64 X.start, .slice X.Ar X.xs.length X.cr] :: fam X.g.n (mrow X.g.n B (zs.2)))) (fun zs => [Sl 1 boolF (some ⟨x18.1, 0, none⟩) (Ana.mkl X.g.n (Ana.pn X.g false)), Bd X.xs, Sl 3 ruF X.Ar X.xs, Sl 1 strF X.An X.nts, Sl 1 strF X.At X.terms]) (0, fun _ _ => false) ?_ ?_ ?_ ?_ ?_
  · show (0) ≤ X.xs.length ∧ SoundC X (fun _ _ => false) ∧ ∀ z, z ∈ X.xs.take (0) → FullC X z (fun _ _ => false) z.r.body.length
    exact ⟨Nat.zero_le _, (fun _ _ h => nomatch h), fun z h => absurd h (by simp)⟩
  · exact ⟨rfl, rfl, rfl, rfl, rfl, rfl, trivial⟩
  · exact .refl _
  · exact fun _ h => h
  rintro ⟨k, f⟩ hinv
  have hinv : k ≤ X.xs.length ∧ SoundC X f ∧ ∀ z, z ∈ X.xs.take k → FullC X z f z.r.body.length := hinv
  obtain ⟨hJ1, hJ2, hJ3⟩ := hinv
  show Cont _ _ _ _ [(3, .pointer (some ⟨b3, 0, none⟩)), (4, .int .i64 (X.nts.length : Int)), (5, .slice (some ⟨b23, 0, none⟩) X.g.n X.g.n), (36, .slice X.Ar X.xs.length X.cr), (37, .int .i64 (X.xs.length : Int)), (38, .int .i64 (k : Int))] ((iCells b23 29 (hdr X.g.n X.g.n B) :: iCells b3 29 [.slice (some ⟨x18.1, 0, none⟩) X.g.n X.g.n] :: iCells b1 25 [.slice X.At X.terms.length X.ct, .slice X.An X.nts.length X.cn, .int .i64 X.start, .slice X.Ar X.xs.length X.cr] :: fam X.g.n (mrow X.g.n B (f)))) [Sl 1 boolF (some ⟨x18.1, 0, none⟩) (Ana.mkl X.g.n (Ana.pn X.g false)), Bd X.xs, Sl 3 ruF X.Ar X.xs, Sl 1 strF X.An X.nts, Sl 1 strF X.At X.terms]
  refine c_seq ?_
  refine c_reg ?_
  first | refine l_q (by decide) (p_lss rfl rfl rfl rfl).q ?_ | refine l_q (by decide) (p_lssi rfl rfl).q ?_
  refine l_nil ?_
  refine c_seq ?_
  first | refine c_dec rfl (fun h39 => ?_) (fun h39 => ?_) | refine c_cond rfl (fun h39 => ?_) (fun h39 => ?_)
  ·skip
   obtain ⟨x, hx⟩ := at_some (l := X.xs) (n := k) (by omega)
   obtain ⟨hh1, hh2⟩ := ok.hd (rule_mem hx)
   have hbl := ok.bl _ (rule_mem hx)
   have hxb := hX.b x (List.mem_of_getElem? hx)
   refine c_skip ?_
   refine c_seq ?_
   refine c_block ?_
   refine c_seq ?_
   refine c_reg ?_
   first | refine l_q (by decide) (r_index Try.underlying23 inf_41 rfl rfl rfl (by first | exact .fact (by repeat constructor) | exact .own (by repeat constructor) (by decide) (fun _ => rfl) | exact SlIn.body (by repeat constructor) (by assumption)) rfl (by omega)).q ?_ | refine l_q (by decide) (r_index Try.underlying23 inf_41 rfl rfl rfl (by first | exact .fact (by repeat constructor) | exact .own (by repeat constructor) (by decide) (fun _ => rfl) | exact SlIn.body (by repeat constructor) (by assumption)) rfl (by decide)).q ?_ | refine l_q (by decide) (p_indexo Try.underlying23 inf_41 rfl rfl rfl (by omega)).q ?_
   first | refine l_q (by decide) (r_loada Try.underlying41 rfl inf_41 rfl (by first | exact .fact (by repeat constructor) | exact .own (by repeat constructor) (by decide) (fun _ => rfl) | exact SlIn.body (by repeat constructor) (by assumption)) (by assumption)).q ?_ | refine l_q (by decide) (r_loadow Try.underlying41 rfl inf_41 rfl (by repeat constructor) (by rfl)).q ?_ | refine l_q (by decide) (r_loadoa Try.underlying41 rfl inf_41 rfl (by repeat constructor) (by rfl) (fun j u h => h)).q ?_
   refine l_alloc (by decide) inf_41 _ rfl (fun b8 => ?_)
   first | (refine l_storew inf_41 rfl rfl rfl rfl rfl ?_) | (refine l_perm (front1 _ _ _) ?_; refine l_storew inf_41 rfl rfl rfl rfl rfl ?_) | (refine l_perm (front2 _ _ _ _) ?_; refine l_storew inf_41 rfl rfl rfl rfl rfl ?_) | (refine l_perm (front3 _ _ _ _ _) ?_; refine l_storew inf_41 rfl rfl rfl rfl rfl ?_) | (refine l_perm (front4 _ _ _ _ _ _) ?_; refine l_storew inf_41 rfl rfl rfl rfl rfl ?_) | (refine l_storea inf_41 rfl rfl rfl rfl (by decide) ?_) | (refine l_perm (front1 _ _ _) ?_; refine l_storea inf_41 rfl rfl rfl rfl (by decide) ?_) | (refine l_perm (front2 _ _ _ _) ?_; refine l_storea inf_41 rfl rfl rfl rfl (by decide) ?_)
   refine l_nil ?_
   refine c_seq ?_
   refine c_reg ?_
   first | refine l_q (by decide) (p_faddr (i := 1) 1 Try.underlying41 rfl inf_39 (by decide) rfl rfl).q ?_ | refine l_q (by decide) (p_faddro (i := 1) 1 Try.underlying41 rfl inf_39 (by decide) rfl rfl).q ?_
   first | refine l_q (by decide) (r_loado Try.underlying39 rfl rfl (by repeat constructor) (by rfl)).q ?_ | refine l_q (by decide) (r_load1 Try.underlying39 rfl rfl (by first | exact .fact (by repeat constructor) | exact .own (by repeat constructor) (by decide) (fun _ => rfl) | exact SlIn.body (by repeat constructor) (by assumption)) (by first | assumption | rfl) (by rfl)).q ?_ | refine l_q (by decide) (r_loadf Try.underlying39 rfl rfl (by first | exact .fact (by repeat constructor) | exact .own (by repeat constructor) (by decide) (fun _ => rfl) | exact SlIn.body (by repeat constructor) (by assumption)) (by assumption) (by rfl)).q ?_
   refine l_q (by decide) (p_len_sl Try.underlying39 rfl).q ?_
   refine l_q (by decide) (p_move (v := .int .i64 ((0 : Nat) : Int)) rfl).q ?_
   refine l_nil ?_
   refine c_block ?_
   refine c_loop (S := Nat × MF) (fun zs => zs.1 ≤ x.r.body.length ∧ SoundC X zs.2 ∧ (∀ z, z ∈ X.xs.take k → FullC X z zs.2 z.r.body.length) ∧ FullC X x zs.2 zs.1) (fun zs => x.r.body.length - zs.1) (fun zs => [(3, .pointer (some ⟨b3, 0, none⟩)), (4, .int .i64 (X.nts.length : Int)), (5, .slice (some ⟨b23, 0, none⟩) X.g.n X.g.n), (8, .pointer (some ⟨b8, 0, none⟩)), (36, .slice X.Ar X.xs.length X.cr), (37, .int .i64 (X.xs.length : Int)), (38, .int .i64 (k : Int)), (43, .slice x.A x.r.body.length x.c), (44, .int .i64 (x.r.body.length : Int)), (45, .int .i64 (zs.1 : Int))]) (fun zs => (iCells b8 41 (ruF x) :: iCells b23 29 (hdr X.g.n X.g.n B) :: iCells b3 29 [.slice (some ⟨x18.1, 0, none⟩) X.g.n X.g.n] :: iCells b1 25 [.slice X.At X.terms.length X.ct, .slice X.An X.nts.length X.cn, .int .i64 X.start, .slice X.Ar X.xs.length X.cr] :: fam X.g.n (mrow X.g.n B (zs.2)))) (fun zs => [Sl 1 boolF (some ⟨x18.1, 0, none⟩) (Ana.mkl X.g.n (Ana.pn X.g false)), Bd X.xs, Sl 3 ruF X.Ar X.xs, Sl 1 strF X.An X.nts, Sl 1 strF X.At X.terms]) (0, f) ?_ ?_ ?_ ?_ ?_
   · show (0) ≤ x.r.body.length ∧ SoundC X (f) ∧ (∀ z, z ∈ X.xs.take k → FullC X z (f) z.r.body.length) ∧ FullC X x (f) (0)
     exact ⟨Nat.zero_le _, hJ2, hJ3, fun p hp => absurd hp (by omega)⟩
   · exact ⟨rfl, rfl, rfl, rfl, rfl, rfl, rfl, rfl, rfl, rfl, trivial⟩
   · exact .refl _
   · exact fun _ h => h
   rintro ⟨j, h⟩ hinv
   have hinv : j ≤ x.r.body.length ∧ SoundC X h ∧ (∀ z, z ∈ X.xs.take k → FullC X z h z.r.body.length) ∧ FullC X x h j := hinv
   obtain ⟨hL1, hL2, hL3, hL4⟩ := hinv
   show Cont _ _ _ _ [(3, .pointer (some ⟨b3, 0, none⟩)), (4, .int .i64 (X.nts.length : Int)), (5, .slice (some ⟨b23, 0, none⟩) X.g.n X.g.n), (8, .pointer (some ⟨b8, 0, none⟩)), (36, .slice X.Ar X.xs.length X.cr), (37, .int .i64 (X.xs.length : Int)), (38, .int .i64 (k : Int)), (43, .slice x.A x.r.body.length x.c), (44, .int .i64 (x.r.body.length : Int)), (45, .int .i64 (j : Int))] ((iCells b8 41 (ruF x) :: iCells b23 29 (hdr X.g.n X.g.n B) :: iCells b3 29 [.slice (some ⟨x18.1, 0, none⟩) X.g.n X.g.n] :: iCells b1 25 [.slice X.At X.terms.length X.ct, .slice X.An X.nts.length X.cn, .int .i64 X.start, .slice X.Ar X.xs.length X.cr] :: fam X.g.n (mrow X.g.n B (h)))) [Sl 1 boolF (some ⟨x18.1, 0, none⟩) (Ana.mkl X.g.n (Ana.pn X.g false)), Bd X.xs, Sl 3 ruF X.Ar X.xs, Sl 1 strF X.An X.nts, Sl 1 strF X.At X.terms]
   refine c_seq ?_
   refine c_reg ?_
   first | refine l_q (by decide) (p_lss rfl rfl rfl rfl).q ?_ | refine l_q (by decide) (p_lssi rfl rfl).q ?_
   refine l_nil ?_
   refine c_seq ?_
   first | refine c_dec rfl (fun h46 => ?_) (fun h46 => ?_) | refine c_cond rfl (fun h46 => ?_) (fun h46 => ?_)
   ·skip
    obtain ⟨y, hy⟩ := at_some (l := x.r.body) (n := j) (by omega)
    have hyb := ok.b0 _ (rule_mem hx) y (List.mem_of_getElem? hy)
    refine c_skip ?_
    refine c_seq ?_
    refine c_block ?_
    refine c_seq ?_
    refine c_reg ?_
    refine l_q (by decide) (p_move rfl).q ?_
    first | refine l_q (by decide) (r_index Try.underlying39 inf_3 rfl rfl rfl (by first | exact .fact (by repeat constructor) | exact .own (by repeat constructor) (by decide) (fun _ => rfl) | exact SlIn.body (by repeat constructor) (by assumption)) rfl (by omega)).q ?_ | refine l_q (by decide) (r_index Try.underlying39 inf_3 rfl rfl rfl (by first | exact .fact (by repeat constructor) | exact .own (by repeat constructor) (by decide) (fun _ => rfl) | exact SlIn.body (by repeat constructor) (by assumption)) rfl (by decide)).q ?_ | refine l_q (by decide) (p_indexo Try.underlying39 inf_3 rfl rfl rfl (by omega)).q ?_
    first | refine l_q (by decide) (r_loado Try.underlying3 rfl rfl (by repeat constructor) (by rfl)).q ?_ | refine l_q (by decide) (r_load1 Try.underlying3 rfl rfl (by first | exact .fact (by repeat constructor) | exact .own (by repeat constructor) (by decide) (fun _ => rfl) | exact SlIn.body (by repeat constructor) (by assumption)) (by first | assumption | rfl) (by rfl)).q ?_ | refine l_q (by decide) (r_loadf Try.underlying3 rfl rfl (by first | exact .fact (by repeat constructor) | exact .own (by repeat constructor) (by decide) (fun _ => rfl) | exact SlIn.body (by repeat constructor) (by assumption)) (by assumption) (by rfl)).q ?_
    refine l_q (by decide) (p_assign rfl).q ?_
    refine l_q (by decide) (p_assign rfl).q ?_
    refine l_nil ?_
    refine c_seq ?_
    refine c_body (m := j) (by repeat constructor) hx (by omega) ?_
    refine m_draw [] mixed ?_
    first | refine m_takep 1 rfl (by kernel_rfl) (by decide) (p_faddr (i := 1) 1 Try.underlying41 rfl inf_39 (by decide) rfl rfl) ?_ | refine m_takep 1 rfl (by kernel_rfl) (by decide) (p_faddro (i := 1) 1 Try.underlying41 rfl inf_39 (by decide) rfl rfl) ?_
    first | refine m_take 2 rfl (by kernel_rfl) (by decide) (by first | exact (List.Perm.refl _ : List.Perm _ ([] ++ _)) | exact (List.Perm.refl _ : List.Perm _ ([_] ++ _)) | exact (List.Perm.refl _ : List.Perm _ ([_, _] ++ _)) | exact (List.Perm.refl _ : List.Perm _ ([_, _, _] ++ _)) | exact (List.Perm.refl _ : List.Perm _ ([_, _, _, _] ++ _)) | exact (List.Perm.refl _ : List.Perm _ ([_, _, _, _, _] ++ _)) | exact List.Perm.refl _) (by first | exact fun _ h => h | exact fun _ h => List.mem_cons_of_mem _ h | exact fun _ h => List.mem_cons_of_mem _ (List.mem_cons_of_mem _ h) | exact fun _ h => List.mem_cons_of_mem _ (List.mem_cons_of_mem _ (List.mem_cons_of_mem _ h)) | exact fun _ h => List.mem_cons_of_mem _ (List.mem_cons_of_mem _ (List.mem_cons_of_mem _ (List.mem_cons_of_mem _ h)))) (r_loado Try.underlying39 rfl rfl (by repeat constructor) (by rfl)).r ?_ | refine m_take 2 rfl (by kernel_rfl) (by decide) (by first | exact (List.Perm.refl _ : List.Perm _ ([] ++ _)) | exact (List.Perm.refl _ : List.Perm _ ([_] ++ _)) | exact (List.Perm.refl _ : List.Perm _ ([_, _] ++ _)) | exact (List.Perm.refl _ : List.Perm _ ([_, _, _] ++ _)) | exact (List.Perm.refl _ : List.Perm _ ([_, _, _, _] ++ _)) | exact (List.Perm.refl _ : List.Perm _ ([_, _, _, _, _] ++ _)) | exact List.Perm.refl _) (by first | exact fun _ h => h | exact fun _ h => List.mem_cons_of_mem _ h | exact fun _ h => List.mem_cons_of_mem _ (List.mem_cons_of_mem _ h) | exact fun _ h => List.mem_cons_of_mem _ (List.mem_cons_of_mem _ (List.mem_cons_of_mem _ h)) | exact fun _ h => List.mem_cons_of_mem _ (List.mem_cons_of_mem _ (List.mem_cons_of_mem _ (List.mem_cons_of_mem _ h)))) (r_load1 Try.underlying39 rfl rfl (by first | exact .fact (by repeat constructor) | exact .own (by repeat constructor) (by decide) (fun _ => rfl) | exact SlIn.body (by repeat constructor) (by assumption)) (by first | assumption | rfl) (by rfl)).r ?_ | refine m_take 2 rfl (by kernel_rfl) (by decide) (by first | exact (List.Perm.refl _ : List.Perm _ ([] ++ _)) | exact (List.Perm.refl _ : List.Perm _ ([_] ++ _)) | exact (List.Perm.refl _ : List.Perm _ ([_, _] ++ _)) | exact (List.Perm.refl _ : List.Perm _ ([_, _, _] ++ _)) | exact (List.Perm.refl _ : List.Perm _ ([_, _, _, _] ++ _)) | exact (List.Perm.refl _ : List.Perm _ ([_, _, _, _, _] ++ _)) | exact List.Perm.refl _) (by first | exact fun _ h => h | exact fun _ h => List.mem_cons_of_mem _ h | exact fun _ h => List.mem_cons_of_mem _ (List.mem_cons_of_mem _ h) | exact fun _ h => List.mem_cons_of_mem _ (List.mem_cons_of_mem _ (List.mem_cons_of_mem _ h)) | exact fun _ h => List.mem_cons_of_mem _ (List.mem_cons_of_mem _ (List.mem_cons_of_mem _ (List.mem_cons_of_mem _ h)))) (r_loadf Try.underlying39 rfl rfl (by first | exact .fact (by repeat constructor) | exact .own (by repeat constructor) (by decide) (fun _ => rfl) | exact SlIn.body (by repeat constructor) (by assumption)) (by assumption) (by rfl)).r ?_
    refine m_takep 3 rfl (by kernel_rfl) (by decide) (p_move rfl) ?_
    first | refine m_takep 4 rfl (by kernel_rfl) (by decide) (p_part_h Try.underlying39 inf_3 rfl rfl rfl (by omega) (by omega)) ?_ | refine m_takep 4 rfl (by kernel_rfl) (by decide) (p_slices_h Try.underlying39 inf_3 rfl rfl rfl (by omega)) ?_
    first | refine m_takep 6 rfl (by kernel_rfl) (by decide) (p_faddr (i := 1) 1 Try.underlying41 rfl inf_39 (by decide) rfl rfl) ?_ | refine m_takep 6 rfl (by kernel_rfl) (by decide) (p_faddro (i := 1) 1 Try.underlying41 rfl inf_39 (by decide) rfl rfl) ?_
    first | refine m_take 7 rfl (by kernel_rfl) (by decide) (by first | exact (List.Perm.refl _ : List.Perm _ ([] ++ _)) | exact (List.Perm.refl _ : List.Perm _ ([_] ++ _)) | exact (List.Perm.refl _ : List.Perm _ ([_, _] ++ _)) | exact (List.Perm.refl _ : List.Perm _ ([_, _, _] ++ _)) | exact (List.Perm.refl _ : List.Perm _ ([_, _, _, _] ++ _)) | exact (List.Perm.refl _ : List.Perm _ ([_, _, _, _, _] ++ _)) | exact List.Perm.refl _) (by first | exact fun _ h => h | exact fun _ h => List.mem_cons_of_mem _ h | exact fun _ h => List.mem_cons_of_mem _ (List.mem_cons_of_mem _ h) | exact fun _ h => List.mem_cons_of_mem _ (List.mem_cons_of_mem _ (List.mem_cons_of_mem _ h)) | exact fun _ h => List.mem_cons_of_mem _ (List.mem_cons_of_mem _ (List.mem_cons_of_mem _ (List.mem_cons_of_mem _ h)))) (r_loado Try.underlying39 rfl rfl (by repeat constructor) (by rfl)).r ?_ | refine m_take 7 rfl (by kernel_rfl) (by decide) (by first | exact (List.Perm.refl _ : List.Perm _ ([] ++ _)) | exact (List.Perm.refl _ : List.Perm _ ([_] ++ _)) | exact (List.Perm.refl _ : List.Perm _ ([_, _] ++ _)) | exact (List.Perm.refl _ : List.Perm _ ([_, _, _] ++ _)) | exact (List.Perm.refl _ : List.Perm _ ([_, _, _, _] ++ _)) | exact (List.Perm.refl _ : List.Perm _ ([_, _, _, _, _] ++ _)) | exact List.Perm.refl _) (by first | exact fun _ h => h | exact fun _ h => List.mem_cons_of_mem _ h | exact fun _ h => List.mem_cons_of_mem _ (List.mem_cons_of_mem _ h) | exact fun _ h => List.mem_cons_of_mem _ (List.mem_cons_of_mem _ (List.mem_cons_of_mem _ h)) | exact fun _ h => List.mem_cons_of_mem _ (List.mem_cons_of_mem _ (List.mem_cons_of_mem _ (List.mem_cons_of_mem _ h)))) (r_load1 Try.underlying39 rfl rfl (by first | exact .fact (by repeat constructor) | exact .own (by repeat constructor) (by decide) (fun _ => rfl) | exact SlIn.body (by repeat constructor) (by assumption)) (by first | assumption | rfl) (by rfl)).r ?_ | refine m_take 7 rfl (by kernel_rfl) (by decide) (by first | exact (List.Perm.refl _ : List.Perm _ ([] ++ _)) | exact (List.Perm.refl _ : List.Perm _ ([_] ++ _)) | exact (List.Perm.refl _ : List.Perm _ ([_, _] ++ _)) | exact (List.Perm.refl _ : List.Perm _ ([_, _, _] ++ _)) | exact (List.Perm.refl _ : List.Perm _ ([_, _, _, _] ++ _)) | exact (List.Perm.refl _ : List.Perm _ ([_, _, _, _, _] ++ _)) | exact List.Perm.refl _) (by first | exact fun _ h => h | exact fun _ h => List.mem_cons_of_mem _ h | exact fun _ h => List.mem_cons_of_mem _ (List.mem_cons_of_mem _ h) | exact fun _ h => List.mem_cons_of_mem _ (List.mem_cons_of_mem _ (List.mem_cons_of_mem _ h)) | exact fun _ h => List.mem_cons_of_mem _ (List.mem_cons_of_mem _ (List.mem_cons_of_mem _ (List.mem_cons_of_mem _ h)))) (r_loadf Try.underlying39 rfl rfl (by first | exact .fact (by repeat constructor) | exact .own (by repeat constructor) (by decide) (fun _ => rfl) | exact SlIn.body (by repeat constructor) (by assumption)) (by assumption) (by rfl)).r ?_
    refine m_takep 8 rfl (by kernel_rfl) (by decide) (p_move rfl) ?_
    first | refine m_takep 9 rfl (by kernel_rfl) (by decide) (p_add (j := 1) rfl rfl rfl rfl (by show _ ≤ (9223372036854775807 : Nat); omega)) ?_ | refine m_takep 9 rfl (by kernel_rfl) (by decide) (p_addi rfl rfl (by show (-9223372036854775808 : Int) ≤ _; omega) (by show _ ≤ ((9223372036854775807 : Nat) : Int); omega)) ?_
    first | refine m_takep 10 rfl (by kernel_rfl) (by decide) (p_part_l Try.underlying39 inf_3 rfl rfl rfl (by omega)) ?_ | refine m_takep 10 rfl (by kernel_rfl) (by decide) (p_slices_l Try.underlying39 inf_3 rfl rfl rfl (by omega)) ?_
    refine m_run 0 rfl (by kernel_rfl) ?_
    refine l_buildSlice0 (by decide) Try.underlying39 inf_3 (fun b50 => ?_)
    refine l_nil ?_
    refine m_next _ (by first | exact (List.Perm.refl _ : List.Perm _ ([] ++ _)) | exact (List.Perm.refl _ : List.Perm _ ([_] ++ _)) | exact (List.Perm.refl _ : List.Perm _ ([_, _] ++ _)) | exact (List.Perm.refl _ : List.Perm _ ([_, _, _] ++ _)) | exact (List.Perm.refl _ : List.Perm _ ([_, _, _, _] ++ _)) | exact (List.Perm.refl _ : List.Perm _ ([_, _, _, _, _] ++ _)) | exact List.Perm.refl _) (by first | exact fun _ h => h | exact fun _ h => List.mem_cons_of_mem _ h | exact fun _ h => List.mem_cons_of_mem _ (List.mem_cons_of_mem _ h) | exact fun _ h => List.mem_cons_of_mem _ (List.mem_cons_of_mem _ (List.mem_cons_of_mem _ h)) | exact fun _ h => List.mem_cons_of_mem _ (List.mem_cons_of_mem _ (List.mem_cons_of_mem _ (List.mem_cons_of_mem _ h)))) ?_
    refine m_run 5 rfl (by kernel_rfl) ?_
    refine l_rowc (size := 1) (f := intF) [] rfl rfl (by decide) ?_
    refine l_appendsl (f := intF) (x.r.body.take j) (by decide) Try.underlying39 inf_3 rfl (by decide) rfl rfl rfl rfl (by repeat constructor) (fun e u h => by rw [List.mem_singleton.1 h]; rfl) (by simp only [List.length_take, List.length_nil]; omega) (by simp only [List.length_take, List.length_nil]; omega) (fun A55 c55 => ?_)
    refine l_nil ?_
    refine m_next _ (by first | exact (List.Perm.refl _ : List.Perm _ ([] ++ _)) | exact (List.Perm.refl _ : List.Perm _ ([_] ++ _)) | exact (List.Perm.refl _ : List.Perm _ ([_, _] ++ _)) | exact (List.Perm.refl _ : List.Perm _ ([_, _, _] ++ _)) | exact (List.Perm.refl _ : List.Perm _ ([_, _, _, _] ++ _)) | exact (List.Perm.refl _ : List.Perm _ ([_, _, _, _, _] ++ _)) | exact List.Perm.refl _) (by first | exact fun _ h => h | exact fun _ h => List.mem_cons_of_mem _ h | exact fun _ h => List.mem_cons_of_mem _ (List.mem_cons_of_mem _ h) | exact fun _ h => List.mem_cons_of_mem _ (List.mem_cons_of_mem _ (List.mem_cons_of_mem _ h)) | exact fun _ h => List.mem_cons_of_mem _ (List.mem_cons_of_mem _ (List.mem_cons_of_mem _ (List.mem_cons_of_mem _ h)))) ?_
    refine m_run 11 rfl (by kernel_rfl) ?_
    refine l_appendsl (f := intF) (x.r.body.drop (j + 1)) (by decide) Try.underlying39 inf_3 rfl (by decide) rfl rfl rfl rfl (by repeat constructor) (fun e u h => by rw [List.mem_singleton.1 h]; rfl) (by simp only [List.length_append, List.length_take, List.length_drop, List.length_nil]; omega) (by simp only [List.length_append, List.length_take, List.length_drop, List.length_nil]; omega) (fun A61 c61 => ?_)
    refine l_nil ?_
    refine m_next _ (by first | exact (List.Perm.refl _ : List.Perm _ ([] ++ _)) | exact (List.Perm.refl _ : List.Perm _ ([_] ++ _)) | exact (List.Perm.refl _ : List.Perm _ ([_, _] ++ _)) | exact (List.Perm.refl _ : List.Perm _ ([_, _, _] ++ _)) | exact (List.Perm.refl _ : List.Perm _ ([_, _, _, _] ++ _)) | exact (List.Perm.refl _ : List.Perm _ ([_, _, _, _, _] ++ _)) | exact List.Perm.refl _) (by first | exact fun _ h => h | exact fun _ h => List.mem_cons_of_mem _ h | exact fun _ h => List.mem_cons_of_mem _ (List.mem_cons_of_mem _ h) | exact fun _ h => List.mem_cons_of_mem _ (List.mem_cons_of_mem _ (List.mem_cons_of_mem _ h)) | exact fun _ h => List.mem_cons_of_mem _ (List.mem_cons_of_mem _ (List.mem_cons_of_mem _ (List.mem_cons_of_mem _ h)))) ?_
    refine m_takep 12 rfl (by kernel_rfl) (by decide) (p_assign rfl) ?_
    refine m_done (by kernel_rfl) ?_
    refine c_seq ?_
    refine c_reg ?_
    refine l_q (by decide) (p_move rfl).q ?_
    first | refine l_q (by decide) (p_lss (j := 0) rfl rfl rfl rfl).q ?_ | refine l_q (by decide) (p_lssi rfl rfl).q ?_
    refine l_q (by decide) (p_move rfl).q ?_
    first | refine l_splitd (t := 64) rfl (fun h64 => ?_) (fun h64 => ?_) | refine l_splitb (t := 64) rfl (fun h64 => ?_) (fun h64 => ?_)
    ·skip
     have hn2 := ok.nt_lt (rule_mem hx) (List.mem_of_getElem? hy) h64
     refine l_g (j := 2) rfl rfl (by decide) (p_move rfl).q ?_
     refine l_g (j := 2) rfl rfl (by decide) (p_makeFn rfl rfl).q ?_
     refine l_g (j := 2) rfl rfl (by decide) (q_call call_38 rfl (fun w hs => all_ok 39 call_39 #[.pointer (some ⟨b3, 0, none⟩)] (Ana.good false (Ana.pn X.g false)) A61 c61 (([] ++ x.r.body.take j) ++ x.r.body.drop (j + 1)) (by simp only [List.length_append, List.length_take, List.length_drop, List.length_nil]; omega) w (SlIn.own (e := 3) (size := 1) (f := intF) (A := A61) (c := c61) (es := (([] ++ x.r.body.take j) ++ x.r.body.drop (j + 1))) (List.mem_cons_self ..) (by decide) (fun _ => rfl) w hs) (fun z hz w2 he => cyc1_ok b3 x18.1 X.g.n (by show X.nts.length ≤ 1000; omega) (Ana.pn X.g false) z (fun h0 => ok.nt_lt (rule_mem hx) (by simpa using (List.mem_append.1 hz).elim (fun h => List.mem_of_mem_take (by simpa using h)) (fun h => List.mem_of_mem_drop h)) h0) w2 (hold_ext hs (x := iCells b3 29 [.slice (some ⟨x18.1, 0, none⟩) X.g.n X.g.n]) (by repeat constructor) he) (hs.move he |>.facts _ (by repeat constructor)).1))) ?_
     refine l_drop ?_
     refine l_q (by decide) (p_pick rfl rfl).q ?_
     refine l_nil ?_
     first | refine c_dec rfl (fun h68 => ?_) (fun h68 => ?_) | refine c_cond rfl (fun h68 => ?_) (fun h68 => ?_)
     ·skip
      have hg := (rest_all _ _ _).1 h68
      refine c_reg ?_
      refine l_q (by decide) (p_move rfl).q ?_
      first | refine l_q (by decide) (p_faddr (i := 0) 0 Try.underlying41 rfl inf_3 (by decide) rfl rfl).q ?_ | refine l_q (by decide) (p_faddro (i := 0) 0 Try.underlying41 rfl inf_3 (by decide) rfl rfl).q ?_
      first | refine l_q (by decide) (((r_loado Try.underlying3 rfl rfl (by repeat constructor) (by rfl))).to (u := .int .i64 ((x.r.head.toNat : Nat) : Int)) (by rw [hh1])).q ?_ | refine l_q (by decide) (((r_load1 Try.underlying3 rfl rfl (by first | exact .fact (by repeat constructor) | exact .own (by repeat constructor) (by decide) (fun _ => rfl) | exact SlIn.body (by repeat constructor) (by assumption)) (by first | assumption | rfl) (by rfl))).to (u := .int .i64 ((x.r.head.toNat : Nat) : Int)) (by rw [hh1])).q ?_ | refine l_q (by decide) (((r_loadf Try.underlying3 rfl rfl (by first | exact .fact (by repeat constructor) | exact .own (by repeat constructor) (by decide) (fun _ => rfl) | exact SlIn.body (by repeat constructor) (by assumption)) (by assumption) (by rfl))).to (u := .int .i64 ((x.r.head.toNat : Nat) : Int)) (by rw [hh1])).q ?_
      first | refine l_q (by decide) (r_index Try.underlying51 inf_29 rfl rfl rfl (by first | exact .fact (by repeat constructor) | exact .own (by repeat constructor) (by decide) (fun _ => rfl) | exact SlIn.body (by repeat constructor) (by assumption)) rfl (by omega)).q ?_ | refine l_q (by decide) (r_index Try.underlying51 inf_29 rfl rfl rfl (by first | exact .fact (by repeat constructor) | exact .own (by repeat constructor) (by decide) (fun _ => rfl) | exact SlIn.body (by repeat constructor) (by assumption)) rfl (by decide)).q ?_ | refine l_q (by decide) (p_indexo Try.underlying51 inf_29 rfl rfl rfl (by omega)).q ?_
      refine l_q (by decide) (r_loado Try.underlying29 rfl rfl (by repeat constructor) (hdr_at hh2)).q ?_
      refine l_q (by decide) (p_move rfl).q ?_
      first | refine l_q (by decide) (((p_sub rfl rfl rfl rfl (by omega) (by show _ ≤ (9223372036854775807 : Nat); omega))).to (u := .int .i64 ((Ana.nt y : Nat) : Int)) (by rw [Ana.nt_cast h64])).q ?_ | refine l_q (by decide) (((p_subi rfl rfl (by show (-9223372036854775808 : Int) ≤ _; omega) (by show _ ≤ ((9223372036854775807 : Nat) : Int); omega))).to (u := .int .i64 ((Ana.nt y : Nat) : Int)) (by rw [Ana.nt_cast h64])).q ?_
      first | refine l_q (by decide) (r_index Try.underlying29 inf_4 rfl rfl rfl (by first | exact .fact (by repeat constructor) | exact .own (by repeat constructor) (by decide) (fun _ => rfl) | exact SlIn.body (by repeat constructor) (by assumption)) rfl (by omega)).q ?_ | refine l_q (by decide) (r_index Try.underlying29 inf_4 rfl rfl rfl (by first | exact .fact (by repeat constructor) | exact .own (by repeat constructor) (by decide) (fun _ => rfl) | exact SlIn.body (by repeat constructor) (by assumption)) rfl (by decide)).q ?_ | refine l_q (by decide) (p_indexo Try.underlying29 inf_4 rfl rfl rfl (by omega)).q ?_
      refine l_perm (fam_out [_, _, _, _] hh2) ?_
      refine l_store inf_4 rfl rfl rfl rfl (by rw [bl_len, Nat.mul_one]; exact hn2) ?_
      refine l_nil ?_
      refine c_reg ?_
      first | refine l_q (by decide) (p_add (j := 1) rfl rfl rfl rfl (by show _ ≤ (9223372036854775807 : Nat); omega)).q ?_ | refine l_q (by decide) (p_addi rfl rfl (by show (-9223372036854775808 : Int) ≤ _; omega) (by show _ ≤ ((9223372036854775807 : Nat) : Int); omega)).q ?_
      refine l_q (by decide) (p_move rfl).q ?_
      refine l_nil ?_
      refine c_join ((j + 1), (upd2 h x.r.head.toNat (Ana.nt y) true)) ?_ ?_ ?_ ?_
      ·show ((j + 1) ≤ x.r.body.length ∧ SoundC X (upd2 h x.r.head.toNat (Ana.nt y) true) ∧ (∀ z, z ∈ X.xs.take k → FullC X z (upd2 h x.r.head.toNat (Ana.nt y) true) z.r.body.length) ∧ FullC X x (upd2 h x.r.head.toNat (Ana.nt y) true) (j + 1)) ∧ x.r.body.length - (j + 1) < x.r.body.length - j
       have hup : ∀ a b, h a b = true → upd2 h x.r.head.toNat (Ana.nt y) true a b = true := fun a b hab => upd2_iff.2 (.inl hab)
       refine ⟨⟨by omega, hL2.step (List.mem_of_getElem? hx) (oneAt_of hy h64 hg.1 hg.2), fun z hz => (hL3 z hz).mono hup, (hL4.mono hup).step fun a b hab => ?_⟩, by omega⟩
       obtain ⟨⟨rfl, rfl⟩, _⟩ := of_oneAt hy hab
       exact upd2_iff.2 (.inr ⟨rfl, rfl⟩)
      · exact ⟨rfl, rfl, rfl, rfl, rfl, rfl, rfl, rfl, rfl, rfl, trivial⟩
      ·show List.Perm _ ((iCells b8 41 (ruF x) :: iCells b23 29 (hdr X.g.n X.g.n B) :: iCells b3 29 [.slice (some ⟨x18.1, 0, none⟩) X.g.n X.g.n] :: iCells b1 25 [.slice X.At X.terms.length X.ct, .slice X.An X.nts.length X.cn, .int .i64 X.start, .slice X.Ar X.xs.length X.cr] :: fam X.g.n (mrow X.g.n B ((upd2 h x.r.head.toNat (Ana.nt y) true)))))
       exact fam_in [_, _, _, _] hh2 row_upd (fun a _ ha => by unfold mrow; rw [upd2_other ha])
      · exact fun _ h => List.mem_cons_of_mem _ (List.mem_cons_of_mem _ h)
     ·skip
      refine c_skip ?_
      refine c_reg ?_
      first | refine l_q (by decide) (p_add (j := 1) rfl rfl rfl rfl (by show _ ≤ (9223372036854775807 : Nat); omega)).q ?_ | refine l_q (by decide) (p_addi rfl rfl (by show (-9223372036854775808 : Int) ≤ _; omega) (by show _ ≤ ((9223372036854775807 : Nat) : Int); omega)).q ?_
      refine l_q (by decide) (p_move rfl).q ?_
      refine l_nil ?_
      refine c_join ((j + 1), (h)) ?_ ?_ ?_ ?_
      ·show ((j + 1) ≤ x.r.body.length ∧ SoundC X (h) ∧ (∀ z, z ∈ X.xs.take k → FullC X z (h) z.r.body.length) ∧ FullC X x (h) (j + 1)) ∧ x.r.body.length - (j + 1) < x.r.body.length - j
       refine ⟨⟨by omega, hL2, hL3, hL4.step fun a b hab => ?_⟩, by omega⟩
       obtain ⟨_, _, g1, g2⟩ := of_oneAt hy hab
       exact absurd ((rest_all _ _ _).2 ⟨g1, g2⟩) (by rw [h68]; decide)
      · exact ⟨rfl, rfl, rfl, rfl, rfl, rfl, rfl, rfl, rfl, rfl, trivial⟩
      ·show List.Perm _ ((iCells b8 41 (ruF x) :: iCells b23 29 (hdr X.g.n X.g.n B) :: iCells b3 29 [.slice (some ⟨x18.1, 0, none⟩) X.g.n X.g.n] :: iCells b1 25 [.slice X.At X.terms.length X.ct, .slice X.An X.nts.length X.cn, .int .i64 X.start, .slice X.Ar X.xs.length X.cr] :: fam X.g.n (mrow X.g.n B ((h)))))
       exact .refl _
      · exact fun _ h => List.mem_cons_of_mem _ (List.mem_cons_of_mem _ h)
    ·skip
     refine l_off (j := 2) rfl rfl (by first | (simp; done) | (simp [undef]; done)) (by decide) ?_
     refine l_off (j := 2) rfl rfl (by first | (simp; done) | (simp [undef]; done)) (by decide) ?_
     refine l_off (j := 2) rfl rfl (by first | (simp; done) | (simp [undef]; done)) (by decide) ?_
     refine l_drop ?_
     refine l_q (by decide) (p_pick rfl rfl).q ?_
     refine l_nil ?_
     refine c_false rfl ?_
     refine c_skip ?_
     refine c_reg ?_
     first | refine l_q (by decide) (p_add (j := 1) rfl rfl rfl rfl (by show _ ≤ (9223372036854775807 : Nat); omega)).q ?_ | refine l_q (by decide) (p_addi rfl rfl (by show (-9223372036854775808 : Int) ≤ _; omega) (by show _ ≤ ((9223372036854775807 : Nat) : Int); omega)).q ?_
     refine l_q (by decide) (p_move rfl).q ?_
     refine l_nil ?_
     refine c_join ((j + 1), (h)) ?_ ?_ ?_ ?_
     ·show ((j + 1) ≤ x.r.body.length ∧ SoundC X (h) ∧ (∀ z, z ∈ X.xs.take k → FullC X z (h) z.r.body.length) ∧ FullC X x (h) (j + 1)) ∧ x.r.body.length - (j + 1) < x.r.body.length - j
      refine ⟨⟨by omega, hL2, hL3, hL4.step fun a b hab => ?_⟩, by omega⟩
      exact absurd (of_oneAt hy hab).2.1 h64
     · exact ⟨rfl, rfl, rfl, rfl, rfl, rfl, rfl, rfl, rfl, rfl, trivial⟩
     ·show List.Perm _ ((iCells b8 41 (ruF x) :: iCells b23 29 (hdr X.g.n X.g.n B) :: iCells b3 29 [.slice (some ⟨x18.1, 0, none⟩) X.g.n X.g.n] :: iCells b1 25 [.slice X.At X.terms.length X.ct, .slice X.An X.nts.length X.cn, .int .i64 X.start, .slice X.Ar X.xs.length X.cr] :: fam X.g.n (mrow X.g.n B ((h)))))
      exact .refl _
     · exact fun _ h => List.mem_cons_of_mem _ (List.mem_cons_of_mem _ h)
   ·skip
    refine c_exit ?_
    refine c_here ?_
    refine c_reg ?_
    first | refine l_q (by decide) (p_add (j := 1) rfl rfl rfl rfl (by show _ ≤ (9223372036854775807 : Nat); omega)).q ?_ | refine l_q (by decide) (p_addi rfl rfl (by show (-9223372036854775808 : Int) ≤ _; omega) (by show _ ≤ ((9223372036854775807 : Nat) : Int); omega)).q ?_
    refine l_q (by decide) (p_move rfl).q ?_
    refine l_nil ?_
    first | (refine c_drop (x := iCells b8 _ _) ?_) | (refine c_perm (front1 _ _ _) ?_; refine c_drop (x := iCells b8 _ _) ?_) | (refine c_perm (front2 _ _ _ _) ?_; refine c_drop (x := iCells b8 _ _) ?_) | (refine c_perm (front3 _ _ _ _ _) ?_; refine c_drop (x := iCells b8 _ _) ?_) | (refine c_perm (front4 _ _ _ _ _ _) ?_; refine c_drop (x := iCells b8 _ _) ?_)
    refine c_join ((k + 1), (h)) ?_ ?_ ?_ ?_
    ·show ((k + 1) ≤ X.xs.length ∧ SoundC X (h) ∧ ∀ z, z ∈ X.xs.take (k + 1) → FullC X z (h) z.r.body.length) ∧ X.xs.length - (k + 1) < X.xs.length - k
     refine ⟨⟨by omega, hL2, fun z hz => ?_⟩, by omega⟩
     rw [take_at hx] at hz
     rcases List.mem_append.1 hz with h5 | h5
     · exact hL3 z h5
     · rw [List.mem_singleton.1 h5]; rw [show x.r.body.length = j by omega]; exact hL4
    · exact ⟨rfl, rfl, rfl, rfl, rfl, rfl, trivial⟩
    ·show List.Perm _ ((iCells b23 29 (hdr X.g.n X.g.n B) :: iCells b3 29 [.slice (some ⟨x18.1, 0, none⟩) X.g.n X.g.n] :: iCells b1 25 [.slice X.At X.terms.length X.ct, .slice X.An X.nts.length X.cn, .int .i64 X.start, .slice X.Ar X.xs.length X.cr] :: fam X.g.n (mrow X.g.n B ((h)))))
     exact .refl _
    · exact fun _ h => h
  ·skip
   refine c_exit ?_
   refine c_here ?_
   refine c_seq ?_
   refine c_seq ?_
   refine c_reg ?_
   refine l_q (by decide) (p_move rfl).q ?_
   refine l_q (by decide) (p_move (v := .int .i64 ((0 : Nat) : Int)) rfl).q ?_
   refine l_nil ?_
   refine c_block ?_
   rw [List.take_of_length_le (by omega)] at hJ3
   have hfo := one_full hJ2 hJ3
   subst hfo
   refine c_loop (S := Nat) (fun zs => zs ≤ X.nts.length) (fun zs => X.nts.length - zs) (fun zs => [(4, .int .i64 (X.nts.length : Int)), (5, .slice (some ⟨b23, 0, none⟩) X.g.n X.g.n), (79, .int .i64 (X.nts.length : Int)), (80, .int .i64 (zs : Int))]) (fun zs => (iCells b23 29 (hdr X.g.n X.g.n B) :: iCells b3 29 [.slice (some ⟨x18.1, 0, none⟩) X.g.n X.g.n] :: iCells b1 25 [.slice X.At X.terms.length X.ct, .slice X.An X.nts.length X.cn, .int .i64 X.start, .slice X.Ar X.xs.length X.cr] :: fam X.g.n (mrow X.g.n B (Ana.wars zs (Ana.one X.g (Ana.pn X.g false)))))) (fun zs => [Sl 1 boolF (some ⟨x18.1, 0, none⟩) (Ana.mkl X.g.n (Ana.pn X.g false)), Bd X.xs, Sl 3 ruF X.Ar X.xs, Sl 1 strF X.An X.nts, Sl 1 strF X.At X.terms]) (0) ?_ ?_ ?_ ?_ ?_
   · show (0) ≤ X.nts.length
     exact Nat.zero_le _
   · exact ⟨rfl, rfl, rfl, rfl, trivial⟩
   · exact .refl _
   · exact fun _ h => h
   rintro k hinv
   have hinv : k ≤ X.nts.length := hinv
   have hk := hinv
   show Cont _ _ _ _ [(4, .int .i64 (X.nts.length : Int)), (5, .slice (some ⟨b23, 0, none⟩) X.g.n X.g.n), (79, .int .i64 (X.nts.length : Int)), (80, .int .i64 (k : Int))] ((iCells b23 29 (hdr X.g.n X.g.n B) :: iCells b3 29 [.slice (some ⟨x18.1, 0, none⟩) X.g.n X.g.n] :: iCells b1 25 [.slice X.At X.terms.length X.ct, .slice X.An X.nts.length X.cn, .int .i64 X.start, .slice X.Ar X.xs.length X.cr] :: fam X.g.n (mrow X.g.n B (Ana.wars k (Ana.one X.g (Ana.pn X.g false)))))) [Sl 1 boolF (some ⟨x18.1, 0, none⟩) (Ana.mkl X.g.n (Ana.pn X.g false)), Bd X.xs, Sl 3 ruF X.Ar X.xs, Sl 1 strF X.An X.nts, Sl 1 strF X.At X.terms]
   refine c_seq ?_
   refine c_reg ?_
   first | refine l_q (by decide) (p_lss rfl rfl rfl rfl).q ?_ | refine l_q (by decide) (p_lssi rfl rfl).q ?_
   refine l_nil ?_
   refine c_seq ?_
   first | refine c_dec rfl (fun h81 => ?_) (fun h81 => ?_) | refine c_cond rfl (fun h81 => ?_) (fun h81 => ?_)
   ·skip
    refine c_skip ?_
    refine c_seq ?_
    refine c_block ?_
    refine c_seq ?_
    refine c_reg ?_
    refine l_q (by decide) (p_move rfl).q ?_
    refine l_q (by decide) (p_assign rfl).q ?_
    refine l_nil ?_
    refine c_seq ?_
    refine c_reg ?_
    refine l_q (by decide) (p_move rfl).q ?_
    refine l_q (by decide) (p_move (v := .int .i64 ((0 : Nat) : Int)) rfl).q ?_
    refine l_nil ?_
    refine c_block ?_
    refine c_loop (S := Nat) (fun zs => zs ≤ X.nts.length) (fun zs => X.nts.length - zs) (fun zs => [(4, .int .i64 (X.nts.length : Int)), (5, .slice (some ⟨b23, 0, none⟩) X.g.n X.g.n), (12, .int .i64 (k : Int)), (79, .int .i64 (X.nts.length : Int)), (80, .int .i64 (k : Int)), (83, .int .i64 (X.nts.length : Int)), (84, .int .i64 (zs : Int))]) (fun zs => (iCells b23 29 (hdr X.g.n X.g.n B) :: iCells b3 29 [.slice (some ⟨x18.1, 0, none⟩) X.g.n X.g.n] :: iCells b1 25 [.slice X.At X.terms.length X.ct, .slice X.An X.nts.length X.cn, .int .i64 X.start, .slice X.Ar X.xs.length X.cr] :: fam X.g.n (mrow X.g.n B (Ana.wmid k (Ana.wars k (Ana.one X.g (Ana.pn X.g false))) zs 0)))) (fun zs => [Sl 1 boolF (some ⟨x18.1, 0, none⟩) (Ana.mkl X.g.n (Ana.pn X.g false)), Bd X.xs, Sl 3 ruF X.Ar X.xs, Sl 1 strF X.An X.nts, Sl 1 strF X.At X.terms]) (0) ?_ ?_ ?_ ?_ ?_
    · show (0) ≤ X.nts.length
      exact Nat.zero_le _
    · exact ⟨rfl, rfl, rfl, rfl, rfl, rfl, rfl, trivial⟩
    · exact (by rw [w_start])
    · exact fun _ h => h
    rintro i hinv
    have hinv : i ≤ X.nts.length := hinv
    have hi := hinv
    show Cont _ _ _ _ [(4, .int .i64 (X.nts.length : Int)), (5, .slice (some ⟨b23, 0, none⟩) X.g.n X.g.n), (12, .int .i64 (k : Int)), (79, .int .i64 (X.nts.length : Int)), (80, .int .i64 (k : Int)), (83, .int .i64 (X.nts.length : Int)), (84, .int .i64 (i : Int))] ((iCells b23 29 (hdr X.g.n X.g.n B) :: iCells b3 29 [.slice (some ⟨x18.1, 0, none⟩) X.g.n X.g.n] :: iCells b1 25 [.slice X.At X.terms.length X.ct, .slice X.An X.nts.length X.cn, .int .i64 X.start, .slice X.Ar X.xs.length X.cr] :: fam X.g.n (mrow X.g.n B (Ana.wmid k (Ana.wars k (Ana.one X.g (Ana.pn X.g false))) i 0)))) [Sl 1 boolF (some ⟨x18.1, 0, none⟩) (Ana.mkl X.g.n (Ana.pn X.g false)), Bd X.xs, Sl 3 ruF X.Ar X.xs, Sl 1 strF X.An X.nts, Sl 1 strF X.At X.terms]
    refine c_seq ?_
    refine c_reg ?_
    first | refine l_q (by decide) (p_lss rfl rfl rfl rfl).q ?_ | refine l_q (by decide) (p_lssi rfl rfl).q ?_
    refine l_nil ?_
    refine c_seq ?_
    first | refine c_dec rfl (fun h85 => ?_) (fun h85 => ?_) | refine c_cond rfl (fun h85 => ?_) (fun h85 => ?_)
    ·skip
     refine c_skip ?_
     refine c_seq ?_
     refine c_block ?_
     refine c_seq ?_
     refine c_reg ?_
     refine l_q (by decide) (p_move rfl).q ?_
     refine l_q (by decide) (p_assign rfl).q ?_
     refine l_nil ?_
     refine c_seq ?_
     refine c_reg ?_
     refine l_q (by decide) (p_move rfl).q ?_
     refine l_q (by decide) (p_move (v := .int .i64 ((0 : Nat) : Int)) rfl).q ?_
     refine l_nil ?_
     refine c_block ?_
     refine c_loop (S := Nat) (fun zs => zs ≤ X.nts.length) (fun zs => X.nts.length - zs) (fun zs => [(4, .int .i64 (X.nts.length : Int)), (5, .slice (some ⟨b23, 0, none⟩) X.g.n X.g.n), (12, .int .i64 (k : Int)), (13, .int .i64 (i : Int)), (79, .int .i64 (X.nts.length : Int)), (80, .int .i64 (k : Int)), (83, .int .i64 (X.nts.length : Int)), (84, .int .i64 (i : Int)), (87, .int .i64 (X.nts.length : Int)), (88, .int .i64 (zs : Int))]) (fun zs => (iCells b23 29 (hdr X.g.n X.g.n B) :: iCells b3 29 [.slice (some ⟨x18.1, 0, none⟩) X.g.n X.g.n] :: iCells b1 25 [.slice X.At X.terms.length X.ct, .slice X.An X.nts.length X.cn, .int .i64 X.start, .slice X.Ar X.xs.length X.cr] :: fam X.g.n (mrow X.g.n B (Ana.wmid k (Ana.wars k (Ana.one X.g (Ana.pn X.g false))) i zs)))) (fun zs => [Sl 1 boolF (some ⟨x18.1, 0, none⟩) (Ana.mkl X.g.n (Ana.pn X.g false)), Bd X.xs, Sl 3 ruF X.Ar X.xs, Sl 1 strF X.An X.nts, Sl 1 strF X.At X.terms]) (0) ?_ ?_ ?_ ?_ ?_
     · show (0) ≤ X.nts.length
       exact Nat.zero_le _
     · exact ⟨rfl, rfl, rfl, rfl, rfl, rfl, rfl, rfl, rfl, rfl, trivial⟩
     · exact .refl _
     · exact fun _ h => h
     rintro j hinv
     have hinv : j ≤ X.nts.length := hinv
     have hj := hinv
     show Cont _ _ _ _ [(4, .int .i64 (X.nts.length : Int)), (5, .slice (some ⟨b23, 0, none⟩) X.g.n X.g.n), (12, .int .i64 (k : Int)), (13, .int .i64 (i : Int)), (79, .int .i64 (X.nts.length : Int)), (80, .int .i64 (k : Int)), (83, .int .i64 (X.nts.length : Int)), (84, .int .i64 (i : Int)), (87, .int .i64 (X.nts.length : Int)), (88, .int .i64 (j : Int))] ((iCells b23 29 (hdr X.g.n X.g.n B) :: iCells b3 29 [.slice (some ⟨x18.1, 0, none⟩) X.g.n X.g.n] :: iCells b1 25 [.slice X.At X.terms.length X.ct, .slice X.An X.nts.length X.cn, .int .i64 X.start, .slice X.Ar X.xs.length X.cr] :: fam X.g.n (mrow X.g.n B (Ana.wmid k (Ana.wars k (Ana.one X.g (Ana.pn X.g false))) i j)))) [Sl 1 boolF (some ⟨x18.1, 0, none⟩) (Ana.mkl X.g.n (Ana.pn X.g false)), Bd X.xs, Sl 3 ruF X.Ar X.xs, Sl 1 strF X.An X.nts, Sl 1 strF X.At X.terms]
     refine c_seq ?_
     refine c_reg ?_
     first | refine l_q (by decide) (p_lss rfl rfl rfl rfl).q ?_ | refine l_q (by decide) (p_lssi rfl rfl).q ?_
     refine l_nil ?_
     refine c_seq ?_
     first | refine c_dec rfl (fun h89 => ?_) (fun h89 => ?_) | refine c_cond rfl (fun h89 => ?_) (fun h89 => ?_)
     ·skip
      refine c_skip ?_
      refine c_seq ?_
      refine c_block ?_
      refine c_seq ?_
      refine c_reg ?_
      refine l_q (by decide) (p_move rfl).q ?_
      refine l_q (by decide) (p_assign rfl).q ?_
      refine l_nil ?_
      have hk : k < X.g.n := by show k < X.nts.length; omega
      have hi : i < X.g.n := by show i < X.nts.length; omega
      have hj : j < X.g.n := by show j < X.nts.length; omega
      refine t_draw 31 mixed ?_
      refine t_take 0 rfl (by kernel_rfl) (by decide) (p_move rfl).r ?_
      refine t_take 1 rfl (by kernel_rfl) (by decide) (p_move rfl).r ?_
      first | refine t_take 2 rfl (by kernel_rfl) (by decide) (r_index Try.underlying51 inf_29 rfl rfl rfl (by first | exact .fact (by repeat constructor) | exact .own (by repeat constructor) (by decide) (fun _ => rfl) | exact SlIn.body (by repeat constructor) (by assumption)) rfl (by omega)).r ?_ | refine t_take 2 rfl (by kernel_rfl) (by decide) (r_index Try.underlying51 inf_29 rfl rfl rfl (by first | exact .fact (by repeat constructor) | exact .own (by repeat constructor) (by decide) (fun _ => rfl) | exact SlIn.body (by repeat constructor) (by assumption)) rfl (by decide)).r ?_ | refine t_take 2 rfl (by kernel_rfl) (by decide) (p_indexo Try.underlying51 inf_29 rfl rfl rfl (by omega)).r ?_
      refine t_take 3 rfl (by kernel_rfl) (by decide) (r_loado Try.underlying29 rfl rfl (by repeat constructor) (hdr_at hi)).r ?_
      refine t_take 4 rfl (by kernel_rfl) (by decide) (p_move rfl).r ?_
      refine t_take 5 rfl (by kernel_rfl) (by decide) (p_move rfl).r ?_
      refine t_take 6 rfl (by kernel_rfl) (by decide) (p_move rfl).r ?_
      first | refine t_take 7 rfl (by kernel_rfl) (by decide) (r_index Try.underlying51 inf_29 rfl rfl rfl (by first | exact .fact (by repeat constructor) | exact .own (by repeat constructor) (by decide) (fun _ => rfl) | exact SlIn.body (by repeat constructor) (by assumption)) rfl (by omega)).r ?_ | refine t_take 7 rfl (by kernel_rfl) (by decide) (r_index Try.underlying51 inf_29 rfl rfl rfl (by first | exact .fact (by repeat constructor) | exact .own (by repeat constructor) (by decide) (fun _ => rfl) | exact SlIn.body (by repeat constructor) (by assumption)) rfl (by decide)).r ?_ | refine t_take 7 rfl (by kernel_rfl) (by decide) (p_indexo Try.underlying51 inf_29 rfl rfl rfl (by omega)).r ?_
      refine t_take 8 rfl (by kernel_rfl) (by decide) (r_loado Try.underlying29 rfl rfl (by repeat constructor) (hdr_at hi)).r ?_
      refine t_take 9 rfl (by kernel_rfl) (by decide) (p_move rfl).r ?_
      first | refine t_take 10 rfl (by kernel_rfl) (by decide) (r_index Try.underlying29 inf_4 rfl rfl rfl (by first | exact .fact (by repeat constructor) | exact .own (by repeat constructor) (by decide) (fun _ => rfl) | exact SlIn.body (by repeat constructor) (by assumption)) rfl (by omega)).r ?_ | refine t_take 10 rfl (by kernel_rfl) (by decide) (r_index Try.underlying29 inf_4 rfl rfl rfl (by first | exact .fact (by repeat constructor) | exact .own (by repeat constructor) (by decide) (fun _ => rfl) | exact SlIn.body (by repeat constructor) (by assumption)) rfl (by decide)).r ?_ | refine t_take 10 rfl (by kernel_rfl) (by decide) (p_indexo Try.underlying29 inf_4 rfl rfl rfl (by omega)).r ?_
      refine t_take 11 rfl (by kernel_rfl) (by decide) (r_loado Try.underlying4 rfl rfl (fam_mem [_, _, _] hi) (bl_at hj)).r ?_
      refine t_take 12 rfl (by kernel_rfl) (by decide) (p_move rfl).r ?_
      first | refine c_splitd (t := 103) rfl (fun h103 => ?_) (fun h103 => ?_) | refine c_splitb (t := 103) rfl (fun h103 => ?_) (fun h103 => ?_)
      ·skip
       refine t_off 13 (j := 12) rfl (by kernel_rfl) rfl rfl (by first | (simp; done) | (simp [undef]; done)) (by decide) ?_
       refine t_off 14 (j := 12) rfl (by kernel_rfl) rfl rfl (by first | (simp; done) | (simp [undef]; done)) (by decide) ?_
       refine t_off 15 (j := 12) rfl (by kernel_rfl) rfl rfl (by first | (simp; done) | (simp [undef]; done)) (by decide) ?_
       refine t_off 16 (j := 12) rfl (by kernel_rfl) rfl rfl (by first | (simp; done) | (simp [undef]; done)) (by decide) ?_
       refine t_off 17 (j := 12) rfl (by kernel_rfl) rfl rfl (by first | (simp; done) | (simp [undef]; done)) (by decide) ?_
       refine t_off 18 (j := 12) rfl (by kernel_rfl) rfl rfl (by first | (simp; done) | (simp [undef]; done)) (by decide) ?_
       refine t_off 19 (j := 12) rfl (by kernel_rfl) rfl rfl (by first | (simp; done) | (simp [undef]; done)) (by decide) ?_
       refine t_off 20 (j := 12) rfl (by kernel_rfl) rfl rfl (by first | (simp; done) | (simp [undef]; done)) (by decide) ?_
       refine t_off 21 (j := 20) rfl (by kernel_rfl) rfl rfl (by first | (simp; done) | (simp [undef]; done)) (by decide) ?_
       refine t_off 22 (j := 20) rfl (by kernel_rfl) rfl rfl (by first | (simp; done) | (simp [undef]; done)) (by decide) ?_
       refine t_off 23 (j := 20) rfl (by kernel_rfl) rfl rfl (by first | (simp; done) | (simp [undef]; done)) (by decide) ?_
       refine t_off 24 (j := 20) rfl (by kernel_rfl) rfl rfl (by first | (simp; done) | (simp [undef]; done)) (by decide) ?_
       refine t_off 25 (j := 20) rfl (by kernel_rfl) rfl rfl (by first | (simp; done) | (simp [undef]; done)) (by decide) ?_
       refine t_off 26 (j := 20) rfl (by kernel_rfl) rfl rfl (by first | (simp; done) | (simp [undef]; done)) (by decide) ?_
       refine t_off 27 (j := 20) rfl (by kernel_rfl) rfl rfl (by first | (simp; done) | (simp [undef]; done)) (by decide) ?_
       refine t_off 28 (j := 12) rfl (by kernel_rfl) rfl rfl (by first | (simp; done) | (simp [undef]; done)) (by decide) ?_
       refine t_take 29 rfl (by kernel_rfl) (by decide) (p_pick rfl rfl).r ?_
       first | refine t_take 30 rfl (by kernel_rfl) (by decide) (r_index Try.underlying29 inf_4 rfl rfl rfl (by first | exact .fact (by repeat constructor) | exact .own (by repeat constructor) (by decide) (fun _ => rfl) | exact SlIn.body (by repeat constructor) (by assumption)) rfl (by omega)).r ?_ | refine t_take 30 rfl (by kernel_rfl) (by decide) (r_index Try.underlying29 inf_4 rfl rfl rfl (by first | exact .fact (by repeat constructor) | exact .own (by repeat constructor) (by decide) (fun _ => rfl) | exact SlIn.body (by repeat constructor) (by assumption)) rfl (by decide)).r ?_ | refine t_take 30 rfl (by kernel_rfl) (by decide) (p_indexo Try.underlying29 inf_4 rfl rfl rfl (by omega)).r ?_
       refine t_last rfl (by kernel_rfl) ?_
       refine l_perm (fam_out [_, _, _] hi) ?_
       refine l_store inf_4 rfl rfl rfl rfl (by rw [bl_len, Nat.mul_one]; exact hj) ?_
       refine l_nil ?_
       refine c_reg ?_
       first | refine l_q (by decide) (p_add (j := 1) rfl rfl rfl rfl (by show _ ≤ (9223372036854775807 : Nat); omega)).q ?_ | refine l_q (by decide) (p_addi rfl rfl (by show (-9223372036854775808 : Int) ≤ _; omega) (by show _ ≤ ((9223372036854775807 : Nat) : Int); omega)).q ?_
       refine l_q (by decide) (p_move rfl).q ?_
       refine l_nil ?_
       refine c_join ((j + 1)) ?_ ?_ ?_ ?_
       ·show ((j + 1) ≤ X.nts.length) ∧ X.nts.length - (j + 1) < X.nts.length - j
        exact ⟨by omega, by omega⟩
       · exact ⟨rfl, rfl, rfl, rfl, rfl, rfl, rfl, rfl, rfl, rfl, trivial⟩
       ·show List.Perm _ ((iCells b23 29 (hdr X.g.n X.g.n B) :: iCells b3 29 [.slice (some ⟨x18.1, 0, none⟩) X.g.n X.g.n] :: iCells b1 25 [.slice X.At X.terms.length X.ct, .slice X.An X.nts.length X.cn, .int .i64 X.start, .slice X.Ar X.xs.length X.cr] :: fam X.g.n (mrow X.g.n B (Ana.wmid k (Ana.wars k (Ana.one X.g (Ana.pn X.g false))) i (j + 1)))))
        exact fam_in [_, _, _] hi (w_set (w_1 h103)) (fun a _ ha => w_other ha)
       · exact fun _ h => h
      ·skip
       refine t_takeg 13 (j := 12) rfl (by kernel_rfl) rfl rfl (by decide) (p_move rfl).r ?_
       refine t_takeg 14 (j := 12) rfl (by kernel_rfl) rfl rfl (by decide) (p_move rfl).r ?_
       first | refine t_takeg 15 (j := 12) rfl (by kernel_rfl) rfl rfl (by decide) (r_index Try.underlying51 inf_29 rfl rfl rfl (by first | exact .fact (by repeat constructor) | exact .own (by repeat constructor) (by decide) (fun _ => rfl) | exact SlIn.body (by repeat constructor) (by assumption)) rfl (by omega)).r ?_ | refine t_takeg 15 (j := 12) rfl (by kernel_rfl) rfl rfl (by decide) (r_index Try.underlying51 inf_29 rfl rfl rfl (by first | exact .fact (by repeat constructor) | exact .own (by repeat constructor) (by decide) (fun _ => rfl) | exact SlIn.body (by repeat constructor) (by assumption)) rfl (by decide)).r ?_ | refine t_takeg 15 (j := 12) rfl (by kernel_rfl) rfl rfl (by decide) (p_indexo Try.underlying51 inf_29 rfl rfl rfl (by omega)).r ?_
       refine t_takeg 16 (j := 12) rfl (by kernel_rfl) rfl rfl (by decide) (r_loado Try.underlying29 rfl rfl (by repeat constructor) (hdr_at hi)).r ?_
       refine t_takeg 17 (j := 12) rfl (by kernel_rfl) rfl rfl (by decide) (p_move rfl).r ?_
       first | refine t_takeg 18 (j := 12) rfl (by kernel_rfl) rfl rfl (by decide) (r_index Try.underlying29 inf_4 rfl rfl rfl (by first | exact .fact (by repeat constructor) | exact .own (by repeat constructor) (by decide) (fun _ => rfl) | exact SlIn.body (by repeat constructor) (by assumption)) rfl (by omega)).r ?_ | refine t_takeg 18 (j := 12) rfl (by kernel_rfl) rfl rfl (by decide) (r_index Try.underlying29 inf_4 rfl rfl rfl (by first | exact .fact (by repeat constructor) | exact .own (by repeat constructor) (by decide) (fun _ => rfl) | exact SlIn.body (by repeat constructor) (by assumption)) rfl (by decide)).r ?_ | refine t_takeg 18 (j := 12) rfl (by kernel_rfl) rfl rfl (by decide) (p_indexo Try.underlying29 inf_4 rfl rfl rfl (by omega)).r ?_
       refine t_takeg 19 (j := 12) rfl (by kernel_rfl) rfl rfl (by decide) (r_loado Try.underlying4 rfl rfl (fam_mem [_, _, _] hi) (bl_at hk)).r ?_
       refine t_takeg 20 (j := 12) rfl (by kernel_rfl) rfl rfl (by decide) (p_move rfl).r ?_
       first | refine c_splitd (t := 111) rfl (fun h111 => ?_) (fun h111 => ?_) | refine c_splitb (t := 111) rfl (fun h111 => ?_) (fun h111 => ?_)
       ·skip
        refine t_takeg 21 (j := 20) rfl (by kernel_rfl) rfl rfl (by decide) (p_move rfl).r ?_
        refine t_takeg 22 (j := 20) rfl (by kernel_rfl) rfl rfl (by decide) (p_move rfl).r ?_
        first | refine t_takeg 23 (j := 20) rfl (by kernel_rfl) rfl rfl (by decide) (r_index Try.underlying51 inf_29 rfl rfl rfl (by first | exact .fact (by repeat constructor) | exact .own (by repeat constructor) (by decide) (fun _ => rfl) | exact SlIn.body (by repeat constructor) (by assumption)) rfl (by omega)).r ?_ | refine t_takeg 23 (j := 20) rfl (by kernel_rfl) rfl rfl (by decide) (r_index Try.underlying51 inf_29 rfl rfl rfl (by first | exact .fact (by repeat constructor) | exact .own (by repeat constructor) (by decide) (fun _ => rfl) | exact SlIn.body (by repeat constructor) (by assumption)) rfl (by decide)).r ?_ | refine t_takeg 23 (j := 20) rfl (by kernel_rfl) rfl rfl (by decide) (p_indexo Try.underlying51 inf_29 rfl rfl rfl (by omega)).r ?_
        refine t_takeg 24 (j := 20) rfl (by kernel_rfl) rfl rfl (by decide) (r_loado Try.underlying29 rfl rfl (by repeat constructor) (hdr_at hk)).r ?_
        refine t_takeg 25 (j := 20) rfl (by kernel_rfl) rfl rfl (by decide) (p_move rfl).r ?_
        first | refine t_takeg 26 (j := 20) rfl (by kernel_rfl) rfl rfl (by decide) (r_index Try.underlying29 inf_4 rfl rfl rfl (by first | exact .fact (by repeat constructor) | exact .own (by repeat constructor) (by decide) (fun _ => rfl) | exact SlIn.body (by repeat constructor) (by assumption)) rfl (by omega)).r ?_ | refine t_takeg 26 (j := 20) rfl (by kernel_rfl) rfl rfl (by decide) (r_index Try.underlying29 inf_4 rfl rfl rfl (by first | exact .fact (by repeat constructor) | exact .own (by repeat constructor) (by decide) (fun _ => rfl) | exact SlIn.body (by repeat constructor) (by assumption)) rfl (by decide)).r ?_ | refine t_takeg 26 (j := 20) rfl (by kernel_rfl) rfl rfl (by decide) (p_indexo Try.underlying29 inf_4 rfl rfl rfl (by omega)).r ?_
        refine t_takeg 27 (j := 20) rfl (by kernel_rfl) rfl rfl (by decide) (r_loado Try.underlying4 rfl rfl (fam_mem [_, _, _] hk) (bl_at hj)).r ?_
        refine t_takeg 28 (j := 12) rfl (by kernel_rfl) rfl rfl (by decide) (p_pick rfl rfl).r ?_
        refine t_take 29 rfl (by kernel_rfl) (by decide) (p_pick rfl rfl).r ?_
        first | refine t_take 30 rfl (by kernel_rfl) (by decide) (r_index Try.underlying29 inf_4 rfl rfl rfl (by first | exact .fact (by repeat constructor) | exact .own (by repeat constructor) (by decide) (fun _ => rfl) | exact SlIn.body (by repeat constructor) (by assumption)) rfl (by omega)).r ?_ | refine t_take 30 rfl (by kernel_rfl) (by decide) (r_index Try.underlying29 inf_4 rfl rfl rfl (by first | exact .fact (by repeat constructor) | exact .own (by repeat constructor) (by decide) (fun _ => rfl) | exact SlIn.body (by repeat constructor) (by assumption)) rfl (by decide)).r ?_ | refine t_take 30 rfl (by kernel_rfl) (by decide) (p_indexo Try.underlying29 inf_4 rfl rfl rfl (by omega)).r ?_
        refine t_last rfl (by kernel_rfl) ?_
        refine l_perm (fam_out [_, _, _] hi) ?_
        refine l_store inf_4 rfl rfl rfl rfl (by rw [bl_len, Nat.mul_one]; exact hj) ?_
        refine l_nil ?_
        refine c_reg ?_
        first | refine l_q (by decide) (p_add (j := 1) rfl rfl rfl rfl (by show _ ≤ (9223372036854775807 : Nat); omega)).q ?_ | refine l_q (by decide) (p_addi rfl rfl (by show (-9223372036854775808 : Int) ≤ _; omega) (by show _ ≤ ((9223372036854775807 : Nat) : Int); omega)).q ?_
        refine l_q (by decide) (p_move rfl).q ?_
        refine l_nil ?_
        refine c_join ((j + 1)) ?_ ?_ ?_ ?_
        ·show ((j + 1) ≤ X.nts.length) ∧ X.nts.length - (j + 1) < X.nts.length - j
         exact ⟨by omega, by omega⟩
        · exact ⟨rfl, rfl, rfl, rfl, rfl, rfl, rfl, rfl, rfl, rfl, trivial⟩
        ·show List.Perm _ ((iCells b23 29 (hdr X.g.n X.g.n B) :: iCells b3 29 [.slice (some ⟨x18.1, 0, none⟩) X.g.n X.g.n] :: iCells b1 25 [.slice X.At X.terms.length X.ct, .slice X.An X.nts.length X.cn, .int .i64 X.start, .slice X.Ar X.xs.length X.cr] :: fam X.g.n (mrow X.g.n B (Ana.wmid k (Ana.wars k (Ana.one X.g (Ana.pn X.g false))) i (j + 1)))))
         exact fam_in [_, _, _] hi (w_set (w_2 h103 h111)) (fun a _ ha => w_other ha)
        · exact fun _ h => h
       ·skip
        refine t_off 21 (j := 20) rfl (by kernel_rfl) rfl rfl (by first | (simp; done) | (simp [undef]; done)) (by decide) ?_
        refine t_off 22 (j := 20) rfl (by kernel_rfl) rfl rfl (by first | (simp; done) | (simp [undef]; done)) (by decide) ?_
        refine t_off 23 (j := 20) rfl (by kernel_rfl) rfl rfl (by first | (simp; done) | (simp [undef]; done)) (by decide) ?_
        refine t_off 24 (j := 20) rfl (by kernel_rfl) rfl rfl (by first | (simp; done) | (simp [undef]; done)) (by decide) ?_
        refine t_off 25 (j := 20) rfl (by kernel_rfl) rfl rfl (by first | (simp; done) | (simp [undef]; done)) (by decide) ?_
        refine t_off 26 (j := 20) rfl (by kernel_rfl) rfl rfl (by first | (simp; done) | (simp [undef]; done)) (by decide) ?_
        refine t_off 27 (j := 20) rfl (by kernel_rfl) rfl rfl (by first | (simp; done) | (simp [undef]; done)) (by decide) ?_
        refine t_takeg 28 (j := 12) rfl (by kernel_rfl) rfl rfl (by decide) (p_pick rfl rfl).r ?_
        refine t_take 29 rfl (by kernel_rfl) (by decide) (p_pick rfl rfl).r ?_
        first | refine t_take 30 rfl (by kernel_rfl) (by decide) (r_index Try.underlying29 inf_4 rfl rfl rfl (by first | exact .fact (by repeat constructor) | exact .own (by repeat constructor) (by decide) (fun _ => rfl) | exact SlIn.body (by repeat constructor) (by assumption)) rfl (by omega)).r ?_ | refine t_take 30 rfl (by kernel_rfl) (by decide) (r_index Try.underlying29 inf_4 rfl rfl rfl (by first | exact .fact (by repeat constructor) | exact .own (by repeat constructor) (by decide) (fun _ => rfl) | exact SlIn.body (by repeat constructor) (by assumption)) rfl (by decide)).r ?_ | refine t_take 30 rfl (by kernel_rfl) (by decide) (p_indexo Try.underlying29 inf_4 rfl rfl rfl (by omega)).r ?_
        refine t_last rfl (by kernel_rfl) ?_
        refine l_perm (fam_out [_, _, _] hi) ?_
        refine l_store inf_4 rfl rfl rfl rfl (by rw [bl_len, Nat.mul_one]; exact hj) ?_
        refine l_nil ?_
        refine c_reg ?_
        first | refine l_q (by decide) (p_add (j := 1) rfl rfl rfl rfl (by show _ ≤ (9223372036854775807 : Nat); omega)).q ?_ | refine l_q (by decide) (p_addi rfl rfl (by show (-9223372036854775808 : Int) ≤ _; omega) (by show _ ≤ ((9223372036854775807 : Nat) : Int); omega)).q ?_
        refine l_q (by decide) (p_move rfl).q ?_
        refine l_nil ?_
        refine c_join ((j + 1)) ?_ ?_ ?_ ?_
        ·show ((j + 1) ≤ X.nts.length) ∧ X.nts.length - (j + 1) < X.nts.length - j
         exact ⟨by omega, by omega⟩
        · exact ⟨rfl, rfl, rfl, rfl, rfl, rfl, rfl, rfl, rfl, rfl, trivial⟩
        ·show List.Perm _ ((iCells b23 29 (hdr X.g.n X.g.n B) :: iCells b3 29 [.slice (some ⟨x18.1, 0, none⟩) X.g.n X.g.n] :: iCells b1 25 [.slice X.At X.terms.length X.ct, .slice X.An X.nts.length X.cn, .int .i64 X.start, .slice X.Ar X.xs.length X.cr] :: fam X.g.n (mrow X.g.n B (Ana.wmid k (Ana.wars k (Ana.one X.g (Ana.pn X.g false))) i (j + 1)))))
         exact fam_in [_, _, _] hi (w_set (w_3 h103 h111)) (fun a _ ha => w_other ha)
        · exact fun _ h => h
     ·skip
      refine c_exit ?_
      refine c_here ?_
      refine c_reg ?_
      first | refine l_q (by decide) (p_add (j := 1) rfl rfl rfl rfl (by show _ ≤ (9223372036854775807 : Nat); omega)).q ?_ | refine l_q (by decide) (p_addi rfl rfl (by show (-9223372036854775808 : Int) ≤ _; omega) (by show _ ≤ ((9223372036854775807 : Nat) : Int); omega)).q ?_
      refine l_q (by decide) (p_move rfl).q ?_
      refine l_nil ?_
      refine c_join ((i + 1)) ?_ ?_ ?_ ?_
      ·show ((i + 1) ≤ X.nts.length) ∧ X.nts.length - (i + 1) < X.nts.length - i
       exact ⟨by omega, by omega⟩
      · exact ⟨rfl, rfl, rfl, rfl, rfl, rfl, rfl, trivial⟩
      ·show List.Perm _ ((iCells b23 29 (hdr X.g.n X.g.n B) :: iCells b3 29 [.slice (some ⟨x18.1, 0, none⟩) X.g.n X.g.n] :: iCells b1 25 [.slice X.At X.terms.length X.ct, .slice X.An X.nts.length X.cn, .int .i64 X.start, .slice X.Ar X.xs.length X.cr] :: fam X.g.n (mrow X.g.n B (Ana.wmid k (Ana.wars k (Ana.one X.g (Ana.pn X.g false))) (i + 1) 0))))
       obtain rfl : j = X.nts.length := by omega
       exact fam_perm [_, _, _] (fun a _ => w_row)
      · exact fun _ h => h
    ·skip
     refine c_exit ?_
     refine c_here ?_
     refine c_reg ?_
     first | refine l_q (by decide) (p_add (j := 1) rfl rfl rfl rfl (by show _ ≤ (9223372036854775807 : Nat); omega)).q ?_ | refine l_q (by decide) (p_addi rfl rfl (by show (-9223372036854775808 : Int) ≤ _; omega) (by show _ ≤ ((9223372036854775807 : Nat) : Int); omega)).q ?_
     refine l_q (by decide) (p_move rfl).q ?_
     refine l_nil ?_
     refine c_join ((k + 1)) ?_ ?_ ?_ ?_
     ·show ((k + 1) ≤ X.nts.length) ∧ X.nts.length - (k + 1) < X.nts.length - k
      exact ⟨by omega, by omega⟩
     · exact ⟨rfl, rfl, rfl, rfl, trivial⟩
     ·show List.Perm _ ((iCells b23 29 (hdr X.g.n X.g.n B) :: iCells b3 29 [.slice (some ⟨x18.1, 0, none⟩) X.g.n X.g.n] :: iCells b1 25 [.slice X.At X.terms.length X.ct, .slice X.An X.nts.length X.cn, .int .i64 X.start, .slice X.Ar X.xs.length X.cr] :: fam X.g.n (mrow X.g.n B (Ana.wars (k + 1) (Ana.one X.g (Ana.pn X.g false))))))
      obtain rfl : i = X.nts.length := by omega
      exact fam_perm [_, _, _] (fun a ha => w_end ha)
     · exact fun _ h => h
   ·skip
    refine c_exit ?_
    refine c_here ?_
    refine c_seq ?_
    refine c_reg ?_
    refine l_q (by decide) (p_move rfl).q ?_
    refine l_make (by decide) Try.underlying29 inf_4 rfl rfl rfl rfl rfl rfl (by omega) (by omega) (fun b126 => ?_)
    refine l_q (by decide) (p_assign rfl).q ?_
    refine l_nil ?_
    refine c_seq ?_
    refine c_seq ?_
    refine c_reg ?_
    refine l_q (by decide) (p_move rfl).q ?_
    refine l_q (by decide) (p_len_sl Try.underlying29 rfl).q ?_
    refine l_q (by decide) (p_move (v := .int .i64 ((0 : Nat) : Int)) rfl).q ?_
    refine l_nil ?_
    refine c_block ?_
    obtain rfl : k = X.nts.length := by omega
    rw [show List.replicate X.nts.length (Value.bool false) = bl X.g.n (fun _ => false) from bl_rep _]
    refine c_loop (S := Nat) (fun zs => zs ≤ X.nts.length) (fun zs => X.nts.length - zs) (fun zs => [(5, .slice (some ⟨b23, 0, none⟩) X.g.n X.g.n), (15, .slice (some ⟨b126, 0, none⟩) X.nts.length X.nts.length), (128, .int .i64 (X.nts.length : Int)), (129, .int .i64 (zs : Int))]) (fun zs => (iCells b126 4 (bl X.g.n (fun a => if a < zs then Ana.cyc X.g a else false)) :: iCells b23 29 (hdr X.g.n X.g.n B) :: iCells b3 29 [.slice (some ⟨x18.1, 0, none⟩) X.g.n X.g.n] :: iCells b1 25 [.slice X.At X.terms.length X.ct, .slice X.An X.nts.length X.cn, .int .i64 X.start, .slice X.Ar X.xs.length X.cr] :: fam X.g.n (mrow X.g.n B (Ana.wars X.nts.length (Ana.one X.g (Ana.pn X.g false)))))) (fun zs => [Sl 1 boolF (some ⟨x18.1, 0, none⟩) (Ana.mkl X.g.n (Ana.pn X.g false)), Bd X.xs, Sl 3 ruF X.Ar X.xs, Sl 1 strF X.An X.nts, Sl 1 strF X.At X.terms]) (0) ?_ ?_ ?_ ?_ ?_
    · show (0) ≤ X.nts.length
      exact Nat.zero_le _
    · exact ⟨rfl, rfl, rfl, rfl, trivial⟩
    · exact (by rw [show (fun a => if a < 0 then Ana.cyc X.g a else false) = (fun _ => false) from funext fun a => if_neg (by omega)])
    · exact fun _ h => h
    rintro k hinv
    have hinv : k ≤ X.nts.length := hinv
    have hk := hinv
    show Cont _ _ _ _ [(5, .slice (some ⟨b23, 0, none⟩) X.g.n X.g.n), (15, .slice (some ⟨b126, 0, none⟩) X.nts.length X.nts.length), (128, .int .i64 (X.nts.length : Int)), (129, .int .i64 (k : Int))] ((iCells b126 4 (bl X.g.n (fun a => if a < k then Ana.cyc X.g a else false)) :: iCells b23 29 (hdr X.g.n X.g.n B) :: iCells b3 29 [.slice (some ⟨x18.1, 0, none⟩) X.g.n X.g.n] :: iCells b1 25 [.slice X.At X.terms.length X.ct, .slice X.An X.nts.length X.cn, .int .i64 X.start, .slice X.Ar X.xs.length X.cr] :: fam X.g.n (mrow X.g.n B (Ana.wars X.nts.length (Ana.one X.g (Ana.pn X.g false)))))) [Sl 1 boolF (some ⟨x18.1, 0, none⟩) (Ana.mkl X.g.n (Ana.pn X.g false)), Bd X.xs, Sl 3 ruF X.Ar X.xs, Sl 1 strF X.An X.nts, Sl 1 strF X.At X.terms]
    refine c_seq ?_
    refine c_reg ?_
    first | refine l_q (by decide) (p_lss rfl rfl rfl rfl).q ?_ | refine l_q (by decide) (p_lssi rfl rfl).q ?_
    refine l_nil ?_
    refine c_seq ?_
    first | refine c_dec rfl (fun h130 => ?_) (fun h130 => ?_) | refine c_cond rfl (fun h130 => ?_) (fun h130 => ?_)
    ·skip
     refine c_skip ?_
     refine c_seq ?_
     refine c_block ?_
     refine c_seq ?_
     refine c_reg ?_
     refine l_q (by decide) (p_move rfl).q ?_
     refine l_q (by decide) (p_assign rfl).q ?_
     refine l_nil ?_
     have hk : k < X.g.n := by show k < X.nts.length; omega
     have hkb : k * 1 < (bl X.g.n (fun a => if a < k then Ana.cyc X.g a else false)).length := by rw [bl_len, Nat.mul_one]; exact hk
     refine c_reg ?_
     refine l_q (by decide) (p_move rfl).q ?_
     refine l_q (by decide) (p_move rfl).q ?_
     refine l_q (by decide) (p_move rfl).q ?_
     refine l_q (by decide) (p_move rfl).q ?_
     first | refine l_q (by decide) (r_index Try.underlying51 inf_29 rfl rfl rfl (by first | exact .fact (by repeat constructor) | exact .own (by repeat constructor) (by decide) (fun _ => rfl) | exact SlIn.body (by repeat constructor) (by assumption)) rfl (by omega)).q ?_ | refine l_q (by decide) (r_index Try.underlying51 inf_29 rfl rfl rfl (by first | exact .fact (by repeat constructor) | exact .own (by repeat constructor) (by decide) (fun _ => rfl) | exact SlIn.body (by repeat constructor) (by assumption)) rfl (by decide)).q ?_ | refine l_q (by decide) (p_indexo Try.underlying51 inf_29 rfl rfl rfl (by omega)).q ?_
     refine l_q (by decide) (r_loado Try.underlying29 rfl rfl (by repeat constructor) (hdr_at hk)).q ?_
     refine l_q (by decide) (p_move rfl).q ?_
     first | refine l_q (by decide) (r_index Try.underlying29 inf_4 rfl rfl rfl (by first | exact .fact (by repeat constructor) | exact .own (by repeat constructor) (by decide) (fun _ => rfl) | exact SlIn.body (by repeat constructor) (by assumption)) rfl (by omega)).q ?_ | refine l_q (by decide) (r_index Try.underlying29 inf_4 rfl rfl rfl (by first | exact .fact (by repeat constructor) | exact .own (by repeat constructor) (by decide) (fun _ => rfl) | exact SlIn.body (by repeat constructor) (by assumption)) rfl (by decide)).q ?_ | refine l_q (by decide) (p_indexo Try.underlying29 inf_4 rfl rfl rfl (by omega)).q ?_
     refine l_q (by decide) (r_loado Try.underlying4 rfl rfl (fam_mem [_, _, _, _] hk) (bl_at hk)).q ?_
     first | refine l_q (by decide) (r_index Try.underlying29 inf_4 rfl rfl rfl (by first | exact .fact (by repeat constructor) | exact .own (by repeat constructor) (by decide) (fun _ => rfl) | exact SlIn.body (by repeat constructor) (by assumption)) rfl (by omega)).q ?_ | refine l_q (by decide) (r_index Try.underlying29 inf_4 rfl rfl rfl (by first | exact .fact (by repeat constructor) | exact .own (by repeat constructor) (by decide) (fun _ => rfl) | exact SlIn.body (by repeat constructor) (by assumption)) rfl (by decide)).q ?_ | refine l_q (by decide) (p_indexo Try.underlying29 inf_4 rfl rfl rfl (by omega)).q ?_
     first | (refine l_store inf_4 rfl rfl rfl rfl (by first | decide | exact Nat.le_of_ble_eq_true rfl | (simp; done) | omega | (simp only [Nat.mul_one]; assumption)) ?_) | (refine l_perm (front1 _ _ _) ?_; refine l_store inf_4 rfl rfl rfl rfl (by first | decide | exact Nat.le_of_ble_eq_true rfl | (simp; done) | omega | (simp only [Nat.mul_one]; assumption)) ?_) | (refine l_perm (front2 _ _ _ _) ?_; refine l_store inf_4 rfl rfl rfl rfl (by first | decide | exact Nat.le_of_ble_eq_true rfl | (simp; done) | omega | (simp only [Nat.mul_one]; assumption)) ?_) | (refine l_perm (front3 _ _ _ _ _) ?_; refine l_store inf_4 rfl rfl rfl rfl (by first | decide | exact Nat.le_of_ble_eq_true rfl | (simp; done) | omega | (simp only [Nat.mul_one]; assumption)) ?_) | (refine l_perm (front4 _ _ _ _ _ _) ?_; refine l_store inf_4 rfl rfl rfl rfl (by first | decide | exact Nat.le_of_ble_eq_true rfl | (simp; done) | omega | (simp only [Nat.mul_one]; assumption)) ?_)
     refine l_nil ?_
     refine c_reg ?_
     first | refine l_q (by decide) (p_add (j := 1) rfl rfl rfl rfl (by show _ ≤ (9223372036854775807 : Nat); omega)).q ?_ | refine l_q (by decide) (p_addi rfl rfl (by show (-9223372036854775808 : Int) ≤ _; omega) (by show _ ≤ ((9223372036854775807 : Nat) : Int); omega)).q ?_
     refine l_q (by decide) (p_move rfl).q ?_
     refine l_nil ?_
     refine c_join ((k + 1)) ?_ ?_ ?_ ?_
     ·show ((k + 1) ≤ X.nts.length) ∧ X.nts.length - (k + 1) < X.nts.length - k
      exact ⟨by omega, by omega⟩
     · exact ⟨rfl, rfl, rfl, rfl, trivial⟩
     ·show List.Perm _ ((iCells b126 4 (bl X.g.n (fun a => if a < (k + 1) then Ana.cyc X.g a else false)) :: iCells b23 29 (hdr X.g.n X.g.n B) :: iCells b3 29 [.slice (some ⟨x18.1, 0, none⟩) X.g.n X.g.n] :: iCells b1 25 [.slice X.At X.terms.length X.ct, .slice X.An X.nts.length X.cn, .int .i64 X.start, .slice X.Ar X.xs.length X.cr] :: fam X.g.n (mrow X.g.n B (Ana.wars X.nts.length (Ana.one X.g (Ana.pn X.g false))))))
      rw [bl_set, cyc_set]
     · exact fun _ h => h
    ·skip
     refine c_exit ?_
     refine c_here ?_
     refine c_seq ?_
     refine c_reg ?_
     refine l_q (by decide) (p_move rfl).q ?_
     refine l_q (by decide) (p_assign rfl).q ?_
     refine l_nil ?_
     refine c_ret ?_
     refine c_ret1 rfl rfl (fun w hs => ?_)
     obtain rfl : k = X.nts.length := by omega
     rw [bl_ext (n := X.g.n) (f := fun a => if a < X.nts.length then Ana.cyc X.g a else false) (g := Ana.cyc X.g) (fun a ha => if_pos ha)] at hs
     have hgo := hs.own (iCells b126 4 (bl X.g.n (Ana.cyc X.g))) (by repeat constructor)
     have hgk := hgo.2.2 b126 (by simp [iCells])
     have hgh := hgo.1
     rw [bl_flat] at hgh
     exact ⟨b126, rfl, cells_sl (fun _ => rfl) hgh, ⟨by simpa using hgk.2, hgk.1⟩, hs.ext⟩

theorem rcyclic_ok (X : GI) (hX : X.small) (w : World) (hM : X.mem w) (ok : Ana.Ok X.g) :
   Calls Try.prog 20 #[.agg #[.slice X.At X.terms.length X.ct, .slice X.An X.nts.length X.cn, .int .i64 X.start, .slice X.Ar X.xs.length X.cr]] w (Ret fun v w' => ∃ bo : Nat, v = .slice (some ⟨bo, 0, none⟩) X.g.n X.g.n ∧ Sl 1 boolF (some ⟨bo, 0, none⟩) (Ana.mkl X.g.n (Ana.cyc X.g)) w' ∧ (w.heap.size ≤ bo ∧ bo < w'.heap.size) ∧ Ext [] w w') := by
 have hnl := ok.nl
 have hnn : X.nts.length ≤ 8 := hnl
 have hnn2 : X.nts.length * X.nts.length ≤ 64 := Nat.mul_le_mul hnn hnn
 have hxl := hX.x
 refine calls_fx (l := [.agg #[.slice X.At X.terms.length X.ct, .slice X.An X.nts.length X.cn, .int .i64 X.start, .slice X.Ar X.xs.length X.cr]]) Try.func20 rfl Try.ntmps20 (Nat.le_of_ble_eq_true rfl) (X.begin hM) ?_
 refine c_seq ?_
 obtain ⟨lo, hlo⟩ : ∃ lo, lo = w.heap.size := ⟨_, rfl⟩
 refine c_reg ?_
 refine l_box (by decide) rfl _ rfl (fun b1 => ?_)
 refine l_q (by decide) (p_assign rfl).q ?_
 refine l_nil ?_
 refine c_seq ?_
 refine c_reg ?_
 first | refine l_q (by decide) (p_faddr (i := 1) 1 Try.underlying25 rfl inf_22 (by decide) rfl rfl).q ?_ | refine l_q (by decide) (p_faddro (i := 1) 1 Try.underlying25 rfl inf_22 (by decide) rfl rfl).q ?_
 first | refine l_q (by decide) (r_loado Try.underlying22 rfl rfl (by repeat constructor) (by rfl)).q ?_ | refine l_q (by decide) (r_load1 Try.underlying22 rfl rfl (by first | exact .fact (by repeat constructor) | exact .own (by repeat constructor) (by decide) (fun _ => rfl) | exact SlIn.body (by repeat constructor) (by assumption)) (by first | assumption | rfl) (by rfl)).q ?_ | refine l_q (by decide) (r_loadf Try.underlying22 rfl rfl (by first | exact .fact (by repeat constructor) | exact .own (by repeat constructor) (by decide) (fun _ => rfl) | exact SlIn.body (by repeat constructor) (by assumption)) (by assumption) (by rfl)).q ?_
 refine l_q (by decide) (p_len_sl Try.underlying22 rfl).q ?_
 refine l_q (by decide) (p_assign rfl).q ?_
 refine l_nil ?_
 refine c_seq ?_
 refine c_reg ?_
 first | refine l_q (by decide) (r_loada Try.underlying25 rfl inf_25 rfl (by first | exact .fact (by repeat constructor) | exact .own (by repeat constructor) (by decide) (fun _ => rfl) | exact SlIn.body (by repeat constructor) (by assumption)) (by assumption)).q ?_ | refine l_q (by decide) (r_loadow Try.underlying25 rfl inf_25 rfl (by repeat constructor) (by rfl)).q ?_ | refine l_q (by decide) (r_loadoa Try.underlying25 rfl inf_25 rfl (by repeat constructor) (by rfl) (fun j u h => h)).q ?_
 refine l_call (X := { bo : Nat // lo ≤ bo }) (fun x => .slice (some ⟨x.1, 0, none⟩) X.g.n X.g.n) (fun x => Sl 1 boolF (some ⟨x.1, 0, none⟩) (Ana.mkl X.g.n (Ana.pn X.g false))) (by decide) call_14 rfl (fun w hs => tab_call (by rw [hlo]; exact hs.ext.size) (rnullable_ok X hX w (GI.of hs (by repeat constructor) (by repeat constructor) (by repeat constructor) (by repeat constructor)) ok)) (fun x18 => ?_)
 refine l_q (by decide) (p_assign rfl).q ?_
 refine l_nil ?_
 refine c_seq ?_
 refine c_reg ?_
 refine l_q (by decide) (p_move rfl).q ?_
 refine l_q (by decide) (p_move rfl).q ?_
 refine l_q (by decide) (p_mul rfl rfl rfl rfl (by show _ ≤ (9223372036854775807 : Nat); omega)).q ?_
 refine l_make (by decide) Try.underlying29 inf_4 rfl rfl rfl rfl rfl rfl (by omega) (by omega) (fun b22 => ?_)
 refine l_q (by decide) (p_assign rfl).q ?_
 refine l_nil ?_
 refine c_seq ?_
 refine c_seq ?_
 refine c_reg ?_
 refine l_q (by decide) (p_assign (v := .int .i64 ((0 : Nat) : Int)) rfl).q ?_
 refine l_nil ?_
 refine c_block ?_
 rw [show List.replicate (X.nts.length * X.nts.length) (Value.bool false) = bl (X.g.n * X.g.n) (fl X.g.n (fun _ _ => false)) from bl_rep _]
 refine c_loop (S := Nat × MF) (fun zs => zs.1 ≤ X.xs.length ∧ SoundC X zs.2 ∧ ∀ z, z ∈ X.xs.take zs.1 → FullC X z zs.2 z.r.body.length) (fun zs => X.xs.length - zs.1) (fun zs => [(1, .pointer (some ⟨b1, 0, none⟩)), (3, .int .i64 (X.nts.length : Int)), (4, .slice (some ⟨x18.1, 0, none⟩) X.g.n X.g.n), (5, .slice (some ⟨b22, 0, none⟩) (X.nts.length * X.nts.length) (X.nts.length * X.nts.length)), (6, .int .i64 (zs.1 : Int))]) (fun zs => [iCells b22 4 (bl (X.g.n * X.g.n) (fl X.g.n (zs.2))), iCells b1 25 [.slice X.At X.terms.length X.ct, .slice X.An X.nts.length X.cn, .int .i64 X.start, .slice X.Ar X.xs.length X.cr]]) (fun zs => [Sl 1 boolF (some ⟨x18.1, 0, none⟩) (Ana.mkl X.g.n (Ana.pn X.g false)), Bd X.xs, Sl 3 ruF X.Ar X.xs, Sl 1 strF X.An X.nts, Sl 1 strF X.At X.terms]) (0, fun _ _ => false) ?_ ?_ ?_ ?_ ?_
 · show (0) ≤ X.xs.length ∧ SoundC X (fun _ _ => false) ∧ ∀ z, z ∈ X.xs.take (0) → FullC X z (fun _ _ => false) z.r.body.length
   exact ⟨Nat.zero_le _, (fun _ _ h => nomatch h), fun z h => absurd h (by simp)⟩
 · exact ⟨rfl, rfl, rfl, rfl, rfl, trivial⟩
 · exact .refl _
 · exact fun _ h => h
 rintro ⟨k, f⟩ hinv
 have hinv : k ≤ X.xs.length ∧ SoundC X f ∧ ∀ z, z ∈ X.xs.take k → FullC X z f z.r.body.length := hinv
 obtain ⟨hJ1, hJ2, hJ3⟩ := hinv
 show Cont _ _ _ _ [(1, .pointer (some ⟨b1, 0, none⟩)), (3, .int .i64 (X.nts.length : Int)), (4, .slice (some ⟨x18.1, 0, none⟩) X.g.n X.g.n), (5, .slice (some ⟨b22, 0, none⟩) (X.nts.length * X.nts.length) (X.nts.length * X.nts.length)), (6, .int .i64 (k : Int))] ([iCells b22 4 (bl (X.g.n * X.g.n) (fl X.g.n (f))), iCells b1 25 [.slice X.At X.terms.length X.ct, .slice X.An X.nts.length X.cn, .int .i64 X.start, .slice X.Ar X.xs.length X.cr]]) [Sl 1 boolF (some ⟨x18.1, 0, none⟩) (Ana.mkl X.g.n (Ana.pn X.g false)), Bd X.xs, Sl 3 ruF X.Ar X.xs, Sl 1 strF X.An X.nts, Sl 1 strF X.At X.terms]
 refine c_seq ?_
 refine c_seq ?_
 refine c_reg ?_
 refine l_q (by decide) (p_move rfl).q ?_
 first | refine l_q (by decide) (p_faddr (i := 3) 3 Try.underlying25 rfl inf_23 (by decide) rfl rfl).q ?_ | refine l_q (by decide) (p_faddro (i := 3) 3 Try.underlying25 rfl inf_23 (by decide) rfl rfl).q ?_
 first | refine l_q (by decide) (r_loado Try.underlying23 rfl rfl (by repeat constructor) (by rfl)).q ?_ | refine l_q (by decide) (r_load1 Try.underlying23 rfl rfl (by first | exact .fact (by repeat constructor) | exact .own (by repeat constructor) (by decide) (fun _ => rfl) | exact SlIn.body (by repeat constructor) (by assumption)) (by first | assumption | rfl) (by rfl)).q ?_ | refine l_q (by decide) (r_loadf Try.underlying23 rfl rfl (by first | exact .fact (by repeat constructor) | exact .own (by repeat constructor) (by decide) (fun _ => rfl) | exact SlIn.body (by repeat constructor) (by assumption)) (by assumption) (by rfl)).q ?_
 refine l_q (by decide) (p_len_sl Try.underlying23 rfl).q ?_
 first | refine l_q (by decide) (p_lss rfl rfl rfl rfl).q ?_ | refine l_q (by decide) (p_lssi rfl rfl).q ?_
 refine l_nil ?_
 first | refine c_dec rfl (fun h27 => ?_) (fun h27 => ?_) | refine c_cond rfl (fun h27 => ?_) (fun h27 => ?_)
 ·skip
  obtain ⟨x, hx⟩ := at_some (l := X.xs) (n := k) (by omega)
  obtain ⟨hh1, hh2⟩ := ok.hd (rule_mem hx)
  have hbl := ok.bl _ (rule_mem hx)
  have hxb := hX.b x (List.mem_of_getElem? hx)
  refine c_skip ?_
  refine c_seq ?_
  refine c_block ?_
  refine c_seq ?_
  refine c_reg ?_
  first | refine l_q (by decide) (p_faddr (i := 3) 3 Try.underlying25 rfl inf_23 (by decide) rfl rfl).q ?_ | refine l_q (by decide) (p_faddro (i := 3) 3 Try.underlying25 rfl inf_23 (by decide) rfl rfl).q ?_
  first | refine l_q (by decide) (r_loado Try.underlying23 rfl rfl (by repeat constructor) (by rfl)).q ?_ | refine l_q (by decide) (r_load1 Try.underlying23 rfl rfl (by first | exact .fact (by repeat constructor) | exact .own (by repeat constructor) (by decide) (fun _ => rfl) | exact SlIn.body (by repeat constructor) (by assumption)) (by first | assumption | rfl) (by rfl)).q ?_ | refine l_q (by decide) (r_loadf Try.underlying23 rfl rfl (by first | exact .fact (by repeat constructor) | exact .own (by repeat constructor) (by decide) (fun _ => rfl) | exact SlIn.body (by repeat constructor) (by assumption)) (by assumption) (by rfl)).q ?_
  refine l_q (by decide) (p_move rfl).q ?_
  first | refine l_q (by decide) (r_index Try.underlying23 inf_41 rfl rfl rfl (by first | exact .fact (by repeat constructor) | exact .own (by repeat constructor) (by decide) (fun _ => rfl) | exact SlIn.body (by repeat constructor) (by assumption)) rfl (by omega)).q ?_ | refine l_q (by decide) (r_index Try.underlying23 inf_41 rfl rfl rfl (by first | exact .fact (by repeat constructor) | exact .own (by repeat constructor) (by decide) (fun _ => rfl) | exact SlIn.body (by repeat constructor) (by assumption)) rfl (by decide)).q ?_ | refine l_q (by decide) (p_indexo Try.underlying23 inf_41 rfl rfl rfl (by omega)).q ?_
  first | refine l_q (by decide) (r_loada Try.underlying41 rfl inf_41 rfl (by first | exact .fact (by repeat constructor) | exact .own (by repeat constructor) (by decide) (fun _ => rfl) | exact SlIn.body (by repeat constructor) (by assumption)) (by assumption)).q ?_ | refine l_q (by decide) (r_loadow Try.underlying41 rfl inf_41 rfl (by repeat constructor) (by rfl)).q ?_ | refine l_q (by decide) (r_loadoa Try.underlying41 rfl inf_41 rfl (by repeat constructor) (by rfl) (fun j u h => h)).q ?_
  refine l_alloc (by decide) inf_41 _ rfl (fun b7 => ?_)
  first | (refine l_storew inf_41 rfl rfl rfl rfl rfl ?_) | (refine l_perm (front1 _ _ _) ?_; refine l_storew inf_41 rfl rfl rfl rfl rfl ?_) | (refine l_perm (front2 _ _ _ _) ?_; refine l_storew inf_41 rfl rfl rfl rfl rfl ?_) | (refine l_perm (front3 _ _ _ _ _) ?_; refine l_storew inf_41 rfl rfl rfl rfl rfl ?_) | (refine l_perm (front4 _ _ _ _ _ _) ?_; refine l_storew inf_41 rfl rfl rfl rfl rfl ?_) | (refine l_storea inf_41 rfl rfl rfl rfl (by decide) ?_) | (refine l_perm (front1 _ _ _) ?_; refine l_storea inf_41 rfl rfl rfl rfl (by decide) ?_) | (refine l_perm (front2 _ _ _ _) ?_; refine l_storea inf_41 rfl rfl rfl rfl (by decide) ?_)
  refine l_nil ?_
  refine c_seq ?_
  refine c_reg ?_
  refine l_q (by decide) (p_assign (v := .int .i64 ((0 : Nat) : Int)) rfl).q ?_
  refine l_nil ?_
  refine c_block ?_
  refine c_loop (S := Nat × MF) (fun zs => zs.1 ≤ x.r.body.length ∧ SoundC X zs.2 ∧ (∀ z, z ∈ X.xs.take k → FullC X z zs.2 z.r.body.length) ∧ FullC X x zs.2 zs.1) (fun zs => x.r.body.length - zs.1) (fun zs => [(1, .pointer (some ⟨b1, 0, none⟩)), (3, .int .i64 (X.nts.length : Int)), (4, .slice (some ⟨x18.1, 0, none⟩) X.g.n X.g.n), (5, .slice (some ⟨b22, 0, none⟩) (X.nts.length * X.nts.length) (X.nts.length * X.nts.length)), (6, .int .i64 (k : Int)), (7, .pointer (some ⟨b7, 0, none⟩)), (8, .int .i64 (zs.1 : Int))]) (fun zs => [iCells b7 41 (ruF x), iCells b22 4 (bl (X.g.n * X.g.n) (fl X.g.n (zs.2))), iCells b1 25 [.slice X.At X.terms.length X.ct, .slice X.An X.nts.length X.cn, .int .i64 X.start, .slice X.Ar X.xs.length X.cr]]) (fun zs => [Sl 1 boolF (some ⟨x18.1, 0, none⟩) (Ana.mkl X.g.n (Ana.pn X.g false)), Bd X.xs, Sl 3 ruF X.Ar X.xs, Sl 1 strF X.An X.nts, Sl 1 strF X.At X.terms]) (0, f) ?_ ?_ ?_ ?_ ?_
  · show (0) ≤ x.r.body.length ∧ SoundC X (f) ∧ (∀ z, z ∈ X.xs.take k → FullC X z (f) z.r.body.length) ∧ FullC X x (f) (0)
    exact ⟨Nat.zero_le _, hJ2, hJ3, fun p hp => absurd hp (by omega)⟩
  · exact ⟨rfl, rfl, rfl, rfl, rfl, rfl, rfl, trivial⟩
  · exact .refl _
  · exact fun _ h => h
  rintro ⟨j, h⟩ hinv
  have hinv : j ≤ x.r.body.length ∧ SoundC X h ∧ (∀ z, z ∈ X.xs.take k → FullC X z h z.r.body.length) ∧ FullC X x h j := hinv
  obtain ⟨hL1, hL2, hL3, hL4⟩ := hinv
  show Cont _ _ _ _ [(1, .pointer (some ⟨b1, 0, none⟩)), (3, .int .i64 (X.nts.length : Int)), (4, .slice (some ⟨x18.1, 0, none⟩) X.g.n X.g.n), (5, .slice (some ⟨b22, 0, none⟩) (X.nts.length * X.nts.length) (X.nts.length * X.nts.length)), (6, .int .i64 (k : Int)), (7, .pointer (some ⟨b7, 0, none⟩)), (8, .int .i64 (j : Int))] ([iCells b7 41 (ruF x), iCells b22 4 (bl (X.g.n * X.g.n) (fl X.g.n (h))), iCells b1 25 [.slice X.At X.terms.length X.ct, .slice X.An X.nts.length X.cn, .int .i64 X.start, .slice X.Ar X.xs.length X.cr]]) [Sl 1 boolF (some ⟨x18.1, 0, none⟩) (Ana.mkl X.g.n (Ana.pn X.g false)), Bd X.xs, Sl 3 ruF X.Ar X.xs, Sl 1 strF X.An X.nts, Sl 1 strF X.At X.terms]
  refine c_seq ?_
  refine c_seq ?_
  refine c_reg ?_
  refine l_q (by decide) (p_move rfl).q ?_
  first | refine l_q (by decide) (p_faddr (i := 1) 1 Try.underlying41 rfl inf_39 (by decide) rfl rfl).q ?_ | refine l_q (by decide) (p_faddro (i := 1) 1 Try.underlying41 rfl inf_39 (by decide) rfl rfl).q ?_
  first | refine l_q (by decide) (r_loado Try.underlying39 rfl rfl (by repeat constructor) (by rfl)).q ?_ | refine l_q (by decide) (r_load1 Try.underlying39 rfl rfl (by first | exact .fact (by repeat constructor) | exact .own (by repeat constructor) (by decide) (fun _ => rfl) | exact SlIn.body (by repeat constructor) (by assumption)) (by first | assumption | rfl) (by rfl)).q ?_ | refine l_q (by decide) (r_loadf Try.underlying39 rfl rfl (by first | exact .fact (by repeat constructor) | exact .own (by repeat constructor) (by decide) (fun _ => rfl) | exact SlIn.body (by repeat constructor) (by assumption)) (by assumption) (by rfl)).q ?_
  refine l_q (by decide) (p_len_sl Try.underlying39 rfl).q ?_
  first | refine l_q (by decide) (p_lss rfl rfl rfl rfl).q ?_ | refine l_q (by decide) (p_lssi rfl rfl).q ?_
  refine l_nil ?_
  first | refine c_dec rfl (fun h39 => ?_) (fun h39 => ?_) | refine c_cond rfl (fun h39 => ?_) (fun h39 => ?_)
  ·skip
   obtain ⟨y, hy⟩ := at_some (l := x.r.body) (n := j) (by omega)
   have hyb := ok.b0 _ (rule_mem hx) y (List.mem_of_getElem? hy)
   refine c_skip ?_
   refine c_seq ?_
   refine c_block ?_
   refine c_seq ?_
   refine c_body (m := j) (by repeat constructor) hx (by omega) ?_
   refine c_reg ?_
   first | refine l_q (by decide) (p_faddr (i := 1) 1 Try.underlying41 rfl inf_39 (by decide) rfl rfl).q ?_ | refine l_q (by decide) (p_faddro (i := 1) 1 Try.underlying41 rfl inf_39 (by decide) rfl rfl).q ?_
   first | refine l_q (by decide) (r_loado Try.underlying39 rfl rfl (by repeat constructor) (by rfl)).q ?_ | refine l_q (by decide) (r_load1 Try.underlying39 rfl rfl (by first | exact .fact (by repeat constructor) | exact .own (by repeat constructor) (by decide) (fun _ => rfl) | exact SlIn.body (by repeat constructor) (by assumption)) (by first | assumption | rfl) (by rfl)).q ?_ | refine l_q (by decide) (r_loadf Try.underlying39 rfl rfl (by first | exact .fact (by repeat constructor) | exact .own (by repeat constructor) (by decide) (fun _ => rfl) | exact SlIn.body (by repeat constructor) (by assumption)) (by assumption) (by rfl)).q ?_
   refine l_q (by decide) (p_move rfl).q ?_
   first | refine l_q (by decide) (r_index Try.underlying39 inf_3 rfl rfl rfl (by first | exact .fact (by repeat constructor) | exact .own (by repeat constructor) (by decide) (fun _ => rfl) | exact SlIn.body (by repeat constructor) (by assumption)) rfl (by omega)).q ?_ | refine l_q (by decide) (r_index Try.underlying39 inf_3 rfl rfl rfl (by first | exact .fact (by repeat constructor) | exact .own (by repeat constructor) (by decide) (fun _ => rfl) | exact SlIn.body (by repeat constructor) (by assumption)) rfl (by decide)).q ?_ | refine l_q (by decide) (p_indexo Try.underlying39 inf_3 rfl rfl rfl (by omega)).q ?_
   first | refine l_q (by decide) (r_loado Try.underlying3 rfl rfl (by repeat constructor) (by rfl)).q ?_ | refine l_q (by decide) (r_load1 Try.underlying3 rfl rfl (by first | exact .fact (by repeat constructor) | exact .own (by repeat constructor) (by decide) (fun _ => rfl) | exact SlIn.body (by repeat constructor) (by assumption)) (by first | assumption | rfl) (by rfl)).q ?_ | refine l_q (by decide) (r_loadf Try.underlying3 rfl rfl (by first | exact .fact (by repeat constructor) | exact .own (by repeat constructor) (by decide) (fun _ => rfl) | exact SlIn.body (by repeat constructor) (by assumption)) (by assumption) (by rfl)).q ?_
   first | refine l_q (by decide) (p_lss (j := 0) rfl rfl rfl rfl).q ?_ | refine l_q (by decide) (p_lssi rfl rfl).q ?_
   refine l_q (by decide) (p_move rfl).q ?_
   first | refine l_splitd (t := 48) rfl (fun h48 => ?_) (fun h48 => ?_) | refine l_splitb (t := 48) rfl (fun h48 => ?_) (fun h48 => ?_)
   ·skip
    have hn2 := ok.nt_lt (rule_mem hx) (List.mem_of_getElem? hy) h48
    first | refine l_g (j := 6) rfl rfl (by decide) (p_faddr (i := 1) 1 Try.underlying41 rfl inf_39 (by decide) rfl rfl).q ?_ | refine l_g (j := 6) rfl rfl (by decide) (p_faddro (i := 1) 1 Try.underlying41 rfl inf_39 (by decide) rfl rfl).q ?_
    first | refine l_g (j := 6) rfl rfl (by decide) (r_loado Try.underlying39 rfl rfl (by repeat constructor) (by rfl)).q ?_ | refine l_g (j := 6) rfl rfl (by decide) (r_load1 Try.underlying39 rfl rfl (by first | exact .fact (by repeat constructor) | exact .own (by repeat constructor) (by decide) (fun _ => rfl) | exact SlIn.body (by repeat constructor) (by assumption)) (by first | assumption | rfl) (by rfl)).q ?_ | refine l_g (j := 6) rfl rfl (by decide) (r_loadf Try.underlying39 rfl rfl (by first | exact .fact (by repeat constructor) | exact .own (by repeat constructor) (by decide) (fun _ => rfl) | exact SlIn.body (by repeat constructor) (by assumption)) (by assumption) (by rfl)).q ?_
    refine l_g (j := 6) rfl rfl (by decide) (p_move rfl).q ?_
    first | refine l_g (j := 6) rfl rfl (by decide) (p_part_h Try.underlying39 inf_3 rfl rfl rfl (by omega) (by omega)).q ?_ | refine l_g (j := 6) rfl rfl (by decide) (p_slices_h Try.underlying39 inf_3 rfl rfl rfl (by omega)).q ?_
    refine l_g (j := 6) rfl rfl (by decide) (p_move rfl).q ?_
    refine l_g (j := 6) rfl rfl (by decide) (q_call call_40 rfl (fun w hs => rall_ok (subA x.A x.c 0 1) (some ⟨x18.1, 0, none⟩) (x.c) X.g.n (x.r.body.take j) X.g.n (Ana.pn X.g false) false (by simp only [List.length_take, List.length_drop]; omega) (by show X.nts.length ≤ 1000; omega) (fun z hz h0 => ok.nt_lt (rule_mem hx) (List.mem_of_mem_take hz) h0) w (hs.facts _ (by repeat constructor)).1 (hs.facts _ (by repeat constructor)).1)) ?_
    refine l_q (by decide) (p_pick rfl rfl).q ?_
    refine l_q (by decide) (p_move rfl).q ?_
    first | refine l_splitd (t := 56) rfl (fun h56 => ?_) (fun h56 => ?_) | refine l_splitb (t := 56) rfl (fun h56 => ?_) (fun h56 => ?_)
    ·skip
     first | refine l_g (j := 14) rfl rfl (by decide) (p_faddr (i := 1) 1 Try.underlying41 rfl inf_39 (by decide) rfl rfl).q ?_ | refine l_g (j := 14) rfl rfl (by decide) (p_faddro (i := 1) 1 Try.underlying41 rfl inf_39 (by decide) rfl rfl).q ?_
     first | refine l_g (j := 14) rfl rfl (by decide) (r_loado Try.underlying39 rfl rfl (by repeat constructor) (by rfl)).q ?_ | refine l_g (j := 14) rfl rfl (by decide) (r_load1 Try.underlying39 rfl rfl (by first | exact .fact (by repeat constructor) | exact .own (by repeat constructor) (by decide) (fun _ => rfl) | exact SlIn.body (by repeat constructor) (by assumption)) (by first | assumption | rfl) (by rfl)).q ?_ | refine l_g (j := 14) rfl rfl (by decide) (r_loadf Try.underlying39 rfl rfl (by first | exact .fact (by repeat constructor) | exact .own (by repeat constructor) (by decide) (fun _ => rfl) | exact SlIn.body (by repeat constructor) (by assumption)) (by assumption) (by rfl)).q ?_
     refine l_g (j := 14) rfl rfl (by decide) (p_move rfl).q ?_
     first | refine l_g (j := 14) rfl rfl (by decide) (p_add (j := 1) rfl rfl rfl rfl (by show _ ≤ (9223372036854775807 : Nat); omega)).q ?_ | refine l_g (j := 14) rfl rfl (by decide) (p_addi rfl rfl (by show (-9223372036854775808 : Int) ≤ _; omega) (by show _ ≤ ((9223372036854775807 : Nat) : Int); omega)).q ?_
     first | refine l_g (j := 14) rfl rfl (by decide) (p_part_l Try.underlying39 inf_3 rfl rfl rfl (by omega)).q ?_ | refine l_g (j := 14) rfl rfl (by decide) (p_slices_l Try.underlying39 inf_3 rfl rfl rfl (by omega)).q ?_
     refine l_g (j := 14) rfl rfl (by decide) (p_move rfl).q ?_
     refine l_g (j := 14) rfl rfl (by decide) (q_call call_40 rfl (fun w hs => rall_ok (subA x.A x.c (j + 1) 1) (some ⟨x18.1, 0, none⟩) (x.c - (j + 1)) X.g.n (x.r.body.drop (j + 1)) X.g.n (Ana.pn X.g false) false (by simp only [List.length_take, List.length_drop]; omega) (by show X.nts.length ≤ 1000; omega) (fun z hz h0 => ok.nt_lt (rule_mem hx) (List.mem_of_mem_drop hz) h0) w (hs.facts _ (by repeat constructor)).1 (hs.facts _ (by repeat constructor)).1)) ?_
     refine l_q (by decide) (p_pick rfl rfl).q ?_
     refine l_nil ?_
     first | refine c_dec rfl (fun h64 => ?_) (fun h64 => ?_) | refine c_cond rfl (fun h64 => ?_) (fun h64 => ?_)
     ·skip
      have hmul : x.r.head.toNat * X.nts.length + Ana.nt y < X.nts.length * X.nts.length := idx_lt hh2 hn2
      have hkb : (x.r.head.toNat * X.nts.length + Ana.nt y) * 1 < (bl (X.g.n * X.g.n) (fl X.g.n h)).length := by rw [bl_len, Nat.mul_one]; exact hmul
      have hncs : Ana.nt y = (-1 - y).toNat := rfl
      refine t_draw 13 mixed ?_
      refine t_take 0 rfl (by kernel_rfl) (by decide) (p_move rfl).r ?_
      first | refine t_take 1 rfl (by kernel_rfl) (by decide) (p_faddr (i := 0) 0 Try.underlying41 rfl inf_3 (by decide) rfl rfl).r ?_ | refine t_take 1 rfl (by kernel_rfl) (by decide) (p_faddro (i := 0) 0 Try.underlying41 rfl inf_3 (by decide) rfl rfl).r ?_
      first | refine t_take 2 rfl (by kernel_rfl) (by decide) (((r_loado Try.underlying3 rfl rfl (by repeat constructor) (by rfl))).to (u := .int .i64 ((x.r.head.toNat : Nat) : Int)) (by rw [hh1])).r ?_ | refine t_take 2 rfl (by kernel_rfl) (by decide) (((r_load1 Try.underlying3 rfl rfl (by first | exact .fact (by repeat constructor) | exact .own (by repeat constructor) (by decide) (fun _ => rfl) | exact SlIn.body (by repeat constructor) (by assumption)) (by first | assumption | rfl) (by rfl))).to (u := .int .i64 ((x.r.head.toNat : Nat) : Int)) (by rw [hh1])).r ?_ | refine t_take 2 rfl (by kernel_rfl) (by decide) (((r_loadf Try.underlying3 rfl rfl (by first | exact .fact (by repeat constructor) | exact .own (by repeat constructor) (by decide) (fun _ => rfl) | exact SlIn.body (by repeat constructor) (by assumption)) (by assumption) (by rfl))).to (u := .int .i64 ((x.r.head.toNat : Nat) : Int)) (by rw [hh1])).r ?_
      refine t_take 3 rfl (by kernel_rfl) (by decide) (p_move rfl).r ?_
      refine t_take 4 rfl (by kernel_rfl) (by decide) (p_mul rfl rfl rfl rfl (by show _ ≤ (9223372036854775807 : Nat); omega)).r ?_
      first | refine t_take 5 rfl (by kernel_rfl) (by decide) (p_sub (j := 1) rfl rfl rfl rfl (by omega) (by show _ ≤ (9223372036854775807 : Nat); omega)).r ?_ | refine t_take 5 rfl (by kernel_rfl) (by decide) (p_subi rfl rfl (by show (-9223372036854775808 : Int) ≤ _; omega) (by show _ ≤ ((9223372036854775807 : Nat) : Int); omega)).r ?_
      first | refine t_take 6 rfl (by kernel_rfl) (by decide) (p_faddr (i := 1) 1 Try.underlying41 rfl inf_39 (by decide) rfl rfl).r ?_ | refine t_take 6 rfl (by kernel_rfl) (by decide) (p_faddro (i := 1) 1 Try.underlying41 rfl inf_39 (by decide) rfl rfl).r ?_
      first | refine t_take 7 rfl (by kernel_rfl) (by decide) (r_loado Try.underlying39 rfl rfl (by repeat constructor) (by rfl)).r ?_ | refine t_take 7 rfl (by kernel_rfl) (by decide) (r_load1 Try.underlying39 rfl rfl (by first | exact .fact (by repeat constructor) | exact .own (by repeat constructor) (by decide) (fun _ => rfl) | exact SlIn.body (by repeat constructor) (by assumption)) (by first | assumption | rfl) (by rfl)).r ?_ | refine t_take 7 rfl (by kernel_rfl) (by decide) (r_loadf Try.underlying39 rfl rfl (by first | exact .fact (by repeat constructor) | exact .own (by repeat constructor) (by decide) (fun _ => rfl) | exact SlIn.body (by repeat constructor) (by assumption)) (by assumption) (by rfl)).r ?_
      refine t_take 8 rfl (by kernel_rfl) (by decide) (p_move rfl).r ?_
      first | refine t_take 9 rfl (by kernel_rfl) (by decide) (r_index Try.underlying39 inf_3 rfl rfl rfl (by first | exact .fact (by repeat constructor) | exact .own (by repeat constructor) (by decide) (fun _ => rfl) | exact SlIn.body (by repeat constructor) (by assumption)) rfl (by omega)).r ?_ | refine t_take 9 rfl (by kernel_rfl) (by decide) (r_index Try.underlying39 inf_3 rfl rfl rfl (by first | exact .fact (by repeat constructor) | exact .own (by repeat constructor) (by decide) (fun _ => rfl) | exact SlIn.body (by repeat constructor) (by assumption)) rfl (by decide)).r ?_ | refine t_take 9 rfl (by kernel_rfl) (by decide) (p_indexo Try.underlying39 inf_3 rfl rfl rfl (by omega)).r ?_
      first | refine t_take 10 rfl (by kernel_rfl) (by decide) (r_loado Try.underlying3 rfl rfl (by repeat constructor) (by rfl)).r ?_ | refine t_take 10 rfl (by kernel_rfl) (by decide) (r_load1 Try.underlying3 rfl rfl (by first | exact .fact (by repeat constructor) | exact .own (by repeat constructor) (by decide) (fun _ => rfl) | exact SlIn.body (by repeat constructor) (by assumption)) (by first | assumption | rfl) (by rfl)).r ?_ | refine t_take 10 rfl (by kernel_rfl) (by decide) (r_loadf Try.underlying3 rfl rfl (by first | exact .fact (by repeat constructor) | exact .own (by repeat constructor) (by decide) (fun _ => rfl) | exact SlIn.body (by repeat constructor) (by assumption)) (by assumption) (by rfl)).r ?_
      first | refine t_take 11 rfl (by kernel_rfl) (by decide) (((p_sub rfl rfl rfl rfl (by omega) (by show _ ≤ (9223372036854775807 : Nat); omega))).to (u := .int .i64 ((x.r.head.toNat * X.nts.length + Ana.nt y : Nat) : Int)) (by rw [Int.natCast_add, Ana.nt_cast h48]; congr 1; omega)).r ?_ | refine t_take 11 rfl (by kernel_rfl) (by decide) (((p_subi rfl rfl (by show (-9223372036854775808 : Int) ≤ _; omega) (by show _ ≤ ((9223372036854775807 : Nat) : Int); omega))).to (u := .int .i64 ((x.r.head.toNat * X.nts.length + Ana.nt y : Nat) : Int)) (by rw [Int.natCast_add, Ana.nt_cast h48]; congr 1; omega)).r ?_
      first | refine t_take 12 rfl (by kernel_rfl) (by decide) (r_index Try.underlying29 inf_4 rfl rfl rfl (by first | exact .fact (by repeat constructor) | exact .own (by repeat constructor) (by decide) (fun _ => rfl) | exact SlIn.body (by repeat constructor) (by assumption)) rfl (by omega)).r ?_ | refine t_take 12 rfl (by kernel_rfl) (by decide) (r_index Try.underlying29 inf_4 rfl rfl rfl (by first | exact .fact (by repeat constructor) | exact .own (by repeat constructor) (by decide) (fun _ => rfl) | exact SlIn.body (by repeat constructor) (by assumption)) rfl (by decide)).r ?_ | refine t_take 12 rfl (by kernel_rfl) (by decide) (p_indexo Try.underlying29 inf_4 rfl rfl rfl (by omega)).r ?_
      refine t_last rfl (by kernel_rfl) ?_
      first | (refine l_store inf_4 rfl rfl rfl rfl (by first | decide | exact Nat.le_of_ble_eq_true rfl | (simp; done) | omega | (simp only [Nat.mul_one]; assumption)) ?_) | (refine l_perm (front1 _ _ _) ?_; refine l_store inf_4 rfl rfl rfl rfl (by first | decide | exact Nat.le_of_ble_eq_true rfl | (simp; done) | omega | (simp only [Nat.mul_one]; assumption)) ?_) | (refine l_perm (front2 _ _ _ _) ?_; refine l_store inf_4 rfl rfl rfl rfl (by first | decide | exact Nat.le_of_ble_eq_true rfl | (simp; done) | omega | (simp only [Nat.mul_one]; assumption)) ?_) | (refine l_perm (front3 _ _ _ _ _) ?_; refine l_store inf_4 rfl rfl rfl rfl (by first | decide | exact Nat.le_of_ble_eq_true rfl | (simp; done) | omega | (simp only [Nat.mul_one]; assumption)) ?_) | (refine l_perm (front4 _ _ _ _ _ _) ?_; refine l_store inf_4 rfl rfl rfl rfl (by first | decide | exact Nat.le_of_ble_eq_true rfl | (simp; done) | omega | (simp only [Nat.mul_one]; assumption)) ?_)
      refine l_nil ?_
      refine c_reg ?_
      refine l_q (by decide) (p_move rfl).q ?_
      first | refine l_q (by decide) (p_add (j := 1) rfl rfl rfl rfl (by show _ ≤ (9223372036854775807 : Nat); omega)).q ?_ | refine l_q (by decide) (p_addi rfl rfl (by show (-9223372036854775808 : Int) ≤ _; omega) (by show _ ≤ ((9223372036854775807 : Nat) : Int); omega)).q ?_
      refine l_q (by decide) (p_assign rfl).q ?_
      refine l_nil ?_
      refine c_join ((j + 1), (upd2 h x.r.head.toNat (Ana.nt y) true)) ?_ ?_ ?_ ?_
      ·show ((j + 1) ≤ x.r.body.length ∧ SoundC X (upd2 h x.r.head.toNat (Ana.nt y) true) ∧ (∀ z, z ∈ X.xs.take k → FullC X z (upd2 h x.r.head.toNat (Ana.nt y) true) z.r.body.length) ∧ FullC X x (upd2 h x.r.head.toNat (Ana.nt y) true) (j + 1)) ∧ x.r.body.length - (j + 1) < x.r.body.length - j
       have hup : ∀ a b, h a b = true → upd2 h x.r.head.toNat (Ana.nt y) true a b = true := fun a b hab => upd2_iff.2 (.inl hab)
       refine ⟨⟨by omega, hL2.step (List.mem_of_getElem? hx) (oneAt_of hy h48 h56 h64), fun z hz => (hL3 z hz).mono hup, (hL4.mono hup).step fun a b hab => ?_⟩, by omega⟩
       obtain ⟨⟨rfl, rfl⟩, _⟩ := of_oneAt hy hab
       exact upd2_iff.2 (.inr ⟨rfl, rfl⟩)
      · exact ⟨rfl, rfl, rfl, rfl, rfl, rfl, rfl, trivial⟩
      ·show List.Perm _ ([iCells b7 41 (ruF x), iCells b22 4 (bl (X.g.n * X.g.n) (fl X.g.n ((upd2 h x.r.head.toNat (Ana.nt y) true)))), iCells b1 25 [.slice X.At X.terms.length X.ct, .slice X.An X.nts.length X.cn, .int .i64 X.start, .slice X.Ar X.xs.length X.cr]])
       rw [show (bl (X.g.n * X.g.n) (fl X.g.n h)).set ((x.r.head.toNat * X.nts.length + Ana.nt y) * 1) (.bool true) = _ from bl_set, show Ana.upd (fl X.g.n h) (x.r.head.toNat * X.nts.length + Ana.nt y) true = _ from fl_upd hn2]
       repeat (first | exact List.Perm.refl _ | refine List.Perm.cons _ ?_ | refine (front1 _ _ _).trans (List.Perm.cons _ ?_) | refine (front2 _ _ _ _).trans (List.Perm.cons _ ?_) | refine (front3 _ _ _ _ _).trans (List.Perm.cons _ ?_) | refine (front4 _ _ _ _ _ _).trans (List.Perm.cons _ ?_))
      · exact fun _ h => List.mem_cons_of_mem _ (List.mem_cons_of_mem _ h)
     ·skip
      refine c_skip ?_
      refine c_reg ?_
      refine l_q (by decide) (p_move rfl).q ?_
      first | refine l_q (by decide) (p_add (j := 1) rfl rfl rfl rfl (by show _ ≤ (9223372036854775807 : Nat); omega)).q ?_ | refine l_q (by decide) (p_addi rfl rfl (by show (-9223372036854775808 : Int) ≤ _; omega) (by show _ ≤ ((9223372036854775807 : Nat) : Int); omega)).q ?_
      refine l_q (by decide) (p_assign rfl).q ?_
      refine l_nil ?_
      refine c_join ((j + 1), (h)) ?_ ?_ ?_ ?_
      ·show ((j + 1) ≤ x.r.body.length ∧ SoundC X (h) ∧ (∀ z, z ∈ X.xs.take k → FullC X z (h) z.r.body.length) ∧ FullC X x (h) (j + 1)) ∧ x.r.body.length - (j + 1) < x.r.body.length - j
       refine ⟨⟨by omega, hL2, hL3, hL4.step fun a b hab => ?_⟩, by omega⟩
       obtain ⟨_, g0, g1, g2⟩ := of_oneAt hy hab
       rw [g2] at h64; cases h64
      · exact ⟨rfl, rfl, rfl, rfl, rfl, rfl, rfl, trivial⟩
      ·show List.Perm _ ([iCells b7 41 (ruF x), iCells b22 4 (bl (X.g.n * X.g.n) (fl X.g.n ((h)))), iCells b1 25 [.slice X.At X.terms.length X.ct, .slice X.An X.nts.length X.cn, .int .i64 X.start, .slice X.Ar X.xs.length X.cr]])
       exact .refl _
      · exact fun _ h => List.mem_cons_of_mem _ (List.mem_cons_of_mem _ h)
    ·skip
     refine l_off (j := 14) rfl rfl (by first | (simp; done) | (simp [undef]; done)) (by decide) ?_
     refine l_off (j := 14) rfl rfl (by first | (simp; done) | (simp [undef]; done)) (by decide) ?_
     refine l_off (j := 14) rfl rfl (by first | (simp; done) | (simp [undef]; done)) (by decide) ?_
     refine l_off (j := 14) rfl rfl (by first | (simp; done) | (simp [undef]; done)) (by decide) ?_
     refine l_off (j := 14) rfl rfl (by first | (simp; done) | (simp [undef]; done)) (by decide) ?_
     refine l_off (j := 14) rfl rfl (by first | (simp; done) | (simp [undef]; done)) (by decide) ?_
     refine l_off (j := 14) rfl rfl (by first | (simp; done) | (simp [undef]; done)) (by decide) ?_
     refine l_q (by decide) (p_pick rfl rfl).q ?_
     refine l_nil ?_
     refine c_false rfl ?_
     refine c_skip ?_
     refine c_reg ?_
     refine l_q (by decide) (p_move rfl).q ?_
     first | refine l_q (by decide) (p_add (j := 1) rfl rfl rfl rfl (by show _ ≤ (9223372036854775807 : Nat); omega)).q ?_ | refine l_q (by decide) (p_addi rfl rfl (by show (-9223372036854775808 : Int) ≤ _; omega) (by show _ ≤ ((9223372036854775807 : Nat) : Int); omega)).q ?_
     refine l_q (by decide) (p_assign rfl).q ?_
     refine l_nil ?_
     refine c_join ((j + 1), (h)) ?_ ?_ ?_ ?_
     ·show ((j + 1) ≤ x.r.body.length ∧ SoundC X (h) ∧ (∀ z, z ∈ X.xs.take k → FullC X z (h) z.r.body.length) ∧ FullC X x (h) (j + 1)) ∧ x.r.body.length - (j + 1) < x.r.body.length - j
      refine ⟨⟨by omega, hL2, hL3, hL4.step fun a b hab => ?_⟩, by omega⟩
      obtain ⟨_, g0, g1, g2⟩ := of_oneAt hy hab
      rw [g1] at h56; cases h56
     · exact ⟨rfl, rfl, rfl, rfl, rfl, rfl, rfl, trivial⟩
     ·show List.Perm _ ([iCells b7 41 (ruF x), iCells b22 4 (bl (X.g.n * X.g.n) (fl X.g.n ((h)))), iCells b1 25 [.slice X.At X.terms.length X.ct, .slice X.An X.nts.length X.cn, .int .i64 X.start, .slice X.Ar X.xs.length X.cr]])
      exact .refl _
     · exact fun _ h => List.mem_cons_of_mem _ (List.mem_cons_of_mem _ h)
   ·skip
    refine l_off (j := 6) rfl rfl (by first | (simp; done) | (simp [undef]; done)) (by decide) ?_
    refine l_off (j := 6) rfl rfl (by first | (simp; done) | (simp [undef]; done)) (by decide) ?_
    refine l_off (j := 6) rfl rfl (by first | (simp; done) | (simp [undef]; done)) (by decide) ?_
    refine l_off (j := 6) rfl rfl (by first | (simp; done) | (simp [undef]; done)) (by decide) ?_
    refine l_off (j := 6) rfl rfl (by first | (simp; done) | (simp [undef]; done)) (by decide) ?_
    refine l_off (j := 6) rfl rfl (by first | (simp; done) | (simp [undef]; done)) (by decide) ?_
    refine l_q (by decide) (p_pick rfl rfl).q ?_
    refine l_q (by decide) (p_move rfl).q ?_
    refine l_off (j := 14) rfl rfl (by first | (simp; done) | (simp [undef]; done)) (by decide) ?_
    refine l_off (j := 14) rfl rfl (by first | (simp; done) | (simp [undef]; done)) (by decide) ?_
    refine l_off (j := 14) rfl rfl (by first | (simp; done) | (simp [undef]; done)) (by decide) ?_
    refine l_off (j := 14) rfl rfl (by first | (simp; done) | (simp [undef]; done)) (by decide) ?_
    refine l_off (j := 14) rfl rfl (by first | (simp; done) | (simp [undef]; done)) (by decide) ?_
    refine l_off (j := 14) rfl rfl (by first | (simp; done) | (simp [undef]; done)) (by decide) ?_
    refine l_off (j := 14) rfl rfl (by first | (simp; done) | (simp [undef]; done)) (by decide) ?_
    refine l_q (by decide) (p_pick rfl rfl).q ?_
    refine l_nil ?_
    refine c_false rfl ?_
    refine c_skip ?_
    refine c_reg ?_
    refine l_q (by decide) (p_move rfl).q ?_
    first | refine l_q (by decide) (p_add (j := 1) rfl rfl rfl rfl (by show _ ≤ (9223372036854775807 : Nat); omega)).q ?_ | refine l_q (by decide) (p_addi rfl rfl (by show (-9223372036854775808 : Int) ≤ _; omega) (by show _ ≤ ((9223372036854775807 : Nat) : Int); omega)).q ?_
    refine l_q (by decide) (p_assign rfl).q ?_
    refine l_nil ?_
    refine c_join ((j + 1), (h)) ?_ ?_ ?_ ?_
    ·show ((j + 1) ≤ x.r.body.length ∧ SoundC X (h) ∧ (∀ z, z ∈ X.xs.take k → FullC X z (h) z.r.body.length) ∧ FullC X x (h) (j + 1)) ∧ x.r.body.length - (j + 1) < x.r.body.length - j
     refine ⟨⟨by omega, hL2, hL3, hL4.step fun a b hab => ?_⟩, by omega⟩
     obtain ⟨_, g0, g1, g2⟩ := of_oneAt hy hab
     exact absurd g0 h48
    · exact ⟨rfl, rfl, rfl, rfl, rfl, rfl, rfl, trivial⟩
    ·show List.Perm _ ([iCells b7 41 (ruF x), iCells b22 4 (bl (X.g.n * X.g.n) (fl X.g.n ((h)))), iCells b1 25 [.slice X.At X.terms.length X.ct, .slice X.An X.nts.length X.cn, .int .i64 X.start, .slice X.Ar X.xs.length X.cr]])
     exact .refl _
    · exact fun _ h => List.mem_cons_of_mem _ (List.mem_cons_of_mem _ h)
  ·skip
   refine c_exit ?_
   refine c_here ?_
   refine c_reg ?_
   refine l_q (by decide) (p_move rfl).q ?_
   first | refine l_q (by decide) (p_add (j := 1) rfl rfl rfl rfl (by show _ ≤ (9223372036854775807 : Nat); omega)).q ?_ | refine l_q (by decide) (p_addi rfl rfl (by show (-9223372036854775808 : Int) ≤ _; omega) (by show _ ≤ ((9223372036854775807 : Nat) : Int); omega)).q ?_
   refine l_q (by decide) (p_assign rfl).q ?_
   refine l_nil ?_
   first | (refine c_drop (x := iCells b7 _ _) ?_) | (refine c_perm (front1 _ _ _) ?_; refine c_drop (x := iCells b7 _ _) ?_) | (refine c_perm (front2 _ _ _ _) ?_; refine c_drop (x := iCells b7 _ _) ?_) | (refine c_perm (front3 _ _ _ _ _) ?_; refine c_drop (x := iCells b7 _ _) ?_) | (refine c_perm (front4 _ _ _ _ _ _) ?_; refine c_drop (x := iCells b7 _ _) ?_)
   refine c_join ((k + 1), (h)) ?_ ?_ ?_ ?_
   ·show ((k + 1) ≤ X.xs.length ∧ SoundC X (h) ∧ ∀ z, z ∈ X.xs.take (k + 1) → FullC X z (h) z.r.body.length) ∧ X.xs.length - (k + 1) < X.xs.length - k
    refine ⟨⟨by omega, hL2, fun z hz => ?_⟩, by omega⟩
    rw [take_at hx] at hz
    rcases List.mem_append.1 hz with h5 | h5
    · exact hL3 z h5
    · rw [List.mem_singleton.1 h5]; rw [show x.r.body.length = j by omega]; exact hL4
   · exact ⟨rfl, rfl, rfl, rfl, rfl, trivial⟩
   ·show List.Perm _ ([iCells b22 4 (bl (X.g.n * X.g.n) (fl X.g.n ((h)))), iCells b1 25 [.slice X.At X.terms.length X.ct, .slice X.An X.nts.length X.cn, .int .i64 X.start, .slice X.Ar X.xs.length X.cr]])
    exact .refl _
   · exact fun _ h => h
 ·skip
  refine c_exit ?_
  refine c_here ?_
  refine c_seq ?_
  refine c_seq ?_
  refine c_reg ?_
  refine l_q (by decide) (p_assign (v := .int .i64 ((0 : Nat) : Int)) rfl).q ?_
  refine l_nil ?_
  refine c_block ?_
  rw [List.take_of_length_le (by omega)] at hJ3
  have hfo := one_full hJ2 hJ3
  subst hfo
  refine c_loop (S := Nat) (fun zs => zs ≤ X.nts.length) (fun zs => X.nts.length - zs) (fun zs => [(3, .int .i64 (X.nts.length : Int)), (5, .slice (some ⟨b22, 0, none⟩) (X.nts.length * X.nts.length) (X.nts.length * X.nts.length)), (9, .int .i64 (zs : Int))]) (fun zs => [iCells b22 4 (bl (X.g.n * X.g.n) (fl X.g.n (Ana.wars zs (Ana.one X.g (Ana.pn X.g false))))), iCells b1 25 [.slice X.At X.terms.length X.ct, .slice X.An X.nts.length X.cn, .int .i64 X.start, .slice X.Ar X.xs.length X.cr]]) (fun zs => [Sl 1 boolF (some ⟨x18.1, 0, none⟩) (Ana.mkl X.g.n (Ana.pn X.g false)), Bd X.xs, Sl 3 ruF X.Ar X.xs, Sl 1 strF X.An X.nts, Sl 1 strF X.At X.terms]) (0) ?_ ?_ ?_ ?_ ?_
  · show (0) ≤ X.nts.length
    exact Nat.zero_le _
  · exact ⟨rfl, rfl, rfl, trivial⟩
  · exact .refl _
  · exact fun _ h => h
  rintro k hinv
  have hinv : k ≤ X.nts.length := hinv
  have hk := hinv
  show Cont _ _ _ _ [(3, .int .i64 (X.nts.length : Int)), (5, .slice (some ⟨b22, 0, none⟩) (X.nts.length * X.nts.length) (X.nts.length * X.nts.length)), (9, .int .i64 (k : Int))] ([iCells b22 4 (bl (X.g.n * X.g.n) (fl X.g.n (Ana.wars k (Ana.one X.g (Ana.pn X.g false))))), iCells b1 25 [.slice X.At X.terms.length X.ct, .slice X.An X.nts.length X.cn, .int .i64 X.start, .slice X.Ar X.xs.length X.cr]]) [Sl 1 boolF (some ⟨x18.1, 0, none⟩) (Ana.mkl X.g.n (Ana.pn X.g false)), Bd X.xs, Sl 3 ruF X.Ar X.xs, Sl 1 strF X.An X.nts, Sl 1 strF X.At X.terms]
  refine c_seq ?_
  refine c_seq ?_
  refine c_reg ?_
  refine l_q (by decide) (p_move rfl).q ?_
  refine l_q (by decide) (p_move rfl).q ?_
  first | refine l_q (by decide) (p_lss rfl rfl rfl rfl).q ?_ | refine l_q (by decide) (p_lssi rfl rfl).q ?_
  refine l_nil ?_
  first | refine c_dec rfl (fun h80 => ?_) (fun h80 => ?_) | refine c_cond rfl (fun h80 => ?_) (fun h80 => ?_)
  ·skip
   refine c_skip ?_
   refine c_seq ?_
   refine c_block ?_
   refine c_seq ?_
   refine c_reg ?_
   refine l_q (by decide) (p_assign (v := .int .i64 ((0 : Nat) : Int)) rfl).q ?_
   refine l_nil ?_
   refine c_block ?_
   refine c_loop (S := Nat) (fun zs => zs ≤ X.nts.length) (fun zs => X.nts.length - zs) (fun zs => [(3, .int .i64 (X.nts.length : Int)), (5, .slice (some ⟨b22, 0, none⟩) (X.nts.length * X.nts.length) (X.nts.length * X.nts.length)), (9, .int .i64 (k : Int)), (10, .int .i64 (zs : Int))]) (fun zs => [iCells b22 4 (bl (X.g.n * X.g.n) (fl X.g.n (Ana.wmid k (Ana.wars k (Ana.one X.g (Ana.pn X.g false))) zs 0))), iCells b1 25 [.slice X.At X.terms.length X.ct, .slice X.An X.nts.length X.cn, .int .i64 X.start, .slice X.Ar X.xs.length X.cr]]) (fun zs => [Sl 1 boolF (some ⟨x18.1, 0, none⟩) (Ana.mkl X.g.n (Ana.pn X.g false)), Bd X.xs, Sl 3 ruF X.Ar X.xs, Sl 1 strF X.An X.nts, Sl 1 strF X.At X.terms]) (0) ?_ ?_ ?_ ?_ ?_
   · show (0) ≤ X.nts.length
     exact Nat.zero_le _
   · exact ⟨rfl, rfl, rfl, rfl, trivial⟩
   · exact (by rw [w_start])
   · exact fun _ h => h
   rintro i hinv
   have hinv : i ≤ X.nts.length := hinv
   have hi := hinv
   show Cont _ _ _ _ [(3, .int .i64 (X.nts.length : Int)), (5, .slice (some ⟨b22, 0, none⟩) (X.nts.length * X.nts.length) (X.nts.length * X.nts.length)), (9, .int .i64 (k : Int)), (10, .int .i64 (i : Int))] ([iCells b22 4 (bl (X.g.n * X.g.n) (fl X.g.n (Ana.wmid k (Ana.wars k (Ana.one X.g (Ana.pn X.g false))) i 0))), iCells b1 25 [.slice X.At X.terms.length X.ct, .slice X.An X.nts.length X.cn, .int .i64 X.start, .slice X.Ar X.xs.length X.cr]]) [Sl 1 boolF (some ⟨x18.1, 0, none⟩) (Ana.mkl X.g.n (Ana.pn X.g false)), Bd X.xs, Sl 3 ruF X.Ar X.xs, Sl 1 strF X.An X.nts, Sl 1 strF X.At X.terms]
   refine c_seq ?_
   refine c_seq ?_
   refine c_reg ?_
   refine l_q (by decide) (p_move rfl).q ?_
   refine l_q (by decide) (p_move rfl).q ?_
   first | refine l_q (by decide) (p_lss rfl rfl rfl rfl).q ?_ | refine l_q (by decide) (p_lssi rfl rfl).q ?_
   refine l_nil ?_
   first | refine c_dec rfl (fun h85 => ?_) (fun h85 => ?_) | refine c_cond rfl (fun h85 => ?_) (fun h85 => ?_)
   ·skip
    refine c_skip ?_
    refine c_seq ?_
    refine c_block ?_
    refine c_seq ?_
    refine c_reg ?_
    refine l_q (by decide) (p_assign (v := .int .i64 ((0 : Nat) : Int)) rfl).q ?_
    refine l_nil ?_
    refine c_block ?_
    refine c_loop (S := Nat) (fun zs => zs ≤ X.nts.length) (fun zs => X.nts.length - zs) (fun zs => [(3, .int .i64 (X.nts.length : Int)), (5, .slice (some ⟨b22, 0, none⟩) (X.nts.length * X.nts.length) (X.nts.length * X.nts.length)), (9, .int .i64 (k : Int)), (10, .int .i64 (i : Int)), (11, .int .i64 (zs : Int))]) (fun zs => [iCells b22 4 (bl (X.g.n * X.g.n) (fl X.g.n (Ana.wmid k (Ana.wars k (Ana.one X.g (Ana.pn X.g false))) i zs))), iCells b1 25 [.slice X.At X.terms.length X.ct, .slice X.An X.nts.length X.cn, .int .i64 X.start, .slice X.Ar X.xs.length X.cr]]) (fun zs => [Sl 1 boolF (some ⟨x18.1, 0, none⟩) (Ana.mkl X.g.n (Ana.pn X.g false)), Bd X.xs, Sl 3 ruF X.Ar X.xs, Sl 1 strF X.An X.nts, Sl 1 strF X.At X.terms]) (0) ?_ ?_ ?_ ?_ ?_
    · show (0) ≤ X.nts.length
      exact Nat.zero_le _
    · exact ⟨rfl, rfl, rfl, rfl, rfl, trivial⟩
    · exact .refl _
    · exact fun _ h => h
    rintro j hinv
    have hinv : j ≤ X.nts.length := hinv
    have hj := hinv
    show Cont _ _ _ _ [(3, .int .i64 (X.nts.length : Int)), (5, .slice (some ⟨b22, 0, none⟩) (X.nts.length * X.nts.length) (X.nts.length * X.nts.length)), (9, .int .i64 (k : Int)), (10, .int .i64 (i : Int)), (11, .int .i64 (j : Int))] ([iCells b22 4 (bl (X.g.n * X.g.n) (fl X.g.n (Ana.wmid k (Ana.wars k (Ana.one X.g (Ana.pn X.g false))) i j))), iCells b1 25 [.slice X.At X.terms.length X.ct, .slice X.An X.nts.length X.cn, .int .i64 X.start, .slice X.Ar X.xs.length X.cr]]) [Sl 1 boolF (some ⟨x18.1, 0, none⟩) (Ana.mkl X.g.n (Ana.pn X.g false)), Bd X.xs, Sl 3 ruF X.Ar X.xs, Sl 1 strF X.An X.nts, Sl 1 strF X.At X.terms]
    refine c_seq ?_
    refine c_seq ?_
    refine c_reg ?_
    refine l_q (by decide) (p_move rfl).q ?_
    refine l_q (by decide) (p_move rfl).q ?_
    first | refine l_q (by decide) (p_lss rfl rfl rfl rfl).q ?_ | refine l_q (by decide) (p_lssi rfl rfl).q ?_
    refine l_nil ?_
    first | refine c_dec rfl (fun h90 => ?_) (fun h90 => ?_) | refine c_cond rfl (fun h90 => ?_) (fun h90 => ?_)
    ·skip
     refine c_skip ?_
     refine c_seq ?_
     refine c_block ?_
     refine c_seq ?_
     have hk : k < X.g.n := by show k < X.nts.length; omega
     have hi : i < X.g.n := by show i < X.nts.length; omega
     have hj : j < X.g.n := by show j < X.nts.length; omega
     have hxik : i * X.nts.length + k < X.nts.length * X.nts.length := idx_lt hi hk
     have hxkj : k * X.nts.length + j < X.nts.length * X.nts.length := idx_lt hk hj
     have hxij : i * X.nts.length + j < X.nts.length * X.nts.length := idx_lt hi hj
     have hkb : (i * X.nts.length + j) * 1 < (bl (X.g.n * X.g.n) (fl X.g.n (Ana.wmid k (Ana.wars k (Ana.one X.g (Ana.pn X.g false))) i j))).length := by rw [bl_len, Nat.mul_one]; exact hxij
     refine c_reg ?_
     refine l_q (by decide) (p_move rfl).q ?_
     refine l_q (by decide) (p_move rfl).q ?_
     refine l_q (by decide) (p_move rfl).q ?_
     refine l_q (by decide) (p_mul rfl rfl rfl rfl (by show _ ≤ (9223372036854775807 : Nat); omega)).q ?_
     refine l_q (by decide) (p_move rfl).q ?_
     first | refine l_q (by decide) (p_add rfl rfl rfl rfl (by show _ ≤ (9223372036854775807 : Nat); omega)).q ?_ | refine l_q (by decide) (p_addi rfl rfl (by show (-9223372036854775808 : Int) ≤ _; omega) (by show _ ≤ ((9223372036854775807 : Nat) : Int); omega)).q ?_
     first | refine l_q (by decide) (r_index Try.underlying29 inf_4 rfl rfl rfl (by first | exact .fact (by repeat constructor) | exact .own (by repeat constructor) (by decide) (fun _ => rfl) | exact SlIn.body (by repeat constructor) (by assumption)) rfl (by omega)).q ?_ | refine l_q (by decide) (r_index Try.underlying29 inf_4 rfl rfl rfl (by first | exact .fact (by repeat constructor) | exact .own (by repeat constructor) (by decide) (fun _ => rfl) | exact SlIn.body (by repeat constructor) (by assumption)) rfl (by decide)).q ?_ | refine l_q (by decide) (p_indexo Try.underlying29 inf_4 rfl rfl rfl (by omega)).q ?_
     refine l_q (by decide) (((r_loado Try.underlying4 rfl rfl (by repeat constructor) (bl_at (idx_lt hi hk)))).to (u := .bool (Ana.wmid k (Ana.wars k (Ana.one X.g (Ana.pn X.g false))) i j i k)) (by rw [fl_at hk])).q ?_
     refine l_q (by decide) (p_move rfl).q ?_
     first | refine l_splitd (t := 101) rfl (fun h101 => ?_) (fun h101 => ?_) | refine l_splitb (t := 101) rfl (fun h101 => ?_) (fun h101 => ?_)
     ·skip
      refine l_g (j := 8) rfl rfl (by decide) (p_move rfl).q ?_
      refine l_g (j := 8) rfl rfl (by decide) (p_move rfl).q ?_
      refine l_g (j := 8) rfl rfl (by decide) (p_move rfl).q ?_
      refine l_g (j := 8) rfl rfl (by decide) (p_mul rfl rfl rfl rfl (by show _ ≤ (9223372036854775807 : Nat); omega)).q ?_
      refine l_g (j := 8) rfl rfl (by decide) (p_move rfl).q ?_
      first | refine l_g (j := 8) rfl rfl (by decide) (p_add rfl rfl rfl rfl (by show _ ≤ (9223372036854775807 : Nat); omega)).q ?_ | refine l_g (j := 8) rfl rfl (by decide) (p_addi rfl rfl (by show (-9223372036854775808 : Int) ≤ _; omega) (by show _ ≤ ((9223372036854775807 : Nat) : Int); omega)).q ?_
      first | refine l_g (j := 8) rfl rfl (by decide) (r_index Try.underlying29 inf_4 rfl rfl rfl (by first | exact .fact (by repeat constructor) | exact .own (by repeat constructor) (by decide) (fun _ => rfl) | exact SlIn.body (by repeat constructor) (by assumption)) rfl (by omega)).q ?_ | refine l_g (j := 8) rfl rfl (by decide) (r_index Try.underlying29 inf_4 rfl rfl rfl (by first | exact .fact (by repeat constructor) | exact .own (by repeat constructor) (by decide) (fun _ => rfl) | exact SlIn.body (by repeat constructor) (by assumption)) rfl (by decide)).q ?_ | refine l_g (j := 8) rfl rfl (by decide) (p_indexo Try.underlying29 inf_4 rfl rfl rfl (by omega)).q ?_
      refine l_g (j := 8) rfl rfl (by decide) (((r_loado Try.underlying4 rfl rfl (by repeat constructor) (bl_at (idx_lt hk hj)))).to (u := .bool (Ana.wmid k (Ana.wars k (Ana.one X.g (Ana.pn X.g false))) i j k j)) (by rw [fl_at hj])).q ?_
      refine l_q (by decide) (p_pick rfl rfl).q ?_
      refine l_nil ?_
      first | refine c_dec rfl (fun h110 => ?_) (fun h110 => ?_) | refine c_cond rfl (fun h110 => ?_) (fun h110 => ?_)
      ·skip
       refine c_reg ?_
       refine l_q (by decide) (p_move rfl).q ?_
       refine l_q (by decide) (p_move rfl).q ?_
       refine l_q (by decide) (p_move rfl).q ?_
       refine l_q (by decide) (p_mul rfl rfl rfl rfl (by show _ ≤ (9223372036854775807 : Nat); omega)).q ?_
       refine l_q (by decide) (p_move rfl).q ?_
       first | refine l_q (by decide) (p_add rfl rfl rfl rfl (by show _ ≤ (9223372036854775807 : Nat); omega)).q ?_ | refine l_q (by decide) (p_addi rfl rfl (by show (-9223372036854775808 : Int) ≤ _; omega) (by show _ ≤ ((9223372036854775807 : Nat) : Int); omega)).q ?_
       first | refine l_q (by decide) (r_index Try.underlying29 inf_4 rfl rfl rfl (by first | exact .fact (by repeat constructor) | exact .own (by repeat constructor) (by decide) (fun _ => rfl) | exact SlIn.body (by repeat constructor) (by assumption)) rfl (by omega)).q ?_ | refine l_q (by decide) (r_index Try.underlying29 inf_4 rfl rfl rfl (by first | exact .fact (by repeat constructor) | exact .own (by repeat constructor) (by decide) (fun _ => rfl) | exact SlIn.body (by repeat constructor) (by assumption)) rfl (by decide)).q ?_ | refine l_q (by decide) (p_indexo Try.underlying29 inf_4 rfl rfl rfl (by omega)).q ?_
       first | (refine l_store inf_4 rfl rfl rfl rfl (by first | decide | exact Nat.le_of_ble_eq_true rfl | (simp; done) | omega | (simp only [Nat.mul_one]; assumption)) ?_) | (refine l_perm (front1 _ _ _) ?_; refine l_store inf_4 rfl rfl rfl rfl (by first | decide | exact Nat.le_of_ble_eq_true rfl | (simp; done) | omega | (simp only [Nat.mul_one]; assumption)) ?_) | (refine l_perm (front2 _ _ _ _) ?_; refine l_store inf_4 rfl rfl rfl rfl (by first | decide | exact Nat.le_of_ble_eq_true rfl | (simp; done) | omega | (simp only [Nat.mul_one]; assumption)) ?_) | (refine l_perm (front3 _ _ _ _ _) ?_; refine l_store inf_4 rfl rfl rfl rfl (by first | decide | exact Nat.le_of_ble_eq_true rfl | (simp; done) | omega | (simp only [Nat.mul_one]; assumption)) ?_) | (refine l_perm (front4 _ _ _ _ _ _) ?_; refine l_store inf_4 rfl rfl rfl rfl (by first | decide | exact Nat.le_of_ble_eq_true rfl | (simp; done) | omega | (simp only [Nat.mul_one]; assumption)) ?_)
       refine l_nil ?_
       refine c_reg ?_
       refine l_q (by decide) (p_move rfl).q ?_
       first | refine l_q (by decide) (p_add (j := 1) rfl rfl rfl rfl (by show _ ≤ (9223372036854775807 : Nat); omega)).q ?_ | refine l_q (by decide) (p_addi rfl rfl (by show (-9223372036854775808 : Int) ≤ _; omega) (by show _ ≤ ((9223372036854775807 : Nat) : Int); omega)).q ?_
       refine l_q (by decide) (p_assign rfl).q ?_
       refine l_nil ?_
       refine c_join ((j + 1)) ?_ ?_ ?_ ?_
       ·show ((j + 1) ≤ X.nts.length) ∧ X.nts.length - (j + 1) < X.nts.length - j
        exact ⟨by omega, by omega⟩
       · exact ⟨rfl, rfl, rfl, rfl, rfl, trivial⟩
       ·show List.Perm _ ([iCells b22 4 (bl (X.g.n * X.g.n) (fl X.g.n (Ana.wmid k (Ana.wars k (Ana.one X.g (Ana.pn X.g false))) i (j + 1)))), iCells b1 25 [.slice X.At X.terms.length X.ct, .slice X.An X.nts.length X.cn, .int .i64 X.start, .slice X.Ar X.xs.length X.cr]])
        rw [show (bl (X.g.n * X.g.n) (fl X.g.n (Ana.wmid k (Ana.wars k (Ana.one X.g (Ana.pn X.g false))) i j))).set ((i * X.nts.length + j) * 1) (.bool true) = _ from bl_set, show Ana.upd (fl X.g.n (Ana.wmid k (Ana.wars k (Ana.one X.g (Ana.pn X.g false))) i j)) (i * X.nts.length + j) true = _ from fl_upd hj, w_upd (w_t h101 h110)]
       · exact fun _ h => h
      ·skip
       refine c_skip ?_
       refine c_reg ?_
       refine l_q (by decide) (p_move rfl).q ?_
       first | refine l_q (by decide) (p_add (j := 1) rfl rfl rfl rfl (by show _ ≤ (9223372036854775807 : Nat); omega)).q ?_ | refine l_q (by decide) (p_addi rfl rfl (by show (-9223372036854775808 : Int) ≤ _; omega) (by show _ ≤ ((9223372036854775807 : Nat) : Int); omega)).q ?_
       refine l_q (by decide) (p_assign rfl).q ?_
       refine l_nil ?_
       refine c_join ((j + 1)) ?_ ?_ ?_ ?_
       ·show ((j + 1) ≤ X.nts.length) ∧ X.nts.length - (j + 1) < X.nts.length - j
        exact ⟨by omega, by omega⟩
       · exact ⟨rfl, rfl, rfl, rfl, rfl, trivial⟩
       ·show List.Perm _ ([iCells b22 4 (bl (X.g.n * X.g.n) (fl X.g.n (Ana.wmid k (Ana.wars k (Ana.one X.g (Ana.pn X.g false))) i (j + 1)))), iCells b1 25 [.slice X.At X.terms.length X.ct, .slice X.An X.nts.length X.cn, .int .i64 X.start, .slice X.Ar X.xs.length X.cr]])
        rw [w_same (w_f2 h110)]
       · exact fun _ h => h
     ·skip
      refine l_off (j := 8) rfl rfl (by first | (simp; done) | (simp [undef]; done)) (by decide) ?_
      refine l_off (j := 8) rfl rfl (by first | (simp; done) | (simp [undef]; done)) (by decide) ?_
      refine l_off (j := 8) rfl rfl (by first | (simp; done) | (simp [undef]; done)) (by decide) ?_
      refine l_off (j := 8) rfl rfl (by first | (simp; done) | (simp [undef]; done)) (by decide) ?_
      refine l_off (j := 8) rfl rfl (by first | (simp; done) | (simp [undef]; done)) (by decide) ?_
      refine l_off (j := 8) rfl rfl (by first | (simp; done) | (simp [undef]; done)) (by decide) ?_
      refine l_off (j := 8) rfl rfl (by first | (simp; done) | (simp [undef]; done)) (by decide) ?_
      refine l_off (j := 8) rfl rfl (by first | (simp; done) | (simp [undef]; done)) (by decide) ?_
      refine l_q (by decide) (p_pick rfl rfl).q ?_
      refine l_nil ?_
      refine c_false rfl ?_
      refine c_skip ?_
      refine c_reg ?_
      refine l_q (by decide) (p_move rfl).q ?_
      first | refine l_q (by decide) (p_add (j := 1) rfl rfl rfl rfl (by show _ ≤ (9223372036854775807 : Nat); omega)).q ?_ | refine l_q (by decide) (p_addi rfl rfl (by show (-9223372036854775808 : Int) ≤ _; omega) (by show _ ≤ ((9223372036854775807 : Nat) : Int); omega)).q ?_
      refine l_q (by decide) (p_assign rfl).q ?_
      refine l_nil ?_
      refine c_join ((j + 1)) ?_ ?_ ?_ ?_
      ·show ((j + 1) ≤ X.nts.length) ∧ X.nts.length - (j + 1) < X.nts.length - j
       exact ⟨by omega, by omega⟩
      · exact ⟨rfl, rfl, rfl, rfl, rfl, trivial⟩
      ·show List.Perm _ ([iCells b22 4 (bl (X.g.n * X.g.n) (fl X.g.n (Ana.wmid k (Ana.wars k (Ana.one X.g (Ana.pn X.g false))) i (j + 1)))), iCells b1 25 [.slice X.At X.terms.length X.ct, .slice X.An X.nts.length X.cn, .int .i64 X.start, .slice X.Ar X.xs.length X.cr]])
       rw [w_same (w_f1 h101)]
      · exact fun _ h => h
    ·skip
     refine c_exit ?_
     refine c_here ?_
     refine c_reg ?_
     refine l_q (by decide) (p_move rfl).q ?_
     first | refine l_q (by decide) (p_add (j := 1) rfl rfl rfl rfl (by show _ ≤ (9223372036854775807 : Nat); omega)).q ?_ | refine l_q (by decide) (p_addi rfl rfl (by show (-9223372036854775808 : Int) ≤ _; omega) (by show _ ≤ ((9223372036854775807 : Nat) : Int); omega)).q ?_
     refine l_q (by decide) (p_assign rfl).q ?_
     refine l_nil ?_
     refine c_join ((i + 1)) ?_ ?_ ?_ ?_
     ·show ((i + 1) ≤ X.nts.length) ∧ X.nts.length - (i + 1) < X.nts.length - i
      exact ⟨by omega, by omega⟩
     · exact ⟨rfl, rfl, rfl, rfl, trivial⟩
     ·show List.Perm _ ([iCells b22 4 (bl (X.g.n * X.g.n) (fl X.g.n (Ana.wmid k (Ana.wars k (Ana.one X.g (Ana.pn X.g false))) (i + 1) 0))), iCells b1 25 [.slice X.At X.terms.length X.ct, .slice X.An X.nts.length X.cn, .int .i64 X.start, .slice X.Ar X.xs.length X.cr]])
      obtain rfl : j = X.nts.length := by omega
      rw [show bl (X.g.n * X.g.n) (fl X.g.n (Ana.wmid k (Ana.wars k (Ana.one X.g (Ana.pn X.g false))) i X.nts.length)) = _ from flw_row (by show 0 < X.nts.length; omega)]
     · exact fun _ h => h
   ·skip
    refine c_exit ?_
    refine c_here ?_
    refine c_reg ?_
    refine l_q (by decide) (p_move rfl).q ?_
    first | refine l_q (by decide) (p_add (j := 1) rfl rfl rfl rfl (by show _ ≤ (9223372036854775807 : Nat); omega)).q ?_ | refine l_q (by decide) (p_addi rfl rfl (by show (-9223372036854775808 : Int) ≤ _; omega) (by show _ ≤ ((9223372036854775807 : Nat) : Int); omega)).q ?_
    refine l_q (by decide) (p_assign rfl).q ?_
    refine l_nil ?_
    refine c_join ((k + 1)) ?_ ?_ ?_ ?_
    ·show ((k + 1) ≤ X.nts.length) ∧ X.nts.length - (k + 1) < X.nts.length - k
     exact ⟨by omega, by omega⟩
    · exact ⟨rfl, rfl, rfl, trivial⟩
    ·show List.Perm _ ([iCells b22 4 (bl (X.g.n * X.g.n) (fl X.g.n (Ana.wars (k + 1) (Ana.one X.g (Ana.pn X.g false))))), iCells b1 25 [.slice X.At X.terms.length X.ct, .slice X.An X.nts.length X.cn, .int .i64 X.start, .slice X.Ar X.xs.length X.cr]])
     obtain rfl : i = X.nts.length := by omega
     rw [show bl (X.g.n * X.g.n) (fl X.g.n (Ana.wmid k (Ana.wars k (Ana.one X.g (Ana.pn X.g false))) X.nts.length 0)) = _ from flw_end]
     exact .refl _
    · exact fun _ h => h
  ·skip
   refine c_exit ?_
   refine c_here ?_
   refine c_seq ?_
   refine c_reg ?_
   refine l_q (by decide) (p_move rfl).q ?_
   refine l_make (by decide) Try.underlying29 inf_4 rfl rfl rfl rfl rfl rfl (by omega) (by omega) (fun b119 => ?_)
   refine l_q (by decide) (p_assign rfl).q ?_
   refine l_nil ?_
   refine c_seq ?_
   refine c_seq ?_
   refine c_reg ?_
   refine l_q (by decide) (p_assign (v := .int .i64 ((0 : Nat) : Int)) rfl).q ?_
   refine l_nil ?_
   refine c_block ?_
   obtain rfl : k = X.nts.length := by omega
   rw [show List.replicate X.nts.length (Value.bool false) = bl X.g.n (fun _ => false) from bl_rep _]
   refine c_loop (S := Nat) (fun zs => zs ≤ X.nts.length) (fun zs => X.nts.length - zs) (fun zs => [(3, .int .i64 (X.nts.length : Int)), (5, .slice (some ⟨b22, 0, none⟩) (X.nts.length * X.nts.length) (X.nts.length * X.nts.length)), (12, .slice (some ⟨b119, 0, none⟩) X.nts.length X.nts.length), (13, .int .i64 (zs : Int))]) (fun zs => [iCells b119 4 (bl X.g.n (fun a => if a < zs then Ana.cyc X.g a else false)), iCells b22 4 (bl (X.g.n * X.g.n) (fl X.g.n (Ana.wars X.nts.length (Ana.one X.g (Ana.pn X.g false))))), iCells b1 25 [.slice X.At X.terms.length X.ct, .slice X.An X.nts.length X.cn, .int .i64 X.start, .slice X.Ar X.xs.length X.cr]]) (fun zs => [Sl 1 boolF (some ⟨x18.1, 0, none⟩) (Ana.mkl X.g.n (Ana.pn X.g false)), Bd X.xs, Sl 3 ruF X.Ar X.xs, Sl 1 strF X.An X.nts, Sl 1 strF X.At X.terms]) (0) ?_ ?_ ?_ ?_ ?_
   · show (0) ≤ X.nts.length
     exact Nat.zero_le _
   · exact ⟨rfl, rfl, rfl, rfl, trivial⟩
   · exact (by rw [show (fun a => if a < 0 then Ana.cyc X.g a else false) = (fun _ => false) from funext fun a => if_neg (by omega)])
   · exact fun _ h => h
   rintro k hinv
   have hinv : k ≤ X.nts.length := hinv
   have hk := hinv
   show Cont _ _ _ _ [(3, .int .i64 (X.nts.length : Int)), (5, .slice (some ⟨b22, 0, none⟩) (X.nts.length * X.nts.length) (X.nts.length * X.nts.length)), (12, .slice (some ⟨b119, 0, none⟩) X.nts.length X.nts.length), (13, .int .i64 (k : Int))] ([iCells b119 4 (bl X.g.n (fun a => if a < k then Ana.cyc X.g a else false)), iCells b22 4 (bl (X.g.n * X.g.n) (fl X.g.n (Ana.wars X.nts.length (Ana.one X.g (Ana.pn X.g false))))), iCells b1 25 [.slice X.At X.terms.length X.ct, .slice X.An X.nts.length X.cn, .int .i64 X.start, .slice X.Ar X.xs.length X.cr]]) [Sl 1 boolF (some ⟨x18.1, 0, none⟩) (Ana.mkl X.g.n (Ana.pn X.g false)), Bd X.xs, Sl 3 ruF X.Ar X.xs, Sl 1 strF X.An X.nts, Sl 1 strF X.At X.terms]
   refine c_seq ?_
   refine c_seq ?_
   refine c_reg ?_
   refine l_q (by decide) (p_move rfl).q ?_
   refine l_q (by decide) (p_move rfl).q ?_
   first | refine l_q (by decide) (p_lss rfl rfl rfl rfl).q ?_ | refine l_q (by decide) (p_lssi rfl rfl).q ?_
   refine l_nil ?_
   first | refine c_dec rfl (fun h122 => ?_) (fun h122 => ?_) | refine c_cond rfl (fun h122 => ?_) (fun h122 => ?_)
   ·skip
    refine c_skip ?_
    refine c_seq ?_
    refine c_block ?_
    have hk : k < X.g.n := by show k < X.nts.length; omega
    have hxkk : k * X.nts.length + k < X.nts.length * X.nts.length := idx_lt hk hk
    have hkb : k * 1 < (bl X.g.n (fun a => if a < k then Ana.cyc X.g a else false)).length := by rw [bl_len, Nat.mul_one]; exact hk
    refine c_reg ?_
    refine l_q (by decide) (p_move rfl).q ?_
    refine l_q (by decide) (p_move rfl).q ?_
    refine l_q (by decide) (p_move rfl).q ?_
    refine l_q (by decide) (p_move rfl).q ?_
    refine l_q (by decide) (p_move rfl).q ?_
    refine l_q (by decide) (p_mul rfl rfl rfl rfl (by show _ ≤ (9223372036854775807 : Nat); omega)).q ?_
    refine l_q (by decide) (p_move rfl).q ?_
    first | refine l_q (by decide) (p_add rfl rfl rfl rfl (by show _ ≤ (9223372036854775807 : Nat); omega)).q ?_ | refine l_q (by decide) (p_addi rfl rfl (by show (-9223372036854775808 : Int) ≤ _; omega) (by show _ ≤ ((9223372036854775807 : Nat) : Int); omega)).q ?_
    first | refine l_q (by decide) (r_index Try.underlying29 inf_4 rfl rfl rfl (by first | exact .fact (by repeat constructor) | exact .own (by repeat constructor) (by decide) (fun _ => rfl) | exact SlIn.body (by repeat constructor) (by assumption)) rfl (by omega)).q ?_ | refine l_q (by decide) (r_index Try.underlying29 inf_4 rfl rfl rfl (by first | exact .fact (by repeat constructor) | exact .own (by repeat constructor) (by decide) (fun _ => rfl) | exact SlIn.body (by repeat constructor) (by assumption)) rfl (by decide)).q ?_ | refine l_q (by decide) (p_indexo Try.underlying29 inf_4 rfl rfl rfl (by omega)).q ?_
    refine l_q (by decide) (((r_loado Try.underlying4 rfl rfl (by repeat constructor) (bl_at (idx_lt hk hk)))).to (u := .bool (Ana.wars X.nts.length (Ana.one X.g (Ana.pn X.g false)) k k)) (by rw [fl_at hk])).q ?_
    first | refine l_q (by decide) (r_index Try.underlying29 inf_4 rfl rfl rfl (by first | exact .fact (by repeat constructor) | exact .own (by repeat constructor) (by decide) (fun _ => rfl) | exact SlIn.body (by repeat constructor) (by assumption)) rfl (by omega)).q ?_ | refine l_q (by decide) (r_index Try.underlying29 inf_4 rfl rfl rfl (by first | exact .fact (by repeat constructor) | exact .own (by repeat constructor) (by decide) (fun _ => rfl) | exact SlIn.body (by repeat constructor) (by assumption)) rfl (by decide)).q ?_ | refine l_q (by decide) (p_indexo Try.underlying29 inf_4 rfl rfl rfl (by omega)).q ?_
    first | (refine l_store inf_4 rfl rfl rfl rfl (by first | decide | exact Nat.le_of_ble_eq_true rfl | (simp; done) | omega | (simp only [Nat.mul_one]; assumption)) ?_) | (refine l_perm (front1 _ _ _) ?_; refine l_store inf_4 rfl rfl rfl rfl (by first | decide | exact Nat.le_of_ble_eq_true rfl | (simp; done) | omega | (simp only [Nat.mul_one]; assumption)) ?_) | (refine l_perm (front2 _ _ _ _) ?_; refine l_store inf_4 rfl rfl rfl rfl (by first | decide | exact Nat.le_of_ble_eq_true rfl | (simp; done) | omega | (simp only [Nat.mul_one]; assumption)) ?_) | (refine l_perm (front3 _ _ _ _ _) ?_; refine l_store inf_4 rfl rfl rfl rfl (by first | decide | exact Nat.le_of_ble_eq_true rfl | (simp; done) | omega | (simp only [Nat.mul_one]; assumption)) ?_) | (refine l_perm (front4 _ _ _ _ _ _) ?_; refine l_store inf_4 rfl rfl rfl rfl (by first | decide | exact Nat.le_of_ble_eq_true rfl | (simp; done) | omega | (simp only [Nat.mul_one]; assumption)) ?_)
    refine l_nil ?_
    refine c_reg ?_
    refine l_q (by decide) (p_move rfl).q ?_
    first | refine l_q (by decide) (p_add (j := 1) rfl rfl rfl rfl (by show _ ≤ (9223372036854775807 : Nat); omega)).q ?_ | refine l_q (by decide) (p_addi rfl rfl (by show (-9223372036854775808 : Int) ≤ _; omega) (by show _ ≤ ((9223372036854775807 : Nat) : Int); omega)).q ?_
    refine l_q (by decide) (p_assign rfl).q ?_
    refine l_nil ?_
    refine c_join ((k + 1)) ?_ ?_ ?_ ?_
    ·show ((k + 1) ≤ X.nts.length) ∧ X.nts.length - (k + 1) < X.nts.length - k
     exact ⟨by omega, by omega⟩
    · exact ⟨rfl, rfl, rfl, rfl, trivial⟩
    ·show List.Perm _ ([iCells b119 4 (bl X.g.n (fun a => if a < (k + 1) then Ana.cyc X.g a else false)), iCells b22 4 (bl (X.g.n * X.g.n) (fl X.g.n (Ana.wars X.nts.length (Ana.one X.g (Ana.pn X.g false))))), iCells b1 25 [.slice X.At X.terms.length X.ct, .slice X.An X.nts.length X.cn, .int .i64 X.start, .slice X.Ar X.xs.length X.cr]])
     rw [bl_set, cyc_set]
    · exact fun _ h => h
   ·skip
    refine c_exit ?_
    refine c_here ?_
    refine c_seq ?_
    refine c_reg ?_
    refine l_q (by decide) (p_move rfl).q ?_
    refine l_q (by decide) (p_assign rfl).q ?_
    refine l_nil ?_
    refine c_ret ?_
    refine c_ret1 rfl rfl (fun w hs => ?_)
    obtain rfl : k = X.nts.length := by omega
    rw [bl_ext (n := X.g.n) (f := fun a => if a < X.nts.length then Ana.cyc X.g a else false) (g := Ana.cyc X.g) (fun a ha => if_pos ha)] at hs
    have hgo := hs.own (iCells b119 4 (bl X.g.n (Ana.cyc X.g))) (by repeat constructor)
    have hgk := hgo.2.2 b119 (by simp [iCells])
    have hgh := hgo.1
    rw [bl_flat] at hgh
    exact ⟨b119, rfl, cells_sl (fun _ => rfl) hgh, ⟨by simpa using hgk.2, hgk.1⟩, hs.ext⟩
end Go.Proofs.Ytidbhgolhiaijaa
