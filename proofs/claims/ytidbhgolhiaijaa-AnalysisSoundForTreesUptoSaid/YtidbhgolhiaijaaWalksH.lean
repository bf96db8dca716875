/- The walks of analysis, eighth part (Follow); conditions: lengths. -/
import Derived.Test.YtidbhgolhiaijaaWalksG
namespace Go.Proofs.Ytidbhgolhiaijaa
open Go Go.Fx Go.Proofs

theorem famx_mem {n i j : Nat} {F : Nat → Fx.Item} (hj : j < n) (h : j ≠ i) : F j ∈ famx n i F := by
  unfold famx
  exact List.mem_map.2 ⟨j, (List.Nodup.mem_erase_iff List.nodup_range).2 ⟨h, List.mem_range.2 hj⟩, rfl⟩
theorem st_self {w : World} {K : List Nat} {w0 : World} {σ : Fx.Own} {ρ : Fx.Facts} (h : St w0 K w σ ρ) : St w (keysOf σ) w σ ρ := h.own_world
theorem st_back {w w' : World} {K : List Nat} {w0 : World} {σ σ' : Fx.Own} {ρ ρ' : Fx.Facts} (h : St w0 K w σ ρ) (h' : St w (keysOf σ) w' σ' ρ') : St w0 K w' σ' ρ := by
  have := (show St w0 K w (σ ++ []) ρ by rw [List.append_nil]; exact h).splice h'
  rwa [List.append_nil] at this
/-- add of a map that is only read -/
theorem addf_ok (n s bf i : Nat) (hn : n ≤ 1000) (B : NF) (S : SF) (hi : i < n) (ks : List Int) (ρ : Facts) (hq : MIs intK bf ks ∈ ρ) (w : World) (h : St w (keysOf (iCells s 61 (mps n n B) :: fam n (mset B S))) w (iCells s 61 (mps n n B) :: fam n (mset B S)) ρ) :
    Calls Try.prog 48 #[.slice (some ⟨s, 0, none⟩) n n, .int .i64 (i : Int), .map (some bf)] w (Ret fun v w' => ∃ (z : AddR (S i) ks) (ρ' : Facts), v = .bool z.1.1 ∧ St w (keysOf (iCells s 61 (mps n n B) :: fam n (mset B S))) w' (iCells s 61 (mps n n B) :: fam n (mset B (Ana.upd S i z.1.2))) ρ') := by
  obtain ⟨es, clock, hes, hf⟩ := h.fact_ex (kf := intK) (b := bf) (ks := ks) hq (fun _ h => h)
  have h2 := hf.perm (fam_out [_] hi)
  refine (add_ok n s bf i hn B hi (S i) ks es clock hes _ _ (List.mem_cons_self ..) (.inr (List.mem_cons_self ..)) w (st_self h2)).mono fun e w' hr => ?_
  cases e with
  | returned v =>
    obtain ⟨z, ρ', h3, h4⟩ := hr
    refine ⟨z, _, h3, (st_back h2 h4).perm (fam_in [_] hi ?_ ?_)⟩
    · unfold mset; (try dsimp only); rw [upd_at]
    · intro j _ hj; unfold mset; (try dsimp only); rw [upd_off hj]
  | _ => exact hr.elim
/-- add of a map of the same table -/
theorem addh_ok (n s i k : Nat) (hn : n ≤ 1000) (B : NF) (S : SF) (hi : i < n) (hk : k < n) (ρ : Facts) (w : World) (h : St w (keysOf (iCells s 61 (mps n n B) :: fam n (mset B S))) w (iCells s 61 (mps n n B) :: fam n (mset B S)) ρ) :
    Calls Try.prog 48 #[.slice (some ⟨s, 0, none⟩) n n, .int .i64 (i : Int), .map (some (B k))] w (Ret fun v w' => ∃ (z : AddR (S i) (S k)) (ρ' : Facts), v = .bool z.1.1 ∧ St w (keysOf (iCells s 61 (mps n n B) :: fam n (mset B S))) w' (iCells s 61 (mps n n B) :: fam n (mset B (Ana.upd S i z.1.2))) ρ') := by
  have h1 := h.perm (fam_out [_] hk)
  obtain ⟨es, clock, hes, h2⟩ := St.map_ex (kf := intK) (b := B k) (ks := S k) h1
  by_cases e : i = k
  · subst e
    refine (add0_ok n s i hn B hi (S i) es clock hes _ _ (List.mem_cons_self ..) w (st_self h2)).mono fun e w' hr => ?_
    cases e with
    | returned v =>
      obtain ⟨_, ρ', h3, h4⟩ := hr
      have hfin := ((st_back h2 h4).ex_map hes).perm (fam_in (G := mset B S) [_] hi rfl (fun _ _ _ => rfl))
      refine ⟨⟨(false, S i), fun a => by simp, fun _ => rfl, fun h => by cases h⟩, ρ, h3, ?_⟩
      show St _ _ _ (iCells s 61 (mps n n B) :: fam n (mset B (Ana.upd S i (S i)))) _
      rw [show Ana.upd S i (S i) = S from upd_same rfl]
      exact hfin
    | _ => exact hr.elim
  · have h3 := (h2.perm (fam_in (G := Ana.upd (mset B S) k (iMEx (B k) es clock)) [_] hk (upd_at ..).symm (fun j _ hj => (upd_off hj).symm))).perm (fam_out [_] hi)
    rw [show Ana.upd (mset B S) k (iMEx (B k) es clock) i = iMap intK (B i) (S i) from upd_off e] at h3
    have hm : iMEx (B k) es clock ∈ famx n i (Ana.upd (mset B S) k (iMEx (B k) es clock)) := by
      have := famx_mem (F := Ana.upd (mset B S) k (iMEx (B k) es clock)) hk (Ne.symm e)
      rwa [upd_at] at this
    refine (add_ok n s (B k) i hn B hi (S i) (S k) es clock hes _ _ (List.mem_cons_self ..) (.inl (List.mem_cons_of_mem _ hm)) w (st_self h3)).mono fun e w' hr => ?_
    cases e with
    | returned v =>
      obtain ⟨z, ρ', h4, h5⟩ := hr
      refine ⟨z, ρ, h4, ?_⟩
      have h6 := (st_back h3 h5).perm (fam_in (G := Ana.upd (Ana.upd (mset B S) k (iMEx (B k) es clock)) i (iMap intK (B i) z.1.2)) [_] hi (upd_at ..).symm (fun j _ hj => (upd_off hj).symm))
      have h7 := h6.perm (fam_out [_] hk)
      rw [show Ana.upd (Ana.upd (mset B S) k (iMEx (B k) es clock)) i (iMap intK (B i) z.1.2) k = iMEx (B k) es clock by rw [upd_off (Ne.symm e), upd_at]] at h7
      refine (h7.ex_map hes).perm (fam_in [_] hk ?_ ?_)
      · unfold mset; (try dsimp only); rw [upd_off (Ne.symm e)]
      · intro j _ hj
        by_cases e2 : j = i
        · subst e2; rw [upd_at]; unfold mset; (try dsimp only); rw [upd_at]
        · rw [upd_off e2, upd_off hj]; unfold mset; (try dsimp only); rw [upd_off e2]
    | _ => exact hr.elim
theorem bg_iff {nul : Nat → Bool} {F G : Nat → Int → Prop} (h : ∀ i a, F i a ↔ G i a) {l : List Int} {a : Int} : Ana.BG nul F l a ↔ Ana.BG nul G l a := ⟨Ana.BG.mono fun i a => (h i a).1, Ana.BG.mono fun i a => (h i a).2⟩
section
variable {P : Program} {w0 : World} {K : List Nat} {n : Sz} {N : Act → World → Prop} {L : Slots} {σ : Fx.Own} {ρ : Fx.Facts}
theorem c_keepAll (l : Fx.Own) (h : Cont w0 K n N L σ ((fun w => ∀ x, x ∈ l → x.holds w) :: ρ)) : Cont w0 K n N L (l ++ σ) ρ := fun a w hf hs => h a w hf (hs.keepAll l)
theorem st_ms {w : World} {m : Nat} {B : NF} {S : SF} (hs : St w0 K w σ ρ) (h : (fun w => ∀ x, x ∈ fam m (mset B S) → x.holds w) ∈ ρ) : St w0 K w σ (MS m B S :: ρ) := hs.iff h fun w => ⟨fun h i hi => h _ (mem_fam hi), fun h x hx => by
  obtain ⟨i, hi, rfl⟩ := List.mem_map.1 hx
  exact h i (List.mem_range.1 hi)⟩
end
/-! Follow -/
def FOp (X : GI) (nul : Nat → Bool) : Nat → Int → Prop := Ana.FO X.g nul (Ana.FI X.g nul)
def SoundO (X : GI) (nul : Nat → Bool) (S : SF) : Prop := (∀ i a, a ∈ S i → FOp X nul i a) ∧ (-1 : Int) ∈ S X.g.start.toNat
/-- place p of the rule has been seen to -/
def GoodP (X : GI) (nul : Nat → Bool) (x : XR) (S : SF) (p : Nat) : Prop := ∀ y, x.r.body[p]? = some y → y < 0 → (∀ a, Ana.BG nul (Ana.FI X.g nul) (x.r.body.drop (p + 1)) a → a ∈ S (Ana.nt y)) ∧ (Ana.allG false nul (x.r.body.drop (p + 1)) = true → ∀ a, a ∈ S x.r.head.toNat → a ∈ S (Ana.nt y))
def GoodO (X : GI) (nul : Nat → Bool) (x : XR) (S : SF) : Prop := ∀ p, p < x.r.body.length → GoodP X nul x S p
def FolI (X : GI) (nul : Nat → Bool) (x : XR) (S : SF) (k : Nat) (R : SF) (c : Bool) : Prop := SoundO X nul R ∧ (c = true → meas X.g.n (X.g.t + 1) R < meas X.g.n (X.g.t + 1) S) ∧ (c = false → R = S ∧ ∀ p, p < k → GoodP X nul x R p)
theorem FOp.range {X : GI} (ok : Ana.Ok X.g) {nul : Nat → Bool} {i : Nat} {a : Int} (h : FOp X nul i a) : -1 ≤ a ∧ a < X.g.t := Ana.FO.range ok (fun _ _ h => Ana.FI.range ok h) h
theorem start_sound (X : GI) (nul : Nat → Bool) : SoundO X nul (Ana.upd (fun _ => []) X.g.start.toNat [-1]) := by
  refine ⟨fun i a ha => ?_, by rw [upd_at]; exact List.mem_singleton.2 rfl⟩
  rcases upd_mem ha with h | ⟨rfl, h⟩
  · cases h
  · rw [List.mem_singleton.1 h]; exact .start
/-- one add -/
theorem fol_add {X : GI} (ok : Ana.Ok X.g) {nul : Nat → Bool} {R : SF} (hs : SoundO X nul R) {i : Nat} (hi : i < X.g.n) {ks : List Int} (hk : ∀ a, a ∈ ks → FOp X nul i a) (z : AddR (R i) ks) :
    SoundO X nul (Ana.upd R i z.1.2) ∧ (z.1.1 = true → meas X.g.n (X.g.t + 1) (Ana.upd R i z.1.2) < meas X.g.n (X.g.t + 1) R) ∧ (z.1.1 = false → Ana.upd R i z.1.2 = R ∧ ∀ a, a ∈ ks → a ∈ R i) := by
  obtain ⟨⟨b, T⟩, h1, h2, h3⟩ := z
  have hsub : ∀ j a, a ∈ R j → a ∈ Ana.upd R i T j := fun j a ha => by
    unfold Ana.upd
    by_cases e : j = i
    · rw [if_pos e]; exact (h1 a).2 (.inl (e ▸ ha))
    · rw [if_neg e]; exact ha
  have hsound : SoundO X nul (Ana.upd R i T) := ⟨fun j a ha => by
    rcases upd_mem ha with h | ⟨rfl, h⟩
    · exact hs.1 j a h
    · exact ((h1 a).1 h).elim (hs.1 _ a) (hk a), hsub _ _ hs.2⟩
  refine ⟨hsound, fun hb => ?_, fun hb => ?_⟩
  · obtain ⟨a, ha, hn⟩ := h3 hb
    have hr := FOp.range ok (hsound.1 i a (by rw [upd_at]; exact ha))
    exact meas_lt hsub hi hr.1 (by omega) (by rw [upd_at]; exact ha) hn
  · have hT := h2 hb
    exact ⟨upd_same hT, fun a ha => by have h := (h1 a).2 (.inr ha); rw [show T = R i from hT] at h; exact h⟩
theorem FolI.one {X : GI} {nul : Nat → Bool} {x : XR} {S R R1 : SF} {k : Nat} {c b : Bool} (h : FolI X nul x S k R c) (h1 : SoundO X nul R1) (h2 : b = true → meas X.g.n (X.g.t + 1) R1 < meas X.g.n (X.g.t + 1) R) (h3 : b = false → R1 = R) (hg : b = false → GoodP X nul x R k) : FolI X nul x S (k + 1) R1 (b || c) := by
  refine ⟨h1, fun hb => ?_, fun hb => ?_⟩
  · have hle : meas X.g.n (X.g.t + 1) R ≤ meas X.g.n (X.g.t + 1) S := by
      cases c with
      | true => exact Nat.le_of_lt (h.2.1 rfl)
      | false => rw [(h.2.2 rfl).1]; exact Nat.le_refl _
    cases b with
    | true => exact Nat.lt_of_lt_of_le (h2 rfl) hle
    | false => rw [h3 rfl]; exact h.2.1 (by simpa using hb)
  · have hb2 : b = false ∧ c = false := by simpa using hb
    rw [h3 hb2.1]
    obtain ⟨g1, g2⟩ := h.2.2 hb2.2
    refine ⟨g1, fun p hp => ?_⟩
    by_cases e : p = k
    · subst e; exact hg hb2.1
    · exact g2 p (by omega)
theorem FolI.two {X : GI} {nul : Nat → Bool} {x : XR} {S R R1 R2 : SF} {k : Nat} {c b1 b2 : Bool} {G1 : Prop} {G2 : SF → Prop} (h : FolI X nul x S k R c) (h1 : SoundO X nul R2) (e2 : b1 = true → meas X.g.n (X.g.t + 1) R1 < meas X.g.n (X.g.t + 1) R) (e3 : b1 = false → R1 = R ∧ G1)
    (f2 : b2 = true → meas X.g.n (X.g.t + 1) R2 < meas X.g.n (X.g.t + 1) R1) (f3 : b2 = false → R2 = R1 ∧ G2 R1) (hg : G1 → G2 R → GoodP X nul x R k) : FolI X nul x S (k + 1) R2 (b2 || (b1 || c)) := by
  rw [← Bool.or_assoc]
  refine h.one h1 (fun hb => ?_) (fun hb => ?_) (fun hb => ?_)
  · cases b2 with
    | true =>
      have g1 := f2 rfl
      cases b1 with
      | true => have g2 := e2 rfl; omega
      | false => rw [(e3 rfl).1] at g1; exact g1
    | false => rw [(f3 rfl).1]; exact e2 (by simpa using hb)
  · have h2 : b2 = false ∧ b1 = false := by simpa using hb
    rw [(f3 h2.1).1, (e3 h2.2).1]
  · have h2 : b2 = false ∧ b1 = false := by simpa using hb
    have g2 := (f3 h2.1).2
    rw [(e3 h2.2).1] at g2
    exact hg (e3 h2.2).2 g2
theorem follow_full {X : GI} {nul : Nat → Bool} {S : SF} (hs : SoundO X nul S) (hg : ∀ x, x ∈ X.xs → GoodO X nul x S) (i : Nat) (a : Int) : a ∈ S i ↔ FOp X nul i a :=
  Ana.fo_full (G := fun i a => a ∈ S i) hs.1 hs.2 (fun r hr k y hy h0 a hb => by
    obtain ⟨x, hx, rfl⟩ := List.mem_map.1 hr
    exact (hg x hx k (List.getElem?_eq_some_iff.1 hy).1 y hy h0).1 a hb)
  (fun r hr k y hy h0 hn a ha => by
    obtain ⟨x, hx, rfl⟩ := List.mem_map.1 hr
    exact (hg x hx k (List.getElem?_eq_some_iff.1 hy).1 y hy h0).2 hn a ha) i a
theorem call_46 : Callable Try.prog 46 := ⟨_, Try.func46, by kernel_rfl, rfl⟩
theorem follow1_ok (X : GI) (hX : X.small) (ok : Ana.Ok X.g) (p1 q p2 s1 s2 bo : Nat) (B1 B2 : NF) (S1 : SF) (nul : BF) (hS1 : ∀ i a, a ∈ S1 i ↔ Ana.FI X.g nul i a) (x : XR) (hx : x ∈ X.xs) (S : SF) (hS : SoundO X nul S) (w : World) (h : St w (keysOf (tauF X s2 B2 S)) w (tauF X s2 B2 S) (Bd X.xs :: Sl 3 ruF X.Ar X.xs :: Sl 1 strF X.An X.nts :: Sl 1 strF X.At X.terms :: [(iCells p1 56 [.slice (some ⟨s1, 0, none⟩) X.g.n X.g.n]).holds, (iCells q 29 [.slice (some ⟨bo, 0, none⟩) X.g.n X.g.n]).holds, (iCells p2 56 [.slice (some ⟨s2, 0, none⟩) X.g.n X.g.n]).holds, (iCells s1 61 (mps X.g.n X.g.n B1)).holds, MS X.g.n B1 S1, Sl 1 boolF (some ⟨bo, 0, none⟩) (Ana.mkl X.g.n nul)])) :
   Calls Try.prog 46 #[.agg #[.int .i64 x.r.head, .slice x.A x.r.body.length x.c, .int .i64 x.r.price], .pointer (some ⟨p1, 0, none⟩), .pointer (some ⟨q, 0, none⟩), .pointer (some ⟨p2, 0, none⟩)] w (Ret fun v w' => ∃ (z : FixR (meas X.g.n (X.g.t + 1)) (SoundO X nul) (GoodO X nul x) S) (ρ' : Facts), v = .bool z.1.1 ∧ St w (keysOf (tauF X s2 B2 S)) w' (tauF X s2 B2 z.1.2) ρ') := by
 refine calls_fx (l := [.agg #[.int .i64 x.r.head, .slice x.A x.r.body.length x.c, .int .i64 x.r.price], .pointer (some ⟨p1, 0, none⟩), .pointer (some ⟨q, 0, none⟩), .pointer (some ⟨p2, 0, none⟩)]) Try.func46 rfl Try.ntmps46 (Nat.le_of_ble_eq_true rfl) h ?_
 refine c_seq ?_
 obtain ⟨hh1, hh2⟩ := ok.hd (mem_g hx)
 have hbl := ok.bl _ (mem_g hx)
 have hxb := hX.b x hx
 have hnl := ok.nl
 have hnn : X.nts.length ≤ 8 := hnl
 obtain ⟨kx, hkx⟩ := List.getElem?_of_mem hx
 refine c_reg ?_
 refine l_box (by decide) rfl _ rfl (fun b4 => ?_)
 refine l_q (by decide) (p_assign rfl).q ?_
 refine l_nil ?_
 refine c_seq ?_
 refine c_reg ?_
 refine l_q (by decide) (p_assign rfl).q ?_
 refine l_nil ?_
 refine c_seq ?_
 refine c_seq ?_
 refine c_reg ?_
 first | refine l_q (by decide) (p_faddr (i := 1) 1 Try.underlying41 rfl inf_39 (by decide) rfl rfl).q ?_ | refine l_q (by decide) (p_faddro (i := 1) 1 Try.underlying41 rfl inf_39 (by decide) rfl rfl).q ?_
 first | refine l_q (by decide) (r_loado Try.underlying39 rfl rfl (by repeat constructor) (by rfl)).q ?_ | refine l_q (by decide) (r_load1 Try.underlying39 rfl rfl (by first | exact .fact (by repeat constructor) | exact .own (by repeat constructor) (by decide) (fun _ => rfl) | exact SlIn.body (by repeat constructor) (by assumption)) (by first | assumption | rfl) (by rfl)).q ?_ | refine l_q (by decide) (r_loadf Try.underlying39 rfl rfl (by first | exact .fact (by repeat constructor) | exact .own (by repeat constructor) (by decide) (fun _ => rfl) | exact SlIn.body (by repeat constructor) (by assumption)) (by assumption) (by rfl)).q ?_
 refine l_q (by decide) (p_len_sl Try.underlying39 rfl).q ?_
 refine l_q (by decide) (p_move (v := .int .i64 ((0 : Nat) : Int)) rfl).q ?_
 refine l_nil ?_
 refine c_block ?_
 refine c_loop (S := Nat × SF × Bool) (fun zs => zs.1 ≤ x.r.body.length ∧ FolI X nul x S zs.1 zs.2.1 zs.2.2) (fun zs => x.r.body.length - zs.1) (fun zs => [(1, .pointer (some ⟨p1, 0, none⟩)), (2, .pointer (some ⟨q, 0, none⟩)), (3, .pointer (some ⟨p2, 0, none⟩)), (4, .pointer (some ⟨b4, 0, none⟩)), (6, .bool zs.2.2), (12, .slice x.A x.r.body.length x.c), (13, .int .i64 (x.r.body.length : Int)), (14, .int .i64 (zs.1 : Int))]) (fun zs => (iCells b4 41 [.int .i64 x.r.head, .slice x.A x.r.body.length x.c, .int .i64 x.r.price] :: tauF X s2 B2 zs.2.1)) (fun zs => (Bd X.xs :: Sl 3 ruF X.Ar X.xs :: Sl 1 strF X.An X.nts :: Sl 1 strF X.At X.terms :: [(iCells p1 56 [.slice (some ⟨s1, 0, none⟩) X.g.n X.g.n]).holds, (iCells q 29 [.slice (some ⟨bo, 0, none⟩) X.g.n X.g.n]).holds, (iCells p2 56 [.slice (some ⟨s2, 0, none⟩) X.g.n X.g.n]).holds, (iCells s1 61 (mps X.g.n X.g.n B1)).holds, MS X.g.n B1 S1, Sl 1 boolF (some ⟨bo, 0, none⟩) (Ana.mkl X.g.n nul)])) (0, S, false) ?_ ?_ ?_ ?_ ?_
 · show (0) ≤ x.r.body.length ∧ FolI X nul x S (0) (S) (false)
   exact ⟨Nat.zero_le _, hS, fun h => (by cases h), fun _ => ⟨rfl, fun p hp => absurd hp (by omega)⟩⟩
 · exact ⟨rfl, rfl, rfl, rfl, rfl, rfl, rfl, rfl, trivial⟩
 · exact .refl _
 · exact fun _ h => h
 rintro ⟨k, R, c⟩ hinv
 have hinv : k ≤ x.r.body.length ∧ FolI X nul x S k R c := hinv
 obtain ⟨hJ1, hJ2⟩ := hinv
 show Cont _ _ _ _ [(1, .pointer (some ⟨p1, 0, none⟩)), (2, .pointer (some ⟨q, 0, none⟩)), (3, .pointer (some ⟨p2, 0, none⟩)), (4, .pointer (some ⟨b4, 0, none⟩)), (6, .bool c), (12, .slice x.A x.r.body.length x.c), (13, .int .i64 (x.r.body.length : Int)), (14, .int .i64 (k : Int))] ((iCells b4 41 [.int .i64 x.r.head, .slice x.A x.r.body.length x.c, .int .i64 x.r.price] :: tauF X s2 B2 R)) (Bd X.xs :: Sl 3 ruF X.Ar X.xs :: Sl 1 strF X.An X.nts :: Sl 1 strF X.At X.terms :: [(iCells p1 56 [.slice (some ⟨s1, 0, none⟩) X.g.n X.g.n]).holds, (iCells q 29 [.slice (some ⟨bo, 0, none⟩) X.g.n X.g.n]).holds, (iCells p2 56 [.slice (some ⟨s2, 0, none⟩) X.g.n X.g.n]).holds, (iCells s1 61 (mps X.g.n X.g.n B1)).holds, MS X.g.n B1 S1, Sl 1 boolF (some ⟨bo, 0, none⟩) (Ana.mkl X.g.n nul)])
 refine c_seq ?_
 refine c_reg ?_
 first | refine l_q (by decide) (p_lss rfl rfl rfl rfl).q ?_ | refine l_q (by decide) (p_lssi rfl rfl).q ?_
 refine l_nil ?_
 refine c_seq ?_
 first | refine c_dec rfl (fun h15 => ?_) (fun h15 => ?_) | refine c_cond rfl (fun h15 => ?_) (fun h15 => ?_)
 ·skip
  obtain ⟨y, hy⟩ := at_some (l := x.r.body) (n := k) (by omega)
  have hyb := ok.b0 _ (mem_g hx) y (List.mem_of_getElem? hy)
  refine c_skip ?_
  refine c_seq ?_
  refine c_block ?_
  refine c_seq ?_
  refine c_reg ?_
  refine l_q (by decide) (p_move rfl).q ?_
  first | refine l_q (by decide) (r_index Try.underlying39 inf_3 rfl rfl rfl (by first | exact .fact (by repeat constructor) | exact .own (by repeat constructor) (by decide) (fun _ => rfl) | exact SlIn.body (by repeat constructor) (by assumption)) rfl (by omega)).q ?_ | refine l_q (by decide) (r_index Try.underlying39 inf_3 rfl rfl rfl (by first | exact .fact (by repeat constructor) | exact .own (by repeat constructor) (by decide) (fun _ => rfl) | exact SlIn.body (by repeat constructor) (by assumption)) rfl (by decide)).q ?_ | refine l_q (by decide) (p_indexo Try.underlying39 inf_3 rfl rfl rfl (by omega)).q ?_
  first | refine l_q (by decide) (r_loado Try.underlying3 rfl rfl (by repeat constructor) (by rfl)).q ?_ | refine l_q (by decide) (r_load1 Try.underlying3 rfl rfl (by first | exact .fact (by repeat constructor) | exact .own (by repeat constructor) (by decide) (fun _ => rfl) | exact SlIn.body (by repeat constructor) (by assumption)) (by first | assumption | rfl) (by rfl)).q ?_ | refine l_q (by decide) (r_loadf Try.underlying3 rfl rfl (by first | exact .fact (by repeat constructor) | exact .own (by repeat constructor) (by decide) (fun _ => rfl) | exact SlIn.body (by repeat constructor) (by assumption)) (by assumption) (by rfl)).q ?_
  refine l_q (by decide) (p_assign rfl).q ?_
  refine l_q (by decide) (p_assign rfl).q ?_
  refine l_nil ?_
  refine c_seq ?_
  refine c_seq ?_
  refine c_reg ?_
  refine l_q (by decide) (p_move rfl).q ?_
  first | refine l_q (by decide) (p_geq (j := 0) rfl rfl rfl rfl).q ?_ | refine l_q (by decide) (p_geqi rfl rfl).q ?_
  refine l_nil ?_
  first | refine c_dec rfl (fun h20 => ?_) (fun h20 => ?_) | refine c_cond rfl (fun h20 => ?_) (fun h20 => ?_)
  ·skip
   refine c_exit ?_
   refine c_here ?_
   refine c_reg ?_
   first | refine l_q (by decide) (p_add (j := 1) rfl rfl rfl rfl (by show _ ≤ (9223372036854775807 : Nat); omega)).q ?_ | refine l_q (by decide) (p_addi rfl rfl (by show (-9223372036854775808 : Int) ≤ _; omega) (by show _ ≤ ((9223372036854775807 : Nat) : Int); omega)).q ?_
   refine l_q (by decide) (p_move rfl).q ?_
   refine l_nil ?_
   refine c_join ((k + 1), (R), (c)) ?_ ?_ ?_ ?_
   ·show ((k + 1) ≤ x.r.body.length ∧ FolI X nul x S (k + 1) (R) (c)) ∧ x.r.body.length - (k + 1) < x.r.body.length - k
    exact ⟨⟨by omega, by simpa using hJ2.one (b := false) hJ2.1 (fun h => by cases h) (fun _ => rfl) (fun _ y2 hy2 h0 => by rw [hy] at hy2; injection hy2 with hy2; subst hy2; omega)⟩, by omega⟩
   · exact ⟨rfl, rfl, rfl, rfl, rfl, rfl, rfl, rfl, trivial⟩
   ·show List.Perm _ ((iCells b4 41 [.int .i64 x.r.head, .slice x.A x.r.body.length x.c, .int .i64 x.r.price] :: tauF X s2 B2 (R)))
    exact .refl _
   · exact fun _ h => h
  ·skip
   refine c_skip ?_
   refine c_seq ?_
   have hy0 : y < 0 := by omega
   have hn2 := ok.nt_lt (mem_g hx) (List.mem_of_getElem? hy) hy0
   have hncs : Ana.nt y = (-1 - y).toNat := rfl
   refine c_body (m := k) (by repeat constructor) hkx (by omega) ?_
   refine c_facts (Sl 1 intF (subA x.A x.c (k + 1) 1) (x.r.body.drop (k + 1)) :: Bd X.xs :: Sl 3 ruF X.Ar X.xs :: Sl 1 strF X.An X.nts :: Sl 1 strF X.At X.terms :: [(iCells p1 56 [.slice (some ⟨s1, 0, none⟩) X.g.n X.g.n]).holds, (iCells q 29 [.slice (some ⟨bo, 0, none⟩) X.g.n X.g.n]).holds, (iCells p2 56 [.slice (some ⟨s2, 0, none⟩) X.g.n X.g.n]).holds, (iCells s1 61 (mps X.g.n X.g.n B1)).holds, MS X.g.n B1 S1, Sl 1 boolF (some ⟨bo, 0, none⟩) (Ana.mkl X.g.n nul)]) (fun w hs => hs.weak (by simp)) ?_
   refine m_draw [] mixed ?_
   first | refine m_takep 0 rfl (by kernel_rfl) (by decide) (p_faddr (i := 1) 1 Try.underlying41 rfl inf_39 (by decide) rfl rfl) ?_ | refine m_takep 0 rfl (by kernel_rfl) (by decide) (p_faddro (i := 1) 1 Try.underlying41 rfl inf_39 (by decide) rfl rfl) ?_
   first | refine m_take 1 rfl (by kernel_rfl) (by decide) (by first | exact (List.Perm.refl _ : List.Perm _ ([] ++ _)) | exact (List.Perm.refl _ : List.Perm _ ([_] ++ _)) | exact (List.Perm.refl _ : List.Perm _ ([_, _] ++ _)) | exact (List.Perm.refl _ : List.Perm _ ([_, _, _] ++ _)) | exact (List.Perm.refl _ : List.Perm _ ([_, _, _, _] ++ _)) | exact (List.Perm.refl _ : List.Perm _ ([_, _, _, _, _] ++ _)) | exact List.Perm.refl _) (by first | exact fun _ h => h | exact fun _ h => List.mem_cons_of_mem _ h | exact fun _ h => List.mem_cons_of_mem _ (List.mem_cons_of_mem _ h) | exact fun _ h => List.mem_cons_of_mem _ (List.mem_cons_of_mem _ (List.mem_cons_of_mem _ h)) | exact fun _ h => List.mem_cons_of_mem _ (List.mem_cons_of_mem _ (List.mem_cons_of_mem _ (List.mem_cons_of_mem _ h))) | exact fun _ h => List.mem_cons_of_mem _ (List.mem_cons_of_mem _ (List.mem_cons_of_mem _ (List.mem_cons_of_mem _ (List.mem_cons_of_mem _ h))))) (r_loado Try.underlying39 rfl rfl (by repeat constructor) (by rfl)).r ?_ | refine m_take 1 rfl (by kernel_rfl) (by decide) (by first | exact (List.Perm.refl _ : List.Perm _ ([] ++ _)) | exact (List.Perm.refl _ : List.Perm _ ([_] ++ _)) | exact (List.Perm.refl _ : List.Perm _ ([_, _] ++ _)) | exact (List.Perm.refl _ : List.Perm _ ([_, _, _] ++ _)) | exact (List.Perm.refl _ : List.Perm _ ([_, _, _, _] ++ _)) | exact (List.Perm.refl _ : List.Perm _ ([_, _, _, _, _] ++ _)) | exact List.Perm.refl _) (by first | exact fun _ h => h | exact fun _ h => List.mem_cons_of_mem _ h | exact fun _ h => List.mem_cons_of_mem _ (List.mem_cons_of_mem _ h) | exact fun _ h => List.mem_cons_of_mem _ (List.mem_cons_of_mem _ (List.mem_cons_of_mem _ h)) | exact fun _ h => List.mem_cons_of_mem _ (List.mem_cons_of_mem _ (List.mem_cons_of_mem _ (List.mem_cons_of_mem _ h))) | exact fun _ h => List.mem_cons_of_mem _ (List.mem_cons_of_mem _ (List.mem_cons_of_mem _ (List.mem_cons_of_mem _ (List.mem_cons_of_mem _ h))))) (r_load1 Try.underlying39 rfl rfl (by first | exact .fact (by repeat constructor) | exact .own (by repeat constructor) (by decide) (fun _ => rfl) | exact SlIn.body (by repeat constructor) (by assumption)) (by first | assumption | rfl) (by rfl)).r ?_ | refine m_take 1 rfl (by kernel_rfl) (by decide) (by first | exact (List.Perm.refl _ : List.Perm _ ([] ++ _)) | exact (List.Perm.refl _ : List.Perm _ ([_] ++ _)) | exact (List.Perm.refl _ : List.Perm _ ([_, _] ++ _)) | exact (List.Perm.refl _ : List.Perm _ ([_, _, _] ++ _)) | exact (List.Perm.refl _ : List.Perm _ ([_, _, _, _] ++ _)) | exact (List.Perm.refl _ : List.Perm _ ([_, _, _, _, _] ++ _)) | exact List.Perm.refl _) (by first | exact fun _ h => h | exact fun _ h => List.mem_cons_of_mem _ h | exact fun _ h => List.mem_cons_of_mem _ (List.mem_cons_of_mem _ h) | exact fun _ h => List.mem_cons_of_mem _ (List.mem_cons_of_mem _ (List.mem_cons_of_mem _ h)) | exact fun _ h => List.mem_cons_of_mem _ (List.mem_cons_of_mem _ (List.mem_cons_of_mem _ (List.mem_cons_of_mem _ h))) | exact fun _ h => List.mem_cons_of_mem _ (List.mem_cons_of_mem _ (List.mem_cons_of_mem _ (List.mem_cons_of_mem _ (List.mem_cons_of_mem _ h))))) (r_loadf Try.underlying39 rfl rfl (by first | exact .fact (by repeat constructor) | exact .own (by repeat constructor) (by decide) (fun _ => rfl) | exact SlIn.body (by repeat constructor) (by assumption)) (by assumption) (by rfl)).r ?_
   refine m_takep 2 rfl (by kernel_rfl) (by decide) (p_move rfl) ?_
   first | refine m_takep 3 rfl (by kernel_rfl) (by decide) (p_add (j := 1) rfl rfl rfl rfl (by show _ ≤ (9223372036854775807 : Nat); omega)) ?_ | refine m_takep 3 rfl (by kernel_rfl) (by decide) (p_addi rfl rfl (by show (-9223372036854775808 : Int) ≤ _; omega) (by show _ ≤ ((9223372036854775807 : Nat) : Int); omega)) ?_
   first | refine m_takep 4 rfl (by kernel_rfl) (by decide) (p_part_l Try.underlying39 inf_3 rfl rfl rfl (by omega)) ?_ | refine m_takep 4 rfl (by kernel_rfl) (by decide) (p_slices_l Try.underlying39 inf_3 rfl rfl rfl (by omega)) ?_
   refine m_take 5 rfl (by kernel_rfl) (by decide) (by first | exact (List.Perm.refl _ : List.Perm _ ([] ++ _)) | exact (List.Perm.refl _ : List.Perm _ ([_] ++ _)) | exact (List.Perm.refl _ : List.Perm _ ([_, _] ++ _)) | exact (List.Perm.refl _ : List.Perm _ ([_, _, _] ++ _)) | exact (List.Perm.refl _ : List.Perm _ ([_, _, _, _] ++ _)) | exact (List.Perm.refl _ : List.Perm _ ([_, _, _, _, _] ++ _)) | exact List.Perm.refl _) (by first | exact fun _ h => h | exact fun _ h => List.mem_cons_of_mem _ h | exact fun _ h => List.mem_cons_of_mem _ (List.mem_cons_of_mem _ h) | exact fun _ h => List.mem_cons_of_mem _ (List.mem_cons_of_mem _ (List.mem_cons_of_mem _ h)) | exact fun _ h => List.mem_cons_of_mem _ (List.mem_cons_of_mem _ (List.mem_cons_of_mem _ (List.mem_cons_of_mem _ h))) | exact fun _ h => List.mem_cons_of_mem _ (List.mem_cons_of_mem _ (List.mem_cons_of_mem _ (List.mem_cons_of_mem _ (List.mem_cons_of_mem _ h))))) (r_loadq (q := (iCells p1 56 [.slice (some ⟨s1, 0, none⟩) X.g.n X.g.n]).holds) Try.underlying56 rfl rfl (by repeat constructor) (fun w h => (cells_cell h 0).trans rfl)).r ?_
   refine m_take 6 rfl (by kernel_rfl) (by decide) (by first | exact (List.Perm.refl _ : List.Perm _ ([] ++ _)) | exact (List.Perm.refl _ : List.Perm _ ([_] ++ _)) | exact (List.Perm.refl _ : List.Perm _ ([_, _] ++ _)) | exact (List.Perm.refl _ : List.Perm _ ([_, _, _] ++ _)) | exact (List.Perm.refl _ : List.Perm _ ([_, _, _, _] ++ _)) | exact (List.Perm.refl _ : List.Perm _ ([_, _, _, _, _] ++ _)) | exact List.Perm.refl _) (by first | exact fun _ h => h | exact fun _ h => List.mem_cons_of_mem _ h | exact fun _ h => List.mem_cons_of_mem _ (List.mem_cons_of_mem _ h) | exact fun _ h => List.mem_cons_of_mem _ (List.mem_cons_of_mem _ (List.mem_cons_of_mem _ h)) | exact fun _ h => List.mem_cons_of_mem _ (List.mem_cons_of_mem _ (List.mem_cons_of_mem _ (List.mem_cons_of_mem _ h))) | exact fun _ h => List.mem_cons_of_mem _ (List.mem_cons_of_mem _ (List.mem_cons_of_mem _ (List.mem_cons_of_mem _ (List.mem_cons_of_mem _ h))))) (r_loadq (q := (iCells q 29 [.slice (some ⟨bo, 0, none⟩) X.g.n X.g.n]).holds) Try.underlying29 rfl rfl (by repeat constructor) (fun w h => (cells_cell h 0).trans rfl)).r ?_
   refine m_run 7 rfl (by kernel_rfl) ?_
   refine l_call (X := { y : Nat × List Int // ∀ a, a ∈ y.2 ↔ Ana.BG nul (fun i a => a ∈ S1 i) (x.r.body.drop (k + 1)) a }) (fun z => .tuple #[.map (some z.1.1), .bool (Ana.allG false nul (x.r.body.drop (k + 1)))]) (fun z => MIs intK z.1.1 z.1.2) (by decide) call_47 rfl (fun w hs => begin_call (begin_ok X.g.n s1 bo (by show X.nts.length ≤ 1000; omega) B1 S1 nul (subA x.A x.c (k + 1) 1) (x.c - (k + 1)) (x.r.body.drop (k + 1)) (by rw [List.length_drop]; omega) (fun u hu h0 => ok.nt_lt (mem_g hx) (List.mem_of_mem_drop hu) h0) w (hs.facts _ (List.mem_cons_self ..)).1 (hs.facts (iCells s1 61 (mps X.g.n X.g.n B1)).holds (by repeat constructor)).1 (hs.facts (MS X.g.n B1 S1) (by repeat constructor)).1 (hs.facts (Sl 1 boolF (some ⟨bo, 0, none⟩) (Ana.mkl X.g.n nul)) (by repeat constructor)).1)) (fun y29 => ?_)
   refine l_nil ?_
   refine m_next _ (by first | exact (List.Perm.refl _ : List.Perm _ ([] ++ _)) | exact (List.Perm.refl _ : List.Perm _ ([_] ++ _)) | exact (List.Perm.refl _ : List.Perm _ ([_, _] ++ _)) | exact (List.Perm.refl _ : List.Perm _ ([_, _, _] ++ _)) | exact (List.Perm.refl _ : List.Perm _ ([_, _, _, _] ++ _)) | exact (List.Perm.refl _ : List.Perm _ ([_, _, _, _, _] ++ _)) | exact List.Perm.refl _) (by first | exact fun _ h => h | exact fun _ h => List.mem_cons_of_mem _ h | exact fun _ h => List.mem_cons_of_mem _ (List.mem_cons_of_mem _ h) | exact fun _ h => List.mem_cons_of_mem _ (List.mem_cons_of_mem _ (List.mem_cons_of_mem _ h)) | exact fun _ h => List.mem_cons_of_mem _ (List.mem_cons_of_mem _ (List.mem_cons_of_mem _ (List.mem_cons_of_mem _ h))) | exact fun _ h => List.mem_cons_of_mem _ (List.mem_cons_of_mem _ (List.mem_cons_of_mem _ (List.mem_cons_of_mem _ (List.mem_cons_of_mem _ h))))) ?_
   refine m_takep 8 rfl (by kernel_rfl) (by decide) (p_move rfl) ?_
   refine m_takep 9 rfl (by kernel_rfl) (by decide) (p_extract rfl rfl) ?_
   refine m_takep 10 rfl (by kernel_rfl) (by decide) (p_extract rfl rfl) ?_
   refine m_takep 11 rfl (by kernel_rfl) (by decide) (p_assign rfl) ?_
   refine m_takep 12 rfl (by kernel_rfl) (by decide) (p_assign rfl) ?_
   refine m_done (by kernel_rfl) ?_
   refine c_seq ?_
   refine c_reg ?_
   refine l_q (by decide) (r_loadq (q := (iCells p2 56 [.slice (some ⟨s2, 0, none⟩) X.g.n X.g.n]).holds) Try.underlying56 rfl rfl (by repeat constructor) (fun w h => (cells_cell h 0).trans rfl)).q ?_
   refine l_q (by decide) (p_move rfl).q ?_
   first | refine l_q (by decide) (((p_sub rfl rfl rfl rfl (by omega) (by show _ ≤ (9223372036854775807 : Nat); omega))).to (u := .int .i64 ((Ana.nt y : Nat) : Int)) (by rw [Ana.nt_cast hy0])).q ?_ | refine l_q (by decide) (((p_subi rfl rfl (by show (-9223372036854775808 : Int) ≤ _; omega) (by show _ ≤ ((9223372036854775807 : Nat) : Int); omega))).to (u := .int .i64 ((Ana.nt y : Nat) : Int)) (by rw [Ana.nt_cast hy0])).q ?_
   refine l_q (by decide) (p_move rfl).q ?_
   refine l_perm (List.perm_append_comm (l₁ := [_])) ?_
   refine l_callo (τ := tauF X s2 B2 R) (fun z : AddR (R (Ana.nt y)) y29.1.2 => .bool z.1.1) (fun z => tauF X s2 B2 (Ana.upd R (Ana.nt y) z.1.2)) (by decide) call_48 rfl (fun w hs => addf_ok X.g.n s2 y29.1.1 (Ana.nt y) (by show X.nts.length ≤ 1000; omega) B2 R hn2 y29.1.2 _ (by repeat constructor) w hs) (fun z1 => ?_)
   refine l_perm (List.perm_append_comm (l₂ := [_])) ?_
   refine l_q (by decide) (p_move rfl).q ?_
   first | refine l_splitd (t := 37) rfl (fun h37 => ?_) (fun h37 => ?_) | refine l_splitb (t := 37) rfl (fun h37 => ?_) (fun h37 => ?_)
   ·skip
    refine l_off (j := 5) rfl rfl (by first | (simp; done) | (simp [undef]; done)) (by decide) ?_
    refine l_q (by decide) (p_pick rfl rfl).q ?_
    refine l_q (by decide) (p_assign rfl).q ?_
    refine l_nil ?_
    refine c_seq ?_
    refine c_reg ?_
    refine l_q (by decide) (p_move rfl).q ?_
    refine l_nil ?_
    first | refine c_dec rfl (fun h40 => ?_) (fun h40 => ?_) | refine c_cond rfl (fun h40 => ?_) (fun h40 => ?_)
    ·skip
     refine m_draw [8] mixed ?_
     refine m_take 0 rfl (by kernel_rfl) (by decide) (by first | exact (List.Perm.refl _ : List.Perm _ ([] ++ _)) | exact (List.Perm.refl _ : List.Perm _ ([_] ++ _)) | exact (List.Perm.refl _ : List.Perm _ ([_, _] ++ _)) | exact (List.Perm.refl _ : List.Perm _ ([_, _, _] ++ _)) | exact (List.Perm.refl _ : List.Perm _ ([_, _, _, _] ++ _)) | exact (List.Perm.refl _ : List.Perm _ ([_, _, _, _, _] ++ _)) | exact List.Perm.refl _) (by first | exact fun _ h => h | exact fun _ h => List.mem_cons_of_mem _ h | exact fun _ h => List.mem_cons_of_mem _ (List.mem_cons_of_mem _ h) | exact fun _ h => List.mem_cons_of_mem _ (List.mem_cons_of_mem _ (List.mem_cons_of_mem _ h)) | exact fun _ h => List.mem_cons_of_mem _ (List.mem_cons_of_mem _ (List.mem_cons_of_mem _ (List.mem_cons_of_mem _ h))) | exact fun _ h => List.mem_cons_of_mem _ (List.mem_cons_of_mem _ (List.mem_cons_of_mem _ (List.mem_cons_of_mem _ (List.mem_cons_of_mem _ h))))) (r_loadq (q := (iCells p2 56 [.slice (some ⟨s2, 0, none⟩) X.g.n X.g.n]).holds) Try.underlying56 rfl rfl (by repeat constructor) (fun w h => (cells_cell h 0).trans rfl)).r ?_
     refine m_takep 1 rfl (by kernel_rfl) (by decide) (p_move rfl) ?_
     first | refine m_takep 2 rfl (by kernel_rfl) (by decide) (((p_sub rfl rfl rfl rfl (by omega) (by show _ ≤ (9223372036854775807 : Nat); omega))).to (u := .int .i64 ((Ana.nt y : Nat) : Int)) (by rw [Ana.nt_cast hy0])) ?_ | refine m_takep 2 rfl (by kernel_rfl) (by decide) (((p_subi rfl rfl (by show (-9223372036854775808 : Int) ≤ _; omega) (by show _ ≤ ((9223372036854775807 : Nat) : Int); omega))).to (u := .int .i64 ((Ana.nt y : Nat) : Int)) (by rw [Ana.nt_cast hy0])) ?_
     refine m_take 3 rfl (by kernel_rfl) (by decide) (by first | exact (List.Perm.refl _ : List.Perm _ ([] ++ _)) | exact (List.Perm.refl _ : List.Perm _ ([_] ++ _)) | exact (List.Perm.refl _ : List.Perm _ ([_, _] ++ _)) | exact (List.Perm.refl _ : List.Perm _ ([_, _, _] ++ _)) | exact (List.Perm.refl _ : List.Perm _ ([_, _, _, _] ++ _)) | exact (List.Perm.refl _ : List.Perm _ ([_, _, _, _, _] ++ _)) | exact List.Perm.refl _) (by first | exact fun _ h => h | exact fun _ h => List.mem_cons_of_mem _ h | exact fun _ h => List.mem_cons_of_mem _ (List.mem_cons_of_mem _ h) | exact fun _ h => List.mem_cons_of_mem _ (List.mem_cons_of_mem _ (List.mem_cons_of_mem _ h)) | exact fun _ h => List.mem_cons_of_mem _ (List.mem_cons_of_mem _ (List.mem_cons_of_mem _ (List.mem_cons_of_mem _ h))) | exact fun _ h => List.mem_cons_of_mem _ (List.mem_cons_of_mem _ (List.mem_cons_of_mem _ (List.mem_cons_of_mem _ (List.mem_cons_of_mem _ h))))) (r_loadq (q := (iCells p2 56 [.slice (some ⟨s2, 0, none⟩) X.g.n X.g.n]).holds) Try.underlying56 rfl rfl (by repeat constructor) (fun w h => (cells_cell h 0).trans rfl)).r ?_
     first | refine m_takep 4 rfl (by kernel_rfl) (by decide) (p_faddr (i := 0) 0 Try.underlying41 rfl inf_3 (by decide) rfl rfl) ?_ | refine m_takep 4 rfl (by kernel_rfl) (by decide) (p_faddro (i := 0) 0 Try.underlying41 rfl inf_3 (by decide) rfl rfl) ?_
     first | refine m_take 5 rfl (by kernel_rfl) (by decide) (by first | exact (List.Perm.refl _ : List.Perm _ ([] ++ _)) | exact (List.Perm.refl _ : List.Perm _ ([_] ++ _)) | exact (List.Perm.refl _ : List.Perm _ ([_, _] ++ _)) | exact (List.Perm.refl _ : List.Perm _ ([_, _, _] ++ _)) | exact (List.Perm.refl _ : List.Perm _ ([_, _, _, _] ++ _)) | exact (List.Perm.refl _ : List.Perm _ ([_, _, _, _, _] ++ _)) | exact List.Perm.refl _) (by first | exact fun _ h => h | exact fun _ h => List.mem_cons_of_mem _ h | exact fun _ h => List.mem_cons_of_mem _ (List.mem_cons_of_mem _ h) | exact fun _ h => List.mem_cons_of_mem _ (List.mem_cons_of_mem _ (List.mem_cons_of_mem _ h)) | exact fun _ h => List.mem_cons_of_mem _ (List.mem_cons_of_mem _ (List.mem_cons_of_mem _ (List.mem_cons_of_mem _ h))) | exact fun _ h => List.mem_cons_of_mem _ (List.mem_cons_of_mem _ (List.mem_cons_of_mem _ (List.mem_cons_of_mem _ (List.mem_cons_of_mem _ h))))) (((r_loado Try.underlying3 rfl rfl (by repeat constructor) (by rfl))).to (u := .int .i64 ((x.r.head.toNat : Nat) : Int)) (by rw [hh1])).r ?_ | refine m_take 5 rfl (by kernel_rfl) (by decide) (by first | exact (List.Perm.refl _ : List.Perm _ ([] ++ _)) | exact (List.Perm.refl _ : List.Perm _ ([_] ++ _)) | exact (List.Perm.refl _ : List.Perm _ ([_, _] ++ _)) | exact (List.Perm.refl _ : List.Perm _ ([_, _, _] ++ _)) | exact (List.Perm.refl _ : List.Perm _ ([_, _, _, _] ++ _)) | exact (List.Perm.refl _ : List.Perm _ ([_, _, _, _, _] ++ _)) | exact List.Perm.refl _) (by first | exact fun _ h => h | exact fun _ h => List.mem_cons_of_mem _ h | exact fun _ h => List.mem_cons_of_mem _ (List.mem_cons_of_mem _ h) | exact fun _ h => List.mem_cons_of_mem _ (List.mem_cons_of_mem _ (List.mem_cons_of_mem _ h)) | exact fun _ h => List.mem_cons_of_mem _ (List.mem_cons_of_mem _ (List.mem_cons_of_mem _ (List.mem_cons_of_mem _ h))) | exact fun _ h => List.mem_cons_of_mem _ (List.mem_cons_of_mem _ (List.mem_cons_of_mem _ (List.mem_cons_of_mem _ (List.mem_cons_of_mem _ h))))) (((r_load1 Try.underlying3 rfl rfl (by first | exact .fact (by repeat constructor) | exact .own (by repeat constructor) (by decide) (fun _ => rfl) | exact SlIn.body (by repeat constructor) (by assumption)) (by first | assumption | rfl) (by rfl))).to (u := .int .i64 ((x.r.head.toNat : Nat) : Int)) (by rw [hh1])).r ?_ | refine m_take 5 rfl (by kernel_rfl) (by decide) (by first | exact (List.Perm.refl _ : List.Perm _ ([] ++ _)) | exact (List.Perm.refl _ : List.Perm _ ([_] ++ _)) | exact (List.Perm.refl _ : List.Perm _ ([_, _] ++ _)) | exact (List.Perm.refl _ : List.Perm _ ([_, _, _] ++ _)) | exact (List.Perm.refl _ : List.Perm _ ([_, _, _, _] ++ _)) | exact (List.Perm.refl _ : List.Perm _ ([_, _, _, _, _] ++ _)) | exact List.Perm.refl _) (by first | exact fun _ h => h | exact fun _ h => List.mem_cons_of_mem _ h | exact fun _ h => List.mem_cons_of_mem _ (List.mem_cons_of_mem _ h) | exact fun _ h => List.mem_cons_of_mem _ (List.mem_cons_of_mem _ (List.mem_cons_of_mem _ h)) | exact fun _ h => List.mem_cons_of_mem _ (List.mem_cons_of_mem _ (List.mem_cons_of_mem _ (List.mem_cons_of_mem _ h))) | exact fun _ h => List.mem_cons_of_mem _ (List.mem_cons_of_mem _ (List.mem_cons_of_mem _ (List.mem_cons_of_mem _ (List.mem_cons_of_mem _ h))))) (((r_loadf Try.underlying3 rfl rfl (by first | exact .fact (by repeat constructor) | exact .own (by repeat constructor) (by decide) (fun _ => rfl) | exact SlIn.body (by repeat constructor) (by assumption)) (by assumption) (by rfl))).to (u := .int .i64 ((x.r.head.toNat : Nat) : Int)) (by rw [hh1])).r ?_
     first | refine m_take 6 rfl (by kernel_rfl) (by decide) (by first | exact (List.Perm.refl _ : List.Perm _ ([] ++ _)) | exact (List.Perm.refl _ : List.Perm _ ([_] ++ _)) | exact (List.Perm.refl _ : List.Perm _ ([_, _] ++ _)) | exact (List.Perm.refl _ : List.Perm _ ([_, _, _] ++ _)) | exact (List.Perm.refl _ : List.Perm _ ([_, _, _, _] ++ _)) | exact (List.Perm.refl _ : List.Perm _ ([_, _, _, _, _] ++ _)) | exact List.Perm.refl _) (by first | exact fun _ h => h | exact fun _ h => List.mem_cons_of_mem _ h | exact fun _ h => List.mem_cons_of_mem _ (List.mem_cons_of_mem _ h) | exact fun _ h => List.mem_cons_of_mem _ (List.mem_cons_of_mem _ (List.mem_cons_of_mem _ h)) | exact fun _ h => List.mem_cons_of_mem _ (List.mem_cons_of_mem _ (List.mem_cons_of_mem _ (List.mem_cons_of_mem _ h))) | exact fun _ h => List.mem_cons_of_mem _ (List.mem_cons_of_mem _ (List.mem_cons_of_mem _ (List.mem_cons_of_mem _ (List.mem_cons_of_mem _ h))))) (r_index Try.underlying56 inf_61 rfl rfl rfl (by first | exact .fact (by repeat constructor) | exact .own (by repeat constructor) (by decide) (fun _ => rfl) | exact SlIn.body (by repeat constructor) (by assumption)) rfl (by omega)).r ?_ | refine m_take 6 rfl (by kernel_rfl) (by decide) (by first | exact (List.Perm.refl _ : List.Perm _ ([] ++ _)) | exact (List.Perm.refl _ : List.Perm _ ([_] ++ _)) | exact (List.Perm.refl _ : List.Perm _ ([_, _] ++ _)) | exact (List.Perm.refl _ : List.Perm _ ([_, _, _] ++ _)) | exact (List.Perm.refl _ : List.Perm _ ([_, _, _, _] ++ _)) | exact (List.Perm.refl _ : List.Perm _ ([_, _, _, _, _] ++ _)) | exact List.Perm.refl _) (by first | exact fun _ h => h | exact fun _ h => List.mem_cons_of_mem _ h | exact fun _ h => List.mem_cons_of_mem _ (List.mem_cons_of_mem _ h) | exact fun _ h => List.mem_cons_of_mem _ (List.mem_cons_of_mem _ (List.mem_cons_of_mem _ h)) | exact fun _ h => List.mem_cons_of_mem _ (List.mem_cons_of_mem _ (List.mem_cons_of_mem _ (List.mem_cons_of_mem _ h))) | exact fun _ h => List.mem_cons_of_mem _ (List.mem_cons_of_mem _ (List.mem_cons_of_mem _ (List.mem_cons_of_mem _ (List.mem_cons_of_mem _ h))))) (r_index Try.underlying56 inf_61 rfl rfl rfl (by first | exact .fact (by repeat constructor) | exact .own (by repeat constructor) (by decide) (fun _ => rfl) | exact SlIn.body (by repeat constructor) (by assumption)) rfl (by decide)).r ?_ | refine m_takep 6 rfl (by kernel_rfl) (by decide) (p_indexo Try.underlying56 inf_61 rfl rfl rfl (by omega)) ?_
     refine m_take 7 rfl (by kernel_rfl) (by decide) (by first | exact (List.Perm.refl _ : List.Perm _ ([] ++ _)) | exact (List.Perm.refl _ : List.Perm _ ([_] ++ _)) | exact (List.Perm.refl _ : List.Perm _ ([_, _] ++ _)) | exact (List.Perm.refl _ : List.Perm _ ([_, _, _] ++ _)) | exact (List.Perm.refl _ : List.Perm _ ([_, _, _, _] ++ _)) | exact (List.Perm.refl _ : List.Perm _ ([_, _, _, _, _] ++ _)) | exact List.Perm.refl _) (by first | exact fun _ h => h | exact fun _ h => List.mem_cons_of_mem _ h | exact fun _ h => List.mem_cons_of_mem _ (List.mem_cons_of_mem _ h) | exact fun _ h => List.mem_cons_of_mem _ (List.mem_cons_of_mem _ (List.mem_cons_of_mem _ h)) | exact fun _ h => List.mem_cons_of_mem _ (List.mem_cons_of_mem _ (List.mem_cons_of_mem _ (List.mem_cons_of_mem _ h))) | exact fun _ h => List.mem_cons_of_mem _ (List.mem_cons_of_mem _ (List.mem_cons_of_mem _ (List.mem_cons_of_mem _ (List.mem_cons_of_mem _ h))))) (r_loado Try.underlying61 rfl rfl (by repeat constructor) (mps_at hh2)).r ?_
     refine m_run 8 rfl (by kernel_rfl) ?_
     refine l_perm (List.perm_append_comm (l₁ := [_])) ?_
     refine l_callo (τ := tauF X s2 B2 (Ana.upd R (Ana.nt y) z1.1.2)) (fun z : AddR ((Ana.upd R (Ana.nt y) z1.1.2) (Ana.nt y)) ((Ana.upd R (Ana.nt y) z1.1.2) x.r.head.toNat) => .bool z.1.1) (fun z => tauF X s2 B2 (Ana.upd (Ana.upd R (Ana.nt y) z1.1.2) (Ana.nt y) z.1.2)) (by decide) call_48 rfl (fun w hs => addh_ok X.g.n s2 (Ana.nt y) x.r.head.toNat (by show X.nts.length ≤ 1000; omega) B2 (Ana.upd R (Ana.nt y) z1.1.2) hn2 hh2 _ w hs) (fun z2 => ?_)
     refine l_perm (List.perm_append_comm (l₂ := [_])) ?_
     refine l_nil ?_
     refine m_late rfl ?_
     refine m_takep 9 rfl (by kernel_rfl) (by decide) (p_move rfl) ?_
     first | refine c_splitd (t := 50) rfl (fun h50 => ?_) (fun h50 => ?_) | refine c_splitb (t := 50) rfl (fun h50 => ?_) (fun h50 => ?_)
     ·skip
      refine m_off 10 (j := 9) rfl (by kernel_rfl) rfl rfl (by first | (simp; done) | (simp [undef]; done)) (by decide) ?_
      refine m_takep 11 rfl (by kernel_rfl) (by decide) (p_pick rfl rfl) ?_
      refine m_takep 12 rfl (by kernel_rfl) (by decide) (p_assign rfl) ?_
      refine m_done (by kernel_rfl) ?_
      refine c_reg ?_
      first | refine l_q (by decide) (p_add (j := 1) rfl rfl rfl rfl (by show _ ≤ (9223372036854775807 : Nat); omega)).q ?_ | refine l_q (by decide) (p_addi rfl rfl (by show (-9223372036854775808 : Int) ≤ _; omega) (by show _ ≤ ((9223372036854775807 : Nat) : Int); omega)).q ?_
      refine l_q (by decide) (p_move rfl).q ?_
      refine l_nil ?_
      refine c_join ((k + 1), (Ana.upd (Ana.upd R (Ana.nt y) z1.1.2) (Ana.nt y) z2.1.2), (true)) ?_ ?_ ?_ ?_
      ·show ((k + 1) ≤ x.r.body.length ∧ FolI X nul x S (k + 1) (Ana.upd (Ana.upd R (Ana.nt y) z1.1.2) (Ana.nt y) z2.1.2) (true)) ∧ x.r.body.length - (k + 1) < x.r.body.length - k
       obtain ⟨e1, e2, e3⟩ := fol_add ok hJ2.1 hn2 (fun a ha => Ana.FO.first x.r k y a (mem_g hx) hy hy0 ((bg_iff hS1).1 ((y29.2 a).1 ha))) z1
       obtain ⟨f1, f2, f3⟩ := fol_add ok e1 hn2 (fun a ha => Ana.FO.inh x.r k y a (mem_g hx) hy hy0 h40 (e1.1 _ a ha)) z2
       have hnx := hJ2.two (G1 := ∀ a, a ∈ y29.1.2 → a ∈ R (Ana.nt y)) (G2 := fun R => ∀ a, a ∈ R x.r.head.toNat → a ∈ R (Ana.nt y)) f1 e2 e3 f2 f3 (fun g1 g2 y2 hy2 _ => by rw [hy] at hy2; injection hy2 with hy2; subst hy2; exact ⟨fun a ha => g1 a ((y29.2 a).2 ((bg_iff hS1).2 ha)), fun _ a ha => g2 a ha⟩)
       rw [h50] at hnx
       exact ⟨⟨by omega, by simpa using hnx⟩, by omega⟩
      · exact ⟨rfl, rfl, rfl, rfl, rfl, rfl, rfl, rfl, trivial⟩
      ·show List.Perm _ ((iCells b4 41 [.int .i64 x.r.head, .slice x.A x.r.body.length x.c, .int .i64 x.r.price] :: tauF X s2 B2 (Ana.upd (Ana.upd R (Ana.nt y) z1.1.2) (Ana.nt y) z2.1.2)))
       exact .refl _
      · exact fun _ h => List.mem_cons_of_mem _ (List.mem_cons_of_mem _ h)
     ·skip
      refine m_takegp 10 (j := 9) rfl (by kernel_rfl) rfl rfl (by decide) (p_move rfl) ?_
      refine m_takep 11 rfl (by kernel_rfl) (by decide) (p_pick rfl rfl) ?_
      refine m_takep 12 rfl (by kernel_rfl) (by decide) (p_assign rfl) ?_
      refine m_done (by kernel_rfl) ?_
      refine c_reg ?_
      first | refine l_q (by decide) (p_add (j := 1) rfl rfl rfl rfl (by show _ ≤ (9223372036854775807 : Nat); omega)).q ?_ | refine l_q (by decide) (p_addi rfl rfl (by show (-9223372036854775808 : Int) ≤ _; omega) (by show _ ≤ ((9223372036854775807 : Nat) : Int); omega)).q ?_
      refine l_q (by decide) (p_move rfl).q ?_
      refine l_nil ?_
      refine c_join ((k + 1), (Ana.upd (Ana.upd R (Ana.nt y) z1.1.2) (Ana.nt y) z2.1.2), (true)) ?_ ?_ ?_ ?_
      ·show ((k + 1) ≤ x.r.body.length ∧ FolI X nul x S (k + 1) (Ana.upd (Ana.upd R (Ana.nt y) z1.1.2) (Ana.nt y) z2.1.2) (true)) ∧ x.r.body.length - (k + 1) < x.r.body.length - k
       obtain ⟨e1, e2, e3⟩ := fol_add ok hJ2.1 hn2 (fun a ha => Ana.FO.first x.r k y a (mem_g hx) hy hy0 ((bg_iff hS1).1 ((y29.2 a).1 ha))) z1
       obtain ⟨f1, f2, f3⟩ := fol_add ok e1 hn2 (fun a ha => Ana.FO.inh x.r k y a (mem_g hx) hy hy0 h40 (e1.1 _ a ha)) z2
       have hnx := hJ2.two (G1 := ∀ a, a ∈ y29.1.2 → a ∈ R (Ana.nt y)) (G2 := fun R => ∀ a, a ∈ R x.r.head.toNat → a ∈ R (Ana.nt y)) f1 e2 e3 f2 f3 (fun g1 g2 y2 hy2 _ => by rw [hy] at hy2; injection hy2 with hy2; subst hy2; exact ⟨fun a ha => g1 a ((y29.2 a).2 ((bg_iff hS1).2 ha)), fun _ a ha => g2 a ha⟩)
       rw [h50, h37] at hnx
       exact ⟨⟨by omega, by simpa using hnx⟩, by omega⟩
      · exact ⟨rfl, rfl, rfl, rfl, rfl, rfl, rfl, rfl, trivial⟩
      ·show List.Perm _ ((iCells b4 41 [.int .i64 x.r.head, .slice x.A x.r.body.length x.c, .int .i64 x.r.price] :: tauF X s2 B2 (Ana.upd (Ana.upd R (Ana.nt y) z1.1.2) (Ana.nt y) z2.1.2)))
       exact .refl _
      · exact fun _ h => List.mem_cons_of_mem _ (List.mem_cons_of_mem _ h)
    ·skip
     refine c_skip ?_
     refine c_reg ?_
     first | refine l_q (by decide) (p_add (j := 1) rfl rfl rfl rfl (by show _ ≤ (9223372036854775807 : Nat); omega)).q ?_ | refine l_q (by decide) (p_addi rfl rfl (by show (-9223372036854775808 : Int) ≤ _; omega) (by show _ ≤ ((9223372036854775807 : Nat) : Int); omega)).q ?_
     refine l_q (by decide) (p_move rfl).q ?_
     refine l_nil ?_
     refine c_join ((k + 1), (Ana.upd R (Ana.nt y) z1.1.2), (true)) ?_ ?_ ?_ ?_
     ·show ((k + 1) ≤ x.r.body.length ∧ FolI X nul x S (k + 1) (Ana.upd R (Ana.nt y) z1.1.2) (true)) ∧ x.r.body.length - (k + 1) < x.r.body.length - k
      obtain ⟨e1, e2, e3⟩ := fol_add ok hJ2.1 hn2 (fun a ha => Ana.FO.first x.r k y a (mem_g hx) hy hy0 ((bg_iff hS1).1 ((y29.2 a).1 ha))) z1
      have hnx := hJ2.one (b := z1.1.1) e1 e2 (fun h => (e3 h).1) (fun h y2 hy2 _ => by rw [hy] at hy2; injection hy2 with hy2; subst hy2; exact ⟨fun a ha => (e3 h).2 a ((y29.2 a).2 ((bg_iff hS1).2 ha)), fun hn => absurd hn (by rw [h40]; decide)⟩)
      rw [h37] at hnx
      exact ⟨⟨by omega, by simpa using hnx⟩, by omega⟩
     · exact ⟨rfl, rfl, rfl, rfl, rfl, rfl, rfl, rfl, trivial⟩
     ·show List.Perm _ ((iCells b4 41 [.int .i64 x.r.head, .slice x.A x.r.body.length x.c, .int .i64 x.r.price] :: tauF X s2 B2 (Ana.upd R (Ana.nt y) z1.1.2)))
      exact .refl _
     · exact fun _ h => List.mem_cons_of_mem _ (List.mem_cons_of_mem _ h)
   ·skip
    refine l_g (j := 5) rfl rfl (by decide) (p_move rfl).q ?_
    refine l_q (by decide) (p_pick rfl rfl).q ?_
    refine l_q (by decide) (p_assign rfl).q ?_
    refine l_nil ?_
    refine c_seq ?_
    refine c_reg ?_
    refine l_q (by decide) (p_move rfl).q ?_
    refine l_nil ?_
    first | refine c_dec rfl (fun h40 => ?_) (fun h40 => ?_) | refine c_cond rfl (fun h40 => ?_) (fun h40 => ?_)
    ·skip
     refine m_draw [8] mixed ?_
     refine m_take 0 rfl (by kernel_rfl) (by decide) (by first | exact (List.Perm.refl _ : List.Perm _ ([] ++ _)) | exact (List.Perm.refl _ : List.Perm _ ([_] ++ _)) | exact (List.Perm.refl _ : List.Perm _ ([_, _] ++ _)) | exact (List.Perm.refl _ : List.Perm _ ([_, _, _] ++ _)) | exact (List.Perm.refl _ : List.Perm _ ([_, _, _, _] ++ _)) | exact (List.Perm.refl _ : List.Perm _ ([_, _, _, _, _] ++ _)) | exact List.Perm.refl _) (by first | exact fun _ h => h | exact fun _ h => List.mem_cons_of_mem _ h | exact fun _ h => List.mem_cons_of_mem _ (List.mem_cons_of_mem _ h) | exact fun _ h => List.mem_cons_of_mem _ (List.mem_cons_of_mem _ (List.mem_cons_of_mem _ h)) | exact fun _ h => List.mem_cons_of_mem _ (List.mem_cons_of_mem _ (List.mem_cons_of_mem _ (List.mem_cons_of_mem _ h))) | exact fun _ h => List.mem_cons_of_mem _ (List.mem_cons_of_mem _ (List.mem_cons_of_mem _ (List.mem_cons_of_mem _ (List.mem_cons_of_mem _ h))))) (r_loadq (q := (iCells p2 56 [.slice (some ⟨s2, 0, none⟩) X.g.n X.g.n]).holds) Try.underlying56 rfl rfl (by repeat constructor) (fun w h => (cells_cell h 0).trans rfl)).r ?_
     refine m_takep 1 rfl (by kernel_rfl) (by decide) (p_move rfl) ?_
     first | refine m_takep 2 rfl (by kernel_rfl) (by decide) (((p_sub rfl rfl rfl rfl (by omega) (by show _ ≤ (9223372036854775807 : Nat); omega))).to (u := .int .i64 ((Ana.nt y : Nat) : Int)) (by rw [Ana.nt_cast hy0])) ?_ | refine m_takep 2 rfl (by kernel_rfl) (by decide) (((p_subi rfl rfl (by show (-9223372036854775808 : Int) ≤ _; omega) (by show _ ≤ ((9223372036854775807 : Nat) : Int); omega))).to (u := .int .i64 ((Ana.nt y : Nat) : Int)) (by rw [Ana.nt_cast hy0])) ?_
     refine m_take 3 rfl (by kernel_rfl) (by decide) (by first | exact (List.Perm.refl _ : List.Perm _ ([] ++ _)) | exact (List.Perm.refl _ : List.Perm _ ([_] ++ _)) | exact (List.Perm.refl _ : List.Perm _ ([_, _] ++ _)) | exact (List.Perm.refl _ : List.Perm _ ([_, _, _] ++ _)) | exact (List.Perm.refl _ : List.Perm _ ([_, _, _, _] ++ _)) | exact (List.Perm.refl _ : List.Perm _ ([_, _, _, _, _] ++ _)) | exact List.Perm.refl _) (by first | exact fun _ h => h | exact fun _ h => List.mem_cons_of_mem _ h | exact fun _ h => List.mem_cons_of_mem _ (List.mem_cons_of_mem _ h) | exact fun _ h => List.mem_cons_of_mem _ (List.mem_cons_of_mem _ (List.mem_cons_of_mem _ h)) | exact fun _ h => List.mem_cons_of_mem _ (List.mem_cons_of_mem _ (List.mem_cons_of_mem _ (List.mem_cons_of_mem _ h))) | exact fun _ h => List.mem_cons_of_mem _ (List.mem_cons_of_mem _ (List.mem_cons_of_mem _ (List.mem_cons_of_mem _ (List.mem_cons_of_mem _ h))))) (r_loadq (q := (iCells p2 56 [.slice (some ⟨s2, 0, none⟩) X.g.n X.g.n]).holds) Try.underlying56 rfl rfl (by repeat constructor) (fun w h => (cells_cell h 0).trans rfl)).r ?_
     first | refine m_takep 4 rfl (by kernel_rfl) (by decide) (p_faddr (i := 0) 0 Try.underlying41 rfl inf_3 (by decide) rfl rfl) ?_ | refine m_takep 4 rfl (by kernel_rfl) (by decide) (p_faddro (i := 0) 0 Try.underlying41 rfl inf_3 (by decide) rfl rfl) ?_
     first | refine m_take 5 rfl (by kernel_rfl) (by decide) (by first | exact (List.Perm.refl _ : List.Perm _ ([] ++ _)) | exact (List.Perm.refl _ : List.Perm _ ([_] ++ _)) | exact (List.Perm.refl _ : List.Perm _ ([_, _] ++ _)) | exact (List.Perm.refl _ : List.Perm _ ([_, _, _] ++ _)) | exact (List.Perm.refl _ : List.Perm _ ([_, _, _, _] ++ _)) | exact (List.Perm.refl _ : List.Perm _ ([_, _, _, _, _] ++ _)) | exact List.Perm.refl _) (by first | exact fun _ h => h | exact fun _ h => List.mem_cons_of_mem _ h | exact fun _ h => List.mem_cons_of_mem _ (List.mem_cons_of_mem _ h) | exact fun _ h => List.mem_cons_of_mem _ (List.mem_cons_of_mem _ (List.mem_cons_of_mem _ h)) | exact fun _ h => List.mem_cons_of_mem _ (List.mem_cons_of_mem _ (List.mem_cons_of_mem _ (List.mem_cons_of_mem _ h))) | exact fun _ h => List.mem_cons_of_mem _ (List.mem_cons_of_mem _ (List.mem_cons_of_mem _ (List.mem_cons_of_mem _ (List.mem_cons_of_mem _ h))))) (((r_loado Try.underlying3 rfl rfl (by repeat constructor) (by rfl))).to (u := .int .i64 ((x.r.head.toNat : Nat) : Int)) (by rw [hh1])).r ?_ | refine m_take 5 rfl (by kernel_rfl) (by decide) (by first | exact (List.Perm.refl _ : List.Perm _ ([] ++ _)) | exact (List.Perm.refl _ : List.Perm _ ([_] ++ _)) | exact (List.Perm.refl _ : List.Perm _ ([_, _] ++ _)) | exact (List.Perm.refl _ : List.Perm _ ([_, _, _] ++ _)) | exact (List.Perm.refl _ : List.Perm _ ([_, _, _, _] ++ _)) | exact (List.Perm.refl _ : List.Perm _ ([_, _, _, _, _] ++ _)) | exact List.Perm.refl _) (by first | exact fun _ h => h | exact fun _ h => List.mem_cons_of_mem _ h | exact fun _ h => List.mem_cons_of_mem _ (List.mem_cons_of_mem _ h) | exact fun _ h => List.mem_cons_of_mem _ (List.mem_cons_of_mem _ (List.mem_cons_of_mem _ h)) | exact fun _ h => List.mem_cons_of_mem _ (List.mem_cons_of_mem _ (List.mem_cons_of_mem _ (List.mem_cons_of_mem _ h))) | exact fun _ h => List.mem_cons_of_mem _ (List.mem_cons_of_mem _ (List.mem_cons_of_mem _ (List.mem_cons_of_mem _ (List.mem_cons_of_mem _ h))))) (((r_load1 Try.underlying3 rfl rfl (by first | exact .fact (by repeat constructor) | exact .own (by repeat constructor) (by decide) (fun _ => rfl) | exact SlIn.body (by repeat constructor) (by assumption)) (by first | assumption | rfl) (by rfl))).to (u := .int .i64 ((x.r.head.toNat : Nat) : Int)) (by rw [hh1])).r ?_ | refine m_take 5 rfl (by kernel_rfl) (by decide) (by first | exact (List.Perm.refl _ : List.Perm _ ([] ++ _)) | exact (List.Perm.refl _ : List.Perm _ ([_] ++ _)) | exact (List.Perm.refl _ : List.Perm _ ([_, _] ++ _)) | exact (List.Perm.refl _ : List.Perm _ ([_, _, _] ++ _)) | exact (List.Perm.refl _ : List.Perm _ ([_, _, _, _] ++ _)) | exact (List.Perm.refl _ : List.Perm _ ([_, _, _, _, _] ++ _)) | exact List.Perm.refl _) (by first | exact fun _ h => h | exact fun _ h => List.mem_cons_of_mem _ h | exact fun _ h => List.mem_cons_of_mem _ (List.mem_cons_of_mem _ h) | exact fun _ h => List.mem_cons_of_mem _ (List.mem_cons_of_mem _ (List.mem_cons_of_mem _ h)) | exact fun _ h => List.mem_cons_of_mem _ (List.mem_cons_of_mem _ (List.mem_cons_of_mem _ (List.mem_cons_of_mem _ h))) | exact fun _ h => List.mem_cons_of_mem _ (List.mem_cons_of_mem _ (List.mem_cons_of_mem _ (List.mem_cons_of_mem _ (List.mem_cons_of_mem _ h))))) (((r_loadf Try.underlying3 rfl rfl (by first | exact .fact (by repeat constructor) | exact .own (by repeat constructor) (by decide) (fun _ => rfl) | exact SlIn.body (by repeat constructor) (by assumption)) (by assumption) (by rfl))).to (u := .int .i64 ((x.r.head.toNat : Nat) : Int)) (by rw [hh1])).r ?_
     first | refine m_take 6 rfl (by kernel_rfl) (by decide) (by first | exact (List.Perm.refl _ : List.Perm _ ([] ++ _)) | exact (List.Perm.refl _ : List.Perm _ ([_] ++ _)) | exact (List.Perm.refl _ : List.Perm _ ([_, _] ++ _)) | exact (List.Perm.refl _ : List.Perm _ ([_, _, _] ++ _)) | exact (List.Perm.refl _ : List.Perm _ ([_, _, _, _] ++ _)) | exact (List.Perm.refl _ : List.Perm _ ([_, _, _, _, _] ++ _)) | exact List.Perm.refl _) (by first | exact fun _ h => h | exact fun _ h => List.mem_cons_of_mem _ h | exact fun _ h => List.mem_cons_of_mem _ (List.mem_cons_of_mem _ h) | exact fun _ h => List.mem_cons_of_mem _ (List.mem_cons_of_mem _ (List.mem_cons_of_mem _ h)) | exact fun _ h => List.mem_cons_of_mem _ (List.mem_cons_of_mem _ (List.mem_cons_of_mem _ (List.mem_cons_of_mem _ h))) | exact fun _ h => List.mem_cons_of_mem _ (List.mem_cons_of_mem _ (List.mem_cons_of_mem _ (List.mem_cons_of_mem _ (List.mem_cons_of_mem _ h))))) (r_index Try.underlying56 inf_61 rfl rfl rfl (by first | exact .fact (by repeat constructor) | exact .own (by repeat constructor) (by decide) (fun _ => rfl) | exact SlIn.body (by repeat constructor) (by assumption)) rfl (by omega)).r ?_ | refine m_take 6 rfl (by kernel_rfl) (by decide) (by first | exact (List.Perm.refl _ : List.Perm _ ([] ++ _)) | exact (List.Perm.refl _ : List.Perm _ ([_] ++ _)) | exact (List.Perm.refl _ : List.Perm _ ([_, _] ++ _)) | exact (List.Perm.refl _ : List.Perm _ ([_, _, _] ++ _)) | exact (List.Perm.refl _ : List.Perm _ ([_, _, _, _] ++ _)) | exact (List.Perm.refl _ : List.Perm _ ([_, _, _, _, _] ++ _)) | exact List.Perm.refl _) (by first | exact fun _ h => h | exact fun _ h => List.mem_cons_of_mem _ h | exact fun _ h => List.mem_cons_of_mem _ (List.mem_cons_of_mem _ h) | exact fun _ h => List.mem_cons_of_mem _ (List.mem_cons_of_mem _ (List.mem_cons_of_mem _ h)) | exact fun _ h => List.mem_cons_of_mem _ (List.mem_cons_of_mem _ (List.mem_cons_of_mem _ (List.mem_cons_of_mem _ h))) | exact fun _ h => List.mem_cons_of_mem _ (List.mem_cons_of_mem _ (List.mem_cons_of_mem _ (List.mem_cons_of_mem _ (List.mem_cons_of_mem _ h))))) (r_index Try.underlying56 inf_61 rfl rfl rfl (by first | exact .fact (by repeat constructor) | exact .own (by repeat constructor) (by decide) (fun _ => rfl) | exact SlIn.body (by repeat constructor) (by assumption)) rfl (by decide)).r ?_ | refine m_takep 6 rfl (by kernel_rfl) (by decide) (p_indexo Try.underlying56 inf_61 rfl rfl rfl (by omega)) ?_
     refine m_take 7 rfl (by kernel_rfl) (by decide) (by first | exact (List.Perm.refl _ : List.Perm _ ([] ++ _)) | exact (List.Perm.refl _ : List.Perm _ ([_] ++ _)) | exact (List.Perm.refl _ : List.Perm _ ([_, _] ++ _)) | exact (List.Perm.refl _ : List.Perm _ ([_, _, _] ++ _)) | exact (List.Perm.refl _ : List.Perm _ ([_, _, _, _] ++ _)) | exact (List.Perm.refl _ : List.Perm _ ([_, _, _, _, _] ++ _)) | exact List.Perm.refl _) (by first | exact fun _ h => h | exact fun _ h => List.mem_cons_of_mem _ h | exact fun _ h => List.mem_cons_of_mem _ (List.mem_cons_of_mem _ h) | exact fun _ h => List.mem_cons_of_mem _ (List.mem_cons_of_mem _ (List.mem_cons_of_mem _ h)) | exact fun _ h => List.mem_cons_of_mem _ (List.mem_cons_of_mem _ (List.mem_cons_of_mem _ (List.mem_cons_of_mem _ h))) | exact fun _ h => List.mem_cons_of_mem _ (List.mem_cons_of_mem _ (List.mem_cons_of_mem _ (List.mem_cons_of_mem _ (List.mem_cons_of_mem _ h))))) (r_loado Try.underlying61 rfl rfl (by repeat constructor) (mps_at hh2)).r ?_
     refine m_run 8 rfl (by kernel_rfl) ?_
     refine l_perm (List.perm_append_comm (l₁ := [_])) ?_
     refine l_callo (τ := tauF X s2 B2 (Ana.upd R (Ana.nt y) z1.1.2)) (fun z : AddR ((Ana.upd R (Ana.nt y) z1.1.2) (Ana.nt y)) ((Ana.upd R (Ana.nt y) z1.1.2) x.r.head.toNat) => .bool z.1.1) (fun z => tauF X s2 B2 (Ana.upd (Ana.upd R (Ana.nt y) z1.1.2) (Ana.nt y) z.1.2)) (by decide) call_48 rfl (fun w hs => addh_ok X.g.n s2 (Ana.nt y) x.r.head.toNat (by show X.nts.length ≤ 1000; omega) B2 (Ana.upd R (Ana.nt y) z1.1.2) hn2 hh2 _ w hs) (fun z2 => ?_)
     refine l_perm (List.perm_append_comm (l₂ := [_])) ?_
     refine l_nil ?_
     refine m_late rfl ?_
     refine m_takep 9 rfl (by kernel_rfl) (by decide) (p_move rfl) ?_
     first | refine c_splitd (t := 50) rfl (fun h50 => ?_) (fun h50 => ?_) | refine c_splitb (t := 50) rfl (fun h50 => ?_) (fun h50 => ?_)
     ·skip
      refine m_off 10 (j := 9) rfl (by kernel_rfl) rfl rfl (by first | (simp; done) | (simp [undef]; done)) (by decide) ?_
      refine m_takep 11 rfl (by kernel_rfl) (by decide) (p_pick rfl rfl) ?_
      refine m_takep 12 rfl (by kernel_rfl) (by decide) (p_assign rfl) ?_
      refine m_done (by kernel_rfl) ?_
      refine c_reg ?_
      first | refine l_q (by decide) (p_add (j := 1) rfl rfl rfl rfl (by show _ ≤ (9223372036854775807 : Nat); omega)).q ?_ | refine l_q (by decide) (p_addi rfl rfl (by show (-9223372036854775808 : Int) ≤ _; omega) (by show _ ≤ ((9223372036854775807 : Nat) : Int); omega)).q ?_
      refine l_q (by decide) (p_move rfl).q ?_
      refine l_nil ?_
      refine c_join ((k + 1), (Ana.upd (Ana.upd R (Ana.nt y) z1.1.2) (Ana.nt y) z2.1.2), (true)) ?_ ?_ ?_ ?_
      ·show ((k + 1) ≤ x.r.body.length ∧ FolI X nul x S (k + 1) (Ana.upd (Ana.upd R (Ana.nt y) z1.1.2) (Ana.nt y) z2.1.2) (true)) ∧ x.r.body.length - (k + 1) < x.r.body.length - k
       obtain ⟨e1, e2, e3⟩ := fol_add ok hJ2.1 hn2 (fun a ha => Ana.FO.first x.r k y a (mem_g hx) hy hy0 ((bg_iff hS1).1 ((y29.2 a).1 ha))) z1
       obtain ⟨f1, f2, f3⟩ := fol_add ok e1 hn2 (fun a ha => Ana.FO.inh x.r k y a (mem_g hx) hy hy0 h40 (e1.1 _ a ha)) z2
       have hnx := hJ2.two (G1 := ∀ a, a ∈ y29.1.2 → a ∈ R (Ana.nt y)) (G2 := fun R => ∀ a, a ∈ R x.r.head.toNat → a ∈ R (Ana.nt y)) f1 e2 e3 f2 f3 (fun g1 g2 y2 hy2 _ => by rw [hy] at hy2; injection hy2 with hy2; subst hy2; exact ⟨fun a ha => g1 a ((y29.2 a).2 ((bg_iff hS1).2 ha)), fun _ a ha => g2 a ha⟩)
       rw [h50] at hnx
       exact ⟨⟨by omega, by simpa using hnx⟩, by omega⟩
      · exact ⟨rfl, rfl, rfl, rfl, rfl, rfl, rfl, rfl, trivial⟩
      ·show List.Perm _ ((iCells b4 41 [.int .i64 x.r.head, .slice x.A x.r.body.length x.c, .int .i64 x.r.price] :: tauF X s2 B2 (Ana.upd (Ana.upd R (Ana.nt y) z1.1.2) (Ana.nt y) z2.1.2)))
       exact .refl _
      · exact fun _ h => List.mem_cons_of_mem _ (List.mem_cons_of_mem _ h)
     ·skip
      refine m_takegp 10 (j := 9) rfl (by kernel_rfl) rfl rfl (by decide) (p_move rfl) ?_
      refine m_takep 11 rfl (by kernel_rfl) (by decide) (p_pick rfl rfl) ?_
      refine m_takep 12 rfl (by kernel_rfl) (by decide) (p_assign rfl) ?_
      refine m_done (by kernel_rfl) ?_
      refine c_reg ?_
      first | refine l_q (by decide) (p_add (j := 1) rfl rfl rfl rfl (by show _ ≤ (9223372036854775807 : Nat); omega)).q ?_ | refine l_q (by decide) (p_addi rfl rfl (by show (-9223372036854775808 : Int) ≤ _; omega) (by show _ ≤ ((9223372036854775807 : Nat) : Int); omega)).q ?_
      refine l_q (by decide) (p_move rfl).q ?_
      refine l_nil ?_
      refine c_join ((k + 1), (Ana.upd (Ana.upd R (Ana.nt y) z1.1.2) (Ana.nt y) z2.1.2), (c)) ?_ ?_ ?_ ?_
      ·show ((k + 1) ≤ x.r.body.length ∧ FolI X nul x S (k + 1) (Ana.upd (Ana.upd R (Ana.nt y) z1.1.2) (Ana.nt y) z2.1.2) (c)) ∧ x.r.body.length - (k + 1) < x.r.body.length - k
       obtain ⟨e1, e2, e3⟩ := fol_add ok hJ2.1 hn2 (fun a ha => Ana.FO.first x.r k y a (mem_g hx) hy hy0 ((bg_iff hS1).1 ((y29.2 a).1 ha))) z1
       obtain ⟨f1, f2, f3⟩ := fol_add ok e1 hn2 (fun a ha => Ana.FO.inh x.r k y a (mem_g hx) hy hy0 h40 (e1.1 _ a ha)) z2
       have hnx := hJ2.two (G1 := ∀ a, a ∈ y29.1.2 → a ∈ R (Ana.nt y)) (G2 := fun R => ∀ a, a ∈ R x.r.head.toNat → a ∈ R (Ana.nt y)) f1 e2 e3 f2 f3 (fun g1 g2 y2 hy2 _ => by rw [hy] at hy2; injection hy2 with hy2; subst hy2; exact ⟨fun a ha => g1 a ((y29.2 a).2 ((bg_iff hS1).2 ha)), fun _ a ha => g2 a ha⟩)
       rw [h50, h37] at hnx
       exact ⟨⟨by omega, by simpa using hnx⟩, by omega⟩
      · exact ⟨rfl, rfl, rfl, rfl, rfl, rfl, rfl, rfl, trivial⟩
      ·show List.Perm _ ((iCells b4 41 [.int .i64 x.r.head, .slice x.A x.r.body.length x.c, .int .i64 x.r.price] :: tauF X s2 B2 (Ana.upd (Ana.upd R (Ana.nt y) z1.1.2) (Ana.nt y) z2.1.2)))
       exact .refl _
      · exact fun _ h => List.mem_cons_of_mem _ (List.mem_cons_of_mem _ h)
    ·skip
     refine c_skip ?_
     refine c_reg ?_
     first | refine l_q (by decide) (p_add (j := 1) rfl rfl rfl rfl (by show _ ≤ (9223372036854775807 : Nat); omega)).q ?_ | refine l_q (by decide) (p_addi rfl rfl (by show (-9223372036854775808 : Int) ≤ _; omega) (by show _ ≤ ((9223372036854775807 : Nat) : Int); omega)).q ?_
     refine l_q (by decide) (p_move rfl).q ?_
     refine l_nil ?_
     refine c_join ((k + 1), (Ana.upd R (Ana.nt y) z1.1.2), (c)) ?_ ?_ ?_ ?_
     ·show ((k + 1) ≤ x.r.body.length ∧ FolI X nul x S (k + 1) (Ana.upd R (Ana.nt y) z1.1.2) (c)) ∧ x.r.body.length - (k + 1) < x.r.body.length - k
      obtain ⟨e1, e2, e3⟩ := fol_add ok hJ2.1 hn2 (fun a ha => Ana.FO.first x.r k y a (mem_g hx) hy hy0 ((bg_iff hS1).1 ((y29.2 a).1 ha))) z1
      have hnx := hJ2.one (b := z1.1.1) e1 e2 (fun h => (e3 h).1) (fun h y2 hy2 _ => by rw [hy] at hy2; injection hy2 with hy2; subst hy2; exact ⟨fun a ha => (e3 h).2 a ((y29.2 a).2 ((bg_iff hS1).2 ha)), fun hn => absurd hn (by rw [h40]; decide)⟩)
      rw [h37] at hnx
      exact ⟨⟨by omega, by simpa using hnx⟩, by omega⟩
     · exact ⟨rfl, rfl, rfl, rfl, rfl, rfl, rfl, rfl, trivial⟩
     ·show List.Perm _ ((iCells b4 41 [.int .i64 x.r.head, .slice x.A x.r.body.length x.c, .int .i64 x.r.price] :: tauF X s2 B2 (Ana.upd R (Ana.nt y) z1.1.2)))
      exact .refl _
     · exact fun _ h => List.mem_cons_of_mem _ (List.mem_cons_of_mem _ h)
 ·skip
  refine c_exit ?_
  refine c_here ?_
  refine c_seq ?_
  refine c_reg ?_
  refine l_q (by decide) (p_move rfl).q ?_
  refine l_q (by decide) (p_assign rfl).q ?_
  refine l_nil ?_
  refine c_ret ?_
  refine c_ret1 rfl rfl (fun w hs => ?_)
  rw [show k = x.r.body.length by omega] at hJ2
  exact ⟨⟨(c, R), hJ2.1, hJ2.2.1, fun h => ⟨(hJ2.2.2 h).1, fun p hp => by have := (hJ2.2.2 h).2 p hp; rw [(hJ2.2.2 h).1] at this; exact this⟩⟩, _, rfl, hs.drop⟩

theorem follow_ok (X : GI) (hX : X.small) (ok : Ana.Ok X.g) (σ : Fx.Own) (w : World) (h : St w (keysOf σ) w σ [Bd X.xs, Sl 3 ruF X.Ar X.xs, Sl 1 strF X.An X.nts, Sl 1 strF X.At X.terms]) :
   Calls Try.prog 24 #[.agg #[.slice X.At X.terms.length X.ct, .slice X.An X.nts.length X.cn, .int .i64 X.start, .slice X.Ar X.xs.length X.cr]] w (Ret fun v w' => ∃ x : RLs X.g.n (fun i a => Ana.fo X.g i a) (-1) (X.g.t + 1), v = rlV x ∧ St w (keysOf σ) w' σ (rlQ x)) := by
 have hnl := ok.nl
 have hnn : X.nts.length ≤ 8 := hnl
 have htl : X.terms.length ≤ 6 := ok.tl
 have hst1 : ((X.g.start.toNat : Nat) : Int) = X.start := by have := ok.s0; show ((X.start.toNat : Nat) : Int) = _; have h : 0 ≤ X.start := this; omega
 have hst2 : X.g.start.toNat < X.g.n := by have h0 : 0 ≤ X.start := ok.s0; have h1 : X.start < (X.nts.length : Int) := ok.s1; show X.start.toNat < X.nts.length; omega
 refine calls_fx (l := [.agg #[.slice X.At X.terms.length X.ct, .slice X.An X.nts.length X.cn, .int .i64 X.start, .slice X.Ar X.xs.length X.cr]]) Try.func24 rfl Try.ntmps24 (Nat.le_of_ble_eq_true rfl) h ?_
 refine c_seq ?_
 refine c_reg ?_
 refine l_box (by decide) rfl _ rfl (fun b1 => ?_)
 refine l_q (by decide) (p_assign rfl).q ?_
 refine l_nil ?_
 refine c_seq ?_
 obtain ⟨lo, hlo⟩ : ∃ lo, lo = w.heap.size := ⟨_, rfl⟩
 refine c_reg ?_
 first | refine l_q (by decide) (r_loada Try.underlying25 rfl inf_25 rfl (by first | exact .fact (by repeat constructor) | exact .own (by repeat constructor) (by decide) (fun _ => rfl) | exact SlIn.body (by repeat constructor) (by assumption)) (by assumption)).q ?_ | refine l_q (by decide) (r_loadow Try.underlying25 rfl inf_25 rfl (by repeat constructor) (by rfl)).q ?_ | refine l_q (by decide) (r_loadoa Try.underlying25 rfl inf_25 rfl (by repeat constructor) (by rfl) (fun j u h => h)).q ?_
 refine l_call (X := { bo : Nat // lo ≤ bo }) (fun x => .slice (some ⟨x.1, 0, none⟩) X.g.n X.g.n) (fun x => Sl 1 boolF (some ⟨x.1, 0, none⟩) (Ana.mkl X.g.n (Ana.pn X.g false))) (by decide) call_13 rfl (fun w hs => tab_call (by rw [hlo]; exact hs.ext.size) (nullable_ok X hX w (GI.of hs (by repeat constructor) (by repeat constructor) (by repeat constructor) (by repeat constructor)) ok)) (fun x7 => ?_)
 refine l_alloc (by decide) inf_29 _ rfl (fun b3 => ?_)
 first | (refine l_store inf_29 rfl rfl rfl rfl (by first | decide | exact Nat.le_of_ble_eq_true rfl | (simp; done) | omega | (simp only [Nat.mul_one]; assumption)) ?_) | (refine l_perm (front1 _ _ _) ?_; refine l_store inf_29 rfl rfl rfl rfl (by first | decide | exact Nat.le_of_ble_eq_true rfl | (simp; done) | omega | (simp only [Nat.mul_one]; assumption)) ?_) | (refine l_perm (front2 _ _ _ _) ?_; refine l_store inf_29 rfl rfl rfl rfl (by first | decide | exact Nat.le_of_ble_eq_true rfl | (simp; done) | omega | (simp only [Nat.mul_one]; assumption)) ?_) | (refine l_perm (front3 _ _ _ _ _) ?_; refine l_store inf_29 rfl rfl rfl rfl (by first | decide | exact Nat.le_of_ble_eq_true rfl | (simp; done) | omega | (simp only [Nat.mul_one]; assumption)) ?_) | (refine l_perm (front4 _ _ _ _ _ _) ?_; refine l_store inf_29 rfl rfl rfl rfl (by first | decide | exact Nat.le_of_ble_eq_true rfl | (simp; done) | omega | (simp only [Nat.mul_one]; assumption)) ?_)
 refine l_nil ?_
 refine c_seq ?_
 refine c_reg ?_
 first | refine l_q (by decide) (r_loada Try.underlying25 rfl inf_25 rfl (by first | exact .fact (by repeat constructor) | exact .own (by repeat constructor) (by decide) (fun _ => rfl) | exact SlIn.body (by repeat constructor) (by assumption)) (by assumption)).q ?_ | refine l_q (by decide) (r_loadow Try.underlying25 rfl inf_25 rfl (by repeat constructor) (by rfl)).q ?_ | refine l_q (by decide) (r_loadoa Try.underlying25 rfl inf_25 rfl (by repeat constructor) (by rfl) (fun j u h => h)).q ?_
 first | refine l_q (by decide) (r_loado Try.underlying29 rfl rfl (by repeat constructor) (by rfl)).q ?_ | refine l_q (by decide) (r_load1 Try.underlying29 rfl rfl (by first | exact .fact (by repeat constructor) | exact .own (by repeat constructor) (by decide) (fun _ => rfl) | exact SlIn.body (by repeat constructor) (by assumption)) (by first | assumption | rfl) (by rfl)).q ?_ | refine l_q (by decide) (r_loadf Try.underlying29 rfl rfl (by first | exact .fact (by repeat constructor) | exact .own (by repeat constructor) (by decide) (fun _ => rfl) | exact SlIn.body (by repeat constructor) (by assumption)) (by assumption) (by rfl)).q ?_
 refine l_callo (τ := []) (fun y : { y : Nat × NF × SF // ∀ i a, a ∈ y.2.2 i ↔ Ana.FI X.g (Ana.pn X.g false) i a } => .slice (some ⟨y.1.1, 0, none⟩) X.g.n X.g.n) (fun y => tauF X y.1.1 y.1.2.1 y.1.2.2) (by decide) call_41 rfl (fun w hs => firsts_ok X hX w (GI.of hs (by repeat constructor) (by repeat constructor) (by repeat constructor) (by repeat constructor)) ok x7.1 (Ana.pn X.g false) (hs.facts _ (List.mem_cons_self ..)).1) (fun y10 => ?_)
 refine l_alloc (by decide) inf_56 _ rfl (fun b4 => ?_)
 first | (refine l_store inf_56 rfl rfl rfl rfl (by first | decide | exact Nat.le_of_ble_eq_true rfl | (simp; done) | omega | (simp only [Nat.mul_one]; assumption)) ?_) | (refine l_perm (front1 _ _ _) ?_; refine l_store inf_56 rfl rfl rfl rfl (by first | decide | exact Nat.le_of_ble_eq_true rfl | (simp; done) | omega | (simp only [Nat.mul_one]; assumption)) ?_) | (refine l_perm (front2 _ _ _ _) ?_; refine l_store inf_56 rfl rfl rfl rfl (by first | decide | exact Nat.le_of_ble_eq_true rfl | (simp; done) | omega | (simp only [Nat.mul_one]; assumption)) ?_) | (refine l_perm (front3 _ _ _ _ _) ?_; refine l_store inf_56 rfl rfl rfl rfl (by first | decide | exact Nat.le_of_ble_eq_true rfl | (simp; done) | omega | (simp only [Nat.mul_one]; assumption)) ?_) | (refine l_perm (front4 _ _ _ _ _ _) ?_; refine l_store inf_56 rfl rfl rfl rfl (by first | decide | exact Nat.le_of_ble_eq_true rfl | (simp; done) | omega | (simp only [Nat.mul_one]; assumption)) ?_)
 refine l_nil ?_
 refine c_seq ?_
 refine c_keep ?_
 refine c_keep ?_
 refine c_facts (σ := fam X.g.n (mset y10.1.2.1 y10.1.2.2) ++ (iCells b3 29 _ :: iCells b1 25 [.slice X.At X.terms.length X.ct, .slice X.An X.nts.length X.cn, .int .i64 X.start, .slice X.Ar X.xs.length X.cr] :: σ)) _ (fun w hs => hs) ?_
 refine c_keepAll _ ?_
 refine c_keep ?_
 refine c_facts ([(iCells b4 56 [.slice (some ⟨y10.1.1, 0, none⟩) X.g.n X.g.n]).holds, (iCells b3 29 [.slice (some ⟨x7.1, 0, none⟩) X.g.n X.g.n]).holds, (iCells y10.1.1 61 (mps X.g.n X.g.n y10.1.2.1)).holds, MS X.g.n y10.1.2.1 y10.1.2.2, Sl 1 boolF (some ⟨x7.1, 0, none⟩) (Ana.mkl X.g.n (Ana.pn X.g false)), Bd X.xs, Sl 3 ruF X.Ar X.xs, Sl 1 strF X.An X.nts, Sl 1 strF X.At X.terms] : Facts) (fun w hs => (st_ms hs (List.mem_cons_of_mem _ (List.mem_cons_self ..))).weak (by simp)) ?_
 refine c_reg ?_
 first | refine l_q (by decide) (p_faddr (i := 1) 1 Try.underlying25 rfl inf_22 (by decide) rfl rfl).q ?_ | refine l_q (by decide) (p_faddro (i := 1) 1 Try.underlying25 rfl inf_22 (by decide) rfl rfl).q ?_
 first | refine l_q (by decide) (r_loado Try.underlying22 rfl rfl (by repeat constructor) (by rfl)).q ?_ | refine l_q (by decide) (r_load1 Try.underlying22 rfl rfl (by first | exact .fact (by repeat constructor) | exact .own (by repeat constructor) (by decide) (fun _ => rfl) | exact SlIn.body (by repeat constructor) (by assumption)) (by first | assumption | rfl) (by rfl)).q ?_ | refine l_q (by decide) (r_loadf Try.underlying22 rfl rfl (by first | exact .fact (by repeat constructor) | exact .own (by repeat constructor) (by decide) (fun _ => rfl) | exact SlIn.body (by repeat constructor) (by assumption)) (by assumption) (by rfl)).q ?_
 refine l_q (by decide) (p_len_sl Try.underlying22 rfl).q ?_
 refine l_callo (τ := []) (fun y : Nat × NF => .slice (some ⟨y.1, 0, none⟩) X.g.n X.g.n) (fun y => tauF X y.1 y.2 (fun _ => [])) (by decide) call_45 rfl (fun w hs => newsets_ok X.g.n (by show X.nts.length ≤ 1000; omega) w) (fun y14 => ?_)
 refine l_alloc (by decide) inf_56 _ rfl (fun b5 => ?_)
 first | (refine l_store inf_56 rfl rfl rfl rfl (by first | decide | exact Nat.le_of_ble_eq_true rfl | (simp; done) | omega | (simp only [Nat.mul_one]; assumption)) ?_) | (refine l_perm (front1 _ _ _) ?_; refine l_store inf_56 rfl rfl rfl rfl (by first | decide | exact Nat.le_of_ble_eq_true rfl | (simp; done) | omega | (simp only [Nat.mul_one]; assumption)) ?_) | (refine l_perm (front2 _ _ _ _) ?_; refine l_store inf_56 rfl rfl rfl rfl (by first | decide | exact Nat.le_of_ble_eq_true rfl | (simp; done) | omega | (simp only [Nat.mul_one]; assumption)) ?_) | (refine l_perm (front3 _ _ _ _ _) ?_; refine l_store inf_56 rfl rfl rfl rfl (by first | decide | exact Nat.le_of_ble_eq_true rfl | (simp; done) | omega | (simp only [Nat.mul_one]; assumption)) ?_) | (refine l_perm (front4 _ _ _ _ _ _) ?_; refine l_store inf_56 rfl rfl rfl rfl (by first | decide | exact Nat.le_of_ble_eq_true rfl | (simp; done) | omega | (simp only [Nat.mul_one]; assumption)) ?_)
 refine l_nil ?_
 refine c_seq ?_
 refine c_keep ?_
 refine c_facts ([(iCells b4 56 [.slice (some ⟨y10.1.1, 0, none⟩) X.g.n X.g.n]).holds, (iCells b3 29 [.slice (some ⟨x7.1, 0, none⟩) X.g.n X.g.n]).holds, (iCells b5 56 [.slice (some ⟨y14.1, 0, none⟩) X.g.n X.g.n]).holds, (iCells y10.1.1 61 (mps X.g.n X.g.n y10.1.2.1)).holds, MS X.g.n y10.1.2.1 y10.1.2.2, Sl 1 boolF (some ⟨x7.1, 0, none⟩) (Ana.mkl X.g.n (Ana.pn X.g false)), Bd X.xs, Sl 3 ruF X.Ar X.xs, Sl 1 strF X.An X.nts, Sl 1 strF X.At X.terms]) (fun w hs => hs.weak (by simp)) ?_
 refine c_reg ?_
 refine l_q (by decide) (r_loadq (q := (iCells b5 56 [.slice (some ⟨y14.1, 0, none⟩) X.g.n X.g.n]).holds) Try.underlying56 rfl rfl (by repeat constructor) (fun w h => (cells_cell h 0).trans rfl)).q ?_
 first | refine l_q (by decide) (p_faddr (i := 2) 2 Try.underlying25 rfl inf_3 (by decide) rfl rfl).q ?_ | refine l_q (by decide) (p_faddro (i := 2) 2 Try.underlying25 rfl inf_3 (by decide) rfl rfl).q ?_
 refine l_q (by decide) (((r_loado Try.underlying3 rfl rfl (List.mem_append.2 (.inr (List.mem_cons_self ..))) (by rfl))).to (u := .int .i64 ((X.g.start.toNat : Nat) : Int)) (by rw [hst1])).q ?_
 first | refine l_q (by decide) (r_index Try.underlying56 inf_61 rfl rfl rfl (by first | exact .fact (by repeat constructor) | exact .own (by repeat constructor) (by decide) (fun _ => rfl) | exact SlIn.body (by repeat constructor) (by assumption)) rfl (by omega)).q ?_ | refine l_q (by decide) (r_index Try.underlying56 inf_61 rfl rfl rfl (by first | exact .fact (by repeat constructor) | exact .own (by repeat constructor) (by decide) (fun _ => rfl) | exact SlIn.body (by repeat constructor) (by assumption)) rfl (by decide)).q ?_ | refine l_q (by decide) (p_indexo Try.underlying56 inf_61 rfl rfl rfl (by omega)).q ?_
 refine l_q (by decide) (r_loado Try.underlying61 rfl rfl (by repeat constructor) (mps_at hst2)).q ?_
 refine l_perm ((fam_out [_] hst2).append_right _) ?_
 refine l_mapUpd (ks := []) (keyOk_int Try.underlying3) Try.underlying61 rfl rfl rfl rfl ?_
 refine l_perm (List.Perm.append_right _ (fam_in (G := mset y14.2 (Ana.upd (fun _ => []) X.g.start.toNat [-1])) [_] hst2 (by unfold mset; rw [upd_at]; rfl) (fun j _ hj => by unfold mset; rw [upd_off hj]))) ?_
 refine l_nil ?_
 refine c_seq ?_
 refine c_reg ?_
 refine l_q (by decide) (r_loadow Try.underlying25 rfl inf_25 rfl (List.mem_append.2 (.inr (List.mem_cons_self ..))) (by rfl)).q ?_
 refine l_q (by decide) (p_makeFn rfl rfl).q ?_
 refine l_callo (τ := tauF X y14.1 y14.2 (Ana.upd (fun _ => []) X.g.start.toNat [-1])) (fun _ => .tuple #[]) (fun y : { S : SF // SoundO X (Ana.pn X.g false) S ∧ ∀ x, x ∈ X.xs → GoodO X (Ana.pn X.g false) x S } => tauF X y14.1 y14.2 y.1) (by decide) call_36 rfl (fun w hs => fix_ok X hX 46 call_46 #[.pointer (some ⟨b4, 0, none⟩), .pointer (some ⟨b3, 0, none⟩), .pointer (some ⟨b5, 0, none⟩)] (tauF X y14.1 y14.2) (meas X.g.n (X.g.t + 1)) (SoundO X (Ana.pn X.g false)) (GoodO X (Ana.pn X.g false)) [(iCells b4 56 [.slice (some ⟨y10.1.1, 0, none⟩) X.g.n X.g.n]).holds, (iCells b3 29 [.slice (some ⟨x7.1, 0, none⟩) X.g.n X.g.n]).holds, (iCells b5 56 [.slice (some ⟨y14.1, 0, none⟩) X.g.n X.g.n]).holds, (iCells y10.1.1 61 (mps X.g.n X.g.n y10.1.2.1)).holds, MS X.g.n y10.1.2.1 y10.1.2.2, Sl 1 boolF (some ⟨x7.1, 0, none⟩) (Ana.mkl X.g.n (Ana.pn X.g false))] (fun x hx S hS w h => follow1_ok X hX ok b4 b3 b5 y10.1.1 y14.1 x7.1 y10.1.2.1 y14.2 y10.1.2.2 (Ana.pn X.g false) y10.2 x hx S hS w h) (Ana.upd (fun _ => []) X.g.start.toNat [-1]) (start_sound X (Ana.pn X.g false)) w (hs.weak (by simp))) (fun y => ?_)
 refine l_nil ?_
 refine c_seq ?_
 refine c_reg ?_
 refine l_q (by decide) (r_loadq (q := (iCells b5 56 [.slice (some ⟨y14.1, 0, none⟩) X.g.n X.g.n]).holds) Try.underlying56 rfl rfl (by repeat constructor) (fun w h => (cells_cell h 0).trans rfl)).q ?_
 first | refine l_q (by decide) (p_faddr (i := 0) 0 Try.underlying25 rfl inf_22 (by decide) rfl rfl).q ?_ | refine l_q (by decide) (p_faddro (i := 0) 0 Try.underlying25 rfl inf_22 (by decide) rfl rfl).q ?_
 refine l_q (by decide) (r_loado Try.underlying22 rfl rfl (List.mem_append.2 (.inr (List.mem_cons_self ..))) (by rfl)).q ?_
 refine l_q (by decide) (p_len_sl Try.underlying22 rfl).q ?_
 refine l_callf (X := RLs X.g.n (fun i a => decide (a ∈ y.1 i)) (-1) (X.g.t + 1)) [] (fun x : RLs X.g.n (fun i a => decide (a ∈ y.1 i)) (-1) (X.g.t + 1) => rlV x) rlQ (by decide) call_42 rfl (fun _ h => absurd h List.not_mem_nil) (fun w hs => lists_ok X.g.n y14.1 (X.g.t + 1) (by show X.nts.length ≤ 1000; omega) y14.2 y.1 (-1) X.terms.length (by omega) (by show ((X.terms.length : Nat) : Int) = -1 + ((X.terms.length + 1 : Nat) : Int); omega) (by show X.terms.length + 1 ≤ 1000; omega) (by omega) _ (List.mem_cons_self ..) (fun i hi => List.mem_cons_of_mem _ (List.mem_append.2 (.inl (mem_fam hi)))) w hs) (fun x27 => ?_)
 refine l_q (by decide) (p_assign rfl).q ?_
 refine l_nil ?_
 refine c_ret ?_
 refine c_ret1 rfl rfl (fun w hs => ?_)
 exact ⟨⟨x27.1, x27.2.trans (rowsOf_ext (fun i a => by unfold Ana.fo; exact (Ana.dec_mem (follow_full y.2.1 y.2.2 i a))))⟩, rfl, ((st_dropAll hs).drop).weak (by simp)⟩
end Go.Proofs.Ytidbhgolhiaijaa
