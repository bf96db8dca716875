/- The walks of analysis, tenth part (the reference of Follow); conditions: lengths. -/
import Derived.Test.YtidbhgolhiaijaaWalksI
namespace Go.Proofs.Ytidbhgolhiaijaa
open Go Go.Fx Go.Proofs

theorem rowsOf_ext2 {n W : Nat} {p q : Nat → Int → Bool} {lst : Int} (h : ∀ i k, i < n → k < W → p i (lst + (k : Nat)) = q i (lst + (k : Nat))) : Ana.rowsOf n p lst W = Ana.rowsOf n q lst W := by
  unfold Ana.rowsOf
  refine Ana.mkl_ext fun i hi => ?_
  unfold Ana.rowOf
  refine List.filter_congr fun a ha => ?_
  obtain ⟨k, hk, rfl⟩ := List.mem_map.1 ha
  exact h i k hi (List.mem_range.1 hk)
theorem tabT_call {k : FuncId} {args : Array Value} {w : World} {N : Nat} {vs : List Value} (h : Calls Try.prog k args w (Ret fun v w' => ∃ bo : Nat, v = .slice (some ⟨bo, 0, none⟩) N N ∧ (iCells bo 4 vs).holds w' ∧ (w.heap.size ≤ bo ∧ bo < w'.heap.size) ∧ Ext [] w w')) :
    Calls Try.prog k args w (Ret fun v w' => ∃ bo : Nat, v = .slice (some ⟨bo, 0, none⟩) N N ∧ (iCells bo 4 vs).holds w' ∧ Dep w.heap.size w'.heap.size (iCells bo 4 vs).holds ∧ Ext [] w w') := h.mono fun e w' h => by
  cases e with
  | returned v =>
    obtain ⟨bo, h1, h2, h3, h4⟩ := h
    exact ⟨bo, h1, h2, fun w1 w2 hb hq => (hb bo h3.1 h3.2).trans hq, h4⟩
  | _ => exact h.elim
def nilX : XL := ⟨[], none, 0⟩
theorem nils_flat (n : Nat) : List.replicate n (Value.slice none 0 0) = (List.replicate n nilX).flatMap lsF := by
  induction n with
  | zero => rfl
  | succ n ih => rw [List.replicate_succ, List.replicate_succ, List.flatMap_cons, ← ih]; rfl
theorem nils_ld (n : Nat) (w : World) : Ld (List.replicate n nilX) w := fun k x hx => by
  have h := List.mem_of_getElem? hx
  have := (List.mem_replicate.1 h).2
  subst this
  exact Sl.nil _ _ _ w
theorem nils_rows (n : Nat) (p : Nat → Int → Bool) (lst : Int) : (List.replicate n nilX).map (·.l) = Ana.rowsOf n p lst 0 := by
  rw [List.map_replicate]
  unfold Ana.rowsOf
  rw [show List.replicate n nilX.l = Ana.mkl n (fun _ => ([] : List Int)) from Ana.mkl_rep ..]
  exact Ana.mkl_ext fun _ _ => rfl
/-! the reference's Follow -/
noncomputable def foN (X : GI) : MF := fun i b => Ana.fo X.g i ((b : Int) - 1)
noncomputable abbrev nulX (X : GI) : Nat → Bool := Ana.pn X.g false
noncomputable def cellv (X : GI) (z : Int) (b : Nat) : Prop := z = (b : Int) - 1 ∨ (z < 0 ∧ fiN X (Ana.nt z) (b - 1) = true)
def CondO (X : GI) (x : XR) (p b : Nat) (f : MF) : Prop := (Ana.allG false (nulX X) (x.r.body.drop (p + 1)) = true ∧ f x.r.head.toNat b = true) ∨ (0 < b ∧ Ana.BG (nulX X) (Ana.FI X.g (nulX X)) (x.r.body.drop (p + 1)) ((b : Int) - 1))
def CellO (X : GI) (x : XR) (p b : Nat) (f : MF) : Prop := ∀ y, x.r.body[p]? = some y → y < 0 → CondO X x p b f → f (Ana.nt y) b = true
def GoodTO (X : GI) (x : XR) (f : MF) : Prop := ∀ p, p < x.r.body.length → ∀ b, b < X.g.t + 1 → CellO X x p b f
def SoundTO (X : GI) (f : MF) : Prop := (∀ i b, f i b = true → FOp X (nulX X) i ((b : Int) - 1)) ∧ f X.g.start.toNat 0 = true
theorem SoundTO.step {X : GI} {f : MF} (h : SoundTO X f) {x : XR} (hx : x ∈ X.xs) {p b : Nat} {y : Int} (hy : x.r.body[p]? = some y) (h0 : y < 0) (hc : CondO X x p b f) : SoundTO X (upd2 f (Ana.nt y) b true) := by
  refine ⟨fun i c hic => ?_, upd2_iff.2 (.inl h.2)⟩
  rcases upd2_iff.1 hic with h1 | ⟨rfl, rfl⟩
  · exact h.1 i c h1
  · rcases hc with ⟨h1, h2⟩ | ⟨_, h1⟩
    · exact .inh x.r p y _ (mem_g hx) hy h0 h1 (h.1 _ _ h2)
    · exact .first x.r p y _ (mem_g hx) hy h0 h1
theorem SoundTO.start (X : GI) : SoundTO X (upd2 (fun _ _ => false) X.g.start.toNat 0 true) := by
  refine ⟨fun i b h => ?_, upd2_iff.2 (.inr ⟨rfl, rfl⟩)⟩
  rcases upd2_iff.1 h with h1 | ⟨rfl, rfl⟩
  · cases h1
  · exact .start
theorem Ana.FI.of_bg' {g : Ana.Gr} (ok : Ana.Ok g) {nul : Nat → Bool} {r : Ana.Rl} (hr : r ∈ g.rules) {k : Nat} {a : Int} (hb : Ana.BG nul (Ana.FI g nul) (r.body.drop k) a) : 0 ≤ a ∧ a < g.t := by
  obtain ⟨j, y, h1, _, h3⟩ := Ana.BG_iff.1 hb
  rcases h3 with ⟨h3, rfl⟩ | ⟨_, h4⟩
  · exact ⟨h3, ok.b1 r hr a (List.mem_of_mem_drop (List.mem_of_getElem? h1))⟩
  · exact Ana.FI.range ok h4
theorem rfollow_full {X : GI} (ok : Ana.Ok X.g) {f : MF} (hs : SoundTO X f) (hg : ∀ x, x ∈ X.xs → GoodTO X x f) (i b : Nat) (hb : b < X.g.t + 1) : f i b = foN X i b := by
  have hfull := Ana.fo_full (g := X.g) (nul := nulX X) (F := Ana.FI X.g (nulX X)) (G := fun i a => -1 ≤ a ∧ a < X.g.t ∧ f i (a + 1).toNat = true) (fun i a ⟨h0, h1, h2⟩ => by have := hs.1 i _ h2; rwa [show (((a + 1).toNat : Nat) : Int) - 1 = a by omega] at this)
    ⟨by omega, by omega, hs.2⟩ (fun r hr k y hy h0 a hbg => by
      obtain ⟨x, hx, rfl⟩ := List.mem_map.1 hr
      have hr2 : 0 ≤ a ∧ a < X.g.t := Ana.FI.of_bg' ok hr hbg
      exact ⟨by omega, hr2.2, hg x hx k (List.getElem?_eq_some_iff.1 hy).1 _ (by omega) y hy h0 (.inr ⟨by omega, by rw [show (((a + 1).toNat : Nat) : Int) - 1 = a by omega]; exact hbg⟩)⟩)
    (fun r hr k y hy h0 hn a ha => by
      obtain ⟨x, hx, rfl⟩ := List.mem_map.1 hr
      exact ⟨ha.1, ha.2.1, hg x hx k (List.getElem?_eq_some_iff.1 hy).1 _ (by omega) y hy h0 (.inl ⟨hn, ha.2.2⟩)⟩) i ((b : Int) - 1)
  refine Ana.eq_dec ⟨fun h => hs.1 i b h, fun h => ?_⟩
  have := (hfull.2 h).2.2
  rwa [show ((b : Int) - 1 + 1).toNat = b by omega] at this
/-- what has been found out when the inner loop stops -/
theorem bg_stop {nul : Nat → Bool} {F : Nat → Int → Prop} {a : Int} : ∀ {l : List Int} {m : Nat}, (l.length ≤ m ∨ Ana.allG false nul (l.take m) = false) → (Ana.BG nul F (l.take m) a ↔ Ana.BG nul F l a)
  | [], m, _ => by rw [List.take_nil]
  | x :: l, 0, h => by
    rcases h with h | h
    · simp at h
    · cases h
  | x :: l, m + 1, h => by
    rw [List.take_succ_cons] at h ⊢
    show ((0 ≤ x ∧ a = x) ∨ (x < 0 ∧ F (Ana.nt x) a) ∨ (Ana.Nul nul x ∧ Ana.BG nul F (l.take m) a)) ↔ ((0 ≤ x ∧ a = x) ∨ (x < 0 ∧ F (Ana.nt x) a) ∨ (Ana.Nul nul x ∧ Ana.BG nul F l a))
    by_cases hn : Ana.Nul nul x
    · have hg : Ana.good false nul x = true := by unfold Ana.Nul at hn; simp [Ana.good, hn.1, hn.2]
      have ih := bg_stop (nul := nul) (F := F) (a := a) (l := l) (m := m) (h.imp (fun h => by simpa using h) (fun h => by unfold Ana.allG at h ⊢; rw [List.all_cons, hg, Bool.true_and] at h; exact h))
      rw [ih]
    · simp [hn]
def InnI (X : GI) (x : XR) (j b : Nat) (h : MF) (m : Nat) (u : Bool) : Prop := u = true ↔ ((Ana.allG false (nulX X) (x.r.body.drop (j + 1)) && h x.r.head.toNat b) = true ∨ (0 < b ∧ Ana.BG (nulX X) (Ana.FI X.g (nulX X)) ((x.r.body.drop (j + 1)).take m) ((b : Int) - 1)))
theorem InnI.zero {X : GI} {x : XR} {j b : Nat} {h : MF} : InnI X x j b h 0 (Ana.allG false (nulX X) (x.r.body.drop (j + 1)) && h x.r.head.toNat b) := by
  unfold InnI
  rw [List.take_zero]
  exact ⟨.inl, fun h => h.elim id (fun h => h.2.elim)⟩
theorem InnI.step {X : GI} {x : XR} {j b : Nat} {h : MF} {m : Nat} {u u2 : Bool} (hi : InnI X x j b h m u) {z : Int} (hz : x.r.body[j + 1 + m]? = some z) (hb : 0 < b) (hn : Ana.allG false (nulX X) ((x.r.body.drop (j + 1)).take m) = true) (hu : u2 = true ↔ u = true ∨ cellv X z b) : InnI X x j b h (m + 1) u2 := by
  have hz2 : (x.r.body.drop (j + 1))[m]? = some z := by rw [List.getElem?_drop]; exact hz
  unfold InnI at hi ⊢
  rw [hu, hi, take_at hz2, bg_app hn]
  have hc : cellv X z b ↔ Ana.BG (nulX X) (Ana.FI X.g (nulX X)) [z] ((b : Int) - 1) := by
    have e : (((b - 1 : Nat)) : Int) = (b : Int) - 1 := by omega
    unfold cellv fiN Ana.fi
    rw [e]
    show _ ↔ (0 ≤ z ∧ (b : Int) - 1 = z) ∨ (z < 0 ∧ Ana.FI X.g (nulX X) (Ana.nt z) ((b : Int) - 1)) ∨ (Ana.Nul (nulX X) z ∧ False)
    constructor
    · rintro (h | ⟨h1, h2⟩)
      · exact .inl ⟨by omega, h.symm⟩
      · exact .inr (.inl ⟨h1, Ana.dec_iff.1 h2⟩)
    · rintro (⟨_, h⟩ | ⟨h1, h2⟩ | ⟨_, h⟩)
      · exact .inl h.symm
      · exact .inr ⟨h1, Ana.dec_iff.2 h2⟩
      · exact h.elim
  rw [hc]
  constructor
  · rintro ((h | ⟨h1, h2⟩) | h)
    · exact .inl h
    · exact .inr ⟨h1, .inl h2⟩
    · exact .inr ⟨hb, .inr h⟩
  · rintro (h | ⟨h1, h2 | h2⟩)
    · exact .inl (.inl h)
    · exact .inl (.inr ⟨h1, h2⟩)
    · exact .inr h2
theorem InnI.stop {X : GI} {x : XR} {j b : Nat} {h : MF} {m : Nat} {u : Bool} (hi : InnI X x j b h m u) (hs : ((decide (j + 1 + m < x.r.body.length) && decide (0 < b)) && Ana.allG false (nulX X) ((x.r.body.drop (j + 1)).take m)) = false) : u = true ↔ CondO X x j b h := by
  unfold InnI at hi
  unfold CondO
  rw [hi, Bool.and_eq_true]
  by_cases hb : 0 < b
  · have : (x.r.body.drop (j + 1)).length ≤ m ∨ Ana.allG false (nulX X) ((x.r.body.drop (j + 1)).take m) = false := by
      by_cases hl : j + 1 + m < x.r.body.length
      · right; simpa [hb, hl] using hs
      · left; rw [List.length_drop]; omega
    rw [bg_stop this]
  · simp [hb]
theorem u_new {X : GI} {x : XR} {j b : Nat} {h : MF} {u : Bool} (hu : u = true ↔ CondO X x j b h) : (u = false → ¬ CondO X x j b h) := fun e hc => by rw [hu.2 hc] at e; cases e
theorem call_43 : Callable Try.prog 43 := ⟨_, Try.func43, by kernel_rfl, rfl⟩
theorem call_44 : Callable Try.prog 44 := ⟨_, Try.func44, by kernel_rfl, rfl⟩
theorem rfirst2_ok (X : GI) (hX : X.small) (ok : Ana.Ok X.g) (σ : Fx.Own) (w : World) (h : St w (keysOf σ) w σ [Bd X.xs, Sl 3 ruF X.Ar X.xs, Sl 1 strF X.An X.nts, Sl 1 strF X.At X.terms]) :
   Calls Try.prog 23 #[.agg #[.slice X.At X.terms.length X.ct, .slice X.An X.nts.length X.cn, .int .i64 X.start, .slice X.Ar X.xs.length X.cr]] w (Ret fun v w' => ∃ x : RLs X.g.n (fun i a => Ana.fi X.g i a) 0 X.g.t, v = rlV x ∧ St w (keysOf σ) w' σ (rlQ x)) := by
 have hnl := ok.nl
 have hnn : X.nts.length ≤ 8 := hnl
 have htl : X.terms.length ≤ 6 := ok.tl
 have hnt2 : X.nts.length * X.terms.length ≤ 48 := Nat.mul_le_mul hnn htl
 refine calls_fx (l := [.agg #[.slice X.At X.terms.length X.ct, .slice X.An X.nts.length X.cn, .int .i64 X.start, .slice X.Ar X.xs.length X.cr]]) Try.func23 rfl Try.ntmps23 (Nat.le_of_ble_eq_true rfl) h ?_
 refine c_seq ?_
 refine c_reg ?_
 refine l_box (by decide) rfl _ rfl (fun b1 => ?_)
 refine l_q (by decide) (p_assign rfl).q ?_
 refine l_nil ?_
 refine c_seq ?_
 refine c_seq ?_
 refine c_reg ?_
 first | refine l_q (by decide) (p_faddr (i := 0) 0 Try.underlying25 rfl inf_22 (by decide) rfl rfl).q ?_ | refine l_q (by decide) (p_faddro (i := 0) 0 Try.underlying25 rfl inf_22 (by decide) rfl rfl).q ?_
 first | refine l_q (by decide) (r_loado Try.underlying22 rfl rfl (by repeat constructor) (by rfl)).q ?_ | refine l_q (by decide) (r_load1 Try.underlying22 rfl rfl (by first | exact .fact (by repeat constructor) | exact .own (by repeat constructor) (by decide) (fun _ => rfl) | exact SlIn.body (by repeat constructor) (by assumption)) (by first | assumption | rfl) (by rfl)).q ?_ | refine l_q (by decide) (r_loadf Try.underlying22 rfl rfl (by first | exact .fact (by repeat constructor) | exact .own (by repeat constructor) (by decide) (fun _ => rfl) | exact SlIn.body (by repeat constructor) (by assumption)) (by assumption) (by rfl)).q ?_
 refine l_q (by decide) (p_len_sl Try.underlying22 rfl).q ?_
 first | refine l_q (by decide) (p_eql (j := 0) rfl rfl rfl rfl).q ?_ | refine l_q (by decide) (p_eqli rfl rfl).q ?_
 refine l_nil ?_
 first | refine c_dec rfl (fun h6 => ?_) (fun h6 => ?_) | refine c_cond rfl (fun h6 => ?_) (fun h6 => ?_)
 ·skip
  refine c_seq ?_
  refine c_reg ?_
  first | refine l_q (by decide) (p_faddr (i := 1) 1 Try.underlying25 rfl inf_22 (by decide) rfl rfl).q ?_ | refine l_q (by decide) (p_faddro (i := 1) 1 Try.underlying25 rfl inf_22 (by decide) rfl rfl).q ?_
  first | refine l_q (by decide) (r_loado Try.underlying22 rfl rfl (by repeat constructor) (by rfl)).q ?_ | refine l_q (by decide) (r_load1 Try.underlying22 rfl rfl (by first | exact .fact (by repeat constructor) | exact .own (by repeat constructor) (by decide) (fun _ => rfl) | exact SlIn.body (by repeat constructor) (by assumption)) (by first | assumption | rfl) (by rfl)).q ?_ | refine l_q (by decide) (r_loadf Try.underlying22 rfl rfl (by first | exact .fact (by repeat constructor) | exact .own (by repeat constructor) (by decide) (fun _ => rfl) | exact SlIn.body (by repeat constructor) (by assumption)) (by assumption) (by rfl)).q ?_
  refine l_q (by decide) (p_len_sl Try.underlying22 rfl).q ?_
  refine l_make (by decide) Try.underlying32 inf_39 rfl rfl rfl rfl rfl rfl (by omega) (by omega) (fun b10 => ?_)
  refine l_sealc lsF (List.replicate X.nts.length nilX) (nils_flat _) (fun _ => rfl) ?_
  refine l_q (by decide) (p_assign rfl).q ?_
  refine l_nil ?_
  refine c_ret ?_
  refine c_ret1 rfl rfl (fun w hs => ?_)
  refine ⟨⟨(some ⟨b10, 0, none⟩, X.nts.length, List.replicate X.nts.length nilX), ?_⟩, ?_, (hs.drop.sure (nils_ld X.nts.length)).weak (by simp)⟩
  · rw [show X.g.t = 0 from h6]; exact nils_rows _ _ _
  · show Value.slice _ _ _ = Value.slice _ (List.replicate X.nts.length nilX).length _; rw [List.length_replicate]
 ·skip
  refine c_skip ?_
  refine c_seq ?_
  refine m_draw [] mixed ?_
  first | refine m_take 0 rfl (by kernel_rfl) (by decide) (by first | exact (List.Perm.refl _ : List.Perm _ ([] ++ _)) | exact (List.Perm.refl _ : List.Perm _ ([_] ++ _)) | exact (List.Perm.refl _ : List.Perm _ ([_, _] ++ _)) | exact (List.Perm.refl _ : List.Perm _ ([_, _, _] ++ _)) | exact (List.Perm.refl _ : List.Perm _ ([_, _, _, _] ++ _)) | exact (List.Perm.refl _ : List.Perm _ ([_, _, _, _, _] ++ _)) | exact List.Perm.refl _) (by first | exact fun _ h => h | exact fun _ h => List.mem_cons_of_mem _ h | exact fun _ h => List.mem_cons_of_mem _ (List.mem_cons_of_mem _ h) | exact fun _ h => List.mem_cons_of_mem _ (List.mem_cons_of_mem _ (List.mem_cons_of_mem _ h)) | exact fun _ h => List.mem_cons_of_mem _ (List.mem_cons_of_mem _ (List.mem_cons_of_mem _ (List.mem_cons_of_mem _ h))) | exact fun _ h => List.mem_cons_of_mem _ (List.mem_cons_of_mem _ (List.mem_cons_of_mem _ (List.mem_cons_of_mem _ (List.mem_cons_of_mem _ h))))) (r_loada Try.underlying25 rfl inf_25 rfl (by first | exact .fact (by repeat constructor) | exact .own (by repeat constructor) (by decide) (fun _ => rfl) | exact SlIn.body (by repeat constructor) (by assumption)) (by assumption)).r ?_ | refine m_take 0 rfl (by kernel_rfl) (by decide) (by first | exact (List.Perm.refl _ : List.Perm _ ([] ++ _)) | exact (List.Perm.refl _ : List.Perm _ ([_] ++ _)) | exact (List.Perm.refl _ : List.Perm _ ([_, _] ++ _)) | exact (List.Perm.refl _ : List.Perm _ ([_, _, _] ++ _)) | exact (List.Perm.refl _ : List.Perm _ ([_, _, _, _] ++ _)) | exact (List.Perm.refl _ : List.Perm _ ([_, _, _, _, _] ++ _)) | exact List.Perm.refl _) (by first | exact fun _ h => h | exact fun _ h => List.mem_cons_of_mem _ h | exact fun _ h => List.mem_cons_of_mem _ (List.mem_cons_of_mem _ h) | exact fun _ h => List.mem_cons_of_mem _ (List.mem_cons_of_mem _ (List.mem_cons_of_mem _ h)) | exact fun _ h => List.mem_cons_of_mem _ (List.mem_cons_of_mem _ (List.mem_cons_of_mem _ (List.mem_cons_of_mem _ h))) | exact fun _ h => List.mem_cons_of_mem _ (List.mem_cons_of_mem _ (List.mem_cons_of_mem _ (List.mem_cons_of_mem _ (List.mem_cons_of_mem _ h))))) (r_loadow Try.underlying25 rfl inf_25 rfl (by repeat constructor) (by rfl)).r ?_ | refine m_take 0 rfl (by kernel_rfl) (by decide) (by first | exact (List.Perm.refl _ : List.Perm _ ([] ++ _)) | exact (List.Perm.refl _ : List.Perm _ ([_] ++ _)) | exact (List.Perm.refl _ : List.Perm _ ([_, _] ++ _)) | exact (List.Perm.refl _ : List.Perm _ ([_, _, _] ++ _)) | exact (List.Perm.refl _ : List.Perm _ ([_, _, _, _] ++ _)) | exact (List.Perm.refl _ : List.Perm _ ([_, _, _, _, _] ++ _)) | exact List.Perm.refl _) (by first | exact fun _ h => h | exact fun _ h => List.mem_cons_of_mem _ h | exact fun _ h => List.mem_cons_of_mem _ (List.mem_cons_of_mem _ h) | exact fun _ h => List.mem_cons_of_mem _ (List.mem_cons_of_mem _ (List.mem_cons_of_mem _ h)) | exact fun _ h => List.mem_cons_of_mem _ (List.mem_cons_of_mem _ (List.mem_cons_of_mem _ (List.mem_cons_of_mem _ h))) | exact fun _ h => List.mem_cons_of_mem _ (List.mem_cons_of_mem _ (List.mem_cons_of_mem _ (List.mem_cons_of_mem _ (List.mem_cons_of_mem _ h))))) (r_loadoa Try.underlying25 rfl inf_25 rfl (by repeat constructor) (by rfl) (fun j u h => h)).r ?_
  first | refine m_takep 2 rfl (by kernel_rfl) (by decide) (p_faddr (i := 0) 0 Try.underlying25 rfl inf_22 (by decide) rfl rfl) ?_ | refine m_takep 2 rfl (by kernel_rfl) (by decide) (p_faddro (i := 0) 0 Try.underlying25 rfl inf_22 (by decide) rfl rfl) ?_
  first | refine m_take 3 rfl (by kernel_rfl) (by decide) (by first | exact (List.Perm.refl _ : List.Perm _ ([] ++ _)) | exact (List.Perm.refl _ : List.Perm _ ([_] ++ _)) | exact (List.Perm.refl _ : List.Perm _ ([_, _] ++ _)) | exact (List.Perm.refl _ : List.Perm _ ([_, _, _] ++ _)) | exact (List.Perm.refl _ : List.Perm _ ([_, _, _, _] ++ _)) | exact (List.Perm.refl _ : List.Perm _ ([_, _, _, _, _] ++ _)) | exact List.Perm.refl _) (by first | exact fun _ h => h | exact fun _ h => List.mem_cons_of_mem _ h | exact fun _ h => List.mem_cons_of_mem _ (List.mem_cons_of_mem _ h) | exact fun _ h => List.mem_cons_of_mem _ (List.mem_cons_of_mem _ (List.mem_cons_of_mem _ h)) | exact fun _ h => List.mem_cons_of_mem _ (List.mem_cons_of_mem _ (List.mem_cons_of_mem _ (List.mem_cons_of_mem _ h))) | exact fun _ h => List.mem_cons_of_mem _ (List.mem_cons_of_mem _ (List.mem_cons_of_mem _ (List.mem_cons_of_mem _ (List.mem_cons_of_mem _ h))))) (r_loado Try.underlying22 rfl rfl (by repeat constructor) (by rfl)).r ?_ | refine m_take 3 rfl (by kernel_rfl) (by decide) (by first | exact (List.Perm.refl _ : List.Perm _ ([] ++ _)) | exact (List.Perm.refl _ : List.Perm _ ([_] ++ _)) | exact (List.Perm.refl _ : List.Perm _ ([_, _] ++ _)) | exact (List.Perm.refl _ : List.Perm _ ([_, _, _] ++ _)) | exact (List.Perm.refl _ : List.Perm _ ([_, _, _, _] ++ _)) | exact (List.Perm.refl _ : List.Perm _ ([_, _, _, _, _] ++ _)) | exact List.Perm.refl _) (by first | exact fun _ h => h | exact fun _ h => List.mem_cons_of_mem _ h | exact fun _ h => List.mem_cons_of_mem _ (List.mem_cons_of_mem _ h) | exact fun _ h => List.mem_cons_of_mem _ (List.mem_cons_of_mem _ (List.mem_cons_of_mem _ h)) | exact fun _ h => List.mem_cons_of_mem _ (List.mem_cons_of_mem _ (List.mem_cons_of_mem _ (List.mem_cons_of_mem _ h))) | exact fun _ h => List.mem_cons_of_mem _ (List.mem_cons_of_mem _ (List.mem_cons_of_mem _ (List.mem_cons_of_mem _ (List.mem_cons_of_mem _ h))))) (r_load1 Try.underlying22 rfl rfl (by first | exact .fact (by repeat constructor) | exact .own (by repeat constructor) (by decide) (fun _ => rfl) | exact SlIn.body (by repeat constructor) (by assumption)) (by first | assumption | rfl) (by rfl)).r ?_ | refine m_take 3 rfl (by kernel_rfl) (by decide) (by first | exact (List.Perm.refl _ : List.Perm _ ([] ++ _)) | exact (List.Perm.refl _ : List.Perm _ ([_] ++ _)) | exact (List.Perm.refl _ : List.Perm _ ([_, _] ++ _)) | exact (List.Perm.refl _ : List.Perm _ ([_, _, _] ++ _)) | exact (List.Perm.refl _ : List.Perm _ ([_, _, _, _] ++ _)) | exact (List.Perm.refl _ : List.Perm _ ([_, _, _, _, _] ++ _)) | exact List.Perm.refl _) (by first | exact fun _ h => h | exact fun _ h => List.mem_cons_of_mem _ h | exact fun _ h => List.mem_cons_of_mem _ (List.mem_cons_of_mem _ h) | exact fun _ h => List.mem_cons_of_mem _ (List.mem_cons_of_mem _ (List.mem_cons_of_mem _ h)) | exact fun _ h => List.mem_cons_of_mem _ (List.mem_cons_of_mem _ (List.mem_cons_of_mem _ (List.mem_cons_of_mem _ h))) | exact fun _ h => List.mem_cons_of_mem _ (List.mem_cons_of_mem _ (List.mem_cons_of_mem _ (List.mem_cons_of_mem _ (List.mem_cons_of_mem _ h))))) (r_loadf Try.underlying22 rfl rfl (by first | exact .fact (by repeat constructor) | exact .own (by repeat constructor) (by decide) (fun _ => rfl) | exact SlIn.body (by repeat constructor) (by assumption)) (by assumption) (by rfl)).r ?_
  refine m_takep 4 rfl (by kernel_rfl) (by decide) (p_len_sl Try.underlying22 rfl) ?_
  refine m_run 1 rfl (by kernel_rfl) ?_
  refine l_call (X := Nat) (fun y => .slice (some ⟨y, 0, none⟩) (X.g.n * X.g.t) (X.g.n * X.g.t)) (fun y => (iCells y 4 (bl (X.g.n * X.g.t) (fl X.g.t (fiN X)))).holds) (by decide) call_44 rfl (fun w hs => tabT_call (rfirst_ok X hX w (GI.of hs (by repeat constructor) (by repeat constructor) (by repeat constructor) (by repeat constructor)) ok)) (fun y12 => ?_)
  refine l_nil ?_
  refine m_next _ (by first | exact (List.Perm.refl _ : List.Perm _ ([] ++ _)) | exact (List.Perm.refl _ : List.Perm _ ([_] ++ _)) | exact (List.Perm.refl _ : List.Perm _ ([_, _] ++ _)) | exact (List.Perm.refl _ : List.Perm _ ([_, _, _] ++ _)) | exact (List.Perm.refl _ : List.Perm _ ([_, _, _, _] ++ _)) | exact (List.Perm.refl _ : List.Perm _ ([_, _, _, _, _] ++ _)) | exact List.Perm.refl _) (by first | exact fun _ h => h | exact fun _ h => List.mem_cons_of_mem _ h | exact fun _ h => List.mem_cons_of_mem _ (List.mem_cons_of_mem _ h) | exact fun _ h => List.mem_cons_of_mem _ (List.mem_cons_of_mem _ (List.mem_cons_of_mem _ h)) | exact fun _ h => List.mem_cons_of_mem _ (List.mem_cons_of_mem _ (List.mem_cons_of_mem _ (List.mem_cons_of_mem _ h))) | exact fun _ h => List.mem_cons_of_mem _ (List.mem_cons_of_mem _ (List.mem_cons_of_mem _ (List.mem_cons_of_mem _ (List.mem_cons_of_mem _ h))))) ?_
  refine m_run 5 rfl (by kernel_rfl) ?_
  refine l_callf (X := RLs X.g.n (cellP (fiN X) 0) 0 X.g.t) [(iCells y12 4 (bl (X.g.n * X.g.t) (fl X.g.t (fiN X)))).holds] (fun x : RLs X.g.n (cellP (fiN X) 0) 0 X.g.t => rlV x) rlQ (by decide) call_43 rfl (fun q hq => by rw [List.mem_singleton.1 hq]; exact (by repeat constructor)) (fun w hs => rsets_ok X.g.n X.g.t y12 (fiN X) (by show X.nts.length ≤ 1000; omega) (by show 1 ≤ X.terms.length; omega) (by show X.terms.length ≤ 1000; omega) (by show X.nts.length * X.terms.length ≤ 1000; omega) 0 0 rfl (by omega) (by omega) _ w hs) (fun x16 => ?_)
  refine l_nil ?_
  refine m_next _ (by first | exact (List.Perm.refl _ : List.Perm _ ([] ++ _)) | exact (List.Perm.refl _ : List.Perm _ ([_] ++ _)) | exact (List.Perm.refl _ : List.Perm _ ([_, _] ++ _)) | exact (List.Perm.refl _ : List.Perm _ ([_, _, _] ++ _)) | exact (List.Perm.refl _ : List.Perm _ ([_, _, _, _] ++ _)) | exact (List.Perm.refl _ : List.Perm _ ([_, _, _, _, _] ++ _)) | exact List.Perm.refl _) (by first | exact fun _ h => h | exact fun _ h => List.mem_cons_of_mem _ h | exact fun _ h => List.mem_cons_of_mem _ (List.mem_cons_of_mem _ h) | exact fun _ h => List.mem_cons_of_mem _ (List.mem_cons_of_mem _ (List.mem_cons_of_mem _ h)) | exact fun _ h => List.mem_cons_of_mem _ (List.mem_cons_of_mem _ (List.mem_cons_of_mem _ (List.mem_cons_of_mem _ h))) | exact fun _ h => List.mem_cons_of_mem _ (List.mem_cons_of_mem _ (List.mem_cons_of_mem _ (List.mem_cons_of_mem _ (List.mem_cons_of_mem _ h))))) ?_
  refine m_takep 6 rfl (by kernel_rfl) (by decide) (p_assign rfl) ?_
  refine m_done (by kernel_rfl) ?_
  refine c_ret ?_
  refine c_ret1 rfl rfl (fun w hs => ?_)
  exact ⟨⟨x16.1, x16.2.trans (rowsOf_ext2 (fun i k _ _ => by unfold cellP fiN; rw [show (((0 : Int) + (k : Nat) - 0).toNat : Int) = 0 + (k : Nat) by omega]))⟩, rfl, (hs.drop).weak (by simp)⟩

theorem rfollow_ok (X : GI) (hX : X.small) (ok : Ana.Ok X.g) (σ : Fx.Own) (w : World) (h : St w (keysOf σ) w σ [Bd X.xs, Sl 3 ruF X.Ar X.xs, Sl 1 strF X.An X.nts, Sl 1 strF X.At X.terms]) :
   Calls Try.prog 25 #[.agg #[.slice X.At X.terms.length X.ct, .slice X.An X.nts.length X.cn, .int .i64 X.start, .slice X.Ar X.xs.length X.cr]] w (Ret fun v w' => ∃ x : RLs X.g.n (fun i a => Ana.fo X.g i a) (-1) (X.g.t + 1), v = rlV x ∧ St w (keysOf σ) w' σ (rlQ x)) := by
 have hnl := ok.nl
 have hnn : X.nts.length ≤ 8 := hnl
 have htl : X.terms.length ≤ 6 := ok.tl
 have hnt2 : X.nts.length * X.terms.length ≤ 48 := Nat.mul_le_mul hnn htl
 have hnt3 : X.nts.length * (X.terms.length + 1) ≤ 56 := Nat.mul_le_mul hnn (show X.terms.length + 1 ≤ 7 by omega)
 have hxl := hX.x
 have hst1 : ((X.g.start.toNat : Nat) : Int) = X.start := by have := ok.s0; show ((X.start.toNat : Nat) : Int) = _; have h : 0 ≤ X.start := this; omega
 have hst2 : X.g.start.toNat < X.g.n := by have h0 : 0 ≤ X.start := ok.s0; have h1 : X.start < (X.nts.length : Int) := ok.s1; show X.start.toNat < X.nts.length; omega
 refine calls_fx (l := [.agg #[.slice X.At X.terms.length X.ct, .slice X.An X.nts.length X.cn, .int .i64 X.start, .slice X.Ar X.xs.length X.cr]]) Try.func25 rfl Try.ntmps25 (Nat.le_of_ble_eq_true rfl) h ?_
 refine c_seq ?_
 refine c_reg ?_
 refine l_box (by decide) rfl _ rfl (fun b1 => ?_)
 refine l_q (by decide) (p_assign rfl).q ?_
 refine l_nil ?_
 refine c_seq ?_
 refine c_reg ?_
 first | refine l_q (by decide) (p_faddr (i := 0) 0 Try.underlying25 rfl inf_22 (by decide) rfl rfl).q ?_ | refine l_q (by decide) (p_faddro (i := 0) 0 Try.underlying25 rfl inf_22 (by decide) rfl rfl).q ?_
 first | refine l_q (by decide) (r_loado Try.underlying22 rfl rfl (by repeat constructor) (by rfl)).q ?_ | refine l_q (by decide) (r_load1 Try.underlying22 rfl rfl (by first | exact .fact (by repeat constructor) | exact .own (by repeat constructor) (by decide) (fun _ => rfl) | exact SlIn.body (by repeat constructor) (by assumption)) (by first | assumption | rfl) (by rfl)).q ?_ | refine l_q (by decide) (r_loadf Try.underlying22 rfl rfl (by first | exact .fact (by repeat constructor) | exact .own (by repeat constructor) (by decide) (fun _ => rfl) | exact SlIn.body (by repeat constructor) (by assumption)) (by assumption) (by rfl)).q ?_
 refine l_q (by decide) (p_len_sl Try.underlying22 rfl).q ?_
 refine l_q (by decide) (p_assign rfl).q ?_
 refine l_nil ?_
 refine c_seq ?_
 refine c_reg ?_
 refine l_q (by decide) (p_move rfl).q ?_
 first | refine l_q (by decide) (p_add (j := 1) rfl rfl rfl rfl (by show _ ≤ (9223372036854775807 : Nat); omega)).q ?_ | refine l_q (by decide) (p_addi rfl rfl (by show (-9223372036854775808 : Int) ≤ _; omega) (by show _ ≤ ((9223372036854775807 : Nat) : Int); omega)).q ?_
 refine l_q (by decide) (p_assign rfl).q ?_
 refine l_nil ?_
 refine c_seq ?_
 obtain ⟨lo, hlo⟩ : ∃ lo, lo = w.heap.size := ⟨_, rfl⟩
 refine c_reg ?_
 first | refine l_q (by decide) (r_loada Try.underlying25 rfl inf_25 rfl (by first | exact .fact (by repeat constructor) | exact .own (by repeat constructor) (by decide) (fun _ => rfl) | exact SlIn.body (by repeat constructor) (by assumption)) (by assumption)).q ?_ | refine l_q (by decide) (r_loadow Try.underlying25 rfl inf_25 rfl (by repeat constructor) (by rfl)).q ?_ | refine l_q (by decide) (r_loadoa Try.underlying25 rfl inf_25 rfl (by repeat constructor) (by rfl) (fun j u h => h)).q ?_
 refine l_call (X := { bo : Nat // lo ≤ bo }) (fun x => .slice (some ⟨x.1, 0, none⟩) X.g.n X.g.n) (fun x => Sl 1 boolF (some ⟨x.1, 0, none⟩) (Ana.mkl X.g.n (Ana.pn X.g false))) (by decide) call_14 rfl (fun w hs => tab_call (by rw [hlo]; exact hs.ext.size) (rnullable_ok X hX w (GI.of hs (by repeat constructor) (by repeat constructor) (by repeat constructor) (by repeat constructor)) ok)) (fun x22 => ?_)
 refine l_q (by decide) (p_assign rfl).q ?_
 refine l_nil ?_
 refine c_seq ?_
 refine c_reg ?_
 first | refine l_q (by decide) (r_loada Try.underlying25 rfl inf_25 rfl (by first | exact .fact (by repeat constructor) | exact .own (by repeat constructor) (by decide) (fun _ => rfl) | exact SlIn.body (by repeat constructor) (by assumption)) (by assumption)).q ?_ | refine l_q (by decide) (r_loadow Try.underlying25 rfl inf_25 rfl (by repeat constructor) (by rfl)).q ?_ | refine l_q (by decide) (r_loadoa Try.underlying25 rfl inf_25 rfl (by repeat constructor) (by rfl) (fun j u h => h)).q ?_
 refine l_call (X := Nat) (fun y => .slice (some ⟨y, 0, none⟩) (X.g.n * X.g.t) (X.g.n * X.g.t)) (fun y => (iCells y 4 (bl (X.g.n * X.g.t) (fl X.g.t (fiN X)))).holds) (by decide) call_44 rfl (fun w hs => tabT_call (rfirst_ok X hX w (GI.of hs (by repeat constructor) (by repeat constructor) (by repeat constructor) (by repeat constructor)) ok)) (fun y24 => ?_)
 refine l_q (by decide) (p_assign rfl).q ?_
 refine l_nil ?_
 refine c_seq ?_
 refine c_reg ?_
 first | refine l_q (by decide) (p_faddr (i := 1) 1 Try.underlying25 rfl inf_22 (by decide) rfl rfl).q ?_ | refine l_q (by decide) (p_faddro (i := 1) 1 Try.underlying25 rfl inf_22 (by decide) rfl rfl).q ?_
 first | refine l_q (by decide) (r_loado Try.underlying22 rfl rfl (by repeat constructor) (by rfl)).q ?_ | refine l_q (by decide) (r_load1 Try.underlying22 rfl rfl (by first | exact .fact (by repeat constructor) | exact .own (by repeat constructor) (by decide) (fun _ => rfl) | exact SlIn.body (by repeat constructor) (by assumption)) (by first | assumption | rfl) (by rfl)).q ?_ | refine l_q (by decide) (r_loadf Try.underlying22 rfl rfl (by first | exact .fact (by repeat constructor) | exact .own (by repeat constructor) (by decide) (fun _ => rfl) | exact SlIn.body (by repeat constructor) (by assumption)) (by assumption) (by rfl)).q ?_
 refine l_q (by decide) (p_len_sl Try.underlying22 rfl).q ?_
 refine l_q (by decide) (p_move rfl).q ?_
 refine l_q (by decide) (p_mul rfl rfl rfl rfl (by show _ ≤ (9223372036854775807 : Nat); omega)).q ?_
 refine l_make (by decide) Try.underlying29 inf_4 rfl rfl rfl rfl rfl rfl (by omega) (by omega) (fun b30 => ?_)
 refine l_q (by decide) (p_assign rfl).q ?_
 refine l_nil ?_
 refine c_seq ?_
 have hsm : X.g.start.toNat * (X.terms.length + 1) + 0 < X.nts.length * (X.terms.length + 1) := idx_lt2 hst2 (Nat.succ_pos _)
 have hkb0 : (X.g.start.toNat * (X.terms.length + 1)) * 1 < (List.replicate (X.nts.length * (X.terms.length + 1)) (Value.bool false)).length := by rw [List.length_replicate, Nat.mul_one]; exact hsm
 refine c_reg ?_
 refine l_q (by decide) (p_move rfl).q ?_
 first | refine l_q (by decide) (p_faddr (i := 2) 2 Try.underlying25 rfl inf_3 (by decide) rfl rfl).q ?_ | refine l_q (by decide) (p_faddro (i := 2) 2 Try.underlying25 rfl inf_3 (by decide) rfl rfl).q ?_
 first | refine l_q (by decide) (((r_loado Try.underlying3 rfl rfl (by repeat constructor) (by rfl))).to (u := .int .i64 ((X.g.start.toNat : Nat) : Int)) (by rw [hst1])).q ?_ | refine l_q (by decide) (((r_load1 Try.underlying3 rfl rfl (by first | exact .fact (by repeat constructor) | exact .own (by repeat constructor) (by decide) (fun _ => rfl) | exact SlIn.body (by repeat constructor) (by assumption)) (by first | assumption | rfl) (by rfl))).to (u := .int .i64 ((X.g.start.toNat : Nat) : Int)) (by rw [hst1])).q ?_ | refine l_q (by decide) (((r_loadf Try.underlying3 rfl rfl (by first | exact .fact (by repeat constructor) | exact .own (by repeat constructor) (by decide) (fun _ => rfl) | exact SlIn.body (by repeat constructor) (by assumption)) (by assumption) (by rfl))).to (u := .int .i64 ((X.g.start.toNat : Nat) : Int)) (by rw [hst1])).q ?_
 refine l_q (by decide) (p_move rfl).q ?_
 refine l_q (by decide) (p_mul rfl rfl rfl rfl (by show _ ≤ (9223372036854775807 : Nat); omega)).q ?_
 first | refine l_q (by decide) (r_index Try.underlying29 inf_4 rfl rfl rfl (by first | exact .fact (by repeat constructor) | exact .own (by repeat constructor) (by decide) (fun _ => rfl) | exact SlIn.body (by repeat constructor) (by assumption)) rfl (by omega)).q ?_ | refine l_q (by decide) (r_index Try.underlying29 inf_4 rfl rfl rfl (by first | exact .fact (by repeat constructor) | exact .own (by repeat constructor) (by decide) (fun _ => rfl) | exact SlIn.body (by repeat constructor) (by assumption)) rfl (by decide)).q ?_ | refine l_q (by decide) (p_indexo Try.underlying29 inf_4 rfl rfl rfl (by omega)).q ?_
 first | (refine l_store inf_4 rfl rfl rfl rfl (by first | decide | exact Nat.le_of_ble_eq_true rfl | (simp; done) | omega | (simp only [Nat.mul_one]; assumption)) ?_) | (refine l_perm (front1 _ _ _) ?_; refine l_store inf_4 rfl rfl rfl rfl (by first | decide | exact Nat.le_of_ble_eq_true rfl | (simp; done) | omega | (simp only [Nat.mul_one]; assumption)) ?_) | (refine l_perm (front2 _ _ _ _) ?_; refine l_store inf_4 rfl rfl rfl rfl (by first | decide | exact Nat.le_of_ble_eq_true rfl | (simp; done) | omega | (simp only [Nat.mul_one]; assumption)) ?_) | (refine l_perm (front3 _ _ _ _ _) ?_; refine l_store inf_4 rfl rfl rfl rfl (by first | decide | exact Nat.le_of_ble_eq_true rfl | (simp; done) | omega | (simp only [Nat.mul_one]; assumption)) ?_) | (refine l_perm (front4 _ _ _ _ _ _) ?_; refine l_store inf_4 rfl rfl rfl rfl (by first | decide | exact Nat.le_of_ble_eq_true rfl | (simp; done) | omega | (simp only [Nat.mul_one]; assumption)) ?_)
 refine l_nil ?_
 refine c_seq ?_
 refine c_seq ?_
 refine c_reg ?_
 refine l_q (by decide) (p_assign rfl).q ?_
 refine l_nil ?_
 refine c_block ?_
 rw [show List.replicate (X.nts.length * (X.terms.length + 1)) (Value.bool false) = (bl (X.g.n * (X.g.t + 1)) (fl (X.g.t + 1) (fun _ _ => false))) from bl_rep _, show ((bl (X.g.n * (X.g.t + 1)) (fl (X.g.t + 1) (fun _ _ => false)))).set (X.g.start.toNat * (X.terms.length + 1) * 1) (.bool true) = _ from bl_set, show Ana.upd (fl (X.g.t + 1) (fun _ _ => false)) (X.g.start.toNat * (X.terms.length + 1)) true = _ from fl_upd (j := 0) (Nat.succ_pos _)]
 refine c_loop (S := MF × Bool) (fun zs => SoundTO X zs.1 ∧ (zs.2 = false → ∀ zz, zz ∈ X.xs → GoodTO X zz zs.1)) (fun zs => 2 * Ana.lack (X.g.n * (X.g.t + 1)) (fl (X.g.t + 1) zs.1) + zs.2.toNat) (fun zs => [(1, .pointer (some ⟨b1, 0, none⟩)), (3, .int .i64 (X.terms.length : Int)), (4, .int .i64 ((X.terms.length + 1 : Nat) : Int)), (5, .slice (some ⟨x22.1, 0, none⟩) X.g.n X.g.n), (6, .slice (some ⟨y24, 0, none⟩) (X.g.n * X.g.t) (X.g.n * X.g.t)), (7, .slice (some ⟨b30, 0, none⟩) (X.nts.length * (X.terms.length + 1)) (X.nts.length * (X.terms.length + 1))), (8, .bool zs.2)]) (fun zs => (iCells b30 4 (bl (X.g.n * (X.g.t + 1)) (fl (X.g.t + 1) (zs.1))) :: iCells b1 25 [.slice X.At X.terms.length X.ct, .slice X.An X.nts.length X.cn, .int .i64 X.start, .slice X.Ar X.xs.length X.cr] :: σ)) (fun zs => [(iCells y24 4 (bl (X.g.n * X.g.t) (fl X.g.t (fiN X)))).holds, Sl 1 boolF (some ⟨x22.1, 0, none⟩) (Ana.mkl X.g.n (nulX X)), Bd X.xs, Sl 3 ruF X.Ar X.xs, Sl 1 strF X.An X.nts, Sl 1 strF X.At X.terms]) (upd2 (fun _ _ => false) X.g.start.toNat 0 true, true) ?_ ?_ ?_ ?_ ?_
 · show SoundTO X (upd2 (fun _ _ => false) X.g.start.toNat 0 true) ∧ ((true) = false → ∀ zz, zz ∈ X.xs → GoodTO X zz (upd2 (fun _ _ => false) X.g.start.toNat 0 true))
   exact ⟨SoundTO.start X, fun h => by cases h⟩
 · exact ⟨rfl, rfl, rfl, rfl, rfl, rfl, rfl, trivial⟩
 · exact .refl _
 · exact fun _ h => h
 rintro ⟨f, ch⟩ hinv
 have hinv : SoundTO X f ∧ (ch = false → ∀ zz, zz ∈ X.xs → GoodTO X zz f) := hinv
 obtain ⟨hI1, hI2⟩ := hinv
 show Cont _ _ _ _ [(1, .pointer (some ⟨b1, 0, none⟩)), (3, .int .i64 (X.terms.length : Int)), (4, .int .i64 ((X.terms.length + 1 : Nat) : Int)), (5, .slice (some ⟨x22.1, 0, none⟩) X.g.n X.g.n), (6, .slice (some ⟨y24, 0, none⟩) (X.g.n * X.g.t) (X.g.n * X.g.t)), (7, .slice (some ⟨b30, 0, none⟩) (X.nts.length * (X.terms.length + 1)) (X.nts.length * (X.terms.length + 1))), (8, .bool ch)] ((iCells b30 4 (bl (X.g.n * (X.g.t + 1)) (fl (X.g.t + 1) (f))) :: iCells b1 25 [.slice X.At X.terms.length X.ct, .slice X.An X.nts.length X.cn, .int .i64 X.start, .slice X.Ar X.xs.length X.cr] :: σ)) [(iCells y24 4 (bl (X.g.n * X.g.t) (fl X.g.t (fiN X)))).holds, Sl 1 boolF (some ⟨x22.1, 0, none⟩) (Ana.mkl X.g.n (nulX X)), Bd X.xs, Sl 3 ruF X.Ar X.xs, Sl 1 strF X.An X.nts, Sl 1 strF X.At X.terms]
 refine c_seq ?_
 refine c_seq ?_
 refine c_reg ?_
 refine l_q (by decide) (p_move rfl).q ?_
 refine l_nil ?_
 first | refine c_dec rfl (fun h37 => ?_) (fun h37 => ?_) | refine c_cond rfl (fun h37 => ?_) (fun h37 => ?_)
 ·skip
  refine c_skip ?_
  refine c_block ?_
  refine c_seq ?_
  refine c_reg ?_
  refine l_q (by decide) (p_assign rfl).q ?_
  refine l_nil ?_
  refine c_seq ?_
  refine c_reg ?_
  refine l_q (by decide) (p_assign (v := .int .i64 ((0 : Nat) : Int)) rfl).q ?_
  refine l_nil ?_
  refine c_block ?_
  refine c_loop (S := Nat × MF × Bool) (fun zs => zs.1 ≤ X.xs.length ∧ SoundTO X zs.2.1 ∧ (zs.2.2 = true → Ana.lack (X.g.n * (X.g.t + 1)) (fl (X.g.t + 1) zs.2.1) < Ana.lack (X.g.n * (X.g.t + 1)) (fl (X.g.t + 1) f)) ∧ (zs.2.2 = false → zs.2.1 = f ∧ ∀ zz, zz ∈ X.xs.take zs.1 → GoodTO X zz zs.2.1)) (fun zs => X.xs.length - zs.1) (fun zs => [(1, .pointer (some ⟨b1, 0, none⟩)), (3, .int .i64 (X.terms.length : Int)), (4, .int .i64 ((X.terms.length + 1 : Nat) : Int)), (5, .slice (some ⟨x22.1, 0, none⟩) X.g.n X.g.n), (6, .slice (some ⟨y24, 0, none⟩) (X.g.n * X.g.t) (X.g.n * X.g.t)), (7, .slice (some ⟨b30, 0, none⟩) (X.nts.length * (X.terms.length + 1)) (X.nts.length * (X.terms.length + 1))), (8, .bool zs.2.2), (9, .int .i64 (zs.1 : Int))]) (fun zs => (iCells b30 4 (bl (X.g.n * (X.g.t + 1)) (fl (X.g.t + 1) (zs.2.1))) :: iCells b1 25 [.slice X.At X.terms.length X.ct, .slice X.An X.nts.length X.cn, .int .i64 X.start, .slice X.Ar X.xs.length X.cr] :: σ)) (fun zs => [(iCells y24 4 (bl (X.g.n * X.g.t) (fl X.g.t (fiN X)))).holds, Sl 1 boolF (some ⟨x22.1, 0, none⟩) (Ana.mkl X.g.n (nulX X)), Bd X.xs, Sl 3 ruF X.Ar X.xs, Sl 1 strF X.An X.nts, Sl 1 strF X.At X.terms]) (0, f, false) ?_ ?_ ?_ ?_ ?_
  · show (0) ≤ X.xs.length ∧ SoundTO X (f) ∧ ((false) = true → Ana.lack (X.g.n * (X.g.t + 1)) (fl (X.g.t + 1) (f)) < Ana.lack (X.g.n * (X.g.t + 1)) (fl (X.g.t + 1) f)) ∧ ((false) = false → (f) = f ∧ ∀ zz, zz ∈ X.xs.take (0) → GoodTO X zz (f))
    exact ⟨Nat.zero_le _, hI1, fun h => (by cases h), fun _ => ⟨rfl, fun x h => absurd h (by simp)⟩⟩
  · exact ⟨rfl, rfl, rfl, rfl, rfl, rfl, rfl, rfl, trivial⟩
  · exact .refl _
  · exact fun _ h => h
  rintro ⟨k, g, cg⟩ hinv
  have hinv : k ≤ X.xs.length ∧ SoundTO X g ∧ (cg = true → Ana.lack (X.g.n * (X.g.t + 1)) (fl (X.g.t + 1) g) < Ana.lack (X.g.n * (X.g.t + 1)) (fl (X.g.t + 1) f)) ∧ (cg = false → g = f ∧ ∀ zz, zz ∈ X.xs.take k → GoodTO X zz g) := hinv
  obtain ⟨hJ1, hJ2, hJ3, hJ4⟩ := hinv
  show Cont _ _ _ _ [(1, .pointer (some ⟨b1, 0, none⟩)), (3, .int .i64 (X.terms.length : Int)), (4, .int .i64 ((X.terms.length + 1 : Nat) : Int)), (5, .slice (some ⟨x22.1, 0, none⟩) X.g.n X.g.n), (6, .slice (some ⟨y24, 0, none⟩) (X.g.n * X.g.t) (X.g.n * X.g.t)), (7, .slice (some ⟨b30, 0, none⟩) (X.nts.length * (X.terms.length + 1)) (X.nts.length * (X.terms.length + 1))), (8, .bool cg), (9, .int .i64 (k : Int))] ((iCells b30 4 (bl (X.g.n * (X.g.t + 1)) (fl (X.g.t + 1) (g))) :: iCells b1 25 [.slice X.At X.terms.length X.ct, .slice X.An X.nts.length X.cn, .int .i64 X.start, .slice X.Ar X.xs.length X.cr] :: σ)) [(iCells y24 4 (bl (X.g.n * X.g.t) (fl X.g.t (fiN X)))).holds, Sl 1 boolF (some ⟨x22.1, 0, none⟩) (Ana.mkl X.g.n (nulX X)), Bd X.xs, Sl 3 ruF X.Ar X.xs, Sl 1 strF X.An X.nts, Sl 1 strF X.At X.terms]
  refine c_seq ?_
  refine c_seq ?_
  refine c_reg ?_
  refine l_q (by decide) (p_move rfl).q ?_
  first | refine l_q (by decide) (p_faddr (i := 3) 3 Try.underlying25 rfl inf_23 (by decide) rfl rfl).q ?_ | refine l_q (by decide) (p_faddro (i := 3) 3 Try.underlying25 rfl inf_23 (by decide) rfl rfl).q ?_
  first | refine l_q (by decide) (r_loado Try.underlying23 rfl rfl (by repeat constructor) (by rfl)).q ?_ | refine l_q (by decide) (r_load1 Try.underlying23 rfl rfl (by first | exact .fact (by repeat constructor) | exact .own (by repeat constructor) (by decide) (fun _ => rfl) | exact SlIn.body (by repeat constructor) (by assumption)) (by first | assumption | rfl) (by rfl)).q ?_ | refine l_q (by decide) (r_loadf Try.underlying23 rfl rfl (by first | exact .fact (by repeat constructor) | exact .own (by repeat constructor) (by decide) (fun _ => rfl) | exact SlIn.body (by repeat constructor) (by assumption)) (by assumption) (by rfl)).q ?_
  refine l_q (by decide) (p_len_sl Try.underlying23 rfl).q ?_
  first | refine l_q (by decide) (p_lss rfl rfl rfl rfl).q ?_ | refine l_q (by decide) (p_lssi rfl rfl).q ?_
  refine l_nil ?_
  first | refine c_dec rfl (fun h42 => ?_) (fun h42 => ?_) | refine c_cond rfl (fun h42 => ?_) (fun h42 => ?_)
  ·skip
   obtain ⟨x, hx⟩ := at_some (l := X.xs) (n := k) (by omega)
   obtain ⟨hh1, hh2⟩ := ok.hd (rule_mem hx)
   have hbl := ok.bl _ (rule_mem hx)
   have hxb := hX.b x (List.mem_of_getElem? hx)
   refine c_skip ?_
   refine c_seq ?_
   refine c_block ?_
   refine c_seq ?_
   refine c_reg ?_
   first | refine l_q (by decide) (p_faddr (i := 3) 3 Try.underlying25 rfl inf_23 (by decide) rfl rfl).q ?_ | refine l_q (by decide) (p_faddro (i := 3) 3 Try.underlying25 rfl inf_23 (by decide) rfl rfl).q ?_
   first | refine l_q (by decide) (r_loado Try.underlying23 rfl rfl (by repeat constructor) (by rfl)).q ?_ | refine l_q (by decide) (r_load1 Try.underlying23 rfl rfl (by first | exact .fact (by repeat constructor) | exact .own (by repeat constructor) (by decide) (fun _ => rfl) | exact SlIn.body (by repeat constructor) (by assumption)) (by first | assumption | rfl) (by rfl)).q ?_ | refine l_q (by decide) (r_loadf Try.underlying23 rfl rfl (by first | exact .fact (by repeat constructor) | exact .own (by repeat constructor) (by decide) (fun _ => rfl) | exact SlIn.body (by repeat constructor) (by assumption)) (by assumption) (by rfl)).q ?_
   refine l_q (by decide) (p_move rfl).q ?_
   first | refine l_q (by decide) (r_index Try.underlying23 inf_41 rfl rfl rfl (by first | exact .fact (by repeat constructor) | exact .own (by repeat constructor) (by decide) (fun _ => rfl) | exact SlIn.body (by repeat constructor) (by assumption)) rfl (by omega)).q ?_ | refine l_q (by decide) (r_index Try.underlying23 inf_41 rfl rfl rfl (by first | exact .fact (by repeat constructor) | exact .own (by repeat constructor) (by decide) (fun _ => rfl) | exact SlIn.body (by repeat constructor) (by assumption)) rfl (by decide)).q ?_ | refine l_q (by decide) (p_indexo Try.underlying23 inf_41 rfl rfl rfl (by omega)).q ?_
   first | refine l_q (by decide) (r_loada Try.underlying41 rfl inf_41 rfl (by first | exact .fact (by repeat constructor) | exact .own (by repeat constructor) (by decide) (fun _ => rfl) | exact SlIn.body (by repeat constructor) (by assumption)) (by assumption)).q ?_ | refine l_q (by decide) (r_loadow Try.underlying41 rfl inf_41 rfl (by repeat constructor) (by rfl)).q ?_ | refine l_q (by decide) (r_loadoa Try.underlying41 rfl inf_41 rfl (by repeat constructor) (by rfl) (fun j u h => h)).q ?_
   refine l_alloc (by decide) inf_41 _ rfl (fun b10 => ?_)
   first | (refine l_storew inf_41 rfl rfl rfl rfl rfl ?_) | (refine l_perm (front1 _ _ _) ?_; refine l_storew inf_41 rfl rfl rfl rfl rfl ?_) | (refine l_perm (front2 _ _ _ _) ?_; refine l_storew inf_41 rfl rfl rfl rfl rfl ?_) | (refine l_perm (front3 _ _ _ _ _) ?_; refine l_storew inf_41 rfl rfl rfl rfl rfl ?_) | (refine l_perm (front4 _ _ _ _ _ _) ?_; refine l_storew inf_41 rfl rfl rfl rfl rfl ?_) | (refine l_storea inf_41 rfl rfl rfl rfl (by decide) ?_) | (refine l_perm (front1 _ _ _) ?_; refine l_storea inf_41 rfl rfl rfl rfl (by decide) ?_) | (refine l_perm (front2 _ _ _ _) ?_; refine l_storea inf_41 rfl rfl rfl rfl (by decide) ?_)
   refine l_nil ?_
   refine c_seq ?_
   refine c_reg ?_
   refine l_q (by decide) (p_assign (v := .int .i64 ((0 : Nat) : Int)) rfl).q ?_
   refine l_nil ?_
   refine c_block ?_
   refine c_loop (S := Nat × MF × Bool) (fun zs => zs.1 ≤ x.r.body.length ∧ SoundTO X zs.2.1 ∧ (zs.2.2 = true → Ana.lack (X.g.n * (X.g.t + 1)) (fl (X.g.t + 1) zs.2.1) < Ana.lack (X.g.n * (X.g.t + 1)) (fl (X.g.t + 1) f)) ∧ (zs.2.2 = false → zs.2.1 = f ∧ cg = false ∧ ∀ p, p < zs.1 → ∀ b, b < X.g.t + 1 → CellO X x p b zs.2.1)) (fun zs => x.r.body.length - zs.1) (fun zs => [(1, .pointer (some ⟨b1, 0, none⟩)), (3, .int .i64 (X.terms.length : Int)), (4, .int .i64 ((X.terms.length + 1 : Nat) : Int)), (5, .slice (some ⟨x22.1, 0, none⟩) X.g.n X.g.n), (6, .slice (some ⟨y24, 0, none⟩) (X.g.n * X.g.t) (X.g.n * X.g.t)), (7, .slice (some ⟨b30, 0, none⟩) (X.nts.length * (X.terms.length + 1)) (X.nts.length * (X.terms.length + 1))), (8, .bool zs.2.2), (9, .int .i64 (k : Int)), (10, .pointer (some ⟨b10, 0, none⟩)), (11, .int .i64 (zs.1 : Int))]) (fun zs => (iCells b10 41 (ruF x) :: iCells b30 4 (bl (X.g.n * (X.g.t + 1)) (fl (X.g.t + 1) (zs.2.1))) :: iCells b1 25 [.slice X.At X.terms.length X.ct, .slice X.An X.nts.length X.cn, .int .i64 X.start, .slice X.Ar X.xs.length X.cr] :: σ)) (fun zs => [(iCells y24 4 (bl (X.g.n * X.g.t) (fl X.g.t (fiN X)))).holds, Sl 1 boolF (some ⟨x22.1, 0, none⟩) (Ana.mkl X.g.n (nulX X)), Bd X.xs, Sl 3 ruF X.Ar X.xs, Sl 1 strF X.An X.nts, Sl 1 strF X.At X.terms]) (0, g, cg) ?_ ?_ ?_ ?_ ?_
   · show (0) ≤ x.r.body.length ∧ SoundTO X (g) ∧ ((cg) = true → Ana.lack (X.g.n * (X.g.t + 1)) (fl (X.g.t + 1) (g)) < Ana.lack (X.g.n * (X.g.t + 1)) (fl (X.g.t + 1) f)) ∧ ((cg) = false → (g) = f ∧ cg = false ∧ ∀ p, p < (0) → ∀ b, b < X.g.t + 1 → CellO X x p b (g))
     exact ⟨Nat.zero_le _, hJ2, hJ3, fun hc => ⟨(hJ4 hc).1, hc, fun p hp => absurd hp (by omega)⟩⟩
   · exact ⟨rfl, rfl, rfl, rfl, rfl, rfl, rfl, rfl, rfl, rfl, trivial⟩
   · exact .refl _
   · exact fun _ h => h
   rintro ⟨j, h0, c2⟩ hinv
   have hinv : j ≤ x.r.body.length ∧ SoundTO X h0 ∧ (c2 = true → Ana.lack (X.g.n * (X.g.t + 1)) (fl (X.g.t + 1) h0) < Ana.lack (X.g.n * (X.g.t + 1)) (fl (X.g.t + 1) f)) ∧ (c2 = false → h0 = f ∧ cg = false ∧ ∀ p, p < j → ∀ b, b < X.g.t + 1 → CellO X x p b h0) := hinv
   obtain ⟨hL1, hL2, hL3, hL4⟩ := hinv
   show Cont _ _ _ _ [(1, .pointer (some ⟨b1, 0, none⟩)), (3, .int .i64 (X.terms.length : Int)), (4, .int .i64 ((X.terms.length + 1 : Nat) : Int)), (5, .slice (some ⟨x22.1, 0, none⟩) X.g.n X.g.n), (6, .slice (some ⟨y24, 0, none⟩) (X.g.n * X.g.t) (X.g.n * X.g.t)), (7, .slice (some ⟨b30, 0, none⟩) (X.nts.length * (X.terms.length + 1)) (X.nts.length * (X.terms.length + 1))), (8, .bool c2), (9, .int .i64 (k : Int)), (10, .pointer (some ⟨b10, 0, none⟩)), (11, .int .i64 (j : Int))] ((iCells b10 41 (ruF x) :: iCells b30 4 (bl (X.g.n * (X.g.t + 1)) (fl (X.g.t + 1) (h0))) :: iCells b1 25 [.slice X.At X.terms.length X.ct, .slice X.An X.nts.length X.cn, .int .i64 X.start, .slice X.Ar X.xs.length X.cr] :: σ)) [(iCells y24 4 (bl (X.g.n * X.g.t) (fl X.g.t (fiN X)))).holds, Sl 1 boolF (some ⟨x22.1, 0, none⟩) (Ana.mkl X.g.n (nulX X)), Bd X.xs, Sl 3 ruF X.Ar X.xs, Sl 1 strF X.An X.nts, Sl 1 strF X.At X.terms]
   refine c_seq ?_
   refine c_seq ?_
   refine c_reg ?_
   refine l_q (by decide) (p_move rfl).q ?_
   first | refine l_q (by decide) (p_faddr (i := 1) 1 Try.underlying41 rfl inf_39 (by decide) rfl rfl).q ?_ | refine l_q (by decide) (p_faddro (i := 1) 1 Try.underlying41 rfl inf_39 (by decide) rfl rfl).q ?_
   first | refine l_q (by decide) (r_loado Try.underlying39 rfl rfl (by repeat constructor) (by rfl)).q ?_ | refine l_q (by decide) (r_load1 Try.underlying39 rfl rfl (by first | exact .fact (by repeat constructor) | exact .own (by repeat constructor) (by decide) (fun _ => rfl) | exact SlIn.body (by repeat constructor) (by assumption)) (by first | assumption | rfl) (by rfl)).q ?_ | refine l_q (by decide) (r_loadf Try.underlying39 rfl rfl (by first | exact .fact (by repeat constructor) | exact .own (by repeat constructor) (by decide) (fun _ => rfl) | exact SlIn.body (by repeat constructor) (by assumption)) (by assumption) (by rfl)).q ?_
   refine l_q (by decide) (p_len_sl Try.underlying39 rfl).q ?_
   first | refine l_q (by decide) (p_lss rfl rfl rfl rfl).q ?_ | refine l_q (by decide) (p_lssi rfl rfl).q ?_
   refine l_nil ?_
   first | refine c_dec rfl (fun h54 => ?_) (fun h54 => ?_) | refine c_cond rfl (fun h54 => ?_) (fun h54 => ?_)
   ·skip
    obtain ⟨y, hy⟩ := at_some (l := x.r.body) (n := j) (by omega)
    have hyb := ok.b0 _ (rule_mem hx) y (List.mem_of_getElem? hy)
    refine c_skip ?_
    refine c_seq ?_
    refine c_block ?_
    refine c_seq ?_
    refine c_seq ?_
    refine c_reg ?_
    first | refine l_q (by decide) (p_faddr (i := 1) 1 Try.underlying41 rfl inf_39 (by decide) rfl rfl).q ?_ | refine l_q (by decide) (p_faddro (i := 1) 1 Try.underlying41 rfl inf_39 (by decide) rfl rfl).q ?_
    first | refine l_q (by decide) (r_loado Try.underlying39 rfl rfl (by repeat constructor) (by rfl)).q ?_ | refine l_q (by decide) (r_load1 Try.underlying39 rfl rfl (by first | exact .fact (by repeat constructor) | exact .own (by repeat constructor) (by decide) (fun _ => rfl) | exact SlIn.body (by repeat constructor) (by assumption)) (by first | assumption | rfl) (by rfl)).q ?_ | refine l_q (by decide) (r_loadf Try.underlying39 rfl rfl (by first | exact .fact (by repeat constructor) | exact .own (by repeat constructor) (by decide) (fun _ => rfl) | exact SlIn.body (by repeat constructor) (by assumption)) (by assumption) (by rfl)).q ?_
    refine l_q (by decide) (p_move rfl).q ?_
    first | refine l_q (by decide) (r_index Try.underlying39 inf_3 rfl rfl rfl (by first | exact .fact (by repeat constructor) | exact .own (by repeat constructor) (by decide) (fun _ => rfl) | exact SlIn.body (by repeat constructor) (by assumption)) rfl (by omega)).q ?_ | refine l_q (by decide) (r_index Try.underlying39 inf_3 rfl rfl rfl (by first | exact .fact (by repeat constructor) | exact .own (by repeat constructor) (by decide) (fun _ => rfl) | exact SlIn.body (by repeat constructor) (by assumption)) rfl (by decide)).q ?_ | refine l_q (by decide) (p_indexo Try.underlying39 inf_3 rfl rfl rfl (by omega)).q ?_
    first | refine l_q (by decide) (r_loado Try.underlying3 rfl rfl (by repeat constructor) (by rfl)).q ?_ | refine l_q (by decide) (r_load1 Try.underlying3 rfl rfl (by first | exact .fact (by repeat constructor) | exact .own (by repeat constructor) (by decide) (fun _ => rfl) | exact SlIn.body (by repeat constructor) (by assumption)) (by first | assumption | rfl) (by rfl)).q ?_ | refine l_q (by decide) (r_loadf Try.underlying3 rfl rfl (by first | exact .fact (by repeat constructor) | exact .own (by repeat constructor) (by decide) (fun _ => rfl) | exact SlIn.body (by repeat constructor) (by assumption)) (by assumption) (by rfl)).q ?_
    first | refine l_q (by decide) (p_geq (j := 0) rfl rfl rfl rfl).q ?_ | refine l_q (by decide) (p_geqi rfl rfl).q ?_
    refine l_nil ?_
    first | refine c_dec rfl (fun h62 => ?_) (fun h62 => ?_) | refine c_cond rfl (fun h62 => ?_) (fun h62 => ?_)
    ·skip
     refine c_exit ?_
     refine c_here ?_
     refine c_reg ?_
     refine l_q (by decide) (p_move rfl).q ?_
     first | refine l_q (by decide) (p_add (j := 1) rfl rfl rfl rfl (by show _ ≤ (9223372036854775807 : Nat); omega)).q ?_ | refine l_q (by decide) (p_addi rfl rfl (by show (-9223372036854775808 : Int) ≤ _; omega) (by show _ ≤ ((9223372036854775807 : Nat) : Int); omega)).q ?_
     refine l_q (by decide) (p_assign rfl).q ?_
     refine l_nil ?_
     refine c_join ((j + 1), (h0), (c2)) ?_ ?_ ?_ ?_
     ·show ((j + 1) ≤ x.r.body.length ∧ SoundTO X (h0) ∧ ((c2) = true → Ana.lack (X.g.n * (X.g.t + 1)) (fl (X.g.t + 1) (h0)) < Ana.lack (X.g.n * (X.g.t + 1)) (fl (X.g.t + 1) f)) ∧ ((c2) = false → (h0) = f ∧ cg = false ∧ ∀ p, p < (j + 1) → ∀ b, b < X.g.t + 1 → CellO X x p b (h0))) ∧ x.r.body.length - (j + 1) < x.r.body.length - j
      refine ⟨⟨by omega, hL2, hL3, fun hc => ⟨(hL4 hc).1, (hL4 hc).2.1, fun p hp b hb => ?_⟩⟩, by omega⟩
      by_cases e : p = j
      · subst e; intro z hz h0 _; rw [hy] at hz; injection hz with hz; omega
      · exact (hL4 hc).2.2 p (by omega) b hb
     · exact ⟨rfl, rfl, rfl, rfl, rfl, rfl, rfl, rfl, rfl, rfl, trivial⟩
     ·show List.Perm _ ((iCells b10 41 (ruF x) :: iCells b30 4 (bl (X.g.n * (X.g.t + 1)) (fl (X.g.t + 1) ((h0)))) :: iCells b1 25 [.slice X.At X.terms.length X.ct, .slice X.An X.nts.length X.cn, .int .i64 X.start, .slice X.Ar X.xs.length X.cr] :: σ))
      exact .refl _
     · exact fun _ h => h
    ·skip
     refine c_skip ?_
     refine c_seq ?_
     have hy0 : y < 0 := by omega
     have hn2 := ok.nt_lt (rule_mem hx) (List.mem_of_getElem? hy) hy0
     have hncs : Ana.nt y = (-1 - y).toNat := rfl
     refine c_reg ?_
     first | refine l_q (by decide) (p_faddr (i := 1) 1 Try.underlying41 rfl inf_39 (by decide) rfl rfl).q ?_ | refine l_q (by decide) (p_faddro (i := 1) 1 Try.underlying41 rfl inf_39 (by decide) rfl rfl).q ?_
     first | refine l_q (by decide) (r_loado Try.underlying39 rfl rfl (by repeat constructor) (by rfl)).q ?_ | refine l_q (by decide) (r_load1 Try.underlying39 rfl rfl (by first | exact .fact (by repeat constructor) | exact .own (by repeat constructor) (by decide) (fun _ => rfl) | exact SlIn.body (by repeat constructor) (by assumption)) (by first | assumption | rfl) (by rfl)).q ?_ | refine l_q (by decide) (r_loadf Try.underlying39 rfl rfl (by first | exact .fact (by repeat constructor) | exact .own (by repeat constructor) (by decide) (fun _ => rfl) | exact SlIn.body (by repeat constructor) (by assumption)) (by assumption) (by rfl)).q ?_
     refine l_q (by decide) (p_move rfl).q ?_
     first | refine l_q (by decide) (r_index Try.underlying39 inf_3 rfl rfl rfl (by first | exact .fact (by repeat constructor) | exact .own (by repeat constructor) (by decide) (fun _ => rfl) | exact SlIn.body (by repeat constructor) (by assumption)) rfl (by omega)).q ?_ | refine l_q (by decide) (r_index Try.underlying39 inf_3 rfl rfl rfl (by first | exact .fact (by repeat constructor) | exact .own (by repeat constructor) (by decide) (fun _ => rfl) | exact SlIn.body (by repeat constructor) (by assumption)) rfl (by decide)).q ?_ | refine l_q (by decide) (p_indexo Try.underlying39 inf_3 rfl rfl rfl (by omega)).q ?_
     first | refine l_q (by decide) (r_loado Try.underlying3 rfl rfl (by repeat constructor) (by rfl)).q ?_ | refine l_q (by decide) (r_load1 Try.underlying3 rfl rfl (by first | exact .fact (by repeat constructor) | exact .own (by repeat constructor) (by decide) (fun _ => rfl) | exact SlIn.body (by repeat constructor) (by assumption)) (by first | assumption | rfl) (by rfl)).q ?_ | refine l_q (by decide) (r_loadf Try.underlying3 rfl rfl (by first | exact .fact (by repeat constructor) | exact .own (by repeat constructor) (by decide) (fun _ => rfl) | exact SlIn.body (by repeat constructor) (by assumption)) (by assumption) (by rfl)).q ?_
     first | refine l_q (by decide) (((p_sub rfl rfl rfl rfl (by omega) (by show _ ≤ (9223372036854775807 : Nat); omega))).to (u := .int .i64 ((Ana.nt y : Nat) : Int)) (by rw [Ana.nt_cast hy0])).q ?_ | refine l_q (by decide) (((p_subi rfl rfl (by show (-9223372036854775808 : Int) ≤ _; omega) (by show _ ≤ ((9223372036854775807 : Nat) : Int); omega))).to (u := .int .i64 ((Ana.nt y : Nat) : Int)) (by rw [Ana.nt_cast hy0])).q ?_
     refine l_q (by decide) (p_assign rfl).q ?_
     refine l_nil ?_
     refine c_seq ?_
     refine c_reg ?_
     refine l_q (by decide) (p_assign (v := .int .i64 ((0 : Nat) : Int)) rfl).q ?_
     refine l_nil ?_
     refine c_block ?_
     refine c_loop (S := Nat × MF × Bool) (fun zs => zs.1 ≤ X.terms.length + 1 ∧ SoundTO X zs.2.1 ∧ (zs.2.2 = true → Ana.lack (X.g.n * (X.g.t + 1)) (fl (X.g.t + 1) zs.2.1) < Ana.lack (X.g.n * (X.g.t + 1)) (fl (X.g.t + 1) f)) ∧ (zs.2.2 = false → zs.2.1 = f ∧ c2 = false ∧ ∀ b2, b2 < zs.1 → CellO X x j b2 zs.2.1)) (fun zs => X.terms.length + 1 - zs.1) (fun zs => [(1, .pointer (some ⟨b1, 0, none⟩)), (3, .int .i64 (X.terms.length : Int)), (4, .int .i64 ((X.terms.length + 1 : Nat) : Int)), (5, .slice (some ⟨x22.1, 0, none⟩) X.g.n X.g.n), (6, .slice (some ⟨y24, 0, none⟩) (X.g.n * X.g.t) (X.g.n * X.g.t)), (7, .slice (some ⟨b30, 0, none⟩) (X.nts.length * (X.terms.length + 1)) (X.nts.length * (X.terms.length + 1))), (8, .bool zs.2.2), (9, .int .i64 (k : Int)), (10, .pointer (some ⟨b10, 0, none⟩)), (11, .int .i64 (j : Int)), (12, .int .i64 ((Ana.nt y : Nat) : Int)), (13, .int .i64 (zs.1 : Int))]) (fun zs => (iCells b10 41 (ruF x) :: iCells b30 4 (bl (X.g.n * (X.g.t + 1)) (fl (X.g.t + 1) (zs.2.1))) :: iCells b1 25 [.slice X.At X.terms.length X.ct, .slice X.An X.nts.length X.cn, .int .i64 X.start, .slice X.Ar X.xs.length X.cr] :: σ)) (fun zs => [(iCells y24 4 (bl (X.g.n * X.g.t) (fl X.g.t (fiN X)))).holds, Sl 1 boolF (some ⟨x22.1, 0, none⟩) (Ana.mkl X.g.n (nulX X)), Bd X.xs, Sl 3 ruF X.Ar X.xs, Sl 1 strF X.An X.nts, Sl 1 strF X.At X.terms]) (0, h0, c2) ?_ ?_ ?_ ?_ ?_
     · show (0) ≤ X.terms.length + 1 ∧ SoundTO X (h0) ∧ ((c2) = true → Ana.lack (X.g.n * (X.g.t + 1)) (fl (X.g.t + 1) (h0)) < Ana.lack (X.g.n * (X.g.t + 1)) (fl (X.g.t + 1) f)) ∧ ((c2) = false → (h0) = f ∧ c2 = false ∧ ∀ b2, b2 < (0) → CellO X x j b2 (h0))
       exact ⟨Nat.zero_le _, hL2, hL3, fun hc => ⟨(hL4 hc).1, hc, fun b hb => absurd hb (by omega)⟩⟩
     · exact ⟨rfl, rfl, rfl, rfl, rfl, rfl, rfl, rfl, rfl, rfl, rfl, rfl, trivial⟩
     · exact .refl _
     · exact fun _ h => h
     rintro ⟨b, h, c3⟩ hinv
     have hinv : b ≤ X.terms.length + 1 ∧ SoundTO X h ∧ (c3 = true → Ana.lack (X.g.n * (X.g.t + 1)) (fl (X.g.t + 1) h) < Ana.lack (X.g.n * (X.g.t + 1)) (fl (X.g.t + 1) f)) ∧ (c3 = false → h = f ∧ c2 = false ∧ ∀ b2, b2 < b → CellO X x j b2 h) := hinv
     obtain ⟨hM1, hM2, hM3, hM4⟩ := hinv
     show Cont _ _ _ _ [(1, .pointer (some ⟨b1, 0, none⟩)), (3, .int .i64 (X.terms.length : Int)), (4, .int .i64 ((X.terms.length + 1 : Nat) : Int)), (5, .slice (some ⟨x22.1, 0, none⟩) X.g.n X.g.n), (6, .slice (some ⟨y24, 0, none⟩) (X.g.n * X.g.t) (X.g.n * X.g.t)), (7, .slice (some ⟨b30, 0, none⟩) (X.nts.length * (X.terms.length + 1)) (X.nts.length * (X.terms.length + 1))), (8, .bool c3), (9, .int .i64 (k : Int)), (10, .pointer (some ⟨b10, 0, none⟩)), (11, .int .i64 (j : Int)), (12, .int .i64 ((Ana.nt y : Nat) : Int)), (13, .int .i64 (b : Int))] ((iCells b10 41 (ruF x) :: iCells b30 4 (bl (X.g.n * (X.g.t + 1)) (fl (X.g.t + 1) (h))) :: iCells b1 25 [.slice X.At X.terms.length X.ct, .slice X.An X.nts.length X.cn, .int .i64 X.start, .slice X.Ar X.xs.length X.cr] :: σ)) [(iCells y24 4 (bl (X.g.n * X.g.t) (fl X.g.t (fiN X)))).holds, Sl 1 boolF (some ⟨x22.1, 0, none⟩) (Ana.mkl X.g.n (nulX X)), Bd X.xs, Sl 3 ruF X.Ar X.xs, Sl 1 strF X.An X.nts, Sl 1 strF X.At X.terms]
     refine c_seq ?_
     refine c_seq ?_
     refine c_reg ?_
     refine l_q (by decide) (p_move rfl).q ?_
     refine l_q (by decide) (p_move rfl).q ?_
     first | refine l_q (by decide) (p_lss rfl rfl rfl rfl).q ?_ | refine l_q (by decide) (p_lssi rfl rfl).q ?_
     refine l_nil ?_
     first | refine c_dec rfl (fun h71 => ?_) (fun h71 => ?_) | refine c_cond rfl (fun h71 => ?_) (fun h71 => ?_)
     ·skip
      have hbw : b < X.g.t + 1 := by show b < X.terms.length + 1; omega
      have hhm : x.r.head.toNat * (X.terms.length + 1) + b < X.nts.length * (X.terms.length + 1) := idx_lt2 hh2 hbw
      have hym : Ana.nt y * (X.terms.length + 1) + b < X.nts.length * (X.terms.length + 1) := idx_lt2 hn2 hbw
      have hkb : (Ana.nt y * (X.terms.length + 1) + b) * 1 < ((bl (X.g.n * (X.g.t + 1)) (fl (X.g.t + 1) h))).length := by rw [bl_len, Nat.mul_one]; exact hym
      refine c_skip ?_
      refine c_seq ?_
      refine c_block ?_
      refine c_seq ?_
      refine c_meetn (S := Unit) (fun zs => True) (fun zs => [(1, .pointer (some ⟨b1, 0, none⟩)), (3, .int .i64 (X.terms.length : Int)), (4, .int .i64 ((X.terms.length + 1 : Nat) : Int)), (5, .slice (some ⟨x22.1, 0, none⟩) X.g.n X.g.n), (6, .slice (some ⟨y24, 0, none⟩) (X.g.n * X.g.t) (X.g.n * X.g.t)), (7, .slice (some ⟨b30, 0, none⟩) (X.nts.length * (X.terms.length + 1)) (X.nts.length * (X.terms.length + 1))), (8, .bool c3), (9, .int .i64 (k : Int)), (10, .pointer (some ⟨b10, 0, none⟩)), (11, .int .i64 (j : Int)), (12, .int .i64 ((Ana.nt y : Nat) : Int)), (13, .int .i64 (b : Int)), (14, .bool (Ana.allG false (nulX X) (x.r.body.drop (j + 1)) && h x.r.head.toNat b))]) (fun zs => (iCells b10 41 (ruF x) :: iCells b30 4 (bl (X.g.n * (X.g.t + 1)) (fl (X.g.t + 1) (h))) :: iCells b1 25 [.slice X.At X.terms.length X.ct, .slice X.An X.nts.length X.cn, .int .i64 X.start, .slice X.Ar X.xs.length X.cr] :: σ)) (fun zs => [(iCells y24 4 (bl (X.g.n * X.g.t) (fl X.g.t (fiN X)))).holds, Sl 1 boolF (some ⟨x22.1, 0, none⟩) (Ana.mkl X.g.n (nulX X)), Bd X.xs, Sl 3 ruF X.Ar X.xs, Sl 1 strF X.An X.nts, Sl 1 strF X.At X.terms]) ?_ ?_
      ·skip
       refine c_body (m := j) (by repeat constructor) hx (by omega) ?_
       refine c_reg ?_
       first | refine l_q (by decide) (p_faddr (i := 1) 1 Try.underlying41 rfl inf_39 (by decide) rfl rfl).q ?_ | refine l_q (by decide) (p_faddro (i := 1) 1 Try.underlying41 rfl inf_39 (by decide) rfl rfl).q ?_
       first | refine l_q (by decide) (r_loado Try.underlying39 rfl rfl (by repeat constructor) (by rfl)).q ?_ | refine l_q (by decide) (r_load1 Try.underlying39 rfl rfl (by first | exact .fact (by repeat constructor) | exact .own (by repeat constructor) (by decide) (fun _ => rfl) | exact SlIn.body (by repeat constructor) (by assumption)) (by first | assumption | rfl) (by rfl)).q ?_ | refine l_q (by decide) (r_loadf Try.underlying39 rfl rfl (by first | exact .fact (by repeat constructor) | exact .own (by repeat constructor) (by decide) (fun _ => rfl) | exact SlIn.body (by repeat constructor) (by assumption)) (by assumption) (by rfl)).q ?_
       refine l_q (by decide) (p_move rfl).q ?_
       first | refine l_q (by decide) (p_add (j := 1) rfl rfl rfl rfl (by show _ ≤ (9223372036854775807 : Nat); omega)).q ?_ | refine l_q (by decide) (p_addi rfl rfl (by show (-9223372036854775808 : Int) ≤ _; omega) (by show _ ≤ ((9223372036854775807 : Nat) : Int); omega)).q ?_
       first | refine l_q (by decide) (p_part_l Try.underlying39 inf_3 rfl rfl rfl (by omega)).q ?_ | refine l_q (by decide) (p_slices_l Try.underlying39 inf_3 rfl rfl rfl (by omega)).q ?_
       refine l_q (by decide) (p_move rfl).q ?_
       refine l_q (by decide) (q_call call_40 rfl (fun w hs => rall_ok (subA x.A x.c (j + 1) 1) (some ⟨x22.1, 0, none⟩) (x.c - (j + 1)) X.g.n (x.r.body.drop (j + 1)) X.g.n (nulX X) false (by simp only [List.length_take, List.length_drop]; omega) (by show X.nts.length ≤ 1000; omega) (fun z hz h0 => ok.nt_lt (rule_mem hx) (List.mem_of_mem_drop hz) h0) w (hs.facts _ (by repeat constructor)).1 (hs.facts _ (by repeat constructor)).1)) ?_
       refine l_q (by decide) (p_move rfl).q ?_
       first | refine l_splitd (t := 81) rfl (fun h81 => ?_) (fun h81 => ?_) | refine l_splitb (t := 81) rfl (fun h81 => ?_) (fun h81 => ?_)
       ·skip
        refine l_g (j := 7) rfl rfl (by decide) (p_move rfl).q ?_
        first | refine l_g (j := 7) rfl rfl (by decide) (p_faddr (i := 0) 0 Try.underlying41 rfl inf_3 (by decide) rfl rfl).q ?_ | refine l_g (j := 7) rfl rfl (by decide) (p_faddro (i := 0) 0 Try.underlying41 rfl inf_3 (by decide) rfl rfl).q ?_
        first | refine l_g (j := 7) rfl rfl (by decide) (((r_loado Try.underlying3 rfl rfl (by repeat constructor) (by rfl))).to (u := .int .i64 ((x.r.head.toNat : Nat) : Int)) (by rw [hh1])).q ?_ | refine l_g (j := 7) rfl rfl (by decide) (((r_load1 Try.underlying3 rfl rfl (by first | exact .fact (by repeat constructor) | exact .own (by repeat constructor) (by decide) (fun _ => rfl) | exact SlIn.body (by repeat constructor) (by assumption)) (by first | assumption | rfl) (by rfl))).to (u := .int .i64 ((x.r.head.toNat : Nat) : Int)) (by rw [hh1])).q ?_ | refine l_g (j := 7) rfl rfl (by decide) (((r_loadf Try.underlying3 rfl rfl (by first | exact .fact (by repeat constructor) | exact .own (by repeat constructor) (by decide) (fun _ => rfl) | exact SlIn.body (by repeat constructor) (by assumption)) (by assumption) (by rfl))).to (u := .int .i64 ((x.r.head.toNat : Nat) : Int)) (by rw [hh1])).q ?_
        refine l_g (j := 7) rfl rfl (by decide) (p_move rfl).q ?_
        refine l_g (j := 7) rfl rfl (by decide) (p_mul rfl rfl rfl rfl (by show _ ≤ (9223372036854775807 : Nat); omega)).q ?_
        refine l_g (j := 7) rfl rfl (by decide) (p_move rfl).q ?_
        first | refine l_g (j := 7) rfl rfl (by decide) (p_add rfl rfl rfl rfl (by show _ ≤ (9223372036854775807 : Nat); omega)).q ?_ | refine l_g (j := 7) rfl rfl (by decide) (p_addi rfl rfl (by show (-9223372036854775808 : Int) ≤ _; omega) (by show _ ≤ ((9223372036854775807 : Nat) : Int); omega)).q ?_
        first | refine l_g (j := 7) rfl rfl (by decide) (r_index Try.underlying29 inf_4 rfl rfl rfl (by first | exact .fact (by repeat constructor) | exact .own (by repeat constructor) (by decide) (fun _ => rfl) | exact SlIn.body (by repeat constructor) (by assumption)) rfl (by omega)).q ?_ | refine l_g (j := 7) rfl rfl (by decide) (r_index Try.underlying29 inf_4 rfl rfl rfl (by first | exact .fact (by repeat constructor) | exact .own (by repeat constructor) (by decide) (fun _ => rfl) | exact SlIn.body (by repeat constructor) (by assumption)) rfl (by decide)).q ?_ | refine l_g (j := 7) rfl rfl (by decide) (p_indexo Try.underlying29 inf_4 rfl rfl rfl (by omega)).q ?_
        refine l_g (j := 7) rfl rfl (by decide) (((r_loado Try.underlying4 rfl rfl (by repeat constructor) (bl_at (idx_lt2 hh2 hbw)))).to (u := .bool (h x.r.head.toNat b)) (by rw [fl_at hbw])).q ?_
        refine l_q (by decide) (p_pick rfl rfl).q ?_
        refine l_q (by decide) (p_assign rfl).q ?_
        refine l_nil ?_
        refine c_join (()) ?inv ?sub ?perm ?facts
        case sub => exact ⟨rfl, rfl, rfl, rfl, rfl, rfl, rfl, rfl, rfl, rfl, rfl, rfl, ((by show some _ = some _; rw [h81, Bool.true_and])), trivial⟩
        case perm =>
         exact .refl _
        case facts => exact fun _ h => List.mem_cons_of_mem _ (List.mem_cons_of_mem _ h)
        case inv =>
         trivial
       ·skip
        refine l_off (j := 7) rfl rfl (by first | (simp; done) | (simp [undef]; done)) (by decide) ?_
        refine l_off (j := 7) rfl rfl (by first | (simp; done) | (simp [undef]; done)) (by decide) ?_
        refine l_off (j := 7) rfl rfl (by first | (simp; done) | (simp [undef]; done)) (by decide) ?_
        refine l_off (j := 7) rfl rfl (by first | (simp; done) | (simp [undef]; done)) (by decide) ?_
        refine l_off (j := 7) rfl rfl (by first | (simp; done) | (simp [undef]; done)) (by decide) ?_
        refine l_off (j := 7) rfl rfl (by first | (simp; done) | (simp [undef]; done)) (by decide) ?_
        refine l_off (j := 7) rfl rfl (by first | (simp; done) | (simp [undef]; done)) (by decide) ?_
        refine l_off (j := 7) rfl rfl (by first | (simp; done) | (simp [undef]; done)) (by decide) ?_
        refine l_off (j := 7) rfl rfl (by first | (simp; done) | (simp [undef]; done)) (by decide) ?_
        refine l_q (by decide) (p_pick rfl rfl).q ?_
        refine l_q (by decide) (p_assign rfl).q ?_
        refine l_nil ?_
        refine c_join (()) ?inv ?sub ?perm ?facts
        case sub => exact ⟨rfl, rfl, rfl, rfl, rfl, rfl, rfl, rfl, rfl, rfl, rfl, rfl, ((by show some _ = some _; rw [h81, Bool.false_and])), trivial⟩
        case perm =>
         exact .refl _
        case facts => exact fun _ h => List.mem_cons_of_mem _ (List.mem_cons_of_mem _ h)
        case inv =>
         trivial
      rintro uu hmeet
      show Cont _ _ _ _ [(1, .pointer (some ⟨b1, 0, none⟩)), (3, .int .i64 (X.terms.length : Int)), (4, .int .i64 ((X.terms.length + 1 : Nat) : Int)), (5, .slice (some ⟨x22.1, 0, none⟩) X.g.n X.g.n), (6, .slice (some ⟨y24, 0, none⟩) (X.g.n * X.g.t) (X.g.n * X.g.t)), (7, .slice (some ⟨b30, 0, none⟩) (X.nts.length * (X.terms.length + 1)) (X.nts.length * (X.terms.length + 1))), (8, .bool c3), (9, .int .i64 (k : Int)), (10, .pointer (some ⟨b10, 0, none⟩)), (11, .int .i64 (j : Int)), (12, .int .i64 ((Ana.nt y : Nat) : Int)), (13, .int .i64 (b : Int)), (14, .bool (Ana.allG false (nulX X) (x.r.body.drop (j + 1)) && h x.r.head.toNat b))] ((iCells b10 41 (ruF x) :: iCells b30 4 (bl (X.g.n * (X.g.t + 1)) (fl (X.g.t + 1) (h))) :: iCells b1 25 [.slice X.At X.terms.length X.ct, .slice X.An X.nts.length X.cn, .int .i64 X.start, .slice X.Ar X.xs.length X.cr] :: σ)) [(iCells y24 4 (bl (X.g.n * X.g.t) (fl X.g.t (fiN X)))).holds, Sl 1 boolF (some ⟨x22.1, 0, none⟩) (Ana.mkl X.g.n (nulX X)), Bd X.xs, Sl 3 ruF X.Ar X.xs, Sl 1 strF X.An X.nts, Sl 1 strF X.At X.terms]
      refine c_seq ?_
      refine c_seq ?_
      refine c_reg ?_
      refine l_q (by decide) (p_move rfl).q ?_
      first | refine l_q (by decide) (p_add (j := 1) rfl rfl rfl rfl (by show _ ≤ (9223372036854775807 : Nat); omega)).q ?_ | refine l_q (by decide) (p_addi rfl rfl (by show (-9223372036854775808 : Int) ≤ _; omega) (by show _ ≤ ((9223372036854775807 : Nat) : Int); omega)).q ?_
      refine l_q (by decide) (p_assign rfl).q ?_
      refine l_nil ?_
      refine c_block ?_
      refine c_loop (S := Nat × Bool) (fun zs => j + 1 + zs.1 ≤ x.r.body.length ∧ InnI X x j b h zs.1 zs.2) (fun zs => x.r.body.length - zs.1) (fun zs => [(1, .pointer (some ⟨b1, 0, none⟩)), (3, .int .i64 (X.terms.length : Int)), (4, .int .i64 ((X.terms.length + 1 : Nat) : Int)), (5, .slice (some ⟨x22.1, 0, none⟩) X.g.n X.g.n), (6, .slice (some ⟨y24, 0, none⟩) (X.g.n * X.g.t) (X.g.n * X.g.t)), (7, .slice (some ⟨b30, 0, none⟩) (X.nts.length * (X.terms.length + 1)) (X.nts.length * (X.terms.length + 1))), (8, .bool c3), (9, .int .i64 (k : Int)), (10, .pointer (some ⟨b10, 0, none⟩)), (11, .int .i64 (j : Int)), (12, .int .i64 ((Ana.nt y : Nat) : Int)), (13, .int .i64 (b : Int)), (14, .bool zs.2), (15, .int .i64 ((j + 1 + zs.1 : Nat) : Int))]) (fun zs => (iCells b10 41 (ruF x) :: iCells b30 4 (bl (X.g.n * (X.g.t + 1)) (fl (X.g.t + 1) (h))) :: iCells b1 25 [.slice X.At X.terms.length X.ct, .slice X.An X.nts.length X.cn, .int .i64 X.start, .slice X.Ar X.xs.length X.cr] :: σ)) (fun zs => [(iCells y24 4 (bl (X.g.n * X.g.t) (fl X.g.t (fiN X)))).holds, Sl 1 boolF (some ⟨x22.1, 0, none⟩) (Ana.mkl X.g.n (nulX X)), Bd X.xs, Sl 3 ruF X.Ar X.xs, Sl 1 strF X.An X.nts, Sl 1 strF X.At X.terms]) (0, Ana.allG false (nulX X) (x.r.body.drop (j + 1)) && h x.r.head.toNat b) ?_ ?_ ?_ ?_ ?_
      · show j + 1 + (0) ≤ x.r.body.length ∧ InnI X x j b h (0) (Ana.allG false (nulX X) (x.r.body.drop (j + 1)) && h x.r.head.toNat b)
        exact ⟨by omega, InnI.zero⟩
      · exact ⟨rfl, rfl, rfl, rfl, rfl, rfl, rfl, rfl, rfl, rfl, rfl, rfl, rfl, rfl, trivial⟩
      · exact .refl _
      · exact fun _ h => h
      rintro ⟨m, u⟩ hinv
      have hinv : j + 1 + m ≤ x.r.body.length ∧ InnI X x j b h m u := hinv
      obtain ⟨hN1, hN2⟩ := hinv
      show Cont _ _ _ _ [(1, .pointer (some ⟨b1, 0, none⟩)), (3, .int .i64 (X.terms.length : Int)), (4, .int .i64 ((X.terms.length + 1 : Nat) : Int)), (5, .slice (some ⟨x22.1, 0, none⟩) X.g.n X.g.n), (6, .slice (some ⟨y24, 0, none⟩) (X.g.n * X.g.t) (X.g.n * X.g.t)), (7, .slice (some ⟨b30, 0, none⟩) (X.nts.length * (X.terms.length + 1)) (X.nts.length * (X.terms.length + 1))), (8, .bool c3), (9, .int .i64 (k : Int)), (10, .pointer (some ⟨b10, 0, none⟩)), (11, .int .i64 (j : Int)), (12, .int .i64 ((Ana.nt y : Nat) : Int)), (13, .int .i64 (b : Int)), (14, .bool u), (15, .int .i64 ((j + 1 + m : Nat) : Int))] ((iCells b10 41 (ruF x) :: iCells b30 4 (bl (X.g.n * (X.g.t + 1)) (fl (X.g.t + 1) (h))) :: iCells b1 25 [.slice X.At X.terms.length X.ct, .slice X.An X.nts.length X.cn, .int .i64 X.start, .slice X.Ar X.xs.length X.cr] :: σ)) [(iCells y24 4 (bl (X.g.n * X.g.t) (fl X.g.t (fiN X)))).holds, Sl 1 boolF (some ⟨x22.1, 0, none⟩) (Ana.mkl X.g.n (nulX X)), Bd X.xs, Sl 3 ruF X.Ar X.xs, Sl 1 strF X.An X.nts, Sl 1 strF X.At X.terms]
      refine c_seq ?_
      refine c_seq ?_
      refine c_meetn (S := Unit) (fun zs => True) (fun zs => [(1, .pointer (some ⟨b1, 0, none⟩)), (3, .int .i64 (X.terms.length : Int)), (4, .int .i64 ((X.terms.length + 1 : Nat) : Int)), (5, .slice (some ⟨x22.1, 0, none⟩) X.g.n X.g.n), (6, .slice (some ⟨y24, 0, none⟩) (X.g.n * X.g.t) (X.g.n * X.g.t)), (7, .slice (some ⟨b30, 0, none⟩) (X.nts.length * (X.terms.length + 1)) (X.nts.length * (X.terms.length + 1))), (8, .bool c3), (9, .int .i64 (k : Int)), (10, .pointer (some ⟨b10, 0, none⟩)), (11, .int .i64 (j : Int)), (12, .int .i64 ((Ana.nt y : Nat) : Int)), (13, .int .i64 (b : Int)), (14, .bool u), (15, .int .i64 ((j + 1 + m : Nat) : Int)), (112, .bool ((decide (j + 1 + m < x.r.body.length) && decide (0 < b)) && Ana.allG false (nulX X) ((x.r.body.drop (j + 1)).take m)))]) (fun zs => (iCells b10 41 (ruF x) :: iCells b30 4 (bl (X.g.n * (X.g.t + 1)) (fl (X.g.t + 1) (h))) :: iCells b1 25 [.slice X.At X.terms.length X.ct, .slice X.An X.nts.length X.cn, .int .i64 X.start, .slice X.Ar X.xs.length X.cr] :: σ)) (fun zs => [(iCells y24 4 (bl (X.g.n * X.g.t) (fl X.g.t (fiN X)))).holds, Sl 1 boolF (some ⟨x22.1, 0, none⟩) (Ana.mkl X.g.n (nulX X)), Bd X.xs, Sl 3 ruF X.Ar X.xs, Sl 1 strF X.An X.nts, Sl 1 strF X.At X.terms]) ?_ ?_
      ·skip
       refine c_facts (Sl 1 intF x.A x.r.body :: [(iCells y24 4 (bl (X.g.n * X.g.t) (fl X.g.t (fiN X)))).holds, Sl 1 boolF (some ⟨x22.1, 0, none⟩) (Ana.mkl X.g.n (nulX X)), Bd X.xs, Sl 3 ruF X.Ar X.xs, Sl 1 strF X.An X.nts, Sl 1 strF X.At X.terms]) (fun w hs => st_body hs (by repeat constructor) hx) ?_
       refine c_part Try.prog x.c (j + 1) (j + 1 + m - (j + 1)) (List.mem_cons_self ..) (by omega) (by decide) ?_
       refine c_reg ?_
       refine l_q (by decide) (p_move rfl).q ?_
       first | refine l_q (by decide) (p_faddr (i := 1) 1 Try.underlying41 rfl inf_39 (by decide) rfl rfl).q ?_ | refine l_q (by decide) (p_faddro (i := 1) 1 Try.underlying41 rfl inf_39 (by decide) rfl rfl).q ?_
       first | refine l_q (by decide) (r_loado Try.underlying39 rfl rfl (by repeat constructor) (by rfl)).q ?_ | refine l_q (by decide) (r_load1 Try.underlying39 rfl rfl (by first | exact .fact (by repeat constructor) | exact .own (by repeat constructor) (by decide) (fun _ => rfl) | exact SlIn.body (by repeat constructor) (by assumption)) (by first | assumption | rfl) (by rfl)).q ?_ | refine l_q (by decide) (r_loadf Try.underlying39 rfl rfl (by first | exact .fact (by repeat constructor) | exact .own (by repeat constructor) (by decide) (fun _ => rfl) | exact SlIn.body (by repeat constructor) (by assumption)) (by assumption) (by rfl)).q ?_
       refine l_q (by decide) (p_len_sl Try.underlying39 rfl).q ?_
       first | refine l_q (by decide) (p_lss rfl rfl rfl rfl).q ?_ | refine l_q (by decide) (p_lssi rfl rfl).q ?_
       refine l_q (by decide) (p_move rfl).q ?_
       first | refine l_splitd (t := 99) rfl (fun h99 => ?_) (fun h99 => ?_) | refine l_splitb (t := 99) rfl (fun h99 => ?_) (fun h99 => ?_)
       ·skip
        refine l_g (j := 5) rfl rfl (by decide) (p_move rfl).q ?_
        first | refine l_g (j := 5) rfl rfl (by decide) (p_gtr (j := 0) rfl rfl rfl rfl).q ?_ | refine l_g (j := 5) rfl rfl (by decide) (p_gtri rfl rfl).q ?_
        refine l_q (by decide) (p_pick rfl rfl).q ?_
        refine l_q (by decide) (p_move rfl).q ?_
        first | refine l_splitd (t := 103) rfl (fun h103 => ?_) (fun h103 => ?_) | refine l_splitb (t := 103) rfl (fun h103 => ?_) (fun h103 => ?_)
        ·skip
         first | refine l_g (j := 9) rfl rfl (by decide) (p_faddr (i := 1) 1 Try.underlying41 rfl inf_39 (by decide) rfl rfl).q ?_ | refine l_g (j := 9) rfl rfl (by decide) (p_faddro (i := 1) 1 Try.underlying41 rfl inf_39 (by decide) rfl rfl).q ?_
         first | refine l_g (j := 9) rfl rfl (by decide) (r_loado Try.underlying39 rfl rfl (by repeat constructor) (by rfl)).q ?_ | refine l_g (j := 9) rfl rfl (by decide) (r_load1 Try.underlying39 rfl rfl (by first | exact .fact (by repeat constructor) | exact .own (by repeat constructor) (by decide) (fun _ => rfl) | exact SlIn.body (by repeat constructor) (by assumption)) (by first | assumption | rfl) (by rfl)).q ?_ | refine l_g (j := 9) rfl rfl (by decide) (r_loadf Try.underlying39 rfl rfl (by first | exact .fact (by repeat constructor) | exact .own (by repeat constructor) (by decide) (fun _ => rfl) | exact SlIn.body (by repeat constructor) (by assumption)) (by assumption) (by rfl)).q ?_
         refine l_g (j := 9) rfl rfl (by decide) (p_move rfl).q ?_
         first | refine l_g (j := 9) rfl rfl (by decide) (p_add (j := 1) rfl rfl rfl rfl (by show _ ≤ (9223372036854775807 : Nat); omega)).q ?_ | refine l_g (j := 9) rfl rfl (by decide) (p_addi rfl rfl (by show (-9223372036854775808 : Int) ≤ _; omega) (by show _ ≤ ((9223372036854775807 : Nat) : Int); omega)).q ?_
         refine l_g (j := 9) rfl rfl (by decide) (p_move rfl).q ?_
         first | refine l_g (j := 9) rfl rfl (by decide) (p_part_lh Try.underlying39 inf_3 rfl rfl rfl rfl rfl (by omega) (by omega) (by omega)).q ?_ | refine l_g (j := 9) rfl rfl (by decide) (p_slices_lh Try.underlying39 inf_3 rfl rfl rfl rfl rfl (by omega) (by omega)).q ?_
         refine l_g (j := 9) rfl rfl (by decide) (p_move rfl).q ?_
         refine l_g (j := 9) rfl rfl (by decide) (q_call call_40 rfl (fun w hs => rall_ok (subA x.A x.c (j + 1) 1) (some ⟨x22.1, 0, none⟩) (x.c - (j + 1)) X.g.n ((x.r.body.drop (j + 1)).take (j + 1 + m - (j + 1))) X.g.n (nulX X) false (by simp only [List.length_take, List.length_drop]; omega) (by show X.nts.length ≤ 1000; omega) (fun z hz h0 => ok.nt_lt (rule_mem hx) (List.mem_of_mem_drop (List.mem_of_mem_take hz)) h0) w (hs.facts _ (by repeat constructor)).1 (hs.facts _ (by repeat constructor)).1)) ?_
         refine l_q (by decide) (p_pick rfl rfl).q ?_
         refine l_nil ?_
         refine c_join (()) ?inv ?sub ?perm ?facts
         case sub => exact ⟨rfl, rfl, rfl, rfl, rfl, rfl, rfl, rfl, rfl, rfl, rfl, rfl, rfl, rfl, ((by show some _ = some _; rw [decide_eq_true h99, decide_eq_true h103, show j + 1 + m - (j + 1) = m by omega]; rfl)), trivial⟩
         case perm =>
          exact .refl _
         case facts => exact fun _ h => List.mem_cons_of_mem _ (List.mem_cons_of_mem _ h)
         case inv =>
          trivial
        ·skip
         refine l_off (j := 9) rfl rfl (by first | (simp; done) | (simp [undef]; done)) (by decide) ?_
         refine l_off (j := 9) rfl rfl (by first | (simp; done) | (simp [undef]; done)) (by decide) ?_
         refine l_off (j := 9) rfl rfl (by first | (simp; done) | (simp [undef]; done)) (by decide) ?_
         refine l_off (j := 9) rfl rfl (by first | (simp; done) | (simp [undef]; done)) (by decide) ?_
         refine l_off (j := 9) rfl rfl (by first | (simp; done) | (simp [undef]; done)) (by decide) ?_
         refine l_off (j := 9) rfl rfl (by first | (simp; done) | (simp [undef]; done)) (by decide) ?_
         refine l_off (j := 9) rfl rfl (by first | (simp; done) | (simp [undef]; done)) (by decide) ?_
         refine l_off (j := 9) rfl rfl (by first | (simp; done) | (simp [undef]; done)) (by decide) ?_
         refine l_q (by decide) (p_pick rfl rfl).q ?_
         refine l_nil ?_
         refine c_join (()) ?inv ?sub ?perm ?facts
         case sub => exact ⟨rfl, rfl, rfl, rfl, rfl, rfl, rfl, rfl, rfl, rfl, rfl, rfl, rfl, rfl, ((by show some _ = some _; rw [decide_eq_true h99, decide_eq_false h103]; rfl)), trivial⟩
         case perm =>
          exact .refl _
         case facts => exact fun _ h => List.mem_cons_of_mem _ (List.mem_cons_of_mem _ h)
         case inv =>
          trivial
       ·skip
        refine l_off (j := 5) rfl rfl (by first | (simp; done) | (simp [undef]; done)) (by decide) ?_
        refine l_off (j := 5) rfl rfl (by first | (simp; done) | (simp [undef]; done)) (by decide) ?_
        refine l_q (by decide) (p_pick rfl rfl).q ?_
        refine l_q (by decide) (p_move rfl).q ?_
        refine l_off (j := 9) rfl rfl (by first | (simp; done) | (simp [undef]; done)) (by decide) ?_
        refine l_off (j := 9) rfl rfl (by first | (simp; done) | (simp [undef]; done)) (by decide) ?_
        refine l_off (j := 9) rfl rfl (by first | (simp; done) | (simp [undef]; done)) (by decide) ?_
        refine l_off (j := 9) rfl rfl (by first | (simp; done) | (simp [undef]; done)) (by decide) ?_
        refine l_off (j := 9) rfl rfl (by first | (simp; done) | (simp [undef]; done)) (by decide) ?_
        refine l_off (j := 9) rfl rfl (by first | (simp; done) | (simp [undef]; done)) (by decide) ?_
        refine l_off (j := 9) rfl rfl (by first | (simp; done) | (simp [undef]; done)) (by decide) ?_
        refine l_off (j := 9) rfl rfl (by first | (simp; done) | (simp [undef]; done)) (by decide) ?_
        refine l_q (by decide) (p_pick rfl rfl).q ?_
        refine l_nil ?_
        refine c_join (()) ?inv ?sub ?perm ?facts
        case sub => exact ⟨rfl, rfl, rfl, rfl, rfl, rfl, rfl, rfl, rfl, rfl, rfl, rfl, rfl, rfl, ((by show some _ = some _; rw [decide_eq_false h99]; rfl)), trivial⟩
        case perm =>
         exact .refl _
        case facts => exact fun _ h => List.mem_cons_of_mem _ (List.mem_cons_of_mem _ h)
        case inv =>
         trivial
      rintro uu hmeet
      show Cont _ _ _ _ [(1, .pointer (some ⟨b1, 0, none⟩)), (3, .int .i64 (X.terms.length : Int)), (4, .int .i64 ((X.terms.length + 1 : Nat) : Int)), (5, .slice (some ⟨x22.1, 0, none⟩) X.g.n X.g.n), (6, .slice (some ⟨y24, 0, none⟩) (X.g.n * X.g.t) (X.g.n * X.g.t)), (7, .slice (some ⟨b30, 0, none⟩) (X.nts.length * (X.terms.length + 1)) (X.nts.length * (X.terms.length + 1))), (8, .bool c3), (9, .int .i64 (k : Int)), (10, .pointer (some ⟨b10, 0, none⟩)), (11, .int .i64 (j : Int)), (12, .int .i64 ((Ana.nt y : Nat) : Int)), (13, .int .i64 (b : Int)), (14, .bool u), (15, .int .i64 ((j + 1 + m : Nat) : Int)), (112, .bool ((decide (j + 1 + m < x.r.body.length) && decide (0 < b)) && Ana.allG false (nulX X) ((x.r.body.drop (j + 1)).take m)))] ((iCells b10 41 (ruF x) :: iCells b30 4 (bl (X.g.n * (X.g.t + 1)) (fl (X.g.t + 1) (h))) :: iCells b1 25 [.slice X.At X.terms.length X.ct, .slice X.An X.nts.length X.cn, .int .i64 X.start, .slice X.Ar X.xs.length X.cr] :: σ)) [(iCells y24 4 (bl (X.g.n * X.g.t) (fl X.g.t (fiN X)))).holds, Sl 1 boolF (some ⟨x22.1, 0, none⟩) (Ana.mkl X.g.n (nulX X)), Bd X.xs, Sl 3 ruF X.Ar X.xs, Sl 1 strF X.An X.nts, Sl 1 strF X.At X.terms]
      first | refine c_dec rfl (fun h112 => ?_) (fun h112 => ?_) | refine c_cond rfl (fun h112 => ?_) (fun h112 => ?_)
      ·skip
       obtain ⟨⟨hm1, hb0⟩, hcn⟩ : (j + 1 + m < x.r.body.length ∧ 0 < b) ∧ Ana.allG false (nulX X) ((x.r.body.drop (j + 1)).take m) = true := by simpa using h112
       obtain ⟨z, hz⟩ := at_some (l := x.r.body) (n := j + 1 + m) (by omega)
       have hzb := ok.b0 _ (rule_mem hx) z (List.mem_of_getElem? hz)
       refine c_skip ?_
       refine c_seq ?_
       refine c_block ?_
       refine c_meetn (S := Bool) (fun zs => zs = true ↔ u = true ∨ cellv X z b) (fun zs => [(1, .pointer (some ⟨b1, 0, none⟩)), (3, .int .i64 (X.terms.length : Int)), (4, .int .i64 ((X.terms.length + 1 : Nat) : Int)), (5, .slice (some ⟨x22.1, 0, none⟩) X.g.n X.g.n), (6, .slice (some ⟨y24, 0, none⟩) (X.g.n * X.g.t) (X.g.n * X.g.t)), (7, .slice (some ⟨b30, 0, none⟩) (X.nts.length * (X.terms.length + 1)) (X.nts.length * (X.terms.length + 1))), (8, .bool c3), (9, .int .i64 (k : Int)), (10, .pointer (some ⟨b10, 0, none⟩)), (11, .int .i64 (j : Int)), (12, .int .i64 ((Ana.nt y : Nat) : Int)), (13, .int .i64 (b : Int)), (14, .bool zs), (15, .int .i64 ((j + 1 + m : Nat) : Int))]) (fun zs => (iCells b10 41 (ruF x) :: iCells b30 4 (bl (X.g.n * (X.g.t + 1)) (fl (X.g.t + 1) (h))) :: iCells b1 25 [.slice X.At X.terms.length X.ct, .slice X.An X.nts.length X.cn, .int .i64 X.start, .slice X.Ar X.xs.length X.cr] :: σ)) (fun zs => [(iCells y24 4 (bl (X.g.n * X.g.t) (fl X.g.t (fiN X)))).holds, Sl 1 boolF (some ⟨x22.1, 0, none⟩) (Ana.mkl X.g.n (nulX X)), Bd X.xs, Sl 3 ruF X.Ar X.xs, Sl 1 strF X.An X.nts, Sl 1 strF X.At X.terms]) ?_ ?_
       ·skip
        refine c_reg ?_
        refine l_q (by decide) (p_move rfl).q ?_
        refine l_q (by decide) (p_move rfl).q ?_
        first | refine l_splitd (t := 116) rfl (fun h116 => ?_) (fun h116 => ?_) | refine l_splitb (t := 116) rfl (fun h116 => ?_) (fun h116 => ?_)
        ·skip
         refine l_off (j := 1) rfl rfl (by first | (simp; done) | (simp [undef]; done)) (by decide) ?_
         refine l_off (j := 1) rfl rfl (by first | (simp; done) | (simp [undef]; done)) (by decide) ?_
         refine l_off (j := 1) rfl rfl (by first | (simp; done) | (simp [undef]; done)) (by decide) ?_
         refine l_off (j := 1) rfl rfl (by first | (simp; done) | (simp [undef]; done)) (by decide) ?_
         refine l_off (j := 1) rfl rfl (by first | (simp; done) | (simp [undef]; done)) (by decide) ?_
         refine l_off (j := 1) rfl rfl (by first | (simp; done) | (simp [undef]; done)) (by decide) ?_
         refine l_off (j := 1) rfl rfl (by first | (simp; done) | (simp [undef]; done)) (by decide) ?_
         refine l_off (j := 1) rfl rfl (by first | (simp; done) | (simp [undef]; done)) (by decide) ?_
         refine l_q (by decide) (p_pick rfl rfl).q ?_
         refine l_q (by decide) (p_move rfl).q ?_
         refine l_off (j := 11) rfl rfl (by first | (simp; done) | (simp [undef]; done)) (by decide) ?_
         refine l_off (j := 11) rfl rfl (by first | (simp; done) | (simp [undef]; done)) (by decide) ?_
         refine l_off (j := 11) rfl rfl (by first | (simp; done) | (simp [undef]; done)) (by decide) ?_
         refine l_off (j := 11) rfl rfl (by first | (simp; done) | (simp [undef]; done)) (by decide) ?_
         refine l_off (j := 11) rfl rfl (by first | (simp; done) | (simp [undef]; done)) (by decide) ?_
         refine l_off (j := 11) rfl rfl (by first | (simp; done) | (simp [undef]; done)) (by decide) ?_
         refine l_off (j := 11) rfl rfl (by first | (simp; done) | (simp [undef]; done)) (by decide) ?_
         refine l_off (j := 18) rfl rfl (by first | (simp; done) | (simp [undef]; done)) (by decide) ?_
         refine l_off (j := 18) rfl rfl (by first | (simp; done) | (simp [undef]; done)) (by decide) ?_
         refine l_off (j := 18) rfl rfl (by first | (simp; done) | (simp [undef]; done)) (by decide) ?_
         refine l_off (j := 18) rfl rfl (by first | (simp; done) | (simp [undef]; done)) (by decide) ?_
         refine l_off (j := 18) rfl rfl (by first | (simp; done) | (simp [undef]; done)) (by decide) ?_
         refine l_off (j := 18) rfl rfl (by first | (simp; done) | (simp [undef]; done)) (by decide) ?_
         refine l_off (j := 18) rfl rfl (by first | (simp; done) | (simp [undef]; done)) (by decide) ?_
         refine l_off (j := 18) rfl rfl (by first | (simp; done) | (simp [undef]; done)) (by decide) ?_
         refine l_off (j := 18) rfl rfl (by first | (simp; done) | (simp [undef]; done)) (by decide) ?_
         refine l_off (j := 18) rfl rfl (by first | (simp; done) | (simp [undef]; done)) (by decide) ?_
         refine l_off (j := 18) rfl rfl (by first | (simp; done) | (simp [undef]; done)) (by decide) ?_
         refine l_off (j := 18) rfl rfl (by first | (simp; done) | (simp [undef]; done)) (by decide) ?_
         refine l_off (j := 18) rfl rfl (by first | (simp; done) | (simp [undef]; done)) (by decide) ?_
         refine l_off (j := 18) rfl rfl (by first | (simp; done) | (simp [undef]; done)) (by decide) ?_
         refine l_off (j := 11) rfl rfl (by first | (simp; done) | (simp [undef]; done)) (by decide) ?_
         refine l_q (by decide) (p_pick rfl rfl).q ?_
         refine l_q (by decide) (p_assign rfl).q ?_
         refine l_nil ?_
         refine c_join (true) ?inv ?sub ?perm ?facts
         case sub => exact ⟨rfl, rfl, rfl, rfl, rfl, rfl, rfl, rfl, rfl, rfl, rfl, rfl, rfl, rfl, trivial⟩
         case perm =>
          exact .refl _
         case facts => exact fun _ h => h
         case inv =>
          exact ⟨fun _ => .inl h116, fun _ => rfl⟩
        ·skip
         first | refine l_g (j := 1) rfl rfl (by decide) (p_faddr (i := 1) 1 Try.underlying41 rfl inf_39 (by decide) rfl rfl).q ?_ | refine l_g (j := 1) rfl rfl (by decide) (p_faddro (i := 1) 1 Try.underlying41 rfl inf_39 (by decide) rfl rfl).q ?_
         first | refine l_g (j := 1) rfl rfl (by decide) (r_loado Try.underlying39 rfl rfl (by repeat constructor) (by rfl)).q ?_ | refine l_g (j := 1) rfl rfl (by decide) (r_load1 Try.underlying39 rfl rfl (by first | exact .fact (by repeat constructor) | exact .own (by repeat constructor) (by decide) (fun _ => rfl) | exact SlIn.body (by repeat constructor) (by assumption)) (by first | assumption | rfl) (by rfl)).q ?_ | refine l_g (j := 1) rfl rfl (by decide) (r_loadf Try.underlying39 rfl rfl (by first | exact .fact (by repeat constructor) | exact .own (by repeat constructor) (by decide) (fun _ => rfl) | exact SlIn.body (by repeat constructor) (by assumption)) (by assumption) (by rfl)).q ?_
         refine l_g (j := 1) rfl rfl (by decide) (p_move rfl).q ?_
         first | refine l_g (j := 1) rfl rfl (by decide) (r_index Try.underlying39 inf_3 rfl rfl rfl (by first | exact .fact (by repeat constructor) | exact .own (by repeat constructor) (by decide) (fun _ => rfl) | exact SlIn.body (by repeat constructor) (by assumption)) rfl (by omega)).q ?_ | refine l_g (j := 1) rfl rfl (by decide) (r_index Try.underlying39 inf_3 rfl rfl rfl (by first | exact .fact (by repeat constructor) | exact .own (by repeat constructor) (by decide) (fun _ => rfl) | exact SlIn.body (by repeat constructor) (by assumption)) rfl (by decide)).q ?_ | refine l_g (j := 1) rfl rfl (by decide) (p_indexo Try.underlying39 inf_3 rfl rfl rfl (by omega)).q ?_
         first | refine l_g (j := 1) rfl rfl (by decide) (r_loado Try.underlying3 rfl rfl (by repeat constructor) (by rfl)).q ?_ | refine l_g (j := 1) rfl rfl (by decide) (r_load1 Try.underlying3 rfl rfl (by first | exact .fact (by repeat constructor) | exact .own (by repeat constructor) (by decide) (fun _ => rfl) | exact SlIn.body (by repeat constructor) (by assumption)) (by first | assumption | rfl) (by rfl)).q ?_ | refine l_g (j := 1) rfl rfl (by decide) (r_loadf Try.underlying3 rfl rfl (by first | exact .fact (by repeat constructor) | exact .own (by repeat constructor) (by decide) (fun _ => rfl) | exact SlIn.body (by repeat constructor) (by assumption)) (by assumption) (by rfl)).q ?_
         refine l_g (j := 1) rfl rfl (by decide) (p_move rfl).q ?_
         first | refine l_g (j := 1) rfl rfl (by decide) (p_sub (j := 1) rfl rfl rfl rfl (by omega) (by show _ ≤ (9223372036854775807 : Nat); omega)).q ?_ | refine l_g (j := 1) rfl rfl (by decide) (p_subi rfl rfl (by show (-9223372036854775808 : Int) ≤ _; omega) (by show _ ≤ ((9223372036854775807 : Nat) : Int); omega)).q ?_
         first | refine l_g (j := 1) rfl rfl (by decide) (p_eql rfl rfl rfl rfl).q ?_ | refine l_g (j := 1) rfl rfl (by decide) (p_eqli rfl rfl).q ?_
         refine l_q (by decide) (p_pick rfl rfl).q ?_
         refine l_q (by decide) (p_move rfl).q ?_
         first | refine l_splitd (t := 126) rfl (fun h126 => ?_) (fun h126 => ?_) | refine l_splitb (t := 126) rfl (fun h126 => ?_) (fun h126 => ?_)
         ·skip
          refine l_off (j := 11) rfl rfl (by first | (simp; done) | (simp [undef]; done)) (by decide) ?_
          refine l_off (j := 11) rfl rfl (by first | (simp; done) | (simp [undef]; done)) (by decide) ?_
          refine l_off (j := 11) rfl rfl (by first | (simp; done) | (simp [undef]; done)) (by decide) ?_
          refine l_off (j := 11) rfl rfl (by first | (simp; done) | (simp [undef]; done)) (by decide) ?_
          refine l_off (j := 11) rfl rfl (by first | (simp; done) | (simp [undef]; done)) (by decide) ?_
          refine l_off (j := 11) rfl rfl (by first | (simp; done) | (simp [undef]; done)) (by decide) ?_
          refine l_off (j := 11) rfl rfl (by first | (simp; done) | (simp [undef]; done)) (by decide) ?_
          refine l_off (j := 18) rfl rfl (by first | (simp; done) | (simp [undef]; done)) (by decide) ?_
          refine l_off (j := 18) rfl rfl (by first | (simp; done) | (simp [undef]; done)) (by decide) ?_
          refine l_off (j := 18) rfl rfl (by first | (simp; done) | (simp [undef]; done)) (by decide) ?_
          refine l_off (j := 18) rfl rfl (by first | (simp; done) | (simp [undef]; done)) (by decide) ?_
          refine l_off (j := 18) rfl rfl (by first | (simp; done) | (simp [undef]; done)) (by decide) ?_
          refine l_off (j := 18) rfl rfl (by first | (simp; done) | (simp [undef]; done)) (by decide) ?_
          refine l_off (j := 18) rfl rfl (by first | (simp; done) | (simp [undef]; done)) (by decide) ?_
          refine l_off (j := 18) rfl rfl (by first | (simp; done) | (simp [undef]; done)) (by decide) ?_
          refine l_off (j := 18) rfl rfl (by first | (simp; done) | (simp [undef]; done)) (by decide) ?_
          refine l_off (j := 18) rfl rfl (by first | (simp; done) | (simp [undef]; done)) (by decide) ?_
          refine l_off (j := 18) rfl rfl (by first | (simp; done) | (simp [undef]; done)) (by decide) ?_
          refine l_off (j := 18) rfl rfl (by first | (simp; done) | (simp [undef]; done)) (by decide) ?_
          refine l_off (j := 18) rfl rfl (by first | (simp; done) | (simp [undef]; done)) (by decide) ?_
          refine l_off (j := 18) rfl rfl (by first | (simp; done) | (simp [undef]; done)) (by decide) ?_
          refine l_off (j := 11) rfl rfl (by first | (simp; done) | (simp [undef]; done)) (by decide) ?_
          refine l_q (by decide) (p_pick rfl rfl).q ?_
          refine l_q (by decide) (p_assign rfl).q ?_
          refine l_nil ?_
          refine c_join (true) ?inv ?sub ?perm ?facts
          case sub => exact ⟨rfl, rfl, rfl, rfl, rfl, rfl, rfl, rfl, rfl, rfl, rfl, rfl, rfl, rfl, trivial⟩
          case perm =>
           exact .refl _
          case facts => exact fun _ h => h
          case inv =>
           exact ⟨fun _ => .inr (.inl (by omega)), fun _ => rfl⟩
         ·skip
          first | refine l_g (j := 11) rfl rfl (by decide) (p_faddr (i := 1) 1 Try.underlying41 rfl inf_39 (by decide) rfl rfl).q ?_ | refine l_g (j := 11) rfl rfl (by decide) (p_faddro (i := 1) 1 Try.underlying41 rfl inf_39 (by decide) rfl rfl).q ?_
          first | refine l_g (j := 11) rfl rfl (by decide) (r_loado Try.underlying39 rfl rfl (by repeat constructor) (by rfl)).q ?_ | refine l_g (j := 11) rfl rfl (by decide) (r_load1 Try.underlying39 rfl rfl (by first | exact .fact (by repeat constructor) | exact .own (by repeat constructor) (by decide) (fun _ => rfl) | exact SlIn.body (by repeat constructor) (by assumption)) (by first | assumption | rfl) (by rfl)).q ?_ | refine l_g (j := 11) rfl rfl (by decide) (r_loadf Try.underlying39 rfl rfl (by first | exact .fact (by repeat constructor) | exact .own (by repeat constructor) (by decide) (fun _ => rfl) | exact SlIn.body (by repeat constructor) (by assumption)) (by assumption) (by rfl)).q ?_
          refine l_g (j := 11) rfl rfl (by decide) (p_move rfl).q ?_
          first | refine l_g (j := 11) rfl rfl (by decide) (r_index Try.underlying39 inf_3 rfl rfl rfl (by first | exact .fact (by repeat constructor) | exact .own (by repeat constructor) (by decide) (fun _ => rfl) | exact SlIn.body (by repeat constructor) (by assumption)) rfl (by omega)).q ?_ | refine l_g (j := 11) rfl rfl (by decide) (r_index Try.underlying39 inf_3 rfl rfl rfl (by first | exact .fact (by repeat constructor) | exact .own (by repeat constructor) (by decide) (fun _ => rfl) | exact SlIn.body (by repeat constructor) (by assumption)) rfl (by decide)).q ?_ | refine l_g (j := 11) rfl rfl (by decide) (p_indexo Try.underlying39 inf_3 rfl rfl rfl (by omega)).q ?_
          first | refine l_g (j := 11) rfl rfl (by decide) (r_loado Try.underlying3 rfl rfl (by repeat constructor) (by rfl)).q ?_ | refine l_g (j := 11) rfl rfl (by decide) (r_load1 Try.underlying3 rfl rfl (by first | exact .fact (by repeat constructor) | exact .own (by repeat constructor) (by decide) (fun _ => rfl) | exact SlIn.body (by repeat constructor) (by assumption)) (by first | assumption | rfl) (by rfl)).q ?_ | refine l_g (j := 11) rfl rfl (by decide) (r_loadf Try.underlying3 rfl rfl (by first | exact .fact (by repeat constructor) | exact .own (by repeat constructor) (by decide) (fun _ => rfl) | exact SlIn.body (by repeat constructor) (by assumption)) (by assumption) (by rfl)).q ?_
          first | refine l_g (j := 11) rfl rfl (by decide) (p_lss (j := 0) rfl rfl rfl rfl).q ?_ | refine l_g (j := 11) rfl rfl (by decide) (p_lssi rfl rfl).q ?_
          refine l_g (j := 11) rfl rfl (by decide) (p_move rfl).q ?_
          first | refine l_splitd (t := 133) rfl (fun h133 => ?_) (fun h133 => ?_) | refine l_splitb (t := 133) rfl (fun h133 => ?_) (fun h133 => ?_)
          ·skip
           have hgnt : X.g.n * X.g.t = X.nts.length * X.terms.length := rfl
           have hnz := ok.nt_lt (rule_mem hx) (List.mem_of_getElem? hz) h133
           have hncz : Ana.nt z = (-1 - z).toNat := rfl
           have hbt : b - 1 < X.g.t := by show b - 1 < X.terms.length; omega
           have hzm : Ana.nt z * X.terms.length + (b - 1) < X.nts.length * X.terms.length := idx_lt2 hnz hbt
           refine l_g (j := 18) rfl rfl (by decide) (p_move rfl).q ?_
           first | refine l_g (j := 18) rfl rfl (by decide) (p_faddr (i := 1) 1 Try.underlying41 rfl inf_39 (by decide) rfl rfl).q ?_ | refine l_g (j := 18) rfl rfl (by decide) (p_faddro (i := 1) 1 Try.underlying41 rfl inf_39 (by decide) rfl rfl).q ?_
           first | refine l_g (j := 18) rfl rfl (by decide) (r_loado Try.underlying39 rfl rfl (by repeat constructor) (by rfl)).q ?_ | refine l_g (j := 18) rfl rfl (by decide) (r_load1 Try.underlying39 rfl rfl (by first | exact .fact (by repeat constructor) | exact .own (by repeat constructor) (by decide) (fun _ => rfl) | exact SlIn.body (by repeat constructor) (by assumption)) (by first | assumption | rfl) (by rfl)).q ?_ | refine l_g (j := 18) rfl rfl (by decide) (r_loadf Try.underlying39 rfl rfl (by first | exact .fact (by repeat constructor) | exact .own (by repeat constructor) (by decide) (fun _ => rfl) | exact SlIn.body (by repeat constructor) (by assumption)) (by assumption) (by rfl)).q ?_
           refine l_g (j := 18) rfl rfl (by decide) (p_move rfl).q ?_
           first | refine l_g (j := 18) rfl rfl (by decide) (r_index Try.underlying39 inf_3 rfl rfl rfl (by first | exact .fact (by repeat constructor) | exact .own (by repeat constructor) (by decide) (fun _ => rfl) | exact SlIn.body (by repeat constructor) (by assumption)) rfl (by omega)).q ?_ | refine l_g (j := 18) rfl rfl (by decide) (r_index Try.underlying39 inf_3 rfl rfl rfl (by first | exact .fact (by repeat constructor) | exact .own (by repeat constructor) (by decide) (fun _ => rfl) | exact SlIn.body (by repeat constructor) (by assumption)) rfl (by decide)).q ?_ | refine l_g (j := 18) rfl rfl (by decide) (p_indexo Try.underlying39 inf_3 rfl rfl rfl (by omega)).q ?_
           first | refine l_g (j := 18) rfl rfl (by decide) (r_loado Try.underlying3 rfl rfl (by repeat constructor) (by rfl)).q ?_ | refine l_g (j := 18) rfl rfl (by decide) (r_load1 Try.underlying3 rfl rfl (by first | exact .fact (by repeat constructor) | exact .own (by repeat constructor) (by decide) (fun _ => rfl) | exact SlIn.body (by repeat constructor) (by assumption)) (by first | assumption | rfl) (by rfl)).q ?_ | refine l_g (j := 18) rfl rfl (by decide) (r_loadf Try.underlying3 rfl rfl (by first | exact .fact (by repeat constructor) | exact .own (by repeat constructor) (by decide) (fun _ => rfl) | exact SlIn.body (by repeat constructor) (by assumption)) (by assumption) (by rfl)).q ?_
           first | refine l_g (j := 18) rfl rfl (by decide) (((p_sub rfl rfl rfl rfl (by omega) (by show _ ≤ (9223372036854775807 : Nat); omega))).to (u := .int .i64 ((Ana.nt z : Nat) : Int)) (by rw [Ana.nt_cast h133])).q ?_ | refine l_g (j := 18) rfl rfl (by decide) (((p_subi rfl rfl (by show (-9223372036854775808 : Int) ≤ _; omega) (by show _ ≤ ((9223372036854775807 : Nat) : Int); omega))).to (u := .int .i64 ((Ana.nt z : Nat) : Int)) (by rw [Ana.nt_cast h133])).q ?_
           refine l_g (j := 18) rfl rfl (by decide) (p_move rfl).q ?_
           refine l_g (j := 18) rfl rfl (by decide) (p_mul rfl rfl rfl rfl (by show _ ≤ (9223372036854775807 : Nat); omega)).q ?_
           refine l_g (j := 18) rfl rfl (by decide) (p_move rfl).q ?_
           first | refine l_g (j := 18) rfl rfl (by decide) (p_add rfl rfl rfl rfl (by show _ ≤ (9223372036854775807 : Nat); omega)).q ?_ | refine l_g (j := 18) rfl rfl (by decide) (p_addi rfl rfl (by show (-9223372036854775808 : Int) ≤ _; omega) (by show _ ≤ ((9223372036854775807 : Nat) : Int); omega)).q ?_
           first | refine l_g (j := 18) rfl rfl (by decide) (((p_sub (j := 1) rfl rfl rfl rfl (by omega) (by show _ ≤ (9223372036854775807 : Nat); omega))).to (u := .int .i64 ((Ana.nt z * X.terms.length + (b - 1) : Nat) : Int)) (by congr 1; omega)).q ?_ | refine l_g (j := 18) rfl rfl (by decide) (((p_subi rfl rfl (by show (-9223372036854775808 : Int) ≤ _; omega) (by show _ ≤ ((9223372036854775807 : Nat) : Int); omega))).to (u := .int .i64 ((Ana.nt z * X.terms.length + (b - 1) : Nat) : Int)) (by congr 1; omega)).q ?_
           first | refine l_g (j := 18) rfl rfl (by decide) (r_index Try.underlying29 inf_4 rfl rfl rfl (by first | exact .fact (by repeat constructor) | exact .own (by repeat constructor) (by decide) (fun _ => rfl) | exact SlIn.body (by repeat constructor) (by assumption)) rfl (by omega)).q ?_ | refine l_g (j := 18) rfl rfl (by decide) (r_index Try.underlying29 inf_4 rfl rfl rfl (by first | exact .fact (by repeat constructor) | exact .own (by repeat constructor) (by decide) (fun _ => rfl) | exact SlIn.body (by repeat constructor) (by assumption)) rfl (by decide)).q ?_ | refine l_g (j := 18) rfl rfl (by decide) (p_indexo Try.underlying29 inf_4 rfl rfl rfl (by omega)).q ?_
           refine l_g (j := 18) rfl rfl (by decide) (((r_loadq (q := (iCells y24 4 (bl (X.g.n * X.g.t) (fl X.g.t (fiN X)))).holds) Try.underlying4 rfl rfl (by repeat constructor) (fun w h => (cells_cell h _).trans (bl_at (idx_lt2 hnz hbt))))).to (u := .bool (fiN X (Ana.nt z) (b - 1))) (by rw [fl_at hbt])).q ?_
           refine l_g (j := 11) rfl rfl (by decide) (p_pick rfl rfl).q ?_
           refine l_q (by decide) (p_pick rfl rfl).q ?_
           refine l_q (by decide) (p_assign rfl).q ?_
           refine l_nil ?_
           refine c_join (fiN X (Ana.nt z) (b - 1)) ?inv ?sub ?perm ?facts
           case sub => exact ⟨rfl, rfl, rfl, rfl, rfl, rfl, rfl, rfl, rfl, rfl, rfl, rfl, rfl, rfl, trivial⟩
           case perm =>
            exact .refl _
           case facts => exact fun _ h => h
           case inv =>
            exact ⟨fun h => .inr (.inr ⟨h133, h⟩), fun h => h.elim (fun h => by rw [h116] at h; cases h) (fun h => h.elim (fun h => absurd h (by omega)) (fun h => h.2))⟩
          ·skip
           refine l_off (j := 18) rfl rfl (by first | (simp; done) | (simp [undef]; done)) (by decide) ?_
           refine l_off (j := 18) rfl rfl (by first | (simp; done) | (simp [undef]; done)) (by decide) ?_
           refine l_off (j := 18) rfl rfl (by first | (simp; done) | (simp [undef]; done)) (by decide) ?_
           refine l_off (j := 18) rfl rfl (by first | (simp; done) | (simp [undef]; done)) (by decide) ?_
           refine l_off (j := 18) rfl rfl (by first | (simp; done) | (simp [undef]; done)) (by decide) ?_
           refine l_off (j := 18) rfl rfl (by first | (simp; done) | (simp [undef]; done)) (by decide) ?_
           refine l_off (j := 18) rfl rfl (by first | (simp; done) | (simp [undef]; done)) (by decide) ?_
           refine l_off (j := 18) rfl rfl (by first | (simp; done) | (simp [undef]; done)) (by decide) ?_
           refine l_off (j := 18) rfl rfl (by first | (simp; done) | (simp [undef]; done)) (by decide) ?_
           refine l_off (j := 18) rfl rfl (by first | (simp; done) | (simp [undef]; done)) (by decide) ?_
           refine l_off (j := 18) rfl rfl (by first | (simp; done) | (simp [undef]; done)) (by decide) ?_
           refine l_off (j := 18) rfl rfl (by first | (simp; done) | (simp [undef]; done)) (by decide) ?_
           refine l_off (j := 18) rfl rfl (by first | (simp; done) | (simp [undef]; done)) (by decide) ?_
           refine l_off (j := 18) rfl rfl (by first | (simp; done) | (simp [undef]; done)) (by decide) ?_
           refine l_g (j := 11) rfl rfl (by decide) (p_pick rfl rfl).q ?_
           refine l_q (by decide) (p_pick rfl rfl).q ?_
           refine l_q (by decide) (p_assign rfl).q ?_
           refine l_nil ?_
           refine c_join (false) ?inv ?sub ?perm ?facts
           case sub => exact ⟨rfl, rfl, rfl, rfl, rfl, rfl, rfl, rfl, rfl, rfl, rfl, rfl, rfl, rfl, trivial⟩
           case perm =>
            exact .refl _
           case facts => exact fun _ h => h
           case inv =>
            exact ⟨(fun h => nomatch h), fun h => h.elim (fun h => by rw [h116] at h; cases h) (fun h => h.elim (fun h => absurd h (by omega)) (fun h => absurd h.1 h133))⟩
       rintro u2 hmeet
       have hmeet : u2 = true ↔ u = true ∨ cellv X z b := hmeet
       have hu2 := hmeet
       show Cont _ _ _ _ [(1, .pointer (some ⟨b1, 0, none⟩)), (3, .int .i64 (X.terms.length : Int)), (4, .int .i64 ((X.terms.length + 1 : Nat) : Int)), (5, .slice (some ⟨x22.1, 0, none⟩) X.g.n X.g.n), (6, .slice (some ⟨y24, 0, none⟩) (X.g.n * X.g.t) (X.g.n * X.g.t)), (7, .slice (some ⟨b30, 0, none⟩) (X.nts.length * (X.terms.length + 1)) (X.nts.length * (X.terms.length + 1))), (8, .bool c3), (9, .int .i64 (k : Int)), (10, .pointer (some ⟨b10, 0, none⟩)), (11, .int .i64 (j : Int)), (12, .int .i64 ((Ana.nt y : Nat) : Int)), (13, .int .i64 (b : Int)), (14, .bool u2), (15, .int .i64 ((j + 1 + m : Nat) : Int))] ((iCells b10 41 (ruF x) :: iCells b30 4 (bl (X.g.n * (X.g.t + 1)) (fl (X.g.t + 1) (h))) :: iCells b1 25 [.slice X.At X.terms.length X.ct, .slice X.An X.nts.length X.cn, .int .i64 X.start, .slice X.Ar X.xs.length X.cr] :: σ)) [(iCells y24 4 (bl (X.g.n * X.g.t) (fl X.g.t (fiN X)))).holds, Sl 1 boolF (some ⟨x22.1, 0, none⟩) (Ana.mkl X.g.n (nulX X)), Bd X.xs, Sl 3 ruF X.Ar X.xs, Sl 1 strF X.An X.nts, Sl 1 strF X.At X.terms]
       refine c_reg ?_
       refine l_q (by decide) (p_move rfl).q ?_
       first | refine l_q (by decide) (p_add (j := 1) rfl rfl rfl rfl (by show _ ≤ (9223372036854775807 : Nat); omega)).q ?_ | refine l_q (by decide) (p_addi rfl rfl (by show (-9223372036854775808 : Int) ≤ _; omega) (by show _ ≤ ((9223372036854775807 : Nat) : Int); omega)).q ?_
       refine l_q (by decide) (p_assign rfl).q ?_
       refine l_nil ?_
       refine c_join ((m + 1), (u2)) ?_ ?_ ?_ ?_
       ·show (j + 1 + (m + 1) ≤ x.r.body.length ∧ InnI X x j b h (m + 1) (u2)) ∧ x.r.body.length - (m + 1) < x.r.body.length - m
        exact ⟨⟨by omega, hN2.step hz hb0 hcn hu2⟩, by omega⟩
       · exact ⟨rfl, rfl, rfl, rfl, rfl, rfl, rfl, rfl, rfl, rfl, rfl, rfl, rfl, rfl, trivial⟩
       ·show List.Perm _ ((iCells b10 41 (ruF x) :: iCells b30 4 (bl (X.g.n * (X.g.t + 1)) (fl (X.g.t + 1) (h))) :: iCells b1 25 [.slice X.At X.terms.length X.ct, .slice X.An X.nts.length X.cn, .int .i64 X.start, .slice X.Ar X.xs.length X.cr] :: σ))
        exact .refl _
       · exact fun _ h => h
      ·skip
       have hst := hN2.stop h112
       refine c_exit ?_
       refine c_here ?_
       refine c_seq ?_
       refine c_reg ?_
       refine l_q (by decide) (p_move rfl).q ?_
       refine l_q (by decide) (p_move rfl).q ?_
       first | refine l_splitd (t := 151) rfl (fun h151 => ?_) (fun h151 => ?_) | refine l_splitb (t := 151) rfl (fun h151 => ?_) (fun h151 => ?_)
       ·skip
        refine l_g (j := 1) rfl rfl (by decide) (p_move rfl).q ?_
        refine l_g (j := 1) rfl rfl (by decide) (p_move rfl).q ?_
        refine l_g (j := 1) rfl rfl (by decide) (p_move rfl).q ?_
        refine l_g (j := 1) rfl rfl (by decide) (p_mul rfl rfl rfl rfl (by show _ ≤ (9223372036854775807 : Nat); omega)).q ?_
        refine l_g (j := 1) rfl rfl (by decide) (p_move rfl).q ?_
        first | refine l_g (j := 1) rfl rfl (by decide) (p_add rfl rfl rfl rfl (by show _ ≤ (9223372036854775807 : Nat); omega)).q ?_ | refine l_g (j := 1) rfl rfl (by decide) (p_addi rfl rfl (by show (-9223372036854775808 : Int) ≤ _; omega) (by show _ ≤ ((9223372036854775807 : Nat) : Int); omega)).q ?_
        first | refine l_g (j := 1) rfl rfl (by decide) (r_index Try.underlying29 inf_4 rfl rfl rfl (by first | exact .fact (by repeat constructor) | exact .own (by repeat constructor) (by decide) (fun _ => rfl) | exact SlIn.body (by repeat constructor) (by assumption)) rfl (by omega)).q ?_ | refine l_g (j := 1) rfl rfl (by decide) (r_index Try.underlying29 inf_4 rfl rfl rfl (by first | exact .fact (by repeat constructor) | exact .own (by repeat constructor) (by decide) (fun _ => rfl) | exact SlIn.body (by repeat constructor) (by assumption)) rfl (by decide)).q ?_ | refine l_g (j := 1) rfl rfl (by decide) (p_indexo Try.underlying29 inf_4 rfl rfl rfl (by omega)).q ?_
        refine l_g (j := 1) rfl rfl (by decide) (((r_loado Try.underlying4 rfl rfl (by repeat constructor) (bl_at (idx_lt2 hn2 hbw)))).to (u := .bool (h (Ana.nt y) b)) (by rw [fl_at hbw])).q ?_
        first | refine l_g (j := 1) rfl rfl (by decide) (p_notd rfl).q ?_ | refine l_g (j := 1) rfl rfl (by decide) (p_not rfl).q ?_
        refine l_q (by decide) (p_pick rfl rfl).q ?_
        refine l_nil ?_
        first | refine c_dec rfl (fun h161 => ?_) (fun h161 => ?_) | refine c_cond rfl (fun h161 => ?_) (fun h161 => ?_)
        ·skip
         refine c_seq ?_
         refine c_reg ?_
         refine l_q (by decide) (p_move rfl).q ?_
         refine l_q (by decide) (p_move rfl).q ?_
         refine l_q (by decide) (p_move rfl).q ?_
         refine l_q (by decide) (p_mul rfl rfl rfl rfl (by show _ ≤ (9223372036854775807 : Nat); omega)).q ?_
         refine l_q (by decide) (p_move rfl).q ?_
         first | refine l_q (by decide) (p_add rfl rfl rfl rfl (by show _ ≤ (9223372036854775807 : Nat); omega)).q ?_ | refine l_q (by decide) (p_addi rfl rfl (by show (-9223372036854775808 : Int) ≤ _; omega) (by show _ ≤ ((9223372036854775807 : Nat) : Int); omega)).q ?_
         first | refine l_q (by decide) (r_index Try.underlying29 inf_4 rfl rfl rfl (by first | exact .fact (by repeat constructor) | exact .own (by repeat constructor) (by decide) (fun _ => rfl) | exact SlIn.body (by repeat constructor) (by assumption)) rfl (by omega)).q ?_ | refine l_q (by decide) (r_index Try.underlying29 inf_4 rfl rfl rfl (by first | exact .fact (by repeat constructor) | exact .own (by repeat constructor) (by decide) (fun _ => rfl) | exact SlIn.body (by repeat constructor) (by assumption)) rfl (by decide)).q ?_ | refine l_q (by decide) (p_indexo Try.underlying29 inf_4 rfl rfl rfl (by omega)).q ?_
         first | (refine l_store inf_4 rfl rfl rfl rfl (by first | decide | exact Nat.le_of_ble_eq_true rfl | (simp; done) | omega | (simp only [Nat.mul_one]; assumption)) ?_) | (refine l_perm (front1 _ _ _) ?_; refine l_store inf_4 rfl rfl rfl rfl (by first | decide | exact Nat.le_of_ble_eq_true rfl | (simp; done) | omega | (simp only [Nat.mul_one]; assumption)) ?_) | (refine l_perm (front2 _ _ _ _) ?_; refine l_store inf_4 rfl rfl rfl rfl (by first | decide | exact Nat.le_of_ble_eq_true rfl | (simp; done) | omega | (simp only [Nat.mul_one]; assumption)) ?_) | (refine l_perm (front3 _ _ _ _ _) ?_; refine l_store inf_4 rfl rfl rfl rfl (by first | decide | exact Nat.le_of_ble_eq_true rfl | (simp; done) | omega | (simp only [Nat.mul_one]; assumption)) ?_) | (refine l_perm (front4 _ _ _ _ _ _) ?_; refine l_store inf_4 rfl rfl rfl rfl (by first | decide | exact Nat.le_of_ble_eq_true rfl | (simp; done) | omega | (simp only [Nat.mul_one]; assumption)) ?_)
         refine l_nil ?_
         refine c_reg ?_
         refine l_q (by decide) (p_assign rfl).q ?_
         refine l_nil ?_
         refine c_reg ?_
         refine l_q (by decide) (p_move rfl).q ?_
         first | refine l_q (by decide) (p_add (j := 1) rfl rfl rfl rfl (by show _ ≤ (9223372036854775807 : Nat); omega)).q ?_ | refine l_q (by decide) (p_addi rfl rfl (by show (-9223372036854775808 : Int) ≤ _; omega) (by show _ ≤ ((9223372036854775807 : Nat) : Int); omega)).q ?_
         refine l_q (by decide) (p_assign rfl).q ?_
         refine l_nil ?_
         refine c_join ((b + 1), (upd2 h (Ana.nt y) b true), (true)) ?_ ?_ ?_ ?_
         ·show ((b + 1) ≤ X.terms.length + 1 ∧ SoundTO X (upd2 h (Ana.nt y) b true) ∧ ((true) = true → Ana.lack (X.g.n * (X.g.t + 1)) (fl (X.g.t + 1) (upd2 h (Ana.nt y) b true)) < Ana.lack (X.g.n * (X.g.t + 1)) (fl (X.g.t + 1) f)) ∧ ((true) = false → (upd2 h (Ana.nt y) b true) = f ∧ c2 = false ∧ ∀ b2, b2 < (b + 1) → CellO X x j b2 (upd2 h (Ana.nt y) b true))) ∧ X.terms.length + 1 - (b + 1) < X.terms.length + 1 - b
          exact ⟨⟨by omega, hM2.step (List.mem_of_getElem? hx) hy hy0 (hst.1 h151), fun _ => lack_cell hn2 hbw (by simpa using h161) hM3 (fun hc => (hM4 hc).1), fun h => (by cases h)⟩, by omega⟩
         · exact ⟨rfl, rfl, rfl, rfl, rfl, rfl, rfl, rfl, rfl, rfl, rfl, rfl, trivial⟩
         ·show List.Perm _ ((iCells b10 41 (ruF x) :: iCells b30 4 (bl (X.g.n * (X.g.t + 1)) (fl (X.g.t + 1) ((upd2 h (Ana.nt y) b true)))) :: iCells b1 25 [.slice X.At X.terms.length X.ct, .slice X.An X.nts.length X.cn, .int .i64 X.start, .slice X.Ar X.xs.length X.cr] :: σ))
          rw [show ((bl (X.g.n * (X.g.t + 1)) (fl (X.g.t + 1) h))).set ((Ana.nt y * (X.terms.length + 1) + b) * 1) (.bool true) = _ from bl_set, show Ana.upd (fl (X.g.t + 1) h) (Ana.nt y * (X.terms.length + 1) + b) true = _ from fl_upd hbw]
          repeat (first | exact List.Perm.refl _ | refine List.Perm.cons _ ?_ | refine (front1 _ _ _).trans (List.Perm.cons _ ?_) | refine (front2 _ _ _ _).trans (List.Perm.cons _ ?_) | refine (front3 _ _ _ _ _).trans (List.Perm.cons _ ?_) | refine (front4 _ _ _ _ _ _).trans (List.Perm.cons _ ?_))
         · exact fun _ h => h
        ·skip
         refine c_skip ?_
         refine c_reg ?_
         refine l_q (by decide) (p_move rfl).q ?_
         first | refine l_q (by decide) (p_add (j := 1) rfl rfl rfl rfl (by show _ ≤ (9223372036854775807 : Nat); omega)).q ?_ | refine l_q (by decide) (p_addi rfl rfl (by show (-9223372036854775808 : Int) ≤ _; omega) (by show _ ≤ ((9223372036854775807 : Nat) : Int); omega)).q ?_
         refine l_q (by decide) (p_assign rfl).q ?_
         refine l_nil ?_
         refine c_join ((b + 1), (h), (c3)) ?_ ?_ ?_ ?_
         ·show ((b + 1) ≤ X.terms.length + 1 ∧ SoundTO X (h) ∧ ((c3) = true → Ana.lack (X.g.n * (X.g.t + 1)) (fl (X.g.t + 1) (h)) < Ana.lack (X.g.n * (X.g.t + 1)) (fl (X.g.t + 1) f)) ∧ ((c3) = false → (h) = f ∧ c2 = false ∧ ∀ b2, b2 < (b + 1) → CellO X x j b2 (h))) ∧ X.terms.length + 1 - (b + 1) < X.terms.length + 1 - b
          refine ⟨⟨by omega, hM2, hM3, fun hc => ⟨(hM4 hc).1, (hM4 hc).2.1, fun b2 hb2 => ?_⟩⟩, by omega⟩
          by_cases e : b2 = b
          · subst e; intro z hz _ hzc; rw [hy] at hz; injection hz with hz; subst hz
            simpa using h161
          · exact (hM4 hc).2.2 b2 (by omega)
         · exact ⟨rfl, rfl, rfl, rfl, rfl, rfl, rfl, rfl, rfl, rfl, rfl, rfl, trivial⟩
         ·show List.Perm _ ((iCells b10 41 (ruF x) :: iCells b30 4 (bl (X.g.n * (X.g.t + 1)) (fl (X.g.t + 1) ((h)))) :: iCells b1 25 [.slice X.At X.terms.length X.ct, .slice X.An X.nts.length X.cn, .int .i64 X.start, .slice X.Ar X.xs.length X.cr] :: σ))
          exact .refl _
         · exact fun _ h => h
       ·skip
        refine l_off (j := 1) rfl rfl (by first | (simp; done) | (simp [undef]; done)) (by decide) ?_
        refine l_off (j := 1) rfl rfl (by first | (simp; done) | (simp [undef]; done)) (by decide) ?_
        refine l_off (j := 1) rfl rfl (by first | (simp; done) | (simp [undef]; done)) (by decide) ?_
        refine l_off (j := 1) rfl rfl (by first | (simp; done) | (simp [undef]; done)) (by decide) ?_
        refine l_off (j := 1) rfl rfl (by first | (simp; done) | (simp [undef]; done)) (by decide) ?_
        refine l_off (j := 1) rfl rfl (by first | (simp; done) | (simp [undef]; done)) (by decide) ?_
        refine l_off (j := 1) rfl rfl (by first | (simp; done) | (simp [undef]; done)) (by decide) ?_
        refine l_off (j := 1) rfl rfl (by first | (simp; done) | (simp [undef]; done)) (by decide) ?_
        refine l_off (j := 1) rfl rfl (by first | (simp; done) | (simp [undef]; done)) (by decide) ?_
        refine l_q (by decide) (p_pick rfl rfl).q ?_
        refine l_nil ?_
        refine c_false rfl ?_
        refine c_skip ?_
        refine c_reg ?_
        refine l_q (by decide) (p_move rfl).q ?_
        first | refine l_q (by decide) (p_add (j := 1) rfl rfl rfl rfl (by show _ ≤ (9223372036854775807 : Nat); omega)).q ?_ | refine l_q (by decide) (p_addi rfl rfl (by show (-9223372036854775808 : Int) ≤ _; omega) (by show _ ≤ ((9223372036854775807 : Nat) : Int); omega)).q ?_
        refine l_q (by decide) (p_assign rfl).q ?_
        refine l_nil ?_
        refine c_join ((b + 1), (h), (c3)) ?_ ?_ ?_ ?_
        ·show ((b + 1) ≤ X.terms.length + 1 ∧ SoundTO X (h) ∧ ((c3) = true → Ana.lack (X.g.n * (X.g.t + 1)) (fl (X.g.t + 1) (h)) < Ana.lack (X.g.n * (X.g.t + 1)) (fl (X.g.t + 1) f)) ∧ ((c3) = false → (h) = f ∧ c2 = false ∧ ∀ b2, b2 < (b + 1) → CellO X x j b2 (h))) ∧ X.terms.length + 1 - (b + 1) < X.terms.length + 1 - b
         refine ⟨⟨by omega, hM2, hM3, fun hc => ⟨(hM4 hc).1, (hM4 hc).2.1, fun b2 hb2 => ?_⟩⟩, by omega⟩
         by_cases e : b2 = b
         · subst e; intro z hz _ hzc; rw [hy] at hz; injection hz with hz; subst hz
           exact absurd hzc (u_new hst h151)
         · exact (hM4 hc).2.2 b2 (by omega)
        · exact ⟨rfl, rfl, rfl, rfl, rfl, rfl, rfl, rfl, rfl, rfl, rfl, rfl, trivial⟩
        ·show List.Perm _ ((iCells b10 41 (ruF x) :: iCells b30 4 (bl (X.g.n * (X.g.t + 1)) (fl (X.g.t + 1) ((h)))) :: iCells b1 25 [.slice X.At X.terms.length X.ct, .slice X.An X.nts.length X.cn, .int .i64 X.start, .slice X.Ar X.xs.length X.cr] :: σ))
         exact .refl _
        · exact fun _ h => h
     ·skip
      refine c_exit ?_
      refine c_here ?_
      refine c_reg ?_
      refine l_q (by decide) (p_move rfl).q ?_
      first | refine l_q (by decide) (p_add (j := 1) rfl rfl rfl rfl (by show _ ≤ (9223372036854775807 : Nat); omega)).q ?_ | refine l_q (by decide) (p_addi rfl rfl (by show (-9223372036854775808 : Int) ≤ _; omega) (by show _ ≤ ((9223372036854775807 : Nat) : Int); omega)).q ?_
      refine l_q (by decide) (p_assign rfl).q ?_
      refine l_nil ?_
      refine c_join ((j + 1), (h), (c3)) ?_ ?_ ?_ ?_
      ·show ((j + 1) ≤ x.r.body.length ∧ SoundTO X (h) ∧ ((c3) = true → Ana.lack (X.g.n * (X.g.t + 1)) (fl (X.g.t + 1) (h)) < Ana.lack (X.g.n * (X.g.t + 1)) (fl (X.g.t + 1) f)) ∧ ((c3) = false → (h) = f ∧ cg = false ∧ ∀ p, p < (j + 1) → ∀ b, b < X.g.t + 1 → CellO X x p b (h))) ∧ x.r.body.length - (j + 1) < x.r.body.length - j
       refine ⟨⟨by omega, hM2, hM3, fun hc => ⟨(hM4 hc).1, (hL4 (hM4 hc).2.1).2.1, fun p hp b2 hb2 => ?_⟩⟩, by omega⟩
       by_cases e : p = j
       · subst e; exact (hM4 hc).2.2 b2 (by have : X.g.t = X.terms.length := rfl; omega)
       · have := (hL4 (hM4 hc).2.1).2.2 p (by omega) b2 hb2
         rw [(hM4 hc).1, ← (hL4 (hM4 hc).2.1).1]; exact this
      · exact ⟨rfl, rfl, rfl, rfl, rfl, rfl, rfl, rfl, rfl, rfl, trivial⟩
      ·show List.Perm _ ((iCells b10 41 (ruF x) :: iCells b30 4 (bl (X.g.n * (X.g.t + 1)) (fl (X.g.t + 1) ((h)))) :: iCells b1 25 [.slice X.At X.terms.length X.ct, .slice X.An X.nts.length X.cn, .int .i64 X.start, .slice X.Ar X.xs.length X.cr] :: σ))
       exact .refl _
      · exact fun _ h => h
   ·skip
    refine c_exit ?_
    refine c_here ?_
    refine c_reg ?_
    refine l_q (by decide) (p_move rfl).q ?_
    first | refine l_q (by decide) (p_add (j := 1) rfl rfl rfl rfl (by show _ ≤ (9223372036854775807 : Nat); omega)).q ?_ | refine l_q (by decide) (p_addi rfl rfl (by show (-9223372036854775808 : Int) ≤ _; omega) (by show _ ≤ ((9223372036854775807 : Nat) : Int); omega)).q ?_
    refine l_q (by decide) (p_assign rfl).q ?_
    refine l_nil ?_
    first | (refine c_drop (x := iCells b10 _ _) ?_) | (refine c_perm (front1 _ _ _) ?_; refine c_drop (x := iCells b10 _ _) ?_) | (refine c_perm (front2 _ _ _ _) ?_; refine c_drop (x := iCells b10 _ _) ?_) | (refine c_perm (front3 _ _ _ _ _) ?_; refine c_drop (x := iCells b10 _ _) ?_) | (refine c_perm (front4 _ _ _ _ _ _) ?_; refine c_drop (x := iCells b10 _ _) ?_)
    refine c_join ((k + 1), (h0), (c2)) ?_ ?_ ?_ ?_
    ·show ((k + 1) ≤ X.xs.length ∧ SoundTO X (h0) ∧ ((c2) = true → Ana.lack (X.g.n * (X.g.t + 1)) (fl (X.g.t + 1) (h0)) < Ana.lack (X.g.n * (X.g.t + 1)) (fl (X.g.t + 1) f)) ∧ ((c2) = false → (h0) = f ∧ ∀ zz, zz ∈ X.xs.take (k + 1) → GoodTO X zz (h0))) ∧ X.xs.length - (k + 1) < X.xs.length - k
     refine ⟨⟨by omega, hL2, hL3, fun hc => ⟨(hL4 hc).1, fun zz hz => ?_⟩⟩, by omega⟩
     rw [take_at hx] at hz
     rcases List.mem_append.1 hz with h5 | h5
     · have := (hJ4 (hL4 hc).2.1).2 zz h5
       rw [(hL4 hc).1, ← (hJ4 (hL4 hc).2.1).1]; exact this
     · rw [List.mem_singleton.1 h5]
       exact fun p hp => (hL4 hc).2.2 p (by omega)
    · exact ⟨rfl, rfl, rfl, rfl, rfl, rfl, rfl, rfl, trivial⟩
    ·show List.Perm _ ((iCells b30 4 (bl (X.g.n * (X.g.t + 1)) (fl (X.g.t + 1) ((h0)))) :: iCells b1 25 [.slice X.At X.terms.length X.ct, .slice X.An X.nts.length X.cn, .int .i64 X.start, .slice X.Ar X.xs.length X.cr] :: σ))
     exact .refl _
    · exact fun _ h => h
  ·skip
   refine c_exit ?_
   refine c_here ?_
   rw [List.take_of_length_le (by omega)] at hJ4
   refine c_join ((g), (cg)) ?_ ?_ ?_ ?_
   ·show (SoundTO X (g) ∧ ((cg) = false → ∀ zz, zz ∈ X.xs → GoodTO X zz (g))) ∧ 2 * Ana.lack (X.g.n * (X.g.t + 1)) (fl (X.g.t + 1) (g)) + (cg).toNat < 2 * Ana.lack (X.g.n * (X.g.t + 1)) (fl (X.g.t + 1) f) + ch.toNat
    subst h37
    refine ⟨⟨hJ2, fun hc => (hJ4 hc).2⟩, ?_⟩
    cases cg with
    | true => have := hJ3 rfl; simp only [Bool.toNat_true]; omega
    | false => have := (hJ4 rfl).1; subst this; simp only [Bool.toNat_true, Bool.toNat_false]; omega
   · exact ⟨rfl, rfl, rfl, rfl, rfl, rfl, rfl, trivial⟩
   ·show List.Perm _ ((iCells b30 4 (bl (X.g.n * (X.g.t + 1)) (fl (X.g.t + 1) ((g)))) :: iCells b1 25 [.slice X.At X.terms.length X.ct, .slice X.An X.nts.length X.cn, .int .i64 X.start, .slice X.Ar X.xs.length X.cr] :: σ))
    exact .refl _
   · exact fun _ h => h
 ·skip
  refine c_exit ?_
  refine c_here ?_
  refine c_seq ?_
  rw [bl_ext2 (g := foN X) (rfollow_full ok hI1 (hI2 (by simpa using h37)))]
  refine c_keep ?_
  refine c_reg ?_
  refine l_q (by decide) (p_move rfl).q ?_
  refine l_q (by decide) (p_move rfl).q ?_
  refine l_callf (X := RLs X.g.n (cellP (foN X) (-1)) (-1) (X.g.t + 1)) [(iCells b30 4 (bl (X.g.n * (X.g.t + 1)) (fl (X.g.t + 1) (foN X)))).holds] (fun x : RLs X.g.n (cellP (foN X) (-1)) (-1) (X.g.t + 1) => rlV x) rlQ (by decide) call_43 rfl (fun q hq => by rw [List.mem_singleton.1 hq]; exact (by repeat constructor)) (fun w hs => rsets_ok X.g.n (X.g.t + 1) b30 (foN X) (by show X.nts.length ≤ 1000; omega) (by omega) (by show X.terms.length + 1 ≤ 1000; omega) (by show X.nts.length * (X.terms.length + 1) ≤ 1000; omega) (-1) 1 rfl (by omega) (by omega) _ w hs) (fun x171 => ?_)
  refine l_q (by decide) (p_assign rfl).q ?_
  refine l_nil ?_
  refine c_ret ?_
  refine c_ret1 rfl rfl (fun w hs => ?_)
  exact ⟨⟨x171.1, x171.2.trans (rowsOf_ext2 (fun i k _ _ => by unfold cellP foN; rw [show (((-1 : Int) + (k : Nat) - -1).toNat : Int) - 1 = -1 + (k : Nat) by omega]))⟩, rfl, (hs.drop).weak (by simp)⟩
end Go.Proofs.Ytidbhgolhiaijaa
