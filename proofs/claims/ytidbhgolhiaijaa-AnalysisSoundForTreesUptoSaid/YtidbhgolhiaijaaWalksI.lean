/- The walks of analysis, ninth part (the reference of First); conditions: lengths. -/
import Derived.Test.YtidbhgolhiaijaaWalksH
namespace Go.Proofs.Ytidbhgolhiaijaa
open Go Go.Fx Go.Proofs

theorem dep_ld {xs : List XL} {w : World} (h : Ld xs w) : Dep 0 w.heap.size (Ld xs) := fun w1 w2 hb hq k x hx => dep_sl (w := w) (by decide) (h k x hx) w1 w2 hb (hq k x hx)
theorem SlIn.row {w0 : World} {K : List Nat} {σ : Fx.Own} {ρ : Fx.Facts} {xs : List XL} {x : XL} {k : Nat} (hx : xs[k]? = some x) (h : Ld xs ∈ ρ) : SlIn w0 K σ ρ 1 intF x.A x.l := fun _ hs => (hs.facts _ h).1 k x hx
theorem idx_lt2 {n W i j : Nat} (hi : i < n) (hj : j < W) : i * W + j < n * W := by
  have h := Nat.mul_le_mul_right W (show i + 1 ≤ n by omega)
  rw [Nat.add_mul] at h
  omega
theorem row_ne {l m : List XL} {k : Nat} {u u2 : XL} (hu : l[k]? = some u) (hu2 : m[k]? = some u2) (h : u.l ≠ u2.l) : l.map (·.l) ≠ m.map (·.l) := fun e => by
  have h1 : (l.map (·.l))[k]? = some u.l := by rw [List.getElem?_map, hu]; rfl
  have h2 : (m.map (·.l))[k]? = some u2.l := by rw [List.getElem?_map, hu2]; rfl
  rw [e, h2] at h1
  injection h1 with h1
  exact h h1.symm
/-- a flat table as numbers say it -/
def cellP (f : MF) (lst : Int) (i : Nat) (a : Int) : Bool := f i (a - lst).toNat
theorem mul_lt_left {a b W : Nat} (h : a * W < b * W) : a < b := Nat.lt_of_mul_lt_mul_right h
/-! the reference's First -/
def SoundT (X : GI) (nul : Nat → Bool) (f : MF) : Prop := ∀ i b, f i b = true → Ana.FI X.g nul i (b : Int)
def Cell (nul : Nat → Bool) (x : XR) (p b : Nat) (f : MF) : Prop := ∀ y, x.r.body[p]? = some y → Ana.allG false nul (x.r.body.take p) = true → (y = (b : Int) ∨ (y < 0 ∧ f (Ana.nt y) b = true)) → f x.r.head.toNat b = true
def GoodT (nul : Nat → Bool) (t : Nat) (x : XR) (f : MF) : Prop := ∀ p b, b < t → Cell nul x p b f
theorem SoundT.step {X : GI} {nul : Nat → Bool} {f : MF} (h : SoundT X nul f) {x : XR} (hx : x ∈ X.xs) {p b : Nat} {y : Int} (hy : x.r.body[p]? = some y) (hn : Ana.allG false nul (x.r.body.take p) = true) (hc : y = (b : Int) ∨ (y < 0 ∧ f (Ana.nt y) b = true)) : SoundT X nul (upd2 f x.r.head.toNat b true) := fun i c hic => by
  rcases upd2_iff.1 hic with h1 | ⟨rfl, rfl⟩
  · exact h i c h1
  · have hnn : ∀ z, z ∈ x.r.body.take p → Ana.Nul nul z := fun z hz => by
      have := List.all_eq_true.1 hn z hz
      simp [Ana.good] at this
      exact this
    rcases hc with rfl | ⟨h0, h1⟩
    · exact .term x.r p _ (mem_g hx) hy hnn (by omega)
    · exact .nont x.r p y _ (mem_g hx) hy hnn h0 (h _ _ h1)
theorem first_full {X : GI} (ok : Ana.Ok X.g) {nul : Nat → Bool} {f : MF} (hs : SoundT X nul f) (hg : ∀ x, x ∈ X.xs → GoodT nul X.g.t x f) (i : Nat) (b : Nat) (hb : b < X.g.t) : f i b = Ana.dec (Ana.FI X.g nul i (b : Int)) := by
  have hfull := Ana.fi_full (g := X.g) (nul := nul) (F := fun i a => 0 ≤ a ∧ a < X.g.t ∧ f i a.toNat = true) (fun i a ⟨h0, h1, h2⟩ => by have := hs i a.toNat h2; rwa [show ((a.toNat : Nat) : Int) = a by omega] at this) (fun r hr a hbg => by
    obtain ⟨x, hx, rfl⟩ := List.mem_map.1 hr
    obtain ⟨p, y, hy, hn, hc⟩ := Ana.BG_iff.1 hbg
    have hrange : 0 ≤ a ∧ a < X.g.t := by
      rcases hc with ⟨h0, rfl⟩ | ⟨_, h1, h2, _⟩
      · exact ⟨h0, ok.b1 _ hr a (List.mem_of_getElem? hy)⟩
      · exact ⟨h1, h2⟩
    refine ⟨hrange.1, hrange.2, hg x hx p a.toNat (by omega) y hy ?_ ?_⟩
    · unfold Ana.allG
      exact List.all_eq_true.2 fun z hz => by have := hn z hz; unfold Ana.Nul at this; simp [Ana.good, this.1, this.2]
    · rcases hc with ⟨h0, rfl⟩ | ⟨h0, _, _, h3⟩
      · exact .inl (by omega)
      · exact .inr ⟨h0, h3⟩) i (b : Int)
  refine Ana.eq_dec ⟨fun h => hs i b h, fun h => ?_⟩
  have := (hfull.2 h).2.2
  rwa [show ((b : Int)).toNat = b by omega] at this
theorem bl_ext2 {n W : Nat} {f g : MF} (h : ∀ i b, b < W → f i b = g i b) : bl (n * W) (fl W f) = bl (n * W) (fl W g) := bl_ext fun p hp => by
  have hw : 0 < W := Nat.pos_of_ne_zero fun e => by subst e; omega
  unfold fl
  exact h _ _ (Nat.mod_lt p hw)
theorem lack_cell {n W i b : Nat} {f g : MF} {c : Bool} (hi : i < n) (hb : b < W) (h : g i b = false) (h1 : c = true → Ana.lack (n * W) (fl W g) < Ana.lack (n * W) (fl W f)) (h2 : c = false → g = f) : Ana.lack (n * W) (fl W (upd2 g i b true)) < Ana.lack (n * W) (fl W f) := by
  rw [← fl_upd hb]
  have hl := Ana.lack_upd (n := n * W) (f := fl W g) (idx_lt2 hi hb) (by rw [fl_at hb]; exact h)
  cases c with
  | true => have := h1 rfl; omega
  | false => rw [← h2 rfl]; exact hl
noncomputable def fiN (X : GI) : MF := fun i b => Ana.fi X.g i (b : Int)

theorem allG_stop {nul : Nat → Bool} {l : List Int} {j p : Nat} (h : l.length ≤ j ∨ Ana.allG false nul (l.take j) = false) (hp : ¬ p < j) (hl : p < l.length) : Ana.allG false nul (l.take p) = false := by
  rcases h with h | h
  · omega
  · cases ha : Ana.allG false nul (l.take p) with
    | false => rfl
    | true =>
      have : Ana.allG false nul (l.take j) = true := List.all_eq_true.2 fun z hz => List.all_eq_true.1 ha z (by
        have : l.take j = (l.take p).take j := by rw [List.take_take, Nat.min_eq_left (by omega)]
        rw [this] at hz; exact List.mem_of_mem_take hz)
      rw [h] at this; cases this
theorem same_ok (A B : Option Addr) (c d : Nat) (l m : List XL) (hl : l.length ≤ 1000) (hb : ∀ u, u ∈ l → u.l.length ≤ 1000) (w : World) (hq : Sl 1 lsF A l w) (hp : Sl 1 lsF B m w) (h1 : Ld l w) (h2 : Ld m w) :
   Calls Try.prog 21 #[.slice A l.length c, .slice B m.length d] w (Ret fun v w' => v = .bool (decide (l.map (·.l) = m.map (·.l))) ∧ Ext [] w w') := by
 refine calls_fx (l := [.slice A l.length c, .slice B m.length d]) Try.func21 rfl Try.ntmps21 (Nat.le_of_ble_eq_true rfl) (((((St.start w).old h2 (dep_ld h2)).old h1 (dep_ld h1)).old hp (dep_sl (by decide) hp)).old hq (dep_sl (by decide) hq)) ?_
 refine c_seq ?_
 refine c_reg ?_
 refine l_q (by decide) (p_assign rfl).q ?_
 refine l_nil ?_
 refine c_seq ?_
 refine c_seq ?_
 refine c_reg ?_
 refine l_q (by decide) (p_move rfl).q ?_
 refine l_q (by decide) (p_len_sl Try.underlying32 rfl).q ?_
 refine l_q (by decide) (p_move rfl).q ?_
 refine l_q (by decide) (p_len_sl Try.underlying32 rfl).q ?_
 first | refine l_q (by decide) (p_neq rfl rfl rfl rfl).q ?_ | refine l_q (by decide) (p_neqi rfl rfl).q ?_
 refine l_nil ?_
 first | refine c_dec rfl (fun h11 => ?_) (fun h11 => ?_) | refine c_cond rfl (fun h11 => ?_) (fun h11 => ?_)
 ·skip
  refine c_seq ?_
  refine c_reg ?_
  refine l_q (by decide) (p_assign rfl).q ?_
  refine l_nil ?_
  refine c_ret ?_
  refine c_ret1 rfl rfl (fun w hs => ?_)
  exact ⟨by rw [decide_eq_false (fun h => h11 (by have := congrArg List.length h; simp only [List.length_map] at this; rw [this]))], hs.ext⟩
 ·skip
  refine c_skip ?_
  refine c_seq ?_
  refine c_seq ?_
  refine c_reg ?_
  refine l_q (by decide) (p_assign (v := .int .i64 ((0 : Nat) : Int)) rfl).q ?_
  refine l_nil ?_
  refine c_block ?_
  refine c_loop (S := Nat) (fun zs => zs ≤ l.length ∧ (l.take zs).map (·.l) = (m.take zs).map (·.l)) (fun zs => l.length - zs) (fun zs => [(0, .slice A l.length c), (1, .slice B m.length d), (5, .int .i64 (zs : Int))]) (fun zs => []) (fun zs => [Sl 1 lsF A l, Sl 1 lsF B m, Ld l, Ld m]) (0) ?_ ?_ ?_ ?_ ?_
  · show (0) ≤ l.length ∧ (l.take (0)).map (·.l) = (m.take (0)).map (·.l)
    exact ⟨Nat.zero_le _, rfl⟩
  · exact ⟨rfl, rfl, rfl, trivial⟩
  · exact .refl _
  · exact fun _ h => h
  rintro k hinv
  have hinv : k ≤ l.length ∧ (l.take k).map (·.l) = (m.take k).map (·.l) := hinv
  obtain ⟨hk, he⟩ := hinv
  show Cont _ _ _ _ [(0, .slice A l.length c), (1, .slice B m.length d), (5, .int .i64 (k : Int))] ([]) [Sl 1 lsF A l, Sl 1 lsF B m, Ld l, Ld m]
  refine c_seq ?_
  refine c_seq ?_
  refine c_reg ?_
  refine l_q (by decide) (p_move rfl).q ?_
  refine l_q (by decide) (p_move rfl).q ?_
  refine l_q (by decide) (p_len_sl Try.underlying32 rfl).q ?_
  first | refine l_q (by decide) (p_lss rfl rfl rfl rfl).q ?_ | refine l_q (by decide) (p_lssi rfl rfl).q ?_
  refine l_nil ?_
  first | refine c_dec rfl (fun h15 => ?_) (fun h15 => ?_) | refine c_cond rfl (fun h15 => ?_) (fun h15 => ?_)
  ·skip
   have h11 := Classical.not_not.1 h11
   obtain ⟨u, hu⟩ := at_some (l := l) (n := k) (by omega)
   obtain ⟨u2, hu2⟩ := at_some (l := m) (n := k) (by omega)
   have hul := hb u (List.mem_of_getElem? hu)
   refine c_skip ?_
   refine c_seq ?_
   refine c_block ?_
   refine c_seq ?_
   refine c_seq ?_
   refine c_draw mixed (by decide +kernel) ?_
   refine q_q (by decide) (p_move rfl).q ?_
   refine q_q (by decide) (p_move rfl).q ?_
   first | refine q_q (by decide) (r_index Try.underlying32 inf_39 rfl rfl rfl (by first | exact .fact (by repeat constructor) | exact .own (by repeat constructor) (by decide) (fun _ => rfl) | exact SlIn.body (by repeat constructor) (by assumption) | exact SlIn.row (by assumption) (by repeat constructor)) rfl (by omega)).q ?_ | refine q_q (by decide) (r_index Try.underlying32 inf_39 rfl rfl rfl (by first | exact .fact (by repeat constructor) | exact .own (by repeat constructor) (by decide) (fun _ => rfl) | exact SlIn.body (by repeat constructor) (by assumption) | exact SlIn.row (by assumption) (by repeat constructor)) rfl (by decide)).q ?_ | refine q_q (by decide) (p_indexo Try.underlying32 inf_39 rfl rfl rfl (by omega)).q ?_
   first | refine q_q (by decide) (r_loado Try.underlying39 rfl rfl (by repeat constructor) (by rfl)).q ?_ | refine q_q (by decide) (r_load1 Try.underlying39 rfl rfl (by first | exact .fact (by repeat constructor) | exact .own (by repeat constructor) (by decide) (fun _ => rfl) | exact SlIn.body (by repeat constructor) (by assumption) | exact SlIn.row (by assumption) (by repeat constructor)) (by first | assumption | rfl) (by rfl)).q ?_ | refine q_q (by decide) (r_loadf Try.underlying39 rfl rfl (by first | exact .fact (by repeat constructor) | exact .own (by repeat constructor) (by decide) (fun _ => rfl) | exact SlIn.body (by repeat constructor) (by assumption) | exact SlIn.row (by assumption) (by repeat constructor)) (by assumption) (by rfl)).q ?_
   refine q_q (by decide) (p_len_sl Try.underlying39 rfl).q ?_
   refine q_q (by decide) (p_move rfl).q ?_
   refine q_q (by decide) (p_move rfl).q ?_
   first | refine q_q (by decide) (r_index Try.underlying32 inf_39 rfl rfl rfl (by first | exact .fact (by repeat constructor) | exact .own (by repeat constructor) (by decide) (fun _ => rfl) | exact SlIn.body (by repeat constructor) (by assumption) | exact SlIn.row (by assumption) (by repeat constructor)) rfl (by omega)).q ?_ | refine q_q (by decide) (r_index Try.underlying32 inf_39 rfl rfl rfl (by first | exact .fact (by repeat constructor) | exact .own (by repeat constructor) (by decide) (fun _ => rfl) | exact SlIn.body (by repeat constructor) (by assumption) | exact SlIn.row (by assumption) (by repeat constructor)) rfl (by decide)).q ?_ | refine q_q (by decide) (p_indexo Try.underlying32 inf_39 rfl rfl rfl (by omega)).q ?_
   first | refine q_q (by decide) (r_loado Try.underlying39 rfl rfl (by repeat constructor) (by rfl)).q ?_ | refine q_q (by decide) (r_load1 Try.underlying39 rfl rfl (by first | exact .fact (by repeat constructor) | exact .own (by repeat constructor) (by decide) (fun _ => rfl) | exact SlIn.body (by repeat constructor) (by assumption) | exact SlIn.row (by assumption) (by repeat constructor)) (by first | assumption | rfl) (by rfl)).q ?_ | refine q_q (by decide) (r_loadf Try.underlying39 rfl rfl (by first | exact .fact (by repeat constructor) | exact .own (by repeat constructor) (by decide) (fun _ => rfl) | exact SlIn.body (by repeat constructor) (by assumption) | exact SlIn.row (by assumption) (by repeat constructor)) (by assumption) (by rfl)).q ?_
   refine q_q (by decide) (p_len_sl Try.underlying39 rfl).q ?_
   first | refine q_q (by decide) (p_neq rfl rfl rfl rfl).q ?_ | refine q_q (by decide) (p_neqi rfl rfl).q ?_
   refine q_nil ?_
   first | refine c_dec rfl (fun h28 => ?_) (fun h28 => ?_) | refine c_cond rfl (fun h28 => ?_) (fun h28 => ?_)
   ·skip
    refine c_seq ?_
    refine c_reg ?_
    refine l_q (by decide) (p_assign rfl).q ?_
    refine l_nil ?_
    refine c_ret ?_
    refine c_ret1 rfl rfl (fun w hs => ?_)
    exact ⟨by rw [decide_eq_false (row_ne hu hu2 (fun h => h28 (by rw [h])))], hs.ext⟩
   ·skip
    refine c_skip ?_
    refine c_seq ?_
    refine c_reg ?_
    refine l_q (by decide) (p_assign (v := .int .i64 ((0 : Nat) : Int)) rfl).q ?_
    refine l_nil ?_
    refine c_block ?_
    refine c_loop (S := Nat) (fun zs => zs ≤ u.l.length ∧ u.l.take zs = u2.l.take zs) (fun zs => u.l.length - zs) (fun zs => [(0, .slice A l.length c), (1, .slice B m.length d), (5, .int .i64 (k : Int)), (6, .int .i64 (zs : Int))]) (fun zs => []) (fun zs => [Sl 1 lsF A l, Sl 1 lsF B m, Ld l, Ld m]) (0) ?_ ?_ ?_ ?_ ?_
    · show (0) ≤ u.l.length ∧ u.l.take (0) = u2.l.take (0)
      exact ⟨Nat.zero_le _, rfl⟩
    · exact ⟨rfl, rfl, rfl, rfl, trivial⟩
    · exact .refl _
    · exact fun _ h => h
    rintro j hinv
    have hinv : j ≤ u.l.length ∧ u.l.take j = u2.l.take j := hinv
    obtain ⟨hj, hej⟩ := hinv
    show Cont _ _ _ _ [(0, .slice A l.length c), (1, .slice B m.length d), (5, .int .i64 (k : Int)), (6, .int .i64 (j : Int))] ([]) [Sl 1 lsF A l, Sl 1 lsF B m, Ld l, Ld m]
    refine c_seq ?_
    refine c_seq ?_
    refine c_reg ?_
    refine l_q (by decide) (p_move rfl).q ?_
    refine l_q (by decide) (p_move rfl).q ?_
    refine l_q (by decide) (p_move rfl).q ?_
    first | refine l_q (by decide) (r_index Try.underlying32 inf_39 rfl rfl rfl (by first | exact .fact (by repeat constructor) | exact .own (by repeat constructor) (by decide) (fun _ => rfl) | exact SlIn.body (by repeat constructor) (by assumption) | exact SlIn.row (by assumption) (by repeat constructor)) rfl (by omega)).q ?_ | refine l_q (by decide) (r_index Try.underlying32 inf_39 rfl rfl rfl (by first | exact .fact (by repeat constructor) | exact .own (by repeat constructor) (by decide) (fun _ => rfl) | exact SlIn.body (by repeat constructor) (by assumption) | exact SlIn.row (by assumption) (by repeat constructor)) rfl (by decide)).q ?_ | refine l_q (by decide) (p_indexo Try.underlying32 inf_39 rfl rfl rfl (by omega)).q ?_
    first | refine l_q (by decide) (r_loado Try.underlying39 rfl rfl (by repeat constructor) (by rfl)).q ?_ | refine l_q (by decide) (r_load1 Try.underlying39 rfl rfl (by first | exact .fact (by repeat constructor) | exact .own (by repeat constructor) (by decide) (fun _ => rfl) | exact SlIn.body (by repeat constructor) (by assumption) | exact SlIn.row (by assumption) (by repeat constructor)) (by first | assumption | rfl) (by rfl)).q ?_ | refine l_q (by decide) (r_loadf Try.underlying39 rfl rfl (by first | exact .fact (by repeat constructor) | exact .own (by repeat constructor) (by decide) (fun _ => rfl) | exact SlIn.body (by repeat constructor) (by assumption) | exact SlIn.row (by assumption) (by repeat constructor)) (by assumption) (by rfl)).q ?_
    refine l_q (by decide) (p_len_sl Try.underlying39 rfl).q ?_
    first | refine l_q (by decide) (p_lss rfl rfl rfl rfl).q ?_ | refine l_q (by decide) (p_lssi rfl rfl).q ?_
    refine l_nil ?_
    first | refine c_dec rfl (fun h35 => ?_) (fun h35 => ?_) | refine c_cond rfl (fun h35 => ?_) (fun h35 => ?_)
    ·skip
     have h28 := Classical.not_not.1 h28
     obtain ⟨y, hy⟩ := at_some (l := u.l) (n := j) (by omega)
     obtain ⟨y2, hy2⟩ := at_some (l := u2.l) (n := j) (by omega)
     refine c_skip ?_
     refine c_seq ?_
     refine c_block ?_
     refine c_seq ?_
     refine c_draw mixed (by decide +kernel) ?_
     refine q_q (by decide) (p_move rfl).q ?_
     refine q_q (by decide) (p_move rfl).q ?_
     first | refine q_q (by decide) (r_index Try.underlying32 inf_39 rfl rfl rfl (by first | exact .fact (by repeat constructor) | exact .own (by repeat constructor) (by decide) (fun _ => rfl) | exact SlIn.body (by repeat constructor) (by assumption) | exact SlIn.row (by assumption) (by repeat constructor)) rfl (by omega)).q ?_ | refine q_q (by decide) (r_index Try.underlying32 inf_39 rfl rfl rfl (by first | exact .fact (by repeat constructor) | exact .own (by repeat constructor) (by decide) (fun _ => rfl) | exact SlIn.body (by repeat constructor) (by assumption) | exact SlIn.row (by assumption) (by repeat constructor)) rfl (by decide)).q ?_ | refine q_q (by decide) (p_indexo Try.underlying32 inf_39 rfl rfl rfl (by omega)).q ?_
     first | refine q_q (by decide) (r_loado Try.underlying39 rfl rfl (by repeat constructor) (by rfl)).q ?_ | refine q_q (by decide) (r_load1 Try.underlying39 rfl rfl (by first | exact .fact (by repeat constructor) | exact .own (by repeat constructor) (by decide) (fun _ => rfl) | exact SlIn.body (by repeat constructor) (by assumption) | exact SlIn.row (by assumption) (by repeat constructor)) (by first | assumption | rfl) (by rfl)).q ?_ | refine q_q (by decide) (r_loadf Try.underlying39 rfl rfl (by first | exact .fact (by repeat constructor) | exact .own (by repeat constructor) (by decide) (fun _ => rfl) | exact SlIn.body (by repeat constructor) (by assumption) | exact SlIn.row (by assumption) (by repeat constructor)) (by assumption) (by rfl)).q ?_
     refine q_q (by decide) (p_move rfl).q ?_
     first | refine q_q (by decide) (r_index Try.underlying39 inf_3 rfl rfl rfl (by first | exact .fact (by repeat constructor) | exact .own (by repeat constructor) (by decide) (fun _ => rfl) | exact SlIn.body (by repeat constructor) (by assumption) | exact SlIn.row (by assumption) (by repeat constructor)) rfl (by omega)).q ?_ | refine q_q (by decide) (r_index Try.underlying39 inf_3 rfl rfl rfl (by first | exact .fact (by repeat constructor) | exact .own (by repeat constructor) (by decide) (fun _ => rfl) | exact SlIn.body (by repeat constructor) (by assumption) | exact SlIn.row (by assumption) (by repeat constructor)) rfl (by decide)).q ?_ | refine q_q (by decide) (p_indexo Try.underlying39 inf_3 rfl rfl rfl (by omega)).q ?_
     first | refine q_q (by decide) (r_loado Try.underlying3 rfl rfl (by repeat constructor) (by rfl)).q ?_ | refine q_q (by decide) (r_load1 Try.underlying3 rfl rfl (by first | exact .fact (by repeat constructor) | exact .own (by repeat constructor) (by decide) (fun _ => rfl) | exact SlIn.body (by repeat constructor) (by assumption) | exact SlIn.row (by assumption) (by repeat constructor)) (by first | assumption | rfl) (by rfl)).q ?_ | refine q_q (by decide) (r_loadf Try.underlying3 rfl rfl (by first | exact .fact (by repeat constructor) | exact .own (by repeat constructor) (by decide) (fun _ => rfl) | exact SlIn.body (by repeat constructor) (by assumption) | exact SlIn.row (by assumption) (by repeat constructor)) (by assumption) (by rfl)).q ?_
     refine q_q (by decide) (p_move rfl).q ?_
     refine q_q (by decide) (p_move rfl).q ?_
     first | refine q_q (by decide) (r_index Try.underlying32 inf_39 rfl rfl rfl (by first | exact .fact (by repeat constructor) | exact .own (by repeat constructor) (by decide) (fun _ => rfl) | exact SlIn.body (by repeat constructor) (by assumption) | exact SlIn.row (by assumption) (by repeat constructor)) rfl (by omega)).q ?_ | refine q_q (by decide) (r_index Try.underlying32 inf_39 rfl rfl rfl (by first | exact .fact (by repeat constructor) | exact .own (by repeat constructor) (by decide) (fun _ => rfl) | exact SlIn.body (by repeat constructor) (by assumption) | exact SlIn.row (by assumption) (by repeat constructor)) rfl (by decide)).q ?_ | refine q_q (by decide) (p_indexo Try.underlying32 inf_39 rfl rfl rfl (by omega)).q ?_
     first | refine q_q (by decide) (r_loado Try.underlying39 rfl rfl (by repeat constructor) (by rfl)).q ?_ | refine q_q (by decide) (r_load1 Try.underlying39 rfl rfl (by first | exact .fact (by repeat constructor) | exact .own (by repeat constructor) (by decide) (fun _ => rfl) | exact SlIn.body (by repeat constructor) (by assumption) | exact SlIn.row (by assumption) (by repeat constructor)) (by first | assumption | rfl) (by rfl)).q ?_ | refine q_q (by decide) (r_loadf Try.underlying39 rfl rfl (by first | exact .fact (by repeat constructor) | exact .own (by repeat constructor) (by decide) (fun _ => rfl) | exact SlIn.body (by repeat constructor) (by assumption) | exact SlIn.row (by assumption) (by repeat constructor)) (by assumption) (by rfl)).q ?_
     refine q_q (by decide) (p_move rfl).q ?_
     first | refine q_q (by decide) (r_index Try.underlying39 inf_3 rfl rfl rfl (by first | exact .fact (by repeat constructor) | exact .own (by repeat constructor) (by decide) (fun _ => rfl) | exact SlIn.body (by repeat constructor) (by assumption) | exact SlIn.row (by assumption) (by repeat constructor)) rfl (by omega)).q ?_ | refine q_q (by decide) (r_index Try.underlying39 inf_3 rfl rfl rfl (by first | exact .fact (by repeat constructor) | exact .own (by repeat constructor) (by decide) (fun _ => rfl) | exact SlIn.body (by repeat constructor) (by assumption) | exact SlIn.row (by assumption) (by repeat constructor)) rfl (by decide)).q ?_ | refine q_q (by decide) (p_indexo Try.underlying39 inf_3 rfl rfl rfl (by omega)).q ?_
     first | refine q_q (by decide) (r_loado Try.underlying3 rfl rfl (by repeat constructor) (by rfl)).q ?_ | refine q_q (by decide) (r_load1 Try.underlying3 rfl rfl (by first | exact .fact (by repeat constructor) | exact .own (by repeat constructor) (by decide) (fun _ => rfl) | exact SlIn.body (by repeat constructor) (by assumption) | exact SlIn.row (by assumption) (by repeat constructor)) (by first | assumption | rfl) (by rfl)).q ?_ | refine q_q (by decide) (r_loadf Try.underlying3 rfl rfl (by first | exact .fact (by repeat constructor) | exact .own (by repeat constructor) (by decide) (fun _ => rfl) | exact SlIn.body (by repeat constructor) (by assumption) | exact SlIn.row (by assumption) (by repeat constructor)) (by assumption) (by rfl)).q ?_
     first | refine q_q (by decide) (p_neq rfl rfl rfl rfl).q ?_ | refine q_q (by decide) (p_neqi rfl rfl).q ?_
     refine q_nil ?_
     first | refine c_dec rfl (fun h52 => ?_) (fun h52 => ?_) | refine c_cond rfl (fun h52 => ?_) (fun h52 => ?_)
     ·skip
      refine c_seq ?_
      refine c_reg ?_
      refine l_q (by decide) (p_assign rfl).q ?_
      refine l_nil ?_
      refine c_ret ?_
      refine c_ret1 rfl rfl (fun w hs => ?_)
      exact ⟨by rw [decide_eq_false (row_ne hu hu2 (fun h => by rw [h, hy2] at hy; injection hy with hy; exact h52 hy.symm))], hs.ext⟩
     ·skip
      refine c_skip ?_
      refine c_reg ?_
      refine l_q (by decide) (p_move rfl).q ?_
      first | refine l_q (by decide) (p_add (j := 1) rfl rfl rfl rfl (by show _ ≤ (9223372036854775807 : Nat); omega)).q ?_ | refine l_q (by decide) (p_addi rfl rfl (by show (-9223372036854775808 : Int) ≤ _; omega) (by show _ ≤ ((9223372036854775807 : Nat) : Int); omega)).q ?_
      refine l_q (by decide) (p_assign rfl).q ?_
      refine l_nil ?_
      refine c_join ((j + 1)) ?_ ?_ ?_ ?_
      ·show ((j + 1) ≤ u.l.length ∧ u.l.take (j + 1) = u2.l.take (j + 1)) ∧ u.l.length - (j + 1) < u.l.length - j
       exact ⟨⟨by omega, by rw [take_at hy, take_at hy2, hej, show y = y2 by omega]⟩, by omega⟩
      · exact ⟨rfl, rfl, rfl, rfl, trivial⟩
      ·show List.Perm _ ([])
       exact .refl _
      · exact fun _ h => h
    ·skip
     refine c_exit ?_
     refine c_here ?_
     refine c_reg ?_
     refine l_q (by decide) (p_move rfl).q ?_
     first | refine l_q (by decide) (p_add (j := 1) rfl rfl rfl rfl (by show _ ≤ (9223372036854775807 : Nat); omega)).q ?_ | refine l_q (by decide) (p_addi rfl rfl (by show (-9223372036854775808 : Int) ≤ _; omega) (by show _ ≤ ((9223372036854775807 : Nat) : Int); omega)).q ?_
     refine l_q (by decide) (p_assign rfl).q ?_
     refine l_nil ?_
     refine c_join ((k + 1)) ?_ ?_ ?_ ?_
     ·show ((k + 1) ≤ l.length ∧ (l.take (k + 1)).map (·.l) = (m.take (k + 1)).map (·.l)) ∧ l.length - (k + 1) < l.length - k
      rw [List.take_of_length_le (by omega), List.take_of_length_le (by omega)] at hej
      exact ⟨⟨by omega, by rw [take_at hu, take_at hu2, List.map_append, List.map_append, he]; simp [hej]⟩, by omega⟩
     · exact ⟨rfl, rfl, rfl, trivial⟩
     ·show List.Perm _ ([])
      exact .refl _
     · exact fun _ h => h
  ·skip
   refine c_exit ?_
   refine c_here ?_
   refine c_seq ?_
   refine c_reg ?_
   refine l_q (by decide) (p_assign rfl).q ?_
   refine l_nil ?_
   refine c_ret ?_
   refine c_ret1 rfl rfl (fun w hs => ?_)
   have h11 := Classical.not_not.1 h11
   rw [List.take_of_length_le (by omega), List.take_of_length_le (by omega)] at he
   exact ⟨by rw [decide_eq_true he], hs.ext⟩

theorem rsets_ok (n W bo : Nat) (f : MF) (hn : n ≤ 1000) (hW : 1 ≤ W) (hW2 : W ≤ 1000) (hnW : n * W ≤ 1000) (lst least : Int) (hls : least = -lst) (h0 : -1 ≤ lst) (h1 : lst ≤ 1000) (σ : Fx.Own) (w : World) (h : St w (keysOf σ) w σ [(iCells bo 4 (bl (n * W) (fl W f))).holds]) :
   Calls Try.prog 43 #[.slice (some ⟨bo, 0, none⟩) (n * W) (n * W), .int .i64 (W : Int), .int .i64 least] w (Ret fun v w' => ∃ x : RLs n (cellP f lst) lst W, v = rlV x ∧ St w (keysOf σ) w' σ (rlQ x)) := by
 refine calls_fx (l := [.slice (some ⟨bo, 0, none⟩) (n * W) (n * W), .int .i64 (W : Int), .int .i64 least]) Try.func43 rfl Try.ntmps43 (Nat.le_of_ble_eq_true rfl) h ?_
 refine c_seq ?_
 refine c_reg ?_
 refine l_q (by decide) (p_assign rfl).q ?_
 refine l_nil ?_
 refine c_seq ?_
 refine c_reg ?_
 refine l_q (by decide) (p_assign rfl).q ?_
 refine l_nil ?_
 refine c_seq ?_
 refine c_seq ?_
 refine c_reg ?_
 refine l_q (by decide) (p_assign (v := .int .i64 ((0 : Nat) : Int)) rfl).q ?_
 refine l_nil ?_
 refine c_block ?_
 refine c_sl0 39 1 lsF ?_
 refine c_facts [Ld [], (iCells bo 4 (bl (n * W) (fl W f))).holds] (fun w hs => hs.sure (fun w k x h => by simp at h)) ?_
 refine c_loop (S := Option Addr × Nat × List XL) (fun zs => zs.2.2.length ≤ n ∧ zs.2.2.map (·.l) = Ana.rowsOf zs.2.2.length (cellP f lst) lst W) (fun zs => n - zs.2.2.length) (fun zs => [(0, .slice (some ⟨bo, 0, none⟩) (n * W) (n * W)), (1, .int .i64 (W : Int)), (2, .int .i64 least), (7, .slice zs.1 zs.2.2.length zs.2.1), (8, .int .i64 (((zs.2.2.length * W : Nat)) : Int))]) (fun zs => (iSl 39 1 lsF zs.1 zs.2.1 zs.2.2 :: σ)) (fun zs => [Ld zs.2.2, (iCells bo 4 (bl (n * W) (fl W f))).holds]) (none, 0, ([] : List XL)) ?_ ?_ ?_ ?_ ?_
 · show (([] : List XL)).length ≤ n ∧ (([] : List XL)).map (·.l) = Ana.rowsOf (([] : List XL)).length (cellP f lst) lst W
   exact ⟨Nat.zero_le _, rfl⟩
 · exact ⟨rfl, rfl, rfl, rfl, ((by show some _ = some _; rw [show ([] : List XL).length * W = 0 from Nat.zero_mul W])), trivial⟩
 · exact .refl _
 · exact fun _ h => h
 rintro ⟨A7, c7, xs⟩ hinv
 have hinv : xs.length ≤ n ∧ xs.map (·.l) = Ana.rowsOf xs.length (cellP f lst) lst W := hinv
 obtain ⟨hJ1, hJ2⟩ := hinv
 show Cont _ _ _ _ [(0, .slice (some ⟨bo, 0, none⟩) (n * W) (n * W)), (1, .int .i64 (W : Int)), (2, .int .i64 least), (7, .slice A7 xs.length c7), (8, .int .i64 (((xs.length * W : Nat)) : Int))] ((iSl 39 1 lsF A7 c7 xs :: σ)) [Ld xs, (iCells bo 4 (bl (n * W) (fl W f))).holds]
 refine c_seq ?_
 refine c_seq ?_
 refine c_reg ?_
 refine l_q (by decide) (p_move rfl).q ?_
 refine l_q (by decide) (p_move rfl).q ?_
 refine l_q (by decide) (p_len_sl Try.underlying29 rfl).q ?_
 first | refine l_q (by decide) (p_lss rfl rfl rfl rfl).q ?_ | refine l_q (by decide) (p_lssi rfl rfl).q ?_
 refine l_nil ?_
 first | refine c_dec rfl (fun h14 => ?_) (fun h14 => ?_) | refine c_cond rfl (fun h14 => ?_) (fun h14 => ?_)
 ·skip
  have hkn : xs.length < n := mul_lt_left (by omega : xs.length * W < n * W)
  have hkW : xs.length * W + W ≤ n * W := by have := Nat.mul_le_mul_right W (show xs.length + 1 ≤ n by omega); rw [Nat.add_mul] at this; omega
  refine c_skip ?_
  refine c_seq ?_
  refine c_block ?_
  refine c_seq ?_
  refine c_reg ?_
  refine l_q (by decide) (p_assign rfl).q ?_
  refine l_nil ?_
  refine c_seq ?_
  refine c_seq ?_
  refine c_reg ?_
  refine l_q (by decide) (p_assign (v := .int .i64 ((0 : Nat) : Int)) rfl).q ?_
  refine l_nil ?_
  refine c_block ?_
  refine c_sl0 3 1 intF ?_
  refine c_loop (S := Nat × Option Addr × Nat × List Int) (fun zs => zs.1 ≤ W ∧ zs.2.2.2 = Ana.rowOf (cellP f lst xs.length) lst zs.1) (fun zs => W - zs.1) (fun zs => [(0, .slice (some ⟨bo, 0, none⟩) (n * W) (n * W)), (1, .int .i64 (W : Int)), (2, .int .i64 least), (7, .slice A7 xs.length c7), (8, .int .i64 (((xs.length * W : Nat)) : Int)), (9, .slice zs.2.1 zs.2.2.2.length zs.2.2.1), (10, .int .i64 (zs.1 : Int))]) (fun zs => (iSl 3 1 intF zs.2.1 zs.2.2.1 zs.2.2.2 :: iSl 39 1 lsF A7 c7 xs :: σ)) (fun zs => [Ld xs, (iCells bo 4 (bl (n * W) (fl W f))).holds]) (0, none, 0, ([] : List Int)) ?_ ?_ ?_ ?_ ?_
  · show (0) ≤ W ∧ (([] : List Int)) = Ana.rowOf (cellP f lst xs.length) lst (0)
    exact ⟨Nat.zero_le _, rfl⟩
  · exact ⟨rfl, rfl, rfl, rfl, rfl, rfl, rfl, trivial⟩
  · exact .refl _
  · exact fun _ h => h
  rintro ⟨j, A, c, row⟩ hinv
  have hinv : j ≤ W ∧ row = Ana.rowOf (cellP f lst xs.length) lst j := hinv
  obtain ⟨hL1, hL2⟩ := hinv
  show Cont _ _ _ _ [(0, .slice (some ⟨bo, 0, none⟩) (n * W) (n * W)), (1, .int .i64 (W : Int)), (2, .int .i64 least), (7, .slice A7 xs.length c7), (8, .int .i64 (((xs.length * W : Nat)) : Int)), (9, .slice A row.length c), (10, .int .i64 (j : Int))] ((iSl 3 1 intF A c row :: iSl 39 1 lsF A7 c7 xs :: σ)) [Ld xs, (iCells bo 4 (bl (n * W) (fl W f))).holds]
  refine c_seq ?_
  refine c_seq ?_
  refine c_reg ?_
  refine l_q (by decide) (p_move rfl).q ?_
  refine l_q (by decide) (p_move rfl).q ?_
  first | refine l_q (by decide) (p_lss rfl rfl rfl rfl).q ?_ | refine l_q (by decide) (p_lssi rfl rfl).q ?_
  refine l_nil ?_
  first | refine c_dec rfl (fun h20 => ?_) (fun h20 => ?_) | refine c_cond rfl (fun h20 => ?_) (fun h20 => ?_)
  ·skip
   refine c_skip ?_
   refine c_seq ?_
   refine c_block ?_
   refine c_seq ?_
   have hidx := idx_lt2 hkn h20
   refine c_reg ?_
   refine l_q (by decide) (p_move rfl).q ?_
   refine l_q (by decide) (p_move rfl).q ?_
   refine l_q (by decide) (p_move rfl).q ?_
   first | refine l_q (by decide) (p_add rfl rfl rfl rfl (by show _ ≤ (9223372036854775807 : Nat); omega)).q ?_ | refine l_q (by decide) (p_addi rfl rfl (by show (-9223372036854775808 : Int) ≤ _; omega) (by show _ ≤ ((9223372036854775807 : Nat) : Int); omega)).q ?_
   first | refine l_q (by decide) (r_index Try.underlying29 inf_4 rfl rfl rfl (by first | exact .fact (by repeat constructor) | exact .own (by repeat constructor) (by decide) (fun _ => rfl) | exact SlIn.body (by repeat constructor) (by assumption) | exact SlIn.row (by assumption) (by repeat constructor)) rfl (by omega)).q ?_ | refine l_q (by decide) (r_index Try.underlying29 inf_4 rfl rfl rfl (by first | exact .fact (by repeat constructor) | exact .own (by repeat constructor) (by decide) (fun _ => rfl) | exact SlIn.body (by repeat constructor) (by assumption) | exact SlIn.row (by assumption) (by repeat constructor)) rfl (by decide)).q ?_ | refine l_q (by decide) (p_indexo Try.underlying29 inf_4 rfl rfl rfl (by omega)).q ?_
   refine l_q (by decide) (((r_loadq (q := (iCells bo 4 (bl (n * W) (fl W f))).holds) Try.underlying4 rfl rfl (by repeat constructor) (fun w h => (cells_cell h _).trans (bl_at (idx_lt2 hkn h20))))).to (u := .bool (f xs.length j)) (by rw [fl_at h20])).q ?_
   refine l_nil ?_
   first | refine c_dec rfl (fun h28 => ?_) (fun h28 => ?_) | refine c_cond rfl (fun h28 => ?_) (fun h28 => ?_)
   ·skip
    have hrl := Ana.rowOf_len (cellP f lst xs.length) lst j
    rw [← hL2] at hrl
    refine c_reg ?_
    refine l_q (by decide) (p_move rfl).q ?_
    refine l_q (by decide) (p_move rfl).q ?_
    refine l_q (by decide) (p_move rfl).q ?_
    first | refine l_q (by decide) (((p_sub rfl rfl rfl rfl (by omega) (by show _ ≤ (9223372036854775807 : Nat); omega))).to (u := .int .i64 (lst + (j : Int))) (by congr 1; omega)).q ?_ | refine l_q (by decide) (((p_subi rfl rfl (by show (-9223372036854775808 : Int) ≤ _; omega) (by show _ ≤ ((9223372036854775807 : Nat) : Int); omega))).to (u := .int .i64 (lst + (j : Int))) (by congr 1; omega)).q ?_
    refine l_buildSlice (by decide) Try.underlying39 inf_3 (by decide) (by decide) rfl rfl rfl rfl (fun b33 => ?_)
    first | (refine l_append1 (lst + (j : Int)) (by decide) Try.underlying39 inf_3 rfl (by decide) rfl rfl rfl rfl rfl rfl (by omega) (by omega) (fun A34 c34 hA34 => ?_)) | (refine l_perm (.cons _ (front1 _ _ _)) ?_; refine l_append1 (lst + (j : Int)) (by decide) Try.underlying39 inf_3 rfl (by decide) rfl rfl rfl rfl rfl rfl (by omega) (by omega) (fun A34 c34 hA34 => ?_)) | (refine l_perm (.cons _ (front2 _ _ _ _)) ?_; refine l_append1 (lst + (j : Int)) (by decide) Try.underlying39 inf_3 rfl (by decide) rfl rfl rfl rfl rfl rfl (by omega) (by omega) (fun A34 c34 hA34 => ?_)) | (refine l_perm (front1 _ _ _) ?_; refine l_append1 (lst + (j : Int)) (by decide) Try.underlying39 inf_3 rfl (by decide) rfl rfl rfl rfl rfl rfl (by omega) (by omega) (fun A34 c34 hA34 => ?_)) | (refine l_perm (front1 _ _ _) ?_; refine l_perm (.cons _ (front1 _ _ _)) ?_; refine l_append1 (lst + (j : Int)) (by decide) Try.underlying39 inf_3 rfl (by decide) rfl rfl rfl rfl rfl rfl (by omega) (by omega) (fun A34 c34 hA34 => ?_)) | (refine l_perm (front1 _ _ _) ?_; refine l_perm (.cons _ (front2 _ _ _ _)) ?_; refine l_append1 (lst + (j : Int)) (by decide) Try.underlying39 inf_3 rfl (by decide) rfl rfl rfl rfl rfl rfl (by omega) (by omega) (fun A34 c34 hA34 => ?_)) | (refine l_perm (front2 _ _ _ _) ?_; refine l_perm (.cons _ (front1 _ _ _)) ?_; refine l_append1 (lst + (j : Int)) (by decide) Try.underlying39 inf_3 rfl (by decide) rfl rfl rfl rfl rfl rfl (by omega) (by omega) (fun A34 c34 hA34 => ?_)) | (refine l_perm (front2 _ _ _ _) ?_; refine l_perm (.cons _ (front2 _ _ _ _)) ?_; refine l_append1 (lst + (j : Int)) (by decide) Try.underlying39 inf_3 rfl (by decide) rfl rfl rfl rfl rfl rfl (by omega) (by omega) (fun A34 c34 hA34 => ?_))
    refine l_q (by decide) (p_assign rfl).q ?_
    refine l_nil ?_
    refine c_reg ?_
    refine l_q (by decide) (p_move rfl).q ?_
    first | refine l_q (by decide) (p_add (j := 1) rfl rfl rfl rfl (by show _ ≤ (9223372036854775807 : Nat); omega)).q ?_ | refine l_q (by decide) (p_addi rfl rfl (by show (-9223372036854775808 : Int) ≤ _; omega) (by show _ ≤ ((9223372036854775807 : Nat) : Int); omega)).q ?_
    refine l_q (by decide) (p_assign rfl).q ?_
    refine l_nil ?_
    refine c_join ((j + 1), (A34), (c34), (row ++ [lst + (j : Int)])) ?_ ?_ ?_ ?_
    ·show ((j + 1) ≤ W ∧ (row ++ [lst + (j : Int)]) = Ana.rowOf (cellP f lst xs.length) lst (j + 1)) ∧ W - (j + 1) < W - j
     exact ⟨⟨by omega, by rw [Ana.rowOf_succ, if_pos (by rw [cellP, show (lst + (j : Int) - lst).toNat = j by omega]; exact h28), ← hL2]⟩, by omega⟩
    · exact ⟨rfl, rfl, rfl, rfl, rfl, rfl, rfl, trivial⟩
    ·show List.Perm _ ((iSl 3 1 intF (A34) (c34) (row ++ [lst + (j : Int)]) :: iSl 39 1 lsF A7 c7 xs :: σ))
     exact .refl _
    · exact fun _ h => h
   ·skip
    refine c_skip ?_
    refine c_reg ?_
    refine l_q (by decide) (p_move rfl).q ?_
    first | refine l_q (by decide) (p_add (j := 1) rfl rfl rfl rfl (by show _ ≤ (9223372036854775807 : Nat); omega)).q ?_ | refine l_q (by decide) (p_addi rfl rfl (by show (-9223372036854775808 : Int) ≤ _; omega) (by show _ ≤ ((9223372036854775807 : Nat) : Int); omega)).q ?_
    refine l_q (by decide) (p_assign rfl).q ?_
    refine l_nil ?_
    refine c_join ((j + 1), (A), (c), (row)) ?_ ?_ ?_ ?_
    ·show ((j + 1) ≤ W ∧ (row) = Ana.rowOf (cellP f lst xs.length) lst (j + 1)) ∧ W - (j + 1) < W - j
     exact ⟨⟨by omega, by rw [Ana.rowOf_succ, if_neg (by rw [cellP, show (lst + (j : Int) - lst).toNat = j by omega, h28]; decide), List.append_nil]; exact hL2⟩, by omega⟩
    · exact ⟨rfl, rfl, rfl, rfl, rfl, rfl, rfl, trivial⟩
    ·show List.Perm _ ((iSl 3 1 intF (A) (c) (row) :: iSl 39 1 lsF A7 c7 xs :: σ))
     exact .refl _
    · exact fun _ h => h
  ·skip
   refine c_exit ?_
   refine c_here ?_
   refine c_sealr (by decide) (fun _ => rfl) ?_
   refine c_facts [Ld (xs ++ [⟨row, A, c⟩]), (iCells bo 4 (bl (n * W) (fl W f))).holds] (fun w hs => (st_ld_snoc (c := c) hs (by repeat constructor) (by repeat constructor)).weak (by simp)) ?_
   refine c_reg ?_
   refine l_q (by decide) (p_move rfl).q ?_
   refine l_q (by decide) (p_move rfl).q ?_
   refine l_buildSlice (by decide) Try.underlying32 inf_39 (by decide) (by decide) rfl rfl rfl rfl (fun b37 => ?_)
   first | (refine l_append1 ((⟨row, A, c⟩ : XL)) (by decide) Try.underlying32 inf_39 rfl (by decide) rfl rfl rfl rfl rfl rfl (by omega) (by omega) (fun A38 c38 hA38 => ?_)) | (refine l_perm (.cons _ (front1 _ _ _)) ?_; refine l_append1 ((⟨row, A, c⟩ : XL)) (by decide) Try.underlying32 inf_39 rfl (by decide) rfl rfl rfl rfl rfl rfl (by omega) (by omega) (fun A38 c38 hA38 => ?_)) | (refine l_perm (.cons _ (front2 _ _ _ _)) ?_; refine l_append1 ((⟨row, A, c⟩ : XL)) (by decide) Try.underlying32 inf_39 rfl (by decide) rfl rfl rfl rfl rfl rfl (by omega) (by omega) (fun A38 c38 hA38 => ?_)) | (refine l_perm (front1 _ _ _) ?_; refine l_append1 ((⟨row, A, c⟩ : XL)) (by decide) Try.underlying32 inf_39 rfl (by decide) rfl rfl rfl rfl rfl rfl (by omega) (by omega) (fun A38 c38 hA38 => ?_)) | (refine l_perm (front1 _ _ _) ?_; refine l_perm (.cons _ (front1 _ _ _)) ?_; refine l_append1 ((⟨row, A, c⟩ : XL)) (by decide) Try.underlying32 inf_39 rfl (by decide) rfl rfl rfl rfl rfl rfl (by omega) (by omega) (fun A38 c38 hA38 => ?_)) | (refine l_perm (front1 _ _ _) ?_; refine l_perm (.cons _ (front2 _ _ _ _)) ?_; refine l_append1 ((⟨row, A, c⟩ : XL)) (by decide) Try.underlying32 inf_39 rfl (by decide) rfl rfl rfl rfl rfl rfl (by omega) (by omega) (fun A38 c38 hA38 => ?_)) | (refine l_perm (front2 _ _ _ _) ?_; refine l_perm (.cons _ (front1 _ _ _)) ?_; refine l_append1 ((⟨row, A, c⟩ : XL)) (by decide) Try.underlying32 inf_39 rfl (by decide) rfl rfl rfl rfl rfl rfl (by omega) (by omega) (fun A38 c38 hA38 => ?_)) | (refine l_perm (front2 _ _ _ _) ?_; refine l_perm (.cons _ (front2 _ _ _ _)) ?_; refine l_append1 ((⟨row, A, c⟩ : XL)) (by decide) Try.underlying32 inf_39 rfl (by decide) rfl rfl rfl rfl rfl rfl (by omega) (by omega) (fun A38 c38 hA38 => ?_))
   refine l_q (by decide) (p_assign rfl).q ?_
   refine l_nil ?_
   refine c_reg ?_
   refine l_q (by decide) (p_move rfl).q ?_
   refine l_q (by decide) (p_move rfl).q ?_
   first | refine l_q (by decide) (p_add rfl rfl rfl rfl (by show _ ≤ (9223372036854775807 : Nat); omega)).q ?_ | refine l_q (by decide) (p_addi rfl rfl (by show (-9223372036854775808 : Int) ≤ _; omega) (by show _ ≤ ((9223372036854775807 : Nat) : Int); omega)).q ?_
   refine l_q (by decide) (p_assign rfl).q ?_
   refine l_nil ?_
   refine c_join ((A38), (c38), (xs ++ [(⟨row, A, c⟩ : XL)])) ?_ ?_ ?_ ?_
   ·show ((xs ++ [(⟨row, A, c⟩ : XL)]).length ≤ n ∧ (xs ++ [(⟨row, A, c⟩ : XL)]).map (·.l) = Ana.rowsOf (xs ++ [(⟨row, A, c⟩ : XL)]).length (cellP f lst) lst W) ∧ n - (xs ++ [(⟨row, A, c⟩ : XL)]).length < n - xs.length
    obtain rfl : j = W := by omega
    refine ⟨⟨by rw [List.length_append]; simp only [List.length_cons, List.length_nil]; omega, ?_⟩, by rw [List.length_append]; simp only [List.length_cons, List.length_nil]; omega⟩
    rw [List.map_append, hJ2, List.length_append, show xs.length + [(⟨row, A, c⟩ : XL)].length = xs.length + 1 from rfl, rowsOf_succ, hL2]; rfl
   · exact ⟨rfl, rfl, rfl, rfl, ((by show some _ = some _; rw [List.length_append, Nat.add_mul]; congr 2; simp)), trivial⟩
   ·show List.Perm _ ((iSl 39 1 lsF (A38) (c38) (xs ++ [(⟨row, A, c⟩ : XL)]) :: σ))
    exact .refl _
   · exact fun _ h => h
 ·skip
  refine c_exit ?_
  refine c_here ?_
  refine c_seq ?_
  refine c_reg ?_
  refine l_q (by decide) (p_move rfl).q ?_
  have hxn : xs.length = n := by
    by_cases e : xs.length = n
    · exact e
    · have := Nat.mul_le_mul_right W (show xs.length + 1 ≤ n by omega)
      rw [Nat.add_mul] at this
      omega
  refine l_sealr (by decide) (fun _ => rfl) ?_
  refine l_q (by decide) (p_assign rfl).q ?_
  refine l_nil ?_
  refine c_ret ?_
  refine c_ret1 rfl rfl (fun w hs => ?_)
  exact ⟨⟨(A7, c7, xs), by rw [hJ2, hxn]⟩, rfl, hs.weak (by simp)⟩

theorem rfirst_ok (X : GI) (hX : X.small) (w : World) (hM : X.mem w) (ok : Ana.Ok X.g) :
   Calls Try.prog 44 #[.agg #[.slice X.At X.terms.length X.ct, .slice X.An X.nts.length X.cn, .int .i64 X.start, .slice X.Ar X.xs.length X.cr]] w (Ret fun v w' => ∃ bo : Nat, v = .slice (some ⟨bo, 0, none⟩) (X.g.n * X.g.t) (X.g.n * X.g.t) ∧ (iCells bo 4 (bl (X.g.n * X.g.t) (fl X.g.t (fiN X)))).holds w' ∧ (w.heap.size ≤ bo ∧ bo < w'.heap.size) ∧ Ext [] w w') := by
 have hnl := ok.nl
 have hnn : X.nts.length ≤ 8 := hnl
 have htl : X.terms.length ≤ 6 := ok.tl
 have hnt2 : X.nts.length * X.terms.length ≤ 48 := Nat.mul_le_mul hnn htl
 have hxl := hX.x
 refine calls_fx (l := [.agg #[.slice X.At X.terms.length X.ct, .slice X.An X.nts.length X.cn, .int .i64 X.start, .slice X.Ar X.xs.length X.cr]]) Try.func44 rfl Try.ntmps44 (Nat.le_of_ble_eq_true rfl) (X.begin hM) ?_
 refine c_seq ?_
 refine c_reg ?_
 refine l_box (by decide) rfl _ rfl (fun b1 => ?_)
 refine l_q (by decide) (p_assign rfl).q ?_
 refine l_nil ?_
 refine c_seq ?_
 refine c_reg ?_
 first | refine l_q (by decide) (p_faddr (i := 0) 0 Try.underlying25 rfl inf_22 (by decide) rfl rfl).q ?_ | refine l_q (by decide) (p_faddro (i := 0) 0 Try.underlying25 rfl inf_22 (by decide) rfl rfl).q ?_
 first | refine l_q (by decide) (r_loado Try.underlying22 rfl rfl (by repeat constructor) (by rfl)).q ?_ | refine l_q (by decide) (r_load1 Try.underlying22 rfl rfl (by first | exact .fact (by repeat constructor) | exact .own (by repeat constructor) (by decide) (fun _ => rfl) | exact SlIn.body (by repeat constructor) (by assumption) | exact SlIn.row (by assumption) (by repeat constructor)) (by first | assumption | rfl) (by rfl)).q ?_ | refine l_q (by decide) (r_loadf Try.underlying22 rfl rfl (by first | exact .fact (by repeat constructor) | exact .own (by repeat constructor) (by decide) (fun _ => rfl) | exact SlIn.body (by repeat constructor) (by assumption) | exact SlIn.row (by assumption) (by repeat constructor)) (by assumption) (by rfl)).q ?_
 refine l_q (by decide) (p_len_sl Try.underlying22 rfl).q ?_
 refine l_q (by decide) (p_assign rfl).q ?_
 refine l_nil ?_
 refine c_seq ?_
 obtain ⟨lo, hlo⟩ : ∃ lo, lo = w.heap.size := ⟨_, rfl⟩
 refine c_reg ?_
 first | refine l_q (by decide) (r_loada Try.underlying25 rfl inf_25 rfl (by first | exact .fact (by repeat constructor) | exact .own (by repeat constructor) (by decide) (fun _ => rfl) | exact SlIn.body (by repeat constructor) (by assumption) | exact SlIn.row (by assumption) (by repeat constructor)) (by assumption)).q ?_ | refine l_q (by decide) (r_loadow Try.underlying25 rfl inf_25 rfl (by repeat constructor) (by rfl)).q ?_ | refine l_q (by decide) (r_loadoa Try.underlying25 rfl inf_25 rfl (by repeat constructor) (by rfl) (fun j u h => h)).q ?_
 refine l_call (X := { bo : Nat // lo ≤ bo }) (fun x => .slice (some ⟨x.1, 0, none⟩) X.g.n X.g.n) (fun x => Sl 1 boolF (some ⟨x.1, 0, none⟩) (Ana.mkl X.g.n (Ana.pn X.g false))) (by decide) call_14 rfl (fun w hs => tab_call (by rw [hlo]; exact hs.ext.size) (rnullable_ok X hX w (GI.of hs (by repeat constructor) (by repeat constructor) (by repeat constructor) (by repeat constructor)) ok)) (fun x16 => ?_)
 refine l_q (by decide) (p_assign rfl).q ?_
 refine l_nil ?_
 refine c_seq ?_
 refine c_reg ?_
 first | refine l_q (by decide) (p_faddr (i := 1) 1 Try.underlying25 rfl inf_22 (by decide) rfl rfl).q ?_ | refine l_q (by decide) (p_faddro (i := 1) 1 Try.underlying25 rfl inf_22 (by decide) rfl rfl).q ?_
 first | refine l_q (by decide) (r_loado Try.underlying22 rfl rfl (by repeat constructor) (by rfl)).q ?_ | refine l_q (by decide) (r_load1 Try.underlying22 rfl rfl (by first | exact .fact (by repeat constructor) | exact .own (by repeat constructor) (by decide) (fun _ => rfl) | exact SlIn.body (by repeat constructor) (by assumption) | exact SlIn.row (by assumption) (by repeat constructor)) (by first | assumption | rfl) (by rfl)).q ?_ | refine l_q (by decide) (r_loadf Try.underlying22 rfl rfl (by first | exact .fact (by repeat constructor) | exact .own (by repeat constructor) (by decide) (fun _ => rfl) | exact SlIn.body (by repeat constructor) (by assumption) | exact SlIn.row (by assumption) (by repeat constructor)) (by assumption) (by rfl)).q ?_
 refine l_q (by decide) (p_len_sl Try.underlying22 rfl).q ?_
 refine l_q (by decide) (p_move rfl).q ?_
 refine l_q (by decide) (p_mul rfl rfl rfl rfl (by show _ ≤ (9223372036854775807 : Nat); omega)).q ?_
 refine l_make (by decide) Try.underlying29 inf_4 rfl rfl rfl rfl rfl rfl (by omega) (by omega) (fun b22 => ?_)
 refine l_q (by decide) (p_assign rfl).q ?_
 refine l_nil ?_
 refine c_seq ?_
 refine c_seq ?_
 refine c_reg ?_
 refine l_q (by decide) (p_assign rfl).q ?_
 refine l_nil ?_
 refine c_block ?_
 rw [show List.replicate (X.nts.length * X.terms.length) (Value.bool false) = bl (X.g.n * X.g.t) (fl X.g.t (fun _ _ => false)) from bl_rep _]
 refine c_loop (S := MF × Bool) (fun zs => SoundT X (Ana.pn X.g false) zs.1 ∧ (zs.2 = false → ∀ zz, zz ∈ X.xs → GoodT (Ana.pn X.g false) X.g.t zz zs.1)) (fun zs => 2 * Ana.lack (X.g.n * X.g.t) (fl X.g.t zs.1) + zs.2.toNat) (fun zs => [(1, .pointer (some ⟨b1, 0, none⟩)), (3, .int .i64 (X.terms.length : Int)), (4, .slice (some ⟨x16.1, 0, none⟩) X.g.n X.g.n), (5, .slice (some ⟨b22, 0, none⟩) (X.nts.length * X.terms.length) (X.nts.length * X.terms.length)), (6, .bool zs.2)]) (fun zs => [iCells b22 4 (bl (X.g.n * X.g.t) (fl X.g.t (zs.1))), iCells b1 25 [.slice X.At X.terms.length X.ct, .slice X.An X.nts.length X.cn, .int .i64 X.start, .slice X.Ar X.xs.length X.cr]]) (fun zs => [Sl 1 boolF (some ⟨x16.1, 0, none⟩) (Ana.mkl X.g.n (Ana.pn X.g false)), Bd X.xs, Sl 3 ruF X.Ar X.xs, Sl 1 strF X.An X.nts, Sl 1 strF X.At X.terms]) (fun _ _ => false, true) ?_ ?_ ?_ ?_ ?_
 · show SoundT X (Ana.pn X.g false) (fun _ _ => false) ∧ ((true) = false → ∀ zz, zz ∈ X.xs → GoodT (Ana.pn X.g false) X.g.t zz (fun _ _ => false))
   exact ⟨(fun _ _ h => nomatch h), fun h => by cases h⟩
 · exact ⟨rfl, rfl, rfl, rfl, rfl, trivial⟩
 · exact .refl _
 · exact fun _ h => h
 rintro ⟨f, ch⟩ hinv
 have hinv : SoundT X (Ana.pn X.g false) f ∧ (ch = false → ∀ zz, zz ∈ X.xs → GoodT (Ana.pn X.g false) X.g.t zz f) := hinv
 obtain ⟨hI1, hI2⟩ := hinv
 show Cont _ _ _ _ [(1, .pointer (some ⟨b1, 0, none⟩)), (3, .int .i64 (X.terms.length : Int)), (4, .slice (some ⟨x16.1, 0, none⟩) X.g.n X.g.n), (5, .slice (some ⟨b22, 0, none⟩) (X.nts.length * X.terms.length) (X.nts.length * X.terms.length)), (6, .bool ch)] ([iCells b22 4 (bl (X.g.n * X.g.t) (fl X.g.t (f))), iCells b1 25 [.slice X.At X.terms.length X.ct, .slice X.An X.nts.length X.cn, .int .i64 X.start, .slice X.Ar X.xs.length X.cr]]) [Sl 1 boolF (some ⟨x16.1, 0, none⟩) (Ana.mkl X.g.n (Ana.pn X.g false)), Bd X.xs, Sl 3 ruF X.Ar X.xs, Sl 1 strF X.An X.nts, Sl 1 strF X.At X.terms]
 refine c_seq ?_
 refine c_seq ?_
 refine c_reg ?_
 refine l_q (by decide) (p_move rfl).q ?_
 refine l_nil ?_
 first | refine c_dec rfl (fun h23 => ?_) (fun h23 => ?_) | refine c_cond rfl (fun h23 => ?_) (fun h23 => ?_)
 ·skip
  refine c_skip ?_
  refine c_block ?_
  refine c_seq ?_
  refine c_reg ?_
  refine l_q (by decide) (p_assign rfl).q ?_
  refine l_nil ?_
  refine c_seq ?_
  refine c_reg ?_
  refine l_q (by decide) (p_assign (v := .int .i64 ((0 : Nat) : Int)) rfl).q ?_
  refine l_nil ?_
  refine c_block ?_
  refine c_loop (S := Nat × MF × Bool) (fun zs => zs.1 ≤ X.xs.length ∧ SoundT X (Ana.pn X.g false) zs.2.1 ∧ (zs.2.2 = true → Ana.lack (X.g.n * X.g.t) (fl X.g.t zs.2.1) < Ana.lack (X.g.n * X.g.t) (fl X.g.t f)) ∧ (zs.2.2 = false → zs.2.1 = f ∧ ∀ zz, zz ∈ X.xs.take zs.1 → GoodT (Ana.pn X.g false) X.g.t zz zs.2.1)) (fun zs => X.xs.length - zs.1) (fun zs => [(1, .pointer (some ⟨b1, 0, none⟩)), (3, .int .i64 (X.terms.length : Int)), (4, .slice (some ⟨x16.1, 0, none⟩) X.g.n X.g.n), (5, .slice (some ⟨b22, 0, none⟩) (X.nts.length * X.terms.length) (X.nts.length * X.terms.length)), (6, .bool zs.2.2), (7, .int .i64 (zs.1 : Int))]) (fun zs => [iCells b22 4 (bl (X.g.n * X.g.t) (fl X.g.t (zs.2.1))), iCells b1 25 [.slice X.At X.terms.length X.ct, .slice X.An X.nts.length X.cn, .int .i64 X.start, .slice X.Ar X.xs.length X.cr]]) (fun zs => [Sl 1 boolF (some ⟨x16.1, 0, none⟩) (Ana.mkl X.g.n (Ana.pn X.g false)), Bd X.xs, Sl 3 ruF X.Ar X.xs, Sl 1 strF X.An X.nts, Sl 1 strF X.At X.terms]) (0, f, false) ?_ ?_ ?_ ?_ ?_
  · show (0) ≤ X.xs.length ∧ SoundT X (Ana.pn X.g false) (f) ∧ ((false) = true → Ana.lack (X.g.n * X.g.t) (fl X.g.t (f)) < Ana.lack (X.g.n * X.g.t) (fl X.g.t f)) ∧ ((false) = false → (f) = f ∧ ∀ zz, zz ∈ X.xs.take (0) → GoodT (Ana.pn X.g false) X.g.t zz (f))
    exact ⟨Nat.zero_le _, hI1, fun h => (by cases h), fun _ => ⟨rfl, fun x h => absurd h (by simp)⟩⟩
  · exact ⟨rfl, rfl, rfl, rfl, rfl, rfl, trivial⟩
  · exact .refl _
  · exact fun _ h => h
  rintro ⟨k, g, cg⟩ hinv
  have hinv : k ≤ X.xs.length ∧ SoundT X (Ana.pn X.g false) g ∧ (cg = true → Ana.lack (X.g.n * X.g.t) (fl X.g.t g) < Ana.lack (X.g.n * X.g.t) (fl X.g.t f)) ∧ (cg = false → g = f ∧ ∀ zz, zz ∈ X.xs.take k → GoodT (Ana.pn X.g false) X.g.t zz g) := hinv
  obtain ⟨hJ1, hJ2, hJ3, hJ4⟩ := hinv
  show Cont _ _ _ _ [(1, .pointer (some ⟨b1, 0, none⟩)), (3, .int .i64 (X.terms.length : Int)), (4, .slice (some ⟨x16.1, 0, none⟩) X.g.n X.g.n), (5, .slice (some ⟨b22, 0, none⟩) (X.nts.length * X.terms.length) (X.nts.length * X.terms.length)), (6, .bool cg), (7, .int .i64 (k : Int))] ([iCells b22 4 (bl (X.g.n * X.g.t) (fl X.g.t (g))), iCells b1 25 [.slice X.At X.terms.length X.ct, .slice X.An X.nts.length X.cn, .int .i64 X.start, .slice X.Ar X.xs.length X.cr]]) [Sl 1 boolF (some ⟨x16.1, 0, none⟩) (Ana.mkl X.g.n (Ana.pn X.g false)), Bd X.xs, Sl 3 ruF X.Ar X.xs, Sl 1 strF X.An X.nts, Sl 1 strF X.At X.terms]
  refine c_seq ?_
  refine c_seq ?_
  refine c_reg ?_
  refine l_q (by decide) (p_move rfl).q ?_
  first | refine l_q (by decide) (p_faddr (i := 3) 3 Try.underlying25 rfl inf_23 (by decide) rfl rfl).q ?_ | refine l_q (by decide) (p_faddro (i := 3) 3 Try.underlying25 rfl inf_23 (by decide) rfl rfl).q ?_
  first | refine l_q (by decide) (r_loado Try.underlying23 rfl rfl (by repeat constructor) (by rfl)).q ?_ | refine l_q (by decide) (r_load1 Try.underlying23 rfl rfl (by first | exact .fact (by repeat constructor) | exact .own (by repeat constructor) (by decide) (fun _ => rfl) | exact SlIn.body (by repeat constructor) (by assumption) | exact SlIn.row (by assumption) (by repeat constructor)) (by first | assumption | rfl) (by rfl)).q ?_ | refine l_q (by decide) (r_loadf Try.underlying23 rfl rfl (by first | exact .fact (by repeat constructor) | exact .own (by repeat constructor) (by decide) (fun _ => rfl) | exact SlIn.body (by repeat constructor) (by assumption) | exact SlIn.row (by assumption) (by repeat constructor)) (by assumption) (by rfl)).q ?_
  refine l_q (by decide) (p_len_sl Try.underlying23 rfl).q ?_
  first | refine l_q (by decide) (p_lss rfl rfl rfl rfl).q ?_ | refine l_q (by decide) (p_lssi rfl rfl).q ?_
  refine l_nil ?_
  first | refine c_dec rfl (fun h28 => ?_) (fun h28 => ?_) | refine c_cond rfl (fun h28 => ?_) (fun h28 => ?_)
  ·skip
   obtain ⟨x, hx⟩ := at_some (l := X.xs) (n := k) (by omega)
   obtain ⟨hh1, hh2⟩ := ok.hd (rule_mem hx)
   have hbl := ok.bl _ (rule_mem hx)
   have hxb := hX.b x (List.mem_of_getElem? hx)
   refine c_skip ?_
   refine c_seq ?_
   refine c_block ?_
   refine c_seq ?_
   refine c_reg ?_
   first | refine l_q (by decide) (p_faddr (i := 3) 3 Try.underlying25 rfl inf_23 (by decide) rfl rfl).q ?_ | refine l_q (by decide) (p_faddro (i := 3) 3 Try.underlying25 rfl inf_23 (by decide) rfl rfl).q ?_
   first | refine l_q (by decide) (r_loado Try.underlying23 rfl rfl (by repeat constructor) (by rfl)).q ?_ | refine l_q (by decide) (r_load1 Try.underlying23 rfl rfl (by first | exact .fact (by repeat constructor) | exact .own (by repeat constructor) (by decide) (fun _ => rfl) | exact SlIn.body (by repeat constructor) (by assumption) | exact SlIn.row (by assumption) (by repeat constructor)) (by first | assumption | rfl) (by rfl)).q ?_ | refine l_q (by decide) (r_loadf Try.underlying23 rfl rfl (by first | exact .fact (by repeat constructor) | exact .own (by repeat constructor) (by decide) (fun _ => rfl) | exact SlIn.body (by repeat constructor) (by assumption) | exact SlIn.row (by assumption) (by repeat constructor)) (by assumption) (by rfl)).q ?_
   refine l_q (by decide) (p_move rfl).q ?_
   first | refine l_q (by decide) (r_index Try.underlying23 inf_41 rfl rfl rfl (by first | exact .fact (by repeat constructor) | exact .own (by repeat constructor) (by decide) (fun _ => rfl) | exact SlIn.body (by repeat constructor) (by assumption) | exact SlIn.row (by assumption) (by repeat constructor)) rfl (by omega)).q ?_ | refine l_q (by decide) (r_index Try.underlying23 inf_41 rfl rfl rfl (by first | exact .fact (by repeat constructor) | exact .own (by repeat constructor) (by decide) (fun _ => rfl) | exact SlIn.body (by repeat constructor) (by assumption) | exact SlIn.row (by assumption) (by repeat constructor)) rfl (by decide)).q ?_ | refine l_q (by decide) (p_indexo Try.underlying23 inf_41 rfl rfl rfl (by omega)).q ?_
   first | refine l_q (by decide) (r_loada Try.underlying41 rfl inf_41 rfl (by first | exact .fact (by repeat constructor) | exact .own (by repeat constructor) (by decide) (fun _ => rfl) | exact SlIn.body (by repeat constructor) (by assumption) | exact SlIn.row (by assumption) (by repeat constructor)) (by assumption)).q ?_ | refine l_q (by decide) (r_loadow Try.underlying41 rfl inf_41 rfl (by repeat constructor) (by rfl)).q ?_ | refine l_q (by decide) (r_loadoa Try.underlying41 rfl inf_41 rfl (by repeat constructor) (by rfl) (fun j u h => h)).q ?_
   refine l_alloc (by decide) inf_41 _ rfl (fun b8 => ?_)
   first | (refine l_storew inf_41 rfl rfl rfl rfl rfl ?_) | (refine l_perm (front1 _ _ _) ?_; refine l_storew inf_41 rfl rfl rfl rfl rfl ?_) | (refine l_perm (front2 _ _ _ _) ?_; refine l_storew inf_41 rfl rfl rfl rfl rfl ?_) | (refine l_perm (front3 _ _ _ _ _) ?_; refine l_storew inf_41 rfl rfl rfl rfl rfl ?_) | (refine l_perm (front4 _ _ _ _ _ _) ?_; refine l_storew inf_41 rfl rfl rfl rfl rfl ?_) | (refine l_storea inf_41 rfl rfl rfl rfl (by decide) ?_) | (refine l_perm (front1 _ _ _) ?_; refine l_storea inf_41 rfl rfl rfl rfl (by decide) ?_) | (refine l_perm (front2 _ _ _ _) ?_; refine l_storea inf_41 rfl rfl rfl rfl (by decide) ?_)
   refine l_nil ?_
   refine c_seq ?_
   refine c_reg ?_
   refine l_q (by decide) (p_assign (v := .int .i64 ((0 : Nat) : Int)) rfl).q ?_
   refine l_nil ?_
   refine c_block ?_
   refine c_loop (S := Nat × MF × Bool) (fun zs => zs.1 ≤ x.r.body.length ∧ SoundT X (Ana.pn X.g false) zs.2.1 ∧ (zs.2.2 = true → Ana.lack (X.g.n * X.g.t) (fl X.g.t zs.2.1) < Ana.lack (X.g.n * X.g.t) (fl X.g.t f)) ∧ (zs.2.2 = false → zs.2.1 = f ∧ cg = false ∧ ∀ p, p < zs.1 → ∀ b, b < X.g.t → Cell (Ana.pn X.g false) x p b zs.2.1)) (fun zs => x.r.body.length - zs.1) (fun zs => [(1, .pointer (some ⟨b1, 0, none⟩)), (3, .int .i64 (X.terms.length : Int)), (4, .slice (some ⟨x16.1, 0, none⟩) X.g.n X.g.n), (5, .slice (some ⟨b22, 0, none⟩) (X.nts.length * X.terms.length) (X.nts.length * X.terms.length)), (6, .bool zs.2.2), (7, .int .i64 (k : Int)), (8, .pointer (some ⟨b8, 0, none⟩)), (9, .int .i64 (zs.1 : Int))]) (fun zs => [iCells b8 41 (ruF x), iCells b22 4 (bl (X.g.n * X.g.t) (fl X.g.t (zs.2.1))), iCells b1 25 [.slice X.At X.terms.length X.ct, .slice X.An X.nts.length X.cn, .int .i64 X.start, .slice X.Ar X.xs.length X.cr]]) (fun zs => [Sl 1 boolF (some ⟨x16.1, 0, none⟩) (Ana.mkl X.g.n (Ana.pn X.g false)), Bd X.xs, Sl 3 ruF X.Ar X.xs, Sl 1 strF X.An X.nts, Sl 1 strF X.At X.terms]) (0, g, cg) ?_ ?_ ?_ ?_ ?_
   · show (0) ≤ x.r.body.length ∧ SoundT X (Ana.pn X.g false) (g) ∧ ((cg) = true → Ana.lack (X.g.n * X.g.t) (fl X.g.t (g)) < Ana.lack (X.g.n * X.g.t) (fl X.g.t f)) ∧ ((cg) = false → (g) = f ∧ cg = false ∧ ∀ p, p < (0) → ∀ b, b < X.g.t → Cell (Ana.pn X.g false) x p b (g))
     exact ⟨Nat.zero_le _, hJ2, hJ3, fun hc => ⟨(hJ4 hc).1, hc, fun p hp => absurd hp (by omega)⟩⟩
   · exact ⟨rfl, rfl, rfl, rfl, rfl, rfl, rfl, rfl, trivial⟩
   · exact .refl _
   · exact fun _ h => h
   rintro ⟨j, h0, c2⟩ hinv
   have hinv : j ≤ x.r.body.length ∧ SoundT X (Ana.pn X.g false) h0 ∧ (c2 = true → Ana.lack (X.g.n * X.g.t) (fl X.g.t h0) < Ana.lack (X.g.n * X.g.t) (fl X.g.t f)) ∧ (c2 = false → h0 = f ∧ cg = false ∧ ∀ p, p < j → ∀ b, b < X.g.t → Cell (Ana.pn X.g false) x p b h0) := hinv
   obtain ⟨hL1, hL2, hL3, hL4⟩ := hinv
   show Cont _ _ _ _ [(1, .pointer (some ⟨b1, 0, none⟩)), (3, .int .i64 (X.terms.length : Int)), (4, .slice (some ⟨x16.1, 0, none⟩) X.g.n X.g.n), (5, .slice (some ⟨b22, 0, none⟩) (X.nts.length * X.terms.length) (X.nts.length * X.terms.length)), (6, .bool c2), (7, .int .i64 (k : Int)), (8, .pointer (some ⟨b8, 0, none⟩)), (9, .int .i64 (j : Int))] ([iCells b8 41 (ruF x), iCells b22 4 (bl (X.g.n * X.g.t) (fl X.g.t (h0))), iCells b1 25 [.slice X.At X.terms.length X.ct, .slice X.An X.nts.length X.cn, .int .i64 X.start, .slice X.Ar X.xs.length X.cr]]) [Sl 1 boolF (some ⟨x16.1, 0, none⟩) (Ana.mkl X.g.n (Ana.pn X.g false)), Bd X.xs, Sl 3 ruF X.Ar X.xs, Sl 1 strF X.An X.nts, Sl 1 strF X.At X.terms]
   refine c_seq ?_
   refine c_seq ?_
   refine c_body (m := j) (by repeat constructor) hx (by omega) ?_
   refine c_reg ?_
   refine l_q (by decide) (p_move rfl).q ?_
   first | refine l_q (by decide) (p_faddr (i := 1) 1 Try.underlying41 rfl inf_39 (by decide) rfl rfl).q ?_ | refine l_q (by decide) (p_faddro (i := 1) 1 Try.underlying41 rfl inf_39 (by decide) rfl rfl).q ?_
   first | refine l_q (by decide) (r_loado Try.underlying39 rfl rfl (by repeat constructor) (by rfl)).q ?_ | refine l_q (by decide) (r_load1 Try.underlying39 rfl rfl (by first | exact .fact (by repeat constructor) | exact .own (by repeat constructor) (by decide) (fun _ => rfl) | exact SlIn.body (by repeat constructor) (by assumption) | exact SlIn.row (by assumption) (by repeat constructor)) (by first | assumption | rfl) (by rfl)).q ?_ | refine l_q (by decide) (r_loadf Try.underlying39 rfl rfl (by first | exact .fact (by repeat constructor) | exact .own (by repeat constructor) (by decide) (fun _ => rfl) | exact SlIn.body (by repeat constructor) (by assumption) | exact SlIn.row (by assumption) (by repeat constructor)) (by assumption) (by rfl)).q ?_
   refine l_q (by decide) (p_len_sl Try.underlying39 rfl).q ?_
   first | refine l_q (by decide) (p_lss rfl rfl rfl rfl).q ?_ | refine l_q (by decide) (p_lssi rfl rfl).q ?_
   refine l_q (by decide) (p_move rfl).q ?_
   first | refine l_splitd (t := 41) rfl (fun h41 => ?_) (fun h41 => ?_) | refine l_splitb (t := 41) rfl (fun h41 => ?_) (fun h41 => ?_)
   ·skip
    first | refine l_g (j := 5) rfl rfl (by decide) (p_faddr (i := 1) 1 Try.underlying41 rfl inf_39 (by decide) rfl rfl).q ?_ | refine l_g (j := 5) rfl rfl (by decide) (p_faddro (i := 1) 1 Try.underlying41 rfl inf_39 (by decide) rfl rfl).q ?_
    first | refine l_g (j := 5) rfl rfl (by decide) (r_loado Try.underlying39 rfl rfl (by repeat constructor) (by rfl)).q ?_ | refine l_g (j := 5) rfl rfl (by decide) (r_load1 Try.underlying39 rfl rfl (by first | exact .fact (by repeat constructor) | exact .own (by repeat constructor) (by decide) (fun _ => rfl) | exact SlIn.body (by repeat constructor) (by assumption) | exact SlIn.row (by assumption) (by repeat constructor)) (by first | assumption | rfl) (by rfl)).q ?_ | refine l_g (j := 5) rfl rfl (by decide) (r_loadf Try.underlying39 rfl rfl (by first | exact .fact (by repeat constructor) | exact .own (by repeat constructor) (by decide) (fun _ => rfl) | exact SlIn.body (by repeat constructor) (by assumption) | exact SlIn.row (by assumption) (by repeat constructor)) (by assumption) (by rfl)).q ?_
    refine l_g (j := 5) rfl rfl (by decide) (p_move rfl).q ?_
    first | refine l_g (j := 5) rfl rfl (by decide) (p_part_h Try.underlying39 inf_3 rfl rfl rfl (by omega) (by omega)).q ?_ | refine l_g (j := 5) rfl rfl (by decide) (p_slices_h Try.underlying39 inf_3 rfl rfl rfl (by omega)).q ?_
    refine l_g (j := 5) rfl rfl (by decide) (p_move rfl).q ?_
    refine l_g (j := 5) rfl rfl (by decide) (q_call call_40 rfl (fun w hs => rall_ok (subA x.A x.c 0 1) (some ⟨x16.1, 0, none⟩) (x.c) X.g.n (x.r.body.take j) X.g.n (Ana.pn X.g false) false (by simp only [List.length_take, List.length_drop]; omega) (by show X.nts.length ≤ 1000; omega) (fun z hz h0 => ok.nt_lt (rule_mem hx) (List.mem_of_mem_take hz) h0) w (hs.facts _ (by repeat constructor)).1 (hs.facts _ (by repeat constructor)).1)) ?_
    refine l_q (by decide) (p_pick rfl rfl).q ?_
    refine l_nil ?_
    first | refine c_dec rfl (fun h48 => ?_) (fun h48 => ?_) | refine c_cond rfl (fun h48 => ?_) (fun h48 => ?_)
    ·skip
     obtain ⟨y, hy⟩ := at_some (l := x.r.body) (n := j) (by omega)
     have hyb := ok.b0 _ (rule_mem hx) y (List.mem_of_getElem? hy)
     refine c_skip ?_
     refine c_seq ?_
     refine c_block ?_
     refine c_seq ?_
     refine c_reg ?_
     refine l_q (by decide) (p_assign (v := .int .i64 ((0 : Nat) : Int)) rfl).q ?_
     refine l_nil ?_
     refine c_block ?_
     refine c_loop (S := Nat × MF × Bool) (fun zs => zs.1 ≤ X.terms.length ∧ SoundT X (Ana.pn X.g false) zs.2.1 ∧ (zs.2.2 = true → Ana.lack (X.g.n * X.g.t) (fl X.g.t zs.2.1) < Ana.lack (X.g.n * X.g.t) (fl X.g.t f)) ∧ (zs.2.2 = false → zs.2.1 = f ∧ c2 = false ∧ ∀ b, b < zs.1 → Cell (Ana.pn X.g false) x j b zs.2.1)) (fun zs => X.terms.length - zs.1) (fun zs => [(1, .pointer (some ⟨b1, 0, none⟩)), (3, .int .i64 (X.terms.length : Int)), (4, .slice (some ⟨x16.1, 0, none⟩) X.g.n X.g.n), (5, .slice (some ⟨b22, 0, none⟩) (X.nts.length * X.terms.length) (X.nts.length * X.terms.length)), (6, .bool zs.2.2), (7, .int .i64 (k : Int)), (8, .pointer (some ⟨b8, 0, none⟩)), (9, .int .i64 (j : Int)), (10, .int .i64 (zs.1 : Int))]) (fun zs => [iCells b8 41 (ruF x), iCells b22 4 (bl (X.g.n * X.g.t) (fl X.g.t (zs.2.1))), iCells b1 25 [.slice X.At X.terms.length X.ct, .slice X.An X.nts.length X.cn, .int .i64 X.start, .slice X.Ar X.xs.length X.cr]]) (fun zs => (Sl 1 intF (subA x.A x.c (j + 1) 1) (x.r.body.drop (j + 1)) :: Sl 1 intF (subA x.A x.c 0 1) (x.r.body.take j) :: [Sl 1 boolF (some ⟨x16.1, 0, none⟩) (Ana.mkl X.g.n (Ana.pn X.g false)), Bd X.xs, Sl 3 ruF X.Ar X.xs, Sl 1 strF X.An X.nts, Sl 1 strF X.At X.terms])) (0, h0, c2) ?_ ?_ ?_ ?_ ?_
     · show (0) ≤ X.terms.length ∧ SoundT X (Ana.pn X.g false) (h0) ∧ ((c2) = true → Ana.lack (X.g.n * X.g.t) (fl X.g.t (h0)) < Ana.lack (X.g.n * X.g.t) (fl X.g.t f)) ∧ ((c2) = false → (h0) = f ∧ c2 = false ∧ ∀ b, b < (0) → Cell (Ana.pn X.g false) x j b (h0))
       exact ⟨Nat.zero_le _, hL2, hL3, fun hc => ⟨(hL4 hc).1, hc, fun b hb => absurd hb (by omega)⟩⟩
     · exact ⟨rfl, rfl, rfl, rfl, rfl, rfl, rfl, rfl, rfl, trivial⟩
     · exact .refl _
     · exact fun _ h => h
     rintro ⟨a, h, c3⟩ hinv
     have hinv : a ≤ X.terms.length ∧ SoundT X (Ana.pn X.g false) h ∧ (c3 = true → Ana.lack (X.g.n * X.g.t) (fl X.g.t h) < Ana.lack (X.g.n * X.g.t) (fl X.g.t f)) ∧ (c3 = false → h = f ∧ c2 = false ∧ ∀ b, b < a → Cell (Ana.pn X.g false) x j b h) := hinv
     obtain ⟨hM1, hM2, hM3, hM4⟩ := hinv
     show Cont _ _ _ _ [(1, .pointer (some ⟨b1, 0, none⟩)), (3, .int .i64 (X.terms.length : Int)), (4, .slice (some ⟨x16.1, 0, none⟩) X.g.n X.g.n), (5, .slice (some ⟨b22, 0, none⟩) (X.nts.length * X.terms.length) (X.nts.length * X.terms.length)), (6, .bool c3), (7, .int .i64 (k : Int)), (8, .pointer (some ⟨b8, 0, none⟩)), (9, .int .i64 (j : Int)), (10, .int .i64 (a : Int))] ([iCells b8 41 (ruF x), iCells b22 4 (bl (X.g.n * X.g.t) (fl X.g.t (h))), iCells b1 25 [.slice X.At X.terms.length X.ct, .slice X.An X.nts.length X.cn, .int .i64 X.start, .slice X.Ar X.xs.length X.cr]]) (Sl 1 intF (subA x.A x.c (j + 1) 1) (x.r.body.drop (j + 1)) :: Sl 1 intF (subA x.A x.c 0 1) (x.r.body.take j) :: [Sl 1 boolF (some ⟨x16.1, 0, none⟩) (Ana.mkl X.g.n (Ana.pn X.g false)), Bd X.xs, Sl 3 ruF X.Ar X.xs, Sl 1 strF X.An X.nts, Sl 1 strF X.At X.terms])
     refine c_seq ?_
     refine c_seq ?_
     refine c_reg ?_
     refine l_q (by decide) (p_move rfl).q ?_
     refine l_q (by decide) (p_move rfl).q ?_
     first | refine l_q (by decide) (p_lss rfl rfl rfl rfl).q ?_ | refine l_q (by decide) (p_lssi rfl rfl).q ?_
     refine l_nil ?_
     first | refine c_dec rfl (fun h53 => ?_) (fun h53 => ?_) | refine c_cond rfl (fun h53 => ?_) (fun h53 => ?_)
     ·skip
      have hat : a < X.g.t := h53
      have hhm : x.r.head.toNat * X.terms.length + a < X.nts.length * X.terms.length := idx_lt2 hh2 hat
      have hkb : (x.r.head.toNat * X.terms.length + a) * 1 < (bl (X.g.n * X.g.t) (fl X.g.t h)).length := by rw [bl_len, Nat.mul_one]; exact hhm
      refine c_skip ?_
      refine c_seq ?_
      refine c_block ?_
      refine c_seq ?_
      refine c_reg ?_
      first | refine l_q (by decide) (p_faddr (i := 1) 1 Try.underlying41 rfl inf_39 (by decide) rfl rfl).q ?_ | refine l_q (by decide) (p_faddro (i := 1) 1 Try.underlying41 rfl inf_39 (by decide) rfl rfl).q ?_
      first | refine l_q (by decide) (r_loado Try.underlying39 rfl rfl (by repeat constructor) (by rfl)).q ?_ | refine l_q (by decide) (r_load1 Try.underlying39 rfl rfl (by first | exact .fact (by repeat constructor) | exact .own (by repeat constructor) (by decide) (fun _ => rfl) | exact SlIn.body (by repeat constructor) (by assumption) | exact SlIn.row (by assumption) (by repeat constructor)) (by first | assumption | rfl) (by rfl)).q ?_ | refine l_q (by decide) (r_loadf Try.underlying39 rfl rfl (by first | exact .fact (by repeat constructor) | exact .own (by repeat constructor) (by decide) (fun _ => rfl) | exact SlIn.body (by repeat constructor) (by assumption) | exact SlIn.row (by assumption) (by repeat constructor)) (by assumption) (by rfl)).q ?_
      refine l_q (by decide) (p_move rfl).q ?_
      first | refine l_q (by decide) (r_index Try.underlying39 inf_3 rfl rfl rfl (by first | exact .fact (by repeat constructor) | exact .own (by repeat constructor) (by decide) (fun _ => rfl) | exact SlIn.body (by repeat constructor) (by assumption) | exact SlIn.row (by assumption) (by repeat constructor)) rfl (by omega)).q ?_ | refine l_q (by decide) (r_index Try.underlying39 inf_3 rfl rfl rfl (by first | exact .fact (by repeat constructor) | exact .own (by repeat constructor) (by decide) (fun _ => rfl) | exact SlIn.body (by repeat constructor) (by assumption) | exact SlIn.row (by assumption) (by repeat constructor)) rfl (by decide)).q ?_ | refine l_q (by decide) (p_indexo Try.underlying39 inf_3 rfl rfl rfl (by omega)).q ?_
      first | refine l_q (by decide) (r_loado Try.underlying3 rfl rfl (by repeat constructor) (by rfl)).q ?_ | refine l_q (by decide) (r_load1 Try.underlying3 rfl rfl (by first | exact .fact (by repeat constructor) | exact .own (by repeat constructor) (by decide) (fun _ => rfl) | exact SlIn.body (by repeat constructor) (by assumption) | exact SlIn.row (by assumption) (by repeat constructor)) (by first | assumption | rfl) (by rfl)).q ?_ | refine l_q (by decide) (r_loadf Try.underlying3 rfl rfl (by first | exact .fact (by repeat constructor) | exact .own (by repeat constructor) (by decide) (fun _ => rfl) | exact SlIn.body (by repeat constructor) (by assumption) | exact SlIn.row (by assumption) (by repeat constructor)) (by assumption) (by rfl)).q ?_
      refine l_q (by decide) (p_move rfl).q ?_
      first | refine l_q (by decide) (p_eql rfl rfl rfl rfl).q ?_ | refine l_q (by decide) (p_eqli rfl rfl).q ?_
      refine l_q (by decide) (p_move rfl).q ?_
      first | refine l_splitd (t := 63) rfl (fun h63 => ?_) (fun h63 => ?_) | refine l_splitb (t := 63) rfl (fun h63 => ?_) (fun h63 => ?_)
      ·skip
       refine l_off (j := 7) rfl rfl (by first | (simp; done) | (simp [undef]; done)) (by decide) ?_
       refine l_off (j := 7) rfl rfl (by first | (simp; done) | (simp [undef]; done)) (by decide) ?_
       refine l_off (j := 7) rfl rfl (by first | (simp; done) | (simp [undef]; done)) (by decide) ?_
       refine l_off (j := 7) rfl rfl (by first | (simp; done) | (simp [undef]; done)) (by decide) ?_
       refine l_off (j := 7) rfl rfl (by first | (simp; done) | (simp [undef]; done)) (by decide) ?_
       refine l_off (j := 7) rfl rfl (by first | (simp; done) | (simp [undef]; done)) (by decide) ?_
       refine l_off (j := 7) rfl rfl (by first | (simp; done) | (simp [undef]; done)) (by decide) ?_
       refine l_off (j := 14) rfl rfl (by first | (simp; done) | (simp [undef]; done)) (by decide) ?_
       refine l_off (j := 14) rfl rfl (by first | (simp; done) | (simp [undef]; done)) (by decide) ?_
       refine l_off (j := 14) rfl rfl (by first | (simp; done) | (simp [undef]; done)) (by decide) ?_
       refine l_off (j := 14) rfl rfl (by first | (simp; done) | (simp [undef]; done)) (by decide) ?_
       refine l_off (j := 14) rfl rfl (by first | (simp; done) | (simp [undef]; done)) (by decide) ?_
       refine l_off (j := 14) rfl rfl (by first | (simp; done) | (simp [undef]; done)) (by decide) ?_
       refine l_off (j := 14) rfl rfl (by first | (simp; done) | (simp [undef]; done)) (by decide) ?_
       refine l_off (j := 14) rfl rfl (by first | (simp; done) | (simp [undef]; done)) (by decide) ?_
       refine l_off (j := 14) rfl rfl (by first | (simp; done) | (simp [undef]; done)) (by decide) ?_
       refine l_off (j := 14) rfl rfl (by first | (simp; done) | (simp [undef]; done)) (by decide) ?_
       refine l_off (j := 14) rfl rfl (by first | (simp; done) | (simp [undef]; done)) (by decide) ?_
       refine l_off (j := 14) rfl rfl (by first | (simp; done) | (simp [undef]; done)) (by decide) ?_
       refine l_off (j := 14) rfl rfl (by first | (simp; done) | (simp [undef]; done)) (by decide) ?_
       refine l_off (j := 7) rfl rfl (by first | (simp; done) | (simp [undef]; done)) (by decide) ?_
       refine l_q (by decide) (p_pick rfl rfl).q ?_
       refine l_q (by decide) (p_assign rfl).q ?_
       refine l_nil ?_
       refine c_seq ?_
       refine c_reg ?_
       refine l_q (by decide) (p_move rfl).q ?_
       refine l_q (by decide) (p_move rfl).q ?_
       refine l_g (j := 1) rfl rfl (by decide) (p_move rfl).q ?_
       first | refine l_g (j := 1) rfl rfl (by decide) (p_faddr (i := 0) 0 Try.underlying41 rfl inf_3 (by decide) rfl rfl).q ?_ | refine l_g (j := 1) rfl rfl (by decide) (p_faddro (i := 0) 0 Try.underlying41 rfl inf_3 (by decide) rfl rfl).q ?_
       first | refine l_g (j := 1) rfl rfl (by decide) (((r_loado Try.underlying3 rfl rfl (by repeat constructor) (by rfl))).to (u := .int .i64 ((x.r.head.toNat : Nat) : Int)) (by rw [hh1])).q ?_ | refine l_g (j := 1) rfl rfl (by decide) (((r_load1 Try.underlying3 rfl rfl (by first | exact .fact (by repeat constructor) | exact .own (by repeat constructor) (by decide) (fun _ => rfl) | exact SlIn.body (by repeat constructor) (by assumption) | exact SlIn.row (by assumption) (by repeat constructor)) (by first | assumption | rfl) (by rfl))).to (u := .int .i64 ((x.r.head.toNat : Nat) : Int)) (by rw [hh1])).q ?_ | refine l_g (j := 1) rfl rfl (by decide) (((r_loadf Try.underlying3 rfl rfl (by first | exact .fact (by repeat constructor) | exact .own (by repeat constructor) (by decide) (fun _ => rfl) | exact SlIn.body (by repeat constructor) (by assumption) | exact SlIn.row (by assumption) (by repeat constructor)) (by assumption) (by rfl))).to (u := .int .i64 ((x.r.head.toNat : Nat) : Int)) (by rw [hh1])).q ?_
       refine l_g (j := 1) rfl rfl (by decide) (p_move rfl).q ?_
       refine l_g (j := 1) rfl rfl (by decide) (p_mul rfl rfl rfl rfl (by show _ ≤ (9223372036854775807 : Nat); omega)).q ?_
       refine l_g (j := 1) rfl rfl (by decide) (p_move rfl).q ?_
       first | refine l_g (j := 1) rfl rfl (by decide) (p_add rfl rfl rfl rfl (by show _ ≤ (9223372036854775807 : Nat); omega)).q ?_ | refine l_g (j := 1) rfl rfl (by decide) (p_addi rfl rfl (by show (-9223372036854775808 : Int) ≤ _; omega) (by show _ ≤ ((9223372036854775807 : Nat) : Int); omega)).q ?_
       first | refine l_g (j := 1) rfl rfl (by decide) (r_index Try.underlying29 inf_4 rfl rfl rfl (by first | exact .fact (by repeat constructor) | exact .own (by repeat constructor) (by decide) (fun _ => rfl) | exact SlIn.body (by repeat constructor) (by assumption) | exact SlIn.row (by assumption) (by repeat constructor)) rfl (by omega)).q ?_ | refine l_g (j := 1) rfl rfl (by decide) (r_index Try.underlying29 inf_4 rfl rfl rfl (by first | exact .fact (by repeat constructor) | exact .own (by repeat constructor) (by decide) (fun _ => rfl) | exact SlIn.body (by repeat constructor) (by assumption) | exact SlIn.row (by assumption) (by repeat constructor)) rfl (by decide)).q ?_ | refine l_g (j := 1) rfl rfl (by decide) (p_indexo Try.underlying29 inf_4 rfl rfl rfl (by omega)).q ?_
       refine l_g (j := 1) rfl rfl (by decide) (((r_loado Try.underlying4 rfl rfl (by repeat constructor) (bl_at (idx_lt2 hh2 hat)))).to (u := .bool (h x.r.head.toNat a)) (by rw [fl_at hat])).q ?_
       first | refine l_g (j := 1) rfl rfl (by decide) (p_notd rfl).q ?_ | refine l_g (j := 1) rfl rfl (by decide) (p_not rfl).q ?_
       refine l_q (by decide) (p_pick rfl rfl).q ?_
       refine l_nil ?_
       first | refine c_dec rfl (fun h98 => ?_) (fun h98 => ?_) | refine c_cond rfl (fun h98 => ?_) (fun h98 => ?_)
       ·skip
        refine c_seq ?_
        refine c_reg ?_
        refine l_q (by decide) (p_move rfl).q ?_
        first | refine l_q (by decide) (p_faddr (i := 0) 0 Try.underlying41 rfl inf_3 (by decide) rfl rfl).q ?_ | refine l_q (by decide) (p_faddro (i := 0) 0 Try.underlying41 rfl inf_3 (by decide) rfl rfl).q ?_
        first | refine l_q (by decide) (((r_loado Try.underlying3 rfl rfl (by repeat constructor) (by rfl))).to (u := .int .i64 ((x.r.head.toNat : Nat) : Int)) (by rw [hh1])).q ?_ | refine l_q (by decide) (((r_load1 Try.underlying3 rfl rfl (by first | exact .fact (by repeat constructor) | exact .own (by repeat constructor) (by decide) (fun _ => rfl) | exact SlIn.body (by repeat constructor) (by assumption) | exact SlIn.row (by assumption) (by repeat constructor)) (by first | assumption | rfl) (by rfl))).to (u := .int .i64 ((x.r.head.toNat : Nat) : Int)) (by rw [hh1])).q ?_ | refine l_q (by decide) (((r_loadf Try.underlying3 rfl rfl (by first | exact .fact (by repeat constructor) | exact .own (by repeat constructor) (by decide) (fun _ => rfl) | exact SlIn.body (by repeat constructor) (by assumption) | exact SlIn.row (by assumption) (by repeat constructor)) (by assumption) (by rfl))).to (u := .int .i64 ((x.r.head.toNat : Nat) : Int)) (by rw [hh1])).q ?_
        refine l_q (by decide) (p_move rfl).q ?_
        refine l_q (by decide) (p_mul rfl rfl rfl rfl (by show _ ≤ (9223372036854775807 : Nat); omega)).q ?_
        refine l_q (by decide) (p_move rfl).q ?_
        first | refine l_q (by decide) (p_add rfl rfl rfl rfl (by show _ ≤ (9223372036854775807 : Nat); omega)).q ?_ | refine l_q (by decide) (p_addi rfl rfl (by show (-9223372036854775808 : Int) ≤ _; omega) (by show _ ≤ ((9223372036854775807 : Nat) : Int); omega)).q ?_
        first | refine l_q (by decide) (r_index Try.underlying29 inf_4 rfl rfl rfl (by first | exact .fact (by repeat constructor) | exact .own (by repeat constructor) (by decide) (fun _ => rfl) | exact SlIn.body (by repeat constructor) (by assumption) | exact SlIn.row (by assumption) (by repeat constructor)) rfl (by omega)).q ?_ | refine l_q (by decide) (r_index Try.underlying29 inf_4 rfl rfl rfl (by first | exact .fact (by repeat constructor) | exact .own (by repeat constructor) (by decide) (fun _ => rfl) | exact SlIn.body (by repeat constructor) (by assumption) | exact SlIn.row (by assumption) (by repeat constructor)) rfl (by decide)).q ?_ | refine l_q (by decide) (p_indexo Try.underlying29 inf_4 rfl rfl rfl (by omega)).q ?_
        first | (refine l_store inf_4 rfl rfl rfl rfl (by first | decide | exact Nat.le_of_ble_eq_true rfl | (simp; done) | omega | (simp only [Nat.mul_one]; assumption)) ?_) | (refine l_perm (front1 _ _ _) ?_; refine l_store inf_4 rfl rfl rfl rfl (by first | decide | exact Nat.le_of_ble_eq_true rfl | (simp; done) | omega | (simp only [Nat.mul_one]; assumption)) ?_) | (refine l_perm (front2 _ _ _ _) ?_; refine l_store inf_4 rfl rfl rfl rfl (by first | decide | exact Nat.le_of_ble_eq_true rfl | (simp; done) | omega | (simp only [Nat.mul_one]; assumption)) ?_) | (refine l_perm (front3 _ _ _ _ _) ?_; refine l_store inf_4 rfl rfl rfl rfl (by first | decide | exact Nat.le_of_ble_eq_true rfl | (simp; done) | omega | (simp only [Nat.mul_one]; assumption)) ?_) | (refine l_perm (front4 _ _ _ _ _ _) ?_; refine l_store inf_4 rfl rfl rfl rfl (by first | decide | exact Nat.le_of_ble_eq_true rfl | (simp; done) | omega | (simp only [Nat.mul_one]; assumption)) ?_)
        refine l_nil ?_
        refine c_reg ?_
        refine l_q (by decide) (p_assign rfl).q ?_
        refine l_nil ?_
        refine c_reg ?_
        refine l_q (by decide) (p_move rfl).q ?_
        first | refine l_q (by decide) (p_add (j := 1) rfl rfl rfl rfl (by show _ ≤ (9223372036854775807 : Nat); omega)).q ?_ | refine l_q (by decide) (p_addi rfl rfl (by show (-9223372036854775808 : Int) ≤ _; omega) (by show _ ≤ ((9223372036854775807 : Nat) : Int); omega)).q ?_
        refine l_q (by decide) (p_assign rfl).q ?_
        refine l_nil ?_
        refine c_join ((a + 1), (upd2 h x.r.head.toNat a true), (true)) ?_ ?_ ?_ ?_
        ·show ((a + 1) ≤ X.terms.length ∧ SoundT X (Ana.pn X.g false) (upd2 h x.r.head.toNat a true) ∧ ((true) = true → Ana.lack (X.g.n * X.g.t) (fl X.g.t (upd2 h x.r.head.toNat a true)) < Ana.lack (X.g.n * X.g.t) (fl X.g.t f)) ∧ ((true) = false → (upd2 h x.r.head.toNat a true) = f ∧ c2 = false ∧ ∀ b, b < (a + 1) → Cell (Ana.pn X.g false) x j b (upd2 h x.r.head.toNat a true))) ∧ X.terms.length - (a + 1) < X.terms.length - a
         exact ⟨⟨by omega, hM2.step (List.mem_of_getElem? hx) hy h48 (.inl h63), fun _ => lack_cell hh2 hat (by simpa using h98) hM3 (fun hc => (hM4 hc).1), fun h => (by cases h)⟩, by omega⟩
        · exact ⟨rfl, rfl, rfl, rfl, rfl, rfl, rfl, rfl, rfl, trivial⟩
        ·show List.Perm _ ([iCells b8 41 (ruF x), iCells b22 4 (bl (X.g.n * X.g.t) (fl X.g.t ((upd2 h x.r.head.toNat a true)))), iCells b1 25 [.slice X.At X.terms.length X.ct, .slice X.An X.nts.length X.cn, .int .i64 X.start, .slice X.Ar X.xs.length X.cr]])
         rw [show (bl (X.g.n * X.g.t) (fl X.g.t h)).set ((x.r.head.toNat * X.terms.length + a) * 1) (.bool true) = _ from bl_set, show Ana.upd (fl X.g.t h) (x.r.head.toNat * X.terms.length + a) true = _ from fl_upd hat]
         repeat (first | exact List.Perm.refl _ | refine List.Perm.cons _ ?_ | refine (front1 _ _ _).trans (List.Perm.cons _ ?_) | refine (front2 _ _ _ _).trans (List.Perm.cons _ ?_) | refine (front3 _ _ _ _ _).trans (List.Perm.cons _ ?_) | refine (front4 _ _ _ _ _ _).trans (List.Perm.cons _ ?_))
        · exact fun _ h => h
       ·skip
        refine c_skip ?_
        refine c_reg ?_
        refine l_q (by decide) (p_move rfl).q ?_
        first | refine l_q (by decide) (p_add (j := 1) rfl rfl rfl rfl (by show _ ≤ (9223372036854775807 : Nat); omega)).q ?_ | refine l_q (by decide) (p_addi rfl rfl (by show (-9223372036854775808 : Int) ≤ _; omega) (by show _ ≤ ((9223372036854775807 : Nat) : Int); omega)).q ?_
        refine l_q (by decide) (p_assign rfl).q ?_
        refine l_nil ?_
        refine c_join ((a + 1), (h), (c3)) ?_ ?_ ?_ ?_
        ·show ((a + 1) ≤ X.terms.length ∧ SoundT X (Ana.pn X.g false) (h) ∧ ((c3) = true → Ana.lack (X.g.n * X.g.t) (fl X.g.t (h)) < Ana.lack (X.g.n * X.g.t) (fl X.g.t f)) ∧ ((c3) = false → (h) = f ∧ c2 = false ∧ ∀ b, b < (a + 1) → Cell (Ana.pn X.g false) x j b (h))) ∧ X.terms.length - (a + 1) < X.terms.length - a
         refine ⟨⟨by omega, hM2, hM3, fun hc => ⟨(hM4 hc).1, (hM4 hc).2.1, fun b hb => ?_⟩⟩, by omega⟩
         by_cases e : b = a
         · subst e; intro z hz _ hzc; rw [hy] at hz; injection hz with hz; subst hz
           simpa using h98
         · exact (hM4 hc).2.2 b (by omega)
        · exact ⟨rfl, rfl, rfl, rfl, rfl, rfl, rfl, rfl, rfl, trivial⟩
        ·show List.Perm _ ([iCells b8 41 (ruF x), iCells b22 4 (bl (X.g.n * X.g.t) (fl X.g.t ((h)))), iCells b1 25 [.slice X.At X.terms.length X.ct, .slice X.An X.nts.length X.cn, .int .i64 X.start, .slice X.Ar X.xs.length X.cr]])
         exact .refl _
        · exact fun _ h => h
      ·skip
       first | refine l_g (j := 7) rfl rfl (by decide) (p_faddr (i := 1) 1 Try.underlying41 rfl inf_39 (by decide) rfl rfl).q ?_ | refine l_g (j := 7) rfl rfl (by decide) (p_faddro (i := 1) 1 Try.underlying41 rfl inf_39 (by decide) rfl rfl).q ?_
       first | refine l_g (j := 7) rfl rfl (by decide) (r_loado Try.underlying39 rfl rfl (by repeat constructor) (by rfl)).q ?_ | refine l_g (j := 7) rfl rfl (by decide) (r_load1 Try.underlying39 rfl rfl (by first | exact .fact (by repeat constructor) | exact .own (by repeat constructor) (by decide) (fun _ => rfl) | exact SlIn.body (by repeat constructor) (by assumption) | exact SlIn.row (by assumption) (by repeat constructor)) (by first | assumption | rfl) (by rfl)).q ?_ | refine l_g (j := 7) rfl rfl (by decide) (r_loadf Try.underlying39 rfl rfl (by first | exact .fact (by repeat constructor) | exact .own (by repeat constructor) (by decide) (fun _ => rfl) | exact SlIn.body (by repeat constructor) (by assumption) | exact SlIn.row (by assumption) (by repeat constructor)) (by assumption) (by rfl)).q ?_
       refine l_g (j := 7) rfl rfl (by decide) (p_move rfl).q ?_
       first | refine l_g (j := 7) rfl rfl (by decide) (r_index Try.underlying39 inf_3 rfl rfl rfl (by first | exact .fact (by repeat constructor) | exact .own (by repeat constructor) (by decide) (fun _ => rfl) | exact SlIn.body (by repeat constructor) (by assumption) | exact SlIn.row (by assumption) (by repeat constructor)) rfl (by omega)).q ?_ | refine l_g (j := 7) rfl rfl (by decide) (r_index Try.underlying39 inf_3 rfl rfl rfl (by first | exact .fact (by repeat constructor) | exact .own (by repeat constructor) (by decide) (fun _ => rfl) | exact SlIn.body (by repeat constructor) (by assumption) | exact SlIn.row (by assumption) (by repeat constructor)) rfl (by decide)).q ?_ | refine l_g (j := 7) rfl rfl (by decide) (p_indexo Try.underlying39 inf_3 rfl rfl rfl (by omega)).q ?_
       first | refine l_g (j := 7) rfl rfl (by decide) (r_loado Try.underlying3 rfl rfl (by repeat constructor) (by rfl)).q ?_ | refine l_g (j := 7) rfl rfl (by decide) (r_load1 Try.underlying3 rfl rfl (by first | exact .fact (by repeat constructor) | exact .own (by repeat constructor) (by decide) (fun _ => rfl) | exact SlIn.body (by repeat constructor) (by assumption) | exact SlIn.row (by assumption) (by repeat constructor)) (by first | assumption | rfl) (by rfl)).q ?_ | refine l_g (j := 7) rfl rfl (by decide) (r_loadf Try.underlying3 rfl rfl (by first | exact .fact (by repeat constructor) | exact .own (by repeat constructor) (by decide) (fun _ => rfl) | exact SlIn.body (by repeat constructor) (by assumption) | exact SlIn.row (by assumption) (by repeat constructor)) (by assumption) (by rfl)).q ?_
       first | refine l_g (j := 7) rfl rfl (by decide) (p_lss (j := 0) rfl rfl rfl rfl).q ?_ | refine l_g (j := 7) rfl rfl (by decide) (p_lssi rfl rfl).q ?_
       refine l_g (j := 7) rfl rfl (by decide) (p_move rfl).q ?_
       first | refine l_splitd (t := 70) rfl (fun h70 => ?_) (fun h70 => ?_) | refine l_splitb (t := 70) rfl (fun h70 => ?_) (fun h70 => ?_)
       ·skip
        have hn2 := ok.nt_lt (rule_mem hx) (List.mem_of_getElem? hy) h70
        have hnm : Ana.nt y * X.terms.length + a < X.nts.length * X.terms.length := idx_lt2 hn2 hat
        refine l_g (j := 14) rfl rfl (by decide) (p_move rfl).q ?_
        first | refine l_g (j := 14) rfl rfl (by decide) (p_faddr (i := 1) 1 Try.underlying41 rfl inf_39 (by decide) rfl rfl).q ?_ | refine l_g (j := 14) rfl rfl (by decide) (p_faddro (i := 1) 1 Try.underlying41 rfl inf_39 (by decide) rfl rfl).q ?_
        first | refine l_g (j := 14) rfl rfl (by decide) (r_loado Try.underlying39 rfl rfl (by repeat constructor) (by rfl)).q ?_ | refine l_g (j := 14) rfl rfl (by decide) (r_load1 Try.underlying39 rfl rfl (by first | exact .fact (by repeat constructor) | exact .own (by repeat constructor) (by decide) (fun _ => rfl) | exact SlIn.body (by repeat constructor) (by assumption) | exact SlIn.row (by assumption) (by repeat constructor)) (by first | assumption | rfl) (by rfl)).q ?_ | refine l_g (j := 14) rfl rfl (by decide) (r_loadf Try.underlying39 rfl rfl (by first | exact .fact (by repeat constructor) | exact .own (by repeat constructor) (by decide) (fun _ => rfl) | exact SlIn.body (by repeat constructor) (by assumption) | exact SlIn.row (by assumption) (by repeat constructor)) (by assumption) (by rfl)).q ?_
        refine l_g (j := 14) rfl rfl (by decide) (p_move rfl).q ?_
        first | refine l_g (j := 14) rfl rfl (by decide) (r_index Try.underlying39 inf_3 rfl rfl rfl (by first | exact .fact (by repeat constructor) | exact .own (by repeat constructor) (by decide) (fun _ => rfl) | exact SlIn.body (by repeat constructor) (by assumption) | exact SlIn.row (by assumption) (by repeat constructor)) rfl (by omega)).q ?_ | refine l_g (j := 14) rfl rfl (by decide) (r_index Try.underlying39 inf_3 rfl rfl rfl (by first | exact .fact (by repeat constructor) | exact .own (by repeat constructor) (by decide) (fun _ => rfl) | exact SlIn.body (by repeat constructor) (by assumption) | exact SlIn.row (by assumption) (by repeat constructor)) rfl (by decide)).q ?_ | refine l_g (j := 14) rfl rfl (by decide) (p_indexo Try.underlying39 inf_3 rfl rfl rfl (by omega)).q ?_
        first | refine l_g (j := 14) rfl rfl (by decide) (r_loado Try.underlying3 rfl rfl (by repeat constructor) (by rfl)).q ?_ | refine l_g (j := 14) rfl rfl (by decide) (r_load1 Try.underlying3 rfl rfl (by first | exact .fact (by repeat constructor) | exact .own (by repeat constructor) (by decide) (fun _ => rfl) | exact SlIn.body (by repeat constructor) (by assumption) | exact SlIn.row (by assumption) (by repeat constructor)) (by first | assumption | rfl) (by rfl)).q ?_ | refine l_g (j := 14) rfl rfl (by decide) (r_loadf Try.underlying3 rfl rfl (by first | exact .fact (by repeat constructor) | exact .own (by repeat constructor) (by decide) (fun _ => rfl) | exact SlIn.body (by repeat constructor) (by assumption) | exact SlIn.row (by assumption) (by repeat constructor)) (by assumption) (by rfl)).q ?_
        first | refine l_g (j := 14) rfl rfl (by decide) (((p_sub rfl rfl rfl rfl (by omega) (by show _ ≤ (9223372036854775807 : Nat); omega))).to (u := .int .i64 ((Ana.nt y : Nat) : Int)) (by rw [Ana.nt_cast h70])).q ?_ | refine l_g (j := 14) rfl rfl (by decide) (((p_subi rfl rfl (by show (-9223372036854775808 : Int) ≤ _; omega) (by show _ ≤ ((9223372036854775807 : Nat) : Int); omega))).to (u := .int .i64 ((Ana.nt y : Nat) : Int)) (by rw [Ana.nt_cast h70])).q ?_
        refine l_g (j := 14) rfl rfl (by decide) (p_move rfl).q ?_
        refine l_g (j := 14) rfl rfl (by decide) (p_mul rfl rfl rfl rfl (by show _ ≤ (9223372036854775807 : Nat); omega)).q ?_
        refine l_g (j := 14) rfl rfl (by decide) (p_move rfl).q ?_
        first | refine l_g (j := 14) rfl rfl (by decide) (p_add rfl rfl rfl rfl (by show _ ≤ (9223372036854775807 : Nat); omega)).q ?_ | refine l_g (j := 14) rfl rfl (by decide) (p_addi rfl rfl (by show (-9223372036854775808 : Int) ≤ _; omega) (by show _ ≤ ((9223372036854775807 : Nat) : Int); omega)).q ?_
        first | refine l_g (j := 14) rfl rfl (by decide) (r_index Try.underlying29 inf_4 rfl rfl rfl (by first | exact .fact (by repeat constructor) | exact .own (by repeat constructor) (by decide) (fun _ => rfl) | exact SlIn.body (by repeat constructor) (by assumption) | exact SlIn.row (by assumption) (by repeat constructor)) rfl (by omega)).q ?_ | refine l_g (j := 14) rfl rfl (by decide) (r_index Try.underlying29 inf_4 rfl rfl rfl (by first | exact .fact (by repeat constructor) | exact .own (by repeat constructor) (by decide) (fun _ => rfl) | exact SlIn.body (by repeat constructor) (by assumption) | exact SlIn.row (by assumption) (by repeat constructor)) rfl (by decide)).q ?_ | refine l_g (j := 14) rfl rfl (by decide) (p_indexo Try.underlying29 inf_4 rfl rfl rfl (by omega)).q ?_
        refine l_g (j := 14) rfl rfl (by decide) (((r_loado Try.underlying4 rfl rfl (by repeat constructor) (bl_at (idx_lt2 hn2 hat)))).to (u := .bool (h (Ana.nt y) a)) (by rw [fl_at hat])).q ?_
        refine l_g (j := 7) rfl rfl (by decide) (p_pick rfl rfl).q ?_
        refine l_q (by decide) (p_pick rfl rfl).q ?_
        refine l_q (by decide) (p_assign rfl).q ?_
        refine l_nil ?_
        refine c_seq ?_
        refine c_reg ?_
        refine l_q (by decide) (p_move rfl).q ?_
        refine l_q (by decide) (p_move rfl).q ?_
        first | refine l_splitd (t := 87) rfl (fun h87 => ?_) (fun h87 => ?_) | refine l_splitb (t := 87) rfl (fun h87 => ?_) (fun h87 => ?_)
        ·skip
         refine l_g (j := 1) rfl rfl (by decide) (p_move rfl).q ?_
         first | refine l_g (j := 1) rfl rfl (by decide) (p_faddr (i := 0) 0 Try.underlying41 rfl inf_3 (by decide) rfl rfl).q ?_ | refine l_g (j := 1) rfl rfl (by decide) (p_faddro (i := 0) 0 Try.underlying41 rfl inf_3 (by decide) rfl rfl).q ?_
         first | refine l_g (j := 1) rfl rfl (by decide) (((r_loado Try.underlying3 rfl rfl (by repeat constructor) (by rfl))).to (u := .int .i64 ((x.r.head.toNat : Nat) : Int)) (by rw [hh1])).q ?_ | refine l_g (j := 1) rfl rfl (by decide) (((r_load1 Try.underlying3 rfl rfl (by first | exact .fact (by repeat constructor) | exact .own (by repeat constructor) (by decide) (fun _ => rfl) | exact SlIn.body (by repeat constructor) (by assumption) | exact SlIn.row (by assumption) (by repeat constructor)) (by first | assumption | rfl) (by rfl))).to (u := .int .i64 ((x.r.head.toNat : Nat) : Int)) (by rw [hh1])).q ?_ | refine l_g (j := 1) rfl rfl (by decide) (((r_loadf Try.underlying3 rfl rfl (by first | exact .fact (by repeat constructor) | exact .own (by repeat constructor) (by decide) (fun _ => rfl) | exact SlIn.body (by repeat constructor) (by assumption) | exact SlIn.row (by assumption) (by repeat constructor)) (by assumption) (by rfl))).to (u := .int .i64 ((x.r.head.toNat : Nat) : Int)) (by rw [hh1])).q ?_
         refine l_g (j := 1) rfl rfl (by decide) (p_move rfl).q ?_
         refine l_g (j := 1) rfl rfl (by decide) (p_mul rfl rfl rfl rfl (by show _ ≤ (9223372036854775807 : Nat); omega)).q ?_
         refine l_g (j := 1) rfl rfl (by decide) (p_move rfl).q ?_
         first | refine l_g (j := 1) rfl rfl (by decide) (p_add rfl rfl rfl rfl (by show _ ≤ (9223372036854775807 : Nat); omega)).q ?_ | refine l_g (j := 1) rfl rfl (by decide) (p_addi rfl rfl (by show (-9223372036854775808 : Int) ≤ _; omega) (by show _ ≤ ((9223372036854775807 : Nat) : Int); omega)).q ?_
         first | refine l_g (j := 1) rfl rfl (by decide) (r_index Try.underlying29 inf_4 rfl rfl rfl (by first | exact .fact (by repeat constructor) | exact .own (by repeat constructor) (by decide) (fun _ => rfl) | exact SlIn.body (by repeat constructor) (by assumption) | exact SlIn.row (by assumption) (by repeat constructor)) rfl (by omega)).q ?_ | refine l_g (j := 1) rfl rfl (by decide) (r_index Try.underlying29 inf_4 rfl rfl rfl (by first | exact .fact (by repeat constructor) | exact .own (by repeat constructor) (by decide) (fun _ => rfl) | exact SlIn.body (by repeat constructor) (by assumption) | exact SlIn.row (by assumption) (by repeat constructor)) rfl (by decide)).q ?_ | refine l_g (j := 1) rfl rfl (by decide) (p_indexo Try.underlying29 inf_4 rfl rfl rfl (by omega)).q ?_
         refine l_g (j := 1) rfl rfl (by decide) (((r_loado Try.underlying4 rfl rfl (by repeat constructor) (bl_at (idx_lt2 hh2 hat)))).to (u := .bool (h x.r.head.toNat a)) (by rw [fl_at hat])).q ?_
         first | refine l_g (j := 1) rfl rfl (by decide) (p_notd rfl).q ?_ | refine l_g (j := 1) rfl rfl (by decide) (p_not rfl).q ?_
         refine l_q (by decide) (p_pick rfl rfl).q ?_
         refine l_nil ?_
         first | refine c_dec rfl (fun h98 => ?_) (fun h98 => ?_) | refine c_cond rfl (fun h98 => ?_) (fun h98 => ?_)
         ·skip
          refine c_seq ?_
          refine c_reg ?_
          refine l_q (by decide) (p_move rfl).q ?_
          first | refine l_q (by decide) (p_faddr (i := 0) 0 Try.underlying41 rfl inf_3 (by decide) rfl rfl).q ?_ | refine l_q (by decide) (p_faddro (i := 0) 0 Try.underlying41 rfl inf_3 (by decide) rfl rfl).q ?_
          first | refine l_q (by decide) (((r_loado Try.underlying3 rfl rfl (by repeat constructor) (by rfl))).to (u := .int .i64 ((x.r.head.toNat : Nat) : Int)) (by rw [hh1])).q ?_ | refine l_q (by decide) (((r_load1 Try.underlying3 rfl rfl (by first | exact .fact (by repeat constructor) | exact .own (by repeat constructor) (by decide) (fun _ => rfl) | exact SlIn.body (by repeat constructor) (by assumption) | exact SlIn.row (by assumption) (by repeat constructor)) (by first | assumption | rfl) (by rfl))).to (u := .int .i64 ((x.r.head.toNat : Nat) : Int)) (by rw [hh1])).q ?_ | refine l_q (by decide) (((r_loadf Try.underlying3 rfl rfl (by first | exact .fact (by repeat constructor) | exact .own (by repeat constructor) (by decide) (fun _ => rfl) | exact SlIn.body (by repeat constructor) (by assumption) | exact SlIn.row (by assumption) (by repeat constructor)) (by assumption) (by rfl))).to (u := .int .i64 ((x.r.head.toNat : Nat) : Int)) (by rw [hh1])).q ?_
          refine l_q (by decide) (p_move rfl).q ?_
          refine l_q (by decide) (p_mul rfl rfl rfl rfl (by show _ ≤ (9223372036854775807 : Nat); omega)).q ?_
          refine l_q (by decide) (p_move rfl).q ?_
          first | refine l_q (by decide) (p_add rfl rfl rfl rfl (by show _ ≤ (9223372036854775807 : Nat); omega)).q ?_ | refine l_q (by decide) (p_addi rfl rfl (by show (-9223372036854775808 : Int) ≤ _; omega) (by show _ ≤ ((9223372036854775807 : Nat) : Int); omega)).q ?_
          first | refine l_q (by decide) (r_index Try.underlying29 inf_4 rfl rfl rfl (by first | exact .fact (by repeat constructor) | exact .own (by repeat constructor) (by decide) (fun _ => rfl) | exact SlIn.body (by repeat constructor) (by assumption) | exact SlIn.row (by assumption) (by repeat constructor)) rfl (by omega)).q ?_ | refine l_q (by decide) (r_index Try.underlying29 inf_4 rfl rfl rfl (by first | exact .fact (by repeat constructor) | exact .own (by repeat constructor) (by decide) (fun _ => rfl) | exact SlIn.body (by repeat constructor) (by assumption) | exact SlIn.row (by assumption) (by repeat constructor)) rfl (by decide)).q ?_ | refine l_q (by decide) (p_indexo Try.underlying29 inf_4 rfl rfl rfl (by omega)).q ?_
          first | (refine l_store inf_4 rfl rfl rfl rfl (by first | decide | exact Nat.le_of_ble_eq_true rfl | (simp; done) | omega | (simp only [Nat.mul_one]; assumption)) ?_) | (refine l_perm (front1 _ _ _) ?_; refine l_store inf_4 rfl rfl rfl rfl (by first | decide | exact Nat.le_of_ble_eq_true rfl | (simp; done) | omega | (simp only [Nat.mul_one]; assumption)) ?_) | (refine l_perm (front2 _ _ _ _) ?_; refine l_store inf_4 rfl rfl rfl rfl (by first | decide | exact Nat.le_of_ble_eq_true rfl | (simp; done) | omega | (simp only [Nat.mul_one]; assumption)) ?_) | (refine l_perm (front3 _ _ _ _ _) ?_; refine l_store inf_4 rfl rfl rfl rfl (by first | decide | exact Nat.le_of_ble_eq_true rfl | (simp; done) | omega | (simp only [Nat.mul_one]; assumption)) ?_) | (refine l_perm (front4 _ _ _ _ _ _) ?_; refine l_store inf_4 rfl rfl rfl rfl (by first | decide | exact Nat.le_of_ble_eq_true rfl | (simp; done) | omega | (simp only [Nat.mul_one]; assumption)) ?_)
          refine l_nil ?_
          refine c_reg ?_
          refine l_q (by decide) (p_assign rfl).q ?_
          refine l_nil ?_
          refine c_reg ?_
          refine l_q (by decide) (p_move rfl).q ?_
          first | refine l_q (by decide) (p_add (j := 1) rfl rfl rfl rfl (by show _ ≤ (9223372036854775807 : Nat); omega)).q ?_ | refine l_q (by decide) (p_addi rfl rfl (by show (-9223372036854775808 : Int) ≤ _; omega) (by show _ ≤ ((9223372036854775807 : Nat) : Int); omega)).q ?_
          refine l_q (by decide) (p_assign rfl).q ?_
          refine l_nil ?_
          refine c_join ((a + 1), (upd2 h x.r.head.toNat a true), (true)) ?_ ?_ ?_ ?_
          ·show ((a + 1) ≤ X.terms.length ∧ SoundT X (Ana.pn X.g false) (upd2 h x.r.head.toNat a true) ∧ ((true) = true → Ana.lack (X.g.n * X.g.t) (fl X.g.t (upd2 h x.r.head.toNat a true)) < Ana.lack (X.g.n * X.g.t) (fl X.g.t f)) ∧ ((true) = false → (upd2 h x.r.head.toNat a true) = f ∧ c2 = false ∧ ∀ b, b < (a + 1) → Cell (Ana.pn X.g false) x j b (upd2 h x.r.head.toNat a true))) ∧ X.terms.length - (a + 1) < X.terms.length - a
           exact ⟨⟨by omega, hM2.step (List.mem_of_getElem? hx) hy h48 (.inr ⟨h70, h87⟩), fun _ => lack_cell hh2 hat (by simpa using h98) hM3 (fun hc => (hM4 hc).1), fun h => (by cases h)⟩, by omega⟩
          · exact ⟨rfl, rfl, rfl, rfl, rfl, rfl, rfl, rfl, rfl, trivial⟩
          ·show List.Perm _ ([iCells b8 41 (ruF x), iCells b22 4 (bl (X.g.n * X.g.t) (fl X.g.t ((upd2 h x.r.head.toNat a true)))), iCells b1 25 [.slice X.At X.terms.length X.ct, .slice X.An X.nts.length X.cn, .int .i64 X.start, .slice X.Ar X.xs.length X.cr]])
           rw [show (bl (X.g.n * X.g.t) (fl X.g.t h)).set ((x.r.head.toNat * X.terms.length + a) * 1) (.bool true) = _ from bl_set, show Ana.upd (fl X.g.t h) (x.r.head.toNat * X.terms.length + a) true = _ from fl_upd hat]
           repeat (first | exact List.Perm.refl _ | refine List.Perm.cons _ ?_ | refine (front1 _ _ _).trans (List.Perm.cons _ ?_) | refine (front2 _ _ _ _).trans (List.Perm.cons _ ?_) | refine (front3 _ _ _ _ _).trans (List.Perm.cons _ ?_) | refine (front4 _ _ _ _ _ _).trans (List.Perm.cons _ ?_))
          · exact fun _ h => h
         ·skip
          refine c_skip ?_
          refine c_reg ?_
          refine l_q (by decide) (p_move rfl).q ?_
          first | refine l_q (by decide) (p_add (j := 1) rfl rfl rfl rfl (by show _ ≤ (9223372036854775807 : Nat); omega)).q ?_ | refine l_q (by decide) (p_addi rfl rfl (by show (-9223372036854775808 : Int) ≤ _; omega) (by show _ ≤ ((9223372036854775807 : Nat) : Int); omega)).q ?_
          refine l_q (by decide) (p_assign rfl).q ?_
          refine l_nil ?_
          refine c_join ((a + 1), (h), (c3)) ?_ ?_ ?_ ?_
          ·show ((a + 1) ≤ X.terms.length ∧ SoundT X (Ana.pn X.g false) (h) ∧ ((c3) = true → Ana.lack (X.g.n * X.g.t) (fl X.g.t (h)) < Ana.lack (X.g.n * X.g.t) (fl X.g.t f)) ∧ ((c3) = false → (h) = f ∧ c2 = false ∧ ∀ b, b < (a + 1) → Cell (Ana.pn X.g false) x j b (h))) ∧ X.terms.length - (a + 1) < X.terms.length - a
           refine ⟨⟨by omega, hM2, hM3, fun hc => ⟨(hM4 hc).1, (hM4 hc).2.1, fun b hb => ?_⟩⟩, by omega⟩
           by_cases e : b = a
           · subst e; intro z hz _ hzc; rw [hy] at hz; injection hz with hz; subst hz
             simpa using h98
           · exact (hM4 hc).2.2 b (by omega)
          · exact ⟨rfl, rfl, rfl, rfl, rfl, rfl, rfl, rfl, rfl, trivial⟩
          ·show List.Perm _ ([iCells b8 41 (ruF x), iCells b22 4 (bl (X.g.n * X.g.t) (fl X.g.t ((h)))), iCells b1 25 [.slice X.At X.terms.length X.ct, .slice X.An X.nts.length X.cn, .int .i64 X.start, .slice X.Ar X.xs.length X.cr]])
           exact .refl _
          · exact fun _ h => h
        ·skip
         refine l_off (j := 1) rfl rfl (by first | (simp; done) | (simp [undef]; done)) (by decide) ?_
         refine l_off (j := 1) rfl rfl (by first | (simp; done) | (simp [undef]; done)) (by decide) ?_
         refine l_off (j := 1) rfl rfl (by first | (simp; done) | (simp [undef]; done)) (by decide) ?_
         refine l_off (j := 1) rfl rfl (by first | (simp; done) | (simp [undef]; done)) (by decide) ?_
         refine l_off (j := 1) rfl rfl (by first | (simp; done) | (simp [undef]; done)) (by decide) ?_
         refine l_off (j := 1) rfl rfl (by first | (simp; done) | (simp [undef]; done)) (by decide) ?_
         refine l_off (j := 1) rfl rfl (by first | (simp; done) | (simp [undef]; done)) (by decide) ?_
         refine l_off (j := 1) rfl rfl (by first | (simp; done) | (simp [undef]; done)) (by decide) ?_
         refine l_off (j := 1) rfl rfl (by first | (simp; done) | (simp [undef]; done)) (by decide) ?_
         refine l_off (j := 1) rfl rfl (by first | (simp; done) | (simp [undef]; done)) (by decide) ?_
         refine l_q (by decide) (p_pick rfl rfl).q ?_
         refine l_nil ?_
         refine c_false rfl ?_
         refine c_skip ?_
         refine c_reg ?_
         refine l_q (by decide) (p_move rfl).q ?_
         first | refine l_q (by decide) (p_add (j := 1) rfl rfl rfl rfl (by show _ ≤ (9223372036854775807 : Nat); omega)).q ?_ | refine l_q (by decide) (p_addi rfl rfl (by show (-9223372036854775808 : Int) ≤ _; omega) (by show _ ≤ ((9223372036854775807 : Nat) : Int); omega)).q ?_
         refine l_q (by decide) (p_assign rfl).q ?_
         refine l_nil ?_
         refine c_join ((a + 1), (h), (c3)) ?_ ?_ ?_ ?_
         ·show ((a + 1) ≤ X.terms.length ∧ SoundT X (Ana.pn X.g false) (h) ∧ ((c3) = true → Ana.lack (X.g.n * X.g.t) (fl X.g.t (h)) < Ana.lack (X.g.n * X.g.t) (fl X.g.t f)) ∧ ((c3) = false → (h) = f ∧ c2 = false ∧ ∀ b, b < (a + 1) → Cell (Ana.pn X.g false) x j b (h))) ∧ X.terms.length - (a + 1) < X.terms.length - a
          refine ⟨⟨by omega, hM2, hM3, fun hc => ⟨(hM4 hc).1, (hM4 hc).2.1, fun b hb => ?_⟩⟩, by omega⟩
          by_cases e : b = a
          · subst e; intro z hz _ hzc; rw [hy] at hz; injection hz with hz; subst hz
            rcases hzc with e | ⟨_, e⟩
            · exact absurd e h63
            · rw [e] at h87; cases h87
          · exact (hM4 hc).2.2 b (by omega)
         · exact ⟨rfl, rfl, rfl, rfl, rfl, rfl, rfl, rfl, rfl, trivial⟩
         ·show List.Perm _ ([iCells b8 41 (ruF x), iCells b22 4 (bl (X.g.n * X.g.t) (fl X.g.t ((h)))), iCells b1 25 [.slice X.At X.terms.length X.ct, .slice X.An X.nts.length X.cn, .int .i64 X.start, .slice X.Ar X.xs.length X.cr]])
          exact .refl _
         · exact fun _ h => h
       ·skip
        refine l_off (j := 14) rfl rfl (by first | (simp; done) | (simp [undef]; done)) (by decide) ?_
        refine l_off (j := 14) rfl rfl (by first | (simp; done) | (simp [undef]; done)) (by decide) ?_
        refine l_off (j := 14) rfl rfl (by first | (simp; done) | (simp [undef]; done)) (by decide) ?_
        refine l_off (j := 14) rfl rfl (by first | (simp; done) | (simp [undef]; done)) (by decide) ?_
        refine l_off (j := 14) rfl rfl (by first | (simp; done) | (simp [undef]; done)) (by decide) ?_
        refine l_off (j := 14) rfl rfl (by first | (simp; done) | (simp [undef]; done)) (by decide) ?_
        refine l_off (j := 14) rfl rfl (by first | (simp; done) | (simp [undef]; done)) (by decide) ?_
        refine l_off (j := 14) rfl rfl (by first | (simp; done) | (simp [undef]; done)) (by decide) ?_
        refine l_off (j := 14) rfl rfl (by first | (simp; done) | (simp [undef]; done)) (by decide) ?_
        refine l_off (j := 14) rfl rfl (by first | (simp; done) | (simp [undef]; done)) (by decide) ?_
        refine l_off (j := 14) rfl rfl (by first | (simp; done) | (simp [undef]; done)) (by decide) ?_
        refine l_off (j := 14) rfl rfl (by first | (simp; done) | (simp [undef]; done)) (by decide) ?_
        refine l_off (j := 14) rfl rfl (by first | (simp; done) | (simp [undef]; done)) (by decide) ?_
        refine l_g (j := 7) rfl rfl (by decide) (p_pick rfl rfl).q ?_
        refine l_q (by decide) (p_pick rfl rfl).q ?_
        refine l_q (by decide) (p_assign rfl).q ?_
        refine l_nil ?_
        refine c_seq ?_
        refine c_reg ?_
        refine l_q (by decide) (p_move rfl).q ?_
        refine l_q (by decide) (p_move rfl).q ?_
        refine l_off (j := 1) rfl rfl (by first | (simp; done) | (simp [undef]; done)) (by decide) ?_
        refine l_off (j := 1) rfl rfl (by first | (simp; done) | (simp [undef]; done)) (by decide) ?_
        refine l_off (j := 1) rfl rfl (by first | (simp; done) | (simp [undef]; done)) (by decide) ?_
        refine l_off (j := 1) rfl rfl (by first | (simp; done) | (simp [undef]; done)) (by decide) ?_
        refine l_off (j := 1) rfl rfl (by first | (simp; done) | (simp [undef]; done)) (by decide) ?_
        refine l_off (j := 1) rfl rfl (by first | (simp; done) | (simp [undef]; done)) (by decide) ?_
        refine l_off (j := 1) rfl rfl (by first | (simp; done) | (simp [undef]; done)) (by decide) ?_
        refine l_off (j := 1) rfl rfl (by first | (simp; done) | (simp [undef]; done)) (by decide) ?_
        refine l_off (j := 1) rfl rfl (by first | (simp; done) | (simp [undef]; done)) (by decide) ?_
        refine l_off (j := 1) rfl rfl (by first | (simp; done) | (simp [undef]; done)) (by decide) ?_
        refine l_q (by decide) (p_pick rfl rfl).q ?_
        refine l_nil ?_
        refine c_false rfl ?_
        refine c_skip ?_
        refine c_reg ?_
        refine l_q (by decide) (p_move rfl).q ?_
        first | refine l_q (by decide) (p_add (j := 1) rfl rfl rfl rfl (by show _ ≤ (9223372036854775807 : Nat); omega)).q ?_ | refine l_q (by decide) (p_addi rfl rfl (by show (-9223372036854775808 : Int) ≤ _; omega) (by show _ ≤ ((9223372036854775807 : Nat) : Int); omega)).q ?_
        refine l_q (by decide) (p_assign rfl).q ?_
        refine l_nil ?_
        refine c_join ((a + 1), (h), (c3)) ?_ ?_ ?_ ?_
        ·show ((a + 1) ≤ X.terms.length ∧ SoundT X (Ana.pn X.g false) (h) ∧ ((c3) = true → Ana.lack (X.g.n * X.g.t) (fl X.g.t (h)) < Ana.lack (X.g.n * X.g.t) (fl X.g.t f)) ∧ ((c3) = false → (h) = f ∧ c2 = false ∧ ∀ b, b < (a + 1) → Cell (Ana.pn X.g false) x j b (h))) ∧ X.terms.length - (a + 1) < X.terms.length - a
         refine ⟨⟨by omega, hM2, hM3, fun hc => ⟨(hM4 hc).1, (hM4 hc).2.1, fun b hb => ?_⟩⟩, by omega⟩
         by_cases e : b = a
         · subst e; intro z hz _ hzc; rw [hy] at hz; injection hz with hz; subst hz
           rcases hzc with e | ⟨e, _⟩
           · exact absurd e h63
           · exact absurd e h70
         · exact (hM4 hc).2.2 b (by omega)
        · exact ⟨rfl, rfl, rfl, rfl, rfl, rfl, rfl, rfl, rfl, trivial⟩
        ·show List.Perm _ ([iCells b8 41 (ruF x), iCells b22 4 (bl (X.g.n * X.g.t) (fl X.g.t ((h)))), iCells b1 25 [.slice X.At X.terms.length X.ct, .slice X.An X.nts.length X.cn, .int .i64 X.start, .slice X.Ar X.xs.length X.cr]])
         exact .refl _
        · exact fun _ h => h
     ·skip
      refine c_exit ?_
      refine c_here ?_
      refine c_reg ?_
      refine l_q (by decide) (p_move rfl).q ?_
      first | refine l_q (by decide) (p_add (j := 1) rfl rfl rfl rfl (by show _ ≤ (9223372036854775807 : Nat); omega)).q ?_ | refine l_q (by decide) (p_addi rfl rfl (by show (-9223372036854775808 : Int) ≤ _; omega) (by show _ ≤ ((9223372036854775807 : Nat) : Int); omega)).q ?_
      refine l_q (by decide) (p_assign rfl).q ?_
      refine l_nil ?_
      refine c_join ((j + 1), (h), (c3)) ?_ ?_ ?_ ?_
      ·show ((j + 1) ≤ x.r.body.length ∧ SoundT X (Ana.pn X.g false) (h) ∧ ((c3) = true → Ana.lack (X.g.n * X.g.t) (fl X.g.t (h)) < Ana.lack (X.g.n * X.g.t) (fl X.g.t f)) ∧ ((c3) = false → (h) = f ∧ cg = false ∧ ∀ p, p < (j + 1) → ∀ b, b < X.g.t → Cell (Ana.pn X.g false) x p b (h))) ∧ x.r.body.length - (j + 1) < x.r.body.length - j
       refine ⟨⟨by omega, hM2, hM3, fun hc => ⟨(hM4 hc).1, (hL4 (hM4 hc).2.1).2.1, fun p hp b hb => ?_⟩⟩, by omega⟩
       by_cases e : p = j
       · subst e; exact (hM4 hc).2.2 b (by show b < a; have : X.g.t = X.terms.length := rfl; omega)
       · have := (hL4 (hM4 hc).2.1).2.2 p (by omega) b hb
         rw [(hM4 hc).1, ← (hL4 (hM4 hc).2.1).1]; exact this
      · exact ⟨rfl, rfl, rfl, rfl, rfl, rfl, rfl, rfl, trivial⟩
      ·show List.Perm _ ([iCells b8 41 (ruF x), iCells b22 4 (bl (X.g.n * X.g.t) (fl X.g.t ((h)))), iCells b1 25 [.slice X.At X.terms.length X.ct, .slice X.An X.nts.length X.cn, .int .i64 X.start, .slice X.Ar X.xs.length X.cr]])
       exact .refl _
      · exact fun _ h => List.mem_cons_of_mem _ (List.mem_cons_of_mem _ h)
    ·skip
     refine c_exit ?_
     refine c_here ?_
     refine c_reg ?_
     refine l_q (by decide) (p_move rfl).q ?_
     first | refine l_q (by decide) (p_add (j := 1) rfl rfl rfl rfl (by show _ ≤ (9223372036854775807 : Nat); omega)).q ?_ | refine l_q (by decide) (p_addi rfl rfl (by show (-9223372036854775808 : Int) ≤ _; omega) (by show _ ≤ ((9223372036854775807 : Nat) : Int); omega)).q ?_
     refine l_q (by decide) (p_assign rfl).q ?_
     refine l_nil ?_
     first | (refine c_drop (x := iCells b8 _ _) ?_) | (refine c_perm (front1 _ _ _) ?_; refine c_drop (x := iCells b8 _ _) ?_) | (refine c_perm (front2 _ _ _ _) ?_; refine c_drop (x := iCells b8 _ _) ?_) | (refine c_perm (front3 _ _ _ _ _) ?_; refine c_drop (x := iCells b8 _ _) ?_) | (refine c_perm (front4 _ _ _ _ _ _) ?_; refine c_drop (x := iCells b8 _ _) ?_)
     refine c_join ((k + 1), (h0), (c2)) ?_ ?_ ?_ ?_
     ·show ((k + 1) ≤ X.xs.length ∧ SoundT X (Ana.pn X.g false) (h0) ∧ ((c2) = true → Ana.lack (X.g.n * X.g.t) (fl X.g.t (h0)) < Ana.lack (X.g.n * X.g.t) (fl X.g.t f)) ∧ ((c2) = false → (h0) = f ∧ ∀ zz, zz ∈ X.xs.take (k + 1) → GoodT (Ana.pn X.g false) X.g.t zz (h0))) ∧ X.xs.length - (k + 1) < X.xs.length - k
      have hst : x.r.body.length ≤ j ∨ Ana.allG false (Ana.pn X.g false) (x.r.body.take j) = false := by first | exact .inl (by omega) | exact .inr (by simpa using h48)
      refine ⟨⟨by omega, hL2, hL3, fun hc => ⟨(hL4 hc).1, fun zz hz => ?_⟩⟩, by omega⟩
      rw [take_at hx] at hz
      rcases List.mem_append.1 hz with h5 | h5
      · have := (hJ4 (hL4 hc).2.1).2 zz h5
        rw [(hL4 hc).1, ← (hJ4 (hL4 hc).2.1).1]; exact this
      · rw [List.mem_singleton.1 h5]
        intro p b hb
        by_cases hp : p < j
        · exact (hL4 hc).2.2 p hp b hb
        · intro y hy hn _
          exact absurd hn (by rw [allG_stop hst hp (List.getElem?_eq_some_iff.1 hy).1]; decide)
     · exact ⟨rfl, rfl, rfl, rfl, rfl, rfl, trivial⟩
     ·show List.Perm _ ([iCells b22 4 (bl (X.g.n * X.g.t) (fl X.g.t ((h0)))), iCells b1 25 [.slice X.At X.terms.length X.ct, .slice X.An X.nts.length X.cn, .int .i64 X.start, .slice X.Ar X.xs.length X.cr]])
      exact .refl _
     · exact fun _ h => List.mem_cons_of_mem _ (List.mem_cons_of_mem _ h)
   ·skip
    refine l_off (j := 5) rfl rfl (by first | (simp; done) | (simp [undef]; done)) (by decide) ?_
    refine l_off (j := 5) rfl rfl (by first | (simp; done) | (simp [undef]; done)) (by decide) ?_
    refine l_off (j := 5) rfl rfl (by first | (simp; done) | (simp [undef]; done)) (by decide) ?_
    refine l_off (j := 5) rfl rfl (by first | (simp; done) | (simp [undef]; done)) (by decide) ?_
    refine l_off (j := 5) rfl rfl (by first | (simp; done) | (simp [undef]; done)) (by decide) ?_
    refine l_off (j := 5) rfl rfl (by first | (simp; done) | (simp [undef]; done)) (by decide) ?_
    refine l_q (by decide) (p_pick rfl rfl).q ?_
    refine l_nil ?_
    refine c_false rfl ?_
    refine c_exit ?_
    refine c_here ?_
    refine c_reg ?_
    refine l_q (by decide) (p_move rfl).q ?_
    first | refine l_q (by decide) (p_add (j := 1) rfl rfl rfl rfl (by show _ ≤ (9223372036854775807 : Nat); omega)).q ?_ | refine l_q (by decide) (p_addi rfl rfl (by show (-9223372036854775808 : Int) ≤ _; omega) (by show _ ≤ ((9223372036854775807 : Nat) : Int); omega)).q ?_
    refine l_q (by decide) (p_assign rfl).q ?_
    refine l_nil ?_
    first | (refine c_drop (x := iCells b8 _ _) ?_) | (refine c_perm (front1 _ _ _) ?_; refine c_drop (x := iCells b8 _ _) ?_) | (refine c_perm (front2 _ _ _ _) ?_; refine c_drop (x := iCells b8 _ _) ?_) | (refine c_perm (front3 _ _ _ _ _) ?_; refine c_drop (x := iCells b8 _ _) ?_) | (refine c_perm (front4 _ _ _ _ _ _) ?_; refine c_drop (x := iCells b8 _ _) ?_)
    refine c_join ((k + 1), (h0), (c2)) ?_ ?_ ?_ ?_
    ·show ((k + 1) ≤ X.xs.length ∧ SoundT X (Ana.pn X.g false) (h0) ∧ ((c2) = true → Ana.lack (X.g.n * X.g.t) (fl X.g.t (h0)) < Ana.lack (X.g.n * X.g.t) (fl X.g.t f)) ∧ ((c2) = false → (h0) = f ∧ ∀ zz, zz ∈ X.xs.take (k + 1) → GoodT (Ana.pn X.g false) X.g.t zz (h0))) ∧ X.xs.length - (k + 1) < X.xs.length - k
     have hst : x.r.body.length ≤ j ∨ Ana.allG false (Ana.pn X.g false) (x.r.body.take j) = false := by first | exact .inl (by omega) | exact .inr (by simpa using h48)
     refine ⟨⟨by omega, hL2, hL3, fun hc => ⟨(hL4 hc).1, fun zz hz => ?_⟩⟩, by omega⟩
     rw [take_at hx] at hz
     rcases List.mem_append.1 hz with h5 | h5
     · have := (hJ4 (hL4 hc).2.1).2 zz h5
       rw [(hL4 hc).1, ← (hJ4 (hL4 hc).2.1).1]; exact this
     · rw [List.mem_singleton.1 h5]
       intro p b hb
       by_cases hp : p < j
       · exact (hL4 hc).2.2 p hp b hb
       · intro y hy hn _
         exact absurd hn (by rw [allG_stop hst hp (List.getElem?_eq_some_iff.1 hy).1]; decide)
    · exact ⟨rfl, rfl, rfl, rfl, rfl, rfl, trivial⟩
    ·show List.Perm _ ([iCells b22 4 (bl (X.g.n * X.g.t) (fl X.g.t ((h0)))), iCells b1 25 [.slice X.At X.terms.length X.ct, .slice X.An X.nts.length X.cn, .int .i64 X.start, .slice X.Ar X.xs.length X.cr]])
     exact .refl _
    · exact fun _ h => List.mem_cons_of_mem _ (List.mem_cons_of_mem _ h)
  ·skip
   refine c_exit ?_
   refine c_here ?_
   rw [List.take_of_length_le (by omega)] at hJ4
   refine c_join ((g), (cg)) ?_ ?_ ?_ ?_
   ·show (SoundT X (Ana.pn X.g false) (g) ∧ ((cg) = false → ∀ zz, zz ∈ X.xs → GoodT (Ana.pn X.g false) X.g.t zz (g))) ∧ 2 * Ana.lack (X.g.n * X.g.t) (fl X.g.t (g)) + (cg).toNat < 2 * Ana.lack (X.g.n * X.g.t) (fl X.g.t f) + ch.toNat
    subst h23
    refine ⟨⟨hJ2, fun hc => (hJ4 hc).2⟩, ?_⟩
    cases cg with
    | true => have := hJ3 rfl; simp only [Bool.toNat_true]; omega
    | false => have := (hJ4 rfl).1; subst this; simp only [Bool.toNat_true, Bool.toNat_false]; omega
   · exact ⟨rfl, rfl, rfl, rfl, rfl, trivial⟩
   ·show List.Perm _ ([iCells b22 4 (bl (X.g.n * X.g.t) (fl X.g.t ((g)))), iCells b1 25 [.slice X.At X.terms.length X.ct, .slice X.An X.nts.length X.cn, .int .i64 X.start, .slice X.Ar X.xs.length X.cr]])
    exact .refl _
   · exact fun _ h => h
 ·skip
  refine c_exit ?_
  refine c_here ?_
  refine c_seq ?_
  refine c_reg ?_
  refine l_q (by decide) (p_move rfl).q ?_
  refine l_q (by decide) (p_assign rfl).q ?_
  refine l_nil ?_
  refine c_ret ?_
  refine c_ret1 rfl rfl (fun w hs => ?_)
  rw [bl_ext2 (g := fiN X) (first_full ok hI1 (hI2 (by simpa using h23)))] at hs
  have hgo := hs.own (iCells b22 4 (bl (X.g.n * X.g.t) (fl X.g.t (fiN X)))) (by repeat constructor)
  have hgk := hgo.2.2 b22 (by simp [iCells])
  exact ⟨b22, rfl, hgo.1, ⟨by simpa using hgk.2, hgk.1⟩, hs.ext⟩
end Go.Proofs.Ytidbhgolhiaijaa
