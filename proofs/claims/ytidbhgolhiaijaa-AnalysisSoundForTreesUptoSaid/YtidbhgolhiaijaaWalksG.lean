/- The walks of analysis, seventh part (First); conditions: lengths. -/
import Derived.Test.YtidbhgolhiaijaaWalksF
namespace Go.Proofs.Ytidbhgolhiaijaa
open Go Go.Fx Go.Proofs

/-- tables of lists -/
structure XL where
  l : List Int
  A : Option Addr
  c : Nat
def lsF (x : XL) : List Value := [.slice x.A x.l.length x.c]
def Ld (xs : List XL) : World → Prop := fun w => ∀ (k : Nat) (x : XL), xs[k]? = some x → Sl 1 intF x.A x.l w
section
variable {P : Program} {w0 : World} {K : List Nat} {n : Sz} {N : Act → World → Prop} {L : Slots} {σ : Fx.Own} {ρ : Fx.Facts} {ops : Array Oper} {rest : List Oper}
theorem l_keep {x : Fx.Item} (h : WL P w0 K n ops rest N L σ (x.holds :: ρ)) : WL P w0 K n ops rest N L (x :: σ) ρ := fun a w hf hs => h a w hf hs.keep
theorem c_keep {x : Fx.Item} (h : Cont w0 K n N L σ (x.holds :: ρ)) : Cont w0 K n N L (x :: σ) ρ := fun a w hf hs => h a w hf hs.keep
theorem st_dropAll {w : World} {l : Fx.Own} (h : St w0 K w (l ++ σ) ρ) : St w0 K w σ ρ := (h.keepAll l).weak fun _ h => List.mem_cons_of_mem _ h
theorem c_sealr {α : Type} {e size c : Nat} {A : Option Addr} {f : α → List Value} {es : List α} (hs : 0 < size) (hf : ∀ x, (f x).length = size) (h : Cont w0 K n N L σ (Sl size f A es :: ρ)) : Cont w0 K n N L (iSl e size f A c es :: σ) ρ := fun a w hfr hst => h a w hfr (hst.sealr hs hf)
theorem st_ld_snoc {w : World} {xs : List XL} {A : Option Addr} {c : Nat} {row : List Int} (hs : St w0 K w σ ρ) (h1 : Ld xs ∈ ρ) (h2 : Sl 1 intF A row ∈ ρ) : St w0 K w σ (Ld (xs ++ [⟨row, A, c⟩]) :: ρ) :=
  ((hs.and h1 h2).iff (q := Ld (xs ++ [⟨row, A, c⟩])) (List.mem_cons_self ..) (fun w => ⟨fun ⟨g1, g2⟩ k x hx => by
    by_cases hk : k < xs.length
    · rw [List.getElem?_append_left hk] at hx; exact g1 k x hx
    · rw [List.getElem?_append_right (by omega)] at hx
      have := (List.getElem?_eq_some_iff.1 hx).1
      simp only [List.length_cons, List.length_nil] at this
      rw [show k - xs.length = 0 by omega] at hx
      injection hx with hx; subst hx; exact g2, fun g => ⟨fun k x hx => g k x (by rw [List.getElem?_append_left ((List.getElem?_eq_some_iff.1 hx).1)]; exact hx), g xs.length _ (by rw [List.getElem?_append_right (Nat.le_refl _), Nat.sub_self]; rfl)⟩⟩)).weak
    (fun q hq => by
      rcases List.mem_cons.1 hq with rfl | hq
      · exact List.mem_cons_self ..
      · exact List.mem_cons_of_mem _ (List.mem_cons_of_mem _ hq))
end
def hdL (n : Nat) (xs : List XL) : List Value := Ana.mkl n fun i => match xs[i]? with
  | some x => .slice x.A x.l.length x.c
  | none => .slice none 0 0
theorem hdL_rep (n : Nat) : List.replicate n (Value.slice none 0 0) = hdL n [] := by
  unfold hdL
  rw [show List.replicate n (Value.slice none 0 0) = Ana.mkl n (fun _ => Value.slice none 0 0) from Ana.mkl_rep ..]
  exact Ana.mkl_ext fun j _ => by simp
theorem hdL_len (n : Nat) (xs : List XL) : (hdL n xs).length = n := Ana.mkl_len _ _
theorem hdL_at {n : Nat} {xs : List XL} {y : XL} (h : xs.length < n) : (hdL n (xs ++ [y]))[xs.length * 1]? = some (.slice y.A y.l.length y.c) := by
  rw [Nat.mul_one, hdL, Ana.mkl_at h]
  simp
theorem hdL_nil {n : Nat} {xs : List XL} : hdL n (xs ++ [⟨[], none, 0⟩]) = hdL n xs := Ana.mkl_ext fun j _ => by
  by_cases h : j < xs.length
  · rw [List.getElem?_append_left h]
  · rw [List.getElem?_eq_none (l := xs) (by omega), List.getElem?_append_right (by omega)]
    by_cases e : j = xs.length
    · subst e; simp
    · rw [List.getElem?_eq_none (by simp; omega)]
theorem hdL_set {n : Nat} {xs : List XL} {y : XL} {A : Option Addr} {c : Nat} {l : List Int} : (hdL n (xs ++ [y])).set (xs.length * 1) (.slice A l.length c) = hdL n (xs ++ [⟨l, A, c⟩]) := by
  rw [Nat.mul_one, hdL, Ana.mkl_set]
  refine Ana.mkl_ext fun j _ => ?_
  unfold Ana.upd
  dsimp only
  by_cases h : j < xs.length
  · rw [if_neg (by omega), List.getElem?_append_left h, List.getElem?_append_left h]
  · by_cases e : j = xs.length
    · subst e; simp
    · rw [if_neg e, List.getElem?_eq_none (by simp; omega), List.getElem?_eq_none (by simp; omega)]
theorem hdL_full {n : Nat} {xs : List XL} (h : xs.length = n) : hdL n xs = xs.flatMap lsF := by
  have e : ∀ l : List XL, l.flatMap lsF = l.map (fun x => Value.slice x.A x.l.length x.c) := fun l => by
    induction l with
    | nil => rfl
    | cons x l ih => rw [List.flatMap_cons, ih]; rfl
  rw [e]
  apply List.ext_getElem?
  intro j
  by_cases hj : j < n
  · rw [hdL, Ana.mkl_at hj, List.getElem?_map, List.getElem?_eq_getElem (by omega)]; rfl
  · rw [List.getElem?_eq_none (by rw [hdL_len]; omega), List.getElem?_eq_none (by rw [List.length_map]; omega)]
theorem rowsOf_len (n : Nat) (p : Nat → Int → Bool) (lst : Int) (W : Nat) : (Ana.rowsOf n p lst W).length = n := Ana.mkl_len _ _
theorem rowsOf_succ (n : Nat) (p : Nat → Int → Bool) (lst : Int) (W : Nat) : Ana.rowsOf (n + 1) p lst W = Ana.rowsOf n p lst W ++ [Ana.rowOf (p n) lst W] := by unfold Ana.rowsOf Ana.mkl; rw [List.range_succ, List.map_append]; rfl
theorem rowOf_ext {p q : Int → Bool} (h : ∀ a, p a = q a) (lst : Int) (W : Nat) : Ana.rowOf p lst W = Ana.rowOf q lst W := by rw [show p = q from funext h]
theorem rowsOf_ext {n : Nat} {p q : Nat → Int → Bool} (h : ∀ i a, p i a = q i a) {lst : Int} {W : Nat} : Ana.rowsOf n p lst W = Ana.rowsOf n q lst W := by rw [show p = q from funext fun i => funext (h i)]
theorem Ana.dec_mem {p q : Prop} [Decidable p] (h : p ↔ q) : decide p = Ana.dec q := Ana.eq_dec ⟨fun hd => h.1 (of_decide_eq_true hd), fun hq => decide_eq_true (h.2 hq)⟩
/-- a table of lists that a function returns -/
abbrev RLs (n : Nat) (p : Nat → Int → Bool) (lst : Int) (W : Nat) := { y : Option Addr × Nat × List XL // y.2.2.map (·.l) = Ana.rowsOf n p lst W }
abbrev rlV {n : Nat} {p : Nat → Int → Bool} {lst : Int} {W : Nat} (y : RLs n p lst W) : Value := .slice y.1.1 y.1.2.2.length y.1.2.1
abbrev rlQ {n : Nat} {p : Nat → Int → Bool} {lst : Int} {W : Nat} (y : RLs n p lst W) : Fx.Facts := [Sl 1 lsF y.1.1 y.1.2.2, Ld y.1.2.2]
/-- how much the sets still lack -/
def meas (n W : Nat) (S : SF) : Nat := Ana.lack (n * W) (fun p => decide (((p % W : Nat) : Int) - 1 ∈ S (p / W)))
theorem meas_lt {n W i : Nat} {a : Int} {S S' : SF} (hsub : ∀ i a, a ∈ S i → a ∈ S' i) (hi : i < n) (h0 : -1 ≤ a) (h1 : a + 1 < W) (ha : a ∈ S' i) (hn : a ∉ S i) : meas n W S' < meas n W S := by
  have hw : (a + 1).toNat < W := by omega
  have e1 : (i * W + (a + 1).toNat) / W = i := by rw [Nat.mul_comm i W, Nat.mul_add_div (by omega), Nat.div_eq_of_lt hw, Nat.add_zero]
  have e2 : (i * W + (a + 1).toNat) % W = (a + 1).toNat := by rw [Nat.mul_comm i W, Nat.mul_add_mod, Nat.mod_eq_of_lt hw]
  have e3 : (((a + 1).toNat : Nat) : Int) - 1 = a := by omega
  have hlt : i * W + (a + 1).toNat < n * W := by
    have h := Nat.mul_le_mul_right W (show i + 1 ≤ n by omega)
    rw [Nat.add_mul] at h
    omega
  refine Ana.filter_lt (a := i * W + (a + 1).toNat) (fun x _ hx => ?_) (List.mem_range.2 hlt) ?_ ?_
  · simp only [Bool.not_eq_true', decide_eq_false_iff_not] at hx ⊢
    exact fun h => hx (hsub _ _ h)
  · simp only [e1, e2, e3]; simp [hn]
  · simp only [e1, e2, e3]; simp [ha]
abbrev tauF (X : GI) (s : Nat) (B : NF) (S : SF) : Fx.Own := iCells s 61 (mps X.g.n X.g.n B) :: fam X.g.n (mset B S)
def SoundF (X : GI) (nul : Nat → Bool) (S : SF) : Prop := ∀ i a, a ∈ S i → Ana.FI X.g nul i a
def GoodF (nul : Nat → Bool) (x : XR) (S : SF) : Prop := ∀ a, Ana.BG nul (fun i a => a ∈ S i) x.r.body a → a ∈ S x.r.head.toNat
theorem upd_same {α : Type} {f : Nat → α} {i : Nat} {v : α} (h : v = f i) : Ana.upd f i v = f := by
  funext j
  unfold Ana.upd
  by_cases e : j = i
  · rw [if_pos e, e, h]
  · rw [if_neg e]
theorem upd_at {α : Type} (f : Nat → α) (i : Nat) (v : α) : Ana.upd f i v i = v := by simp [Ana.upd]
theorem upd_off {α : Type} {f : Nat → α} {i j : Nat} {v : α} (h : j ≠ i) : Ana.upd f i v j = f j := by simp [Ana.upd, h]
theorem upd_mem {S : SF} {i j : Nat} {T : List Int} {a : Int} (h : a ∈ Ana.upd S i T j) : a ∈ S j ∨ (j = i ∧ a ∈ T) := by
  unfold Ana.upd at h
  by_cases e : j = i
  · rw [if_pos e] at h; exact .inr ⟨e, h⟩
  · rw [if_neg e] at h; exact .inl h
theorem firsts_full {X : GI} {nul : Nat → Bool} {S : SF} (hs : SoundF X nul S) (hg : ∀ x, x ∈ X.xs → GoodF nul x S) (i : Nat) (a : Int) : a ∈ S i ↔ Ana.FI X.g nul i a :=
  Ana.fi_full (F := fun i a => a ∈ S i) hs (fun r hr a hb => by obtain ⟨x, hx, rfl⟩ := List.mem_map.1 hr; exact hg x hx a hb) i a
/-- one rule's set goes in -/
theorem firsts_step {X : GI} (ok : Ana.Ok X.g) {nul : Nat → Bool} {S : SF} (hs : SoundF X nul S) {x : XR} (hx : x ∈ X.xs) {ks : List Int} (hk : ∀ a, a ∈ ks ↔ Ana.BG nul (fun i a => a ∈ S i) x.r.body a) (z : AddR (S x.r.head.toNat) ks) :
    SoundF X nul (Ana.upd S x.r.head.toNat z.1.2) ∧ (z.1.1 = true → meas X.g.n (X.g.t + 1) (Ana.upd S x.r.head.toNat z.1.2) < meas X.g.n (X.g.t + 1) S) ∧ (z.1.1 = false → Ana.upd S x.r.head.toNat z.1.2 = S ∧ GoodF nul x S) := by
  obtain ⟨⟨b, T⟩, h1, h2, h3⟩ := z
  have hsound : SoundF X nul (Ana.upd S x.r.head.toNat T) := fun i a ha => by
    rcases upd_mem ha with h | ⟨rfl, h⟩
    · exact hs i a h
    · rcases (h1 a).1 h with h | h
      · exact hs _ a h
      · exact Ana.FI.of_bg (fun i a h => hs i a h) (mem_g hx) ((hk a).1 h)
  refine ⟨hsound, fun hb => ?_, fun hb => ?_⟩
  · obtain ⟨a, ha, hn⟩ := h3 hb
    have hr := Ana.FI.range ok (hsound x.r.head.toNat a (by rw [upd_at]; exact ha))
    refine meas_lt (i := x.r.head.toNat) (a := a) (fun j b hb => ?_) (ok.hd (mem_g hx)).2 (by omega) (by omega) (by rw [upd_at]; exact ha) hn
    unfold Ana.upd
    by_cases e : j = x.r.head.toNat
    · rw [if_pos e]; exact (h1 b).2 (.inl (e ▸ hb))
    · rw [if_neg e]; exact hb
  · have hT := h2 hb
    exact ⟨upd_same hT, fun a ha => by have h := (h1 a).2 (.inr ((hk a).2 ha)); rw [show T = S x.r.head.toNat from hT] at h; exact h⟩
theorem begin_call {k : FuncId} {args : Array Value} {w : World} {e : Bool} {p : Int → Prop} (h : Calls Try.prog k args w (Ret fun v w' => ∃ (b : Nat) (ks : List Int), v = .tuple #[.map (some b), .bool e] ∧ MIs intK b ks w' ∧ (w.heap.size ≤ b ∧ b < w'.heap.size) ∧ (∀ a, a ∈ ks ↔ p a) ∧ Ext [] w w')) :
    Calls Try.prog k args w (Ret fun v w' => ∃ x : { x : Nat × List Int // ∀ a, a ∈ x.2 ↔ p a }, v = .tuple #[.map (some x.1.1), .bool e] ∧ MIs intK x.1.1 x.1.2 w' ∧ Dep w.heap.size w'.heap.size (MIs intK x.1.1 x.1.2) ∧ Ext [] w w') := h.mono fun e w' h => by
  cases e with
  | returned v =>
    obtain ⟨b, ks, h1, h2, h3, h4, h5⟩ := h
    exact ⟨⟨(b, ks), h4⟩, h1, h2, fun w1 w2 hb ⟨es, c, g1, g2⟩ => ⟨es, c, (hb b h3.1 h3.2).trans g1, g2⟩, h5⟩
  | _ => exact h.elim
theorem inf_56 : InfoIs Try.prog 56 1 24 (.slice none 0 0) := by unfold InfoIs; kernel_rfl
theorem call_41 : Callable Try.prog 41 := ⟨_, Try.func41, by kernel_rfl, rfl⟩
theorem call_42 : Callable Try.prog 42 := ⟨_, Try.func42, by kernel_rfl, rfl⟩
theorem call_45 : Callable Try.prog 45 := ⟨_, Try.func45, by kernel_rfl, rfl⟩
theorem call_47 : Callable Try.prog 47 := ⟨_, Try.func47, by kernel_rfl, rfl⟩
theorem call_48 : Callable Try.prog 48 := ⟨_, Try.func48, by kernel_rfl, rfl⟩
theorem call_52 : Callable Try.prog 52 := ⟨_, Try.func52, by kernel_rfl, rfl⟩
theorem firsts1_ok (X : GI) (hX : X.small) (ok : Ana.Ok X.g) (s p q bo : Nat) (B : NF) (nul : BF) (x : XR) (hx : x ∈ X.xs) (S : SF) (hS : SoundF X nul S) (w : World) (h : St w (keysOf (tauF X s B S)) w (tauF X s B S) (Bd X.xs :: Sl 3 ruF X.Ar X.xs :: Sl 1 strF X.An X.nts :: Sl 1 strF X.At X.terms :: [(iCells p 56 [.slice (some ⟨s, 0, none⟩) X.g.n X.g.n]).holds, (iCells q 29 [.slice (some ⟨bo, 0, none⟩) X.g.n X.g.n]).holds, Sl 1 boolF (some ⟨bo, 0, none⟩) (Ana.mkl X.g.n nul)])) :
   Calls Try.prog 52 #[.agg #[.int .i64 x.r.head, .slice x.A x.r.body.length x.c, .int .i64 x.r.price], .pointer (some ⟨p, 0, none⟩), .pointer (some ⟨q, 0, none⟩)] w (Ret fun v w' => ∃ (z : FixR (meas X.g.n (X.g.t + 1)) (SoundF X nul) (GoodF nul x) S) (ρ' : Facts), v = .bool z.1.1 ∧ St w (keysOf (tauF X s B S)) w' (tauF X s B z.1.2) ρ') := by
 refine calls_fx (l := [.agg #[.int .i64 x.r.head, .slice x.A x.r.body.length x.c, .int .i64 x.r.price], .pointer (some ⟨p, 0, none⟩), .pointer (some ⟨q, 0, none⟩)]) Try.func52 rfl Try.ntmps52 (Nat.le_of_ble_eq_true rfl) h ?_
 refine c_seq ?_
 obtain ⟨hh1, hh2⟩ := ok.hd (mem_g hx)
 have hbl := ok.bl _ (mem_g hx)
 have hnl := ok.nl
 have hnn : X.nts.length ≤ 8 := hnl
 have hbody : ∀ w2, Bd X.xs w2 → Sl 1 intF x.A x.r.body w2 := fun w2 hs => by
   obtain ⟨k, hk⟩ := List.getElem?_of_mem hx
   exact hs k x hk
 refine c_reg ?_
 refine l_box (by decide) rfl _ rfl (fun b3 => ?_)
 refine l_q (by decide) (p_assign rfl).q ?_
 refine l_nil ?_
 refine c_seq ?_
 refine c_reg ?_
 first | refine l_q (by decide) (p_faddr (i := 1) 1 Try.underlying41 rfl inf_39 (by decide) rfl rfl).q ?_ | refine l_q (by decide) (p_faddro (i := 1) 1 Try.underlying41 rfl inf_39 (by decide) rfl rfl).q ?_
 first | refine l_q (by decide) (r_loado Try.underlying39 rfl rfl (by repeat constructor) (by rfl)).q ?_ | refine l_q (by decide) (r_load1 Try.underlying39 rfl rfl (by first | exact .fact (by repeat constructor) | exact .own (by repeat constructor) (by decide) (fun _ => rfl) | exact SlIn.body (by repeat constructor) (by assumption)) (by first | assumption | rfl) (by rfl)).q ?_ | refine l_q (by decide) (r_loadf Try.underlying39 rfl rfl (by first | exact .fact (by repeat constructor) | exact .own (by repeat constructor) (by decide) (fun _ => rfl) | exact SlIn.body (by repeat constructor) (by assumption)) (by assumption) (by rfl)).q ?_
 refine l_q (by decide) (r_loadq (q := (iCells p 56 [.slice (some ⟨s, 0, none⟩) X.g.n X.g.n]).holds) Try.underlying56 rfl rfl (by repeat constructor) (fun w h => (cells_cell h 0).trans rfl)).q ?_
 refine l_q (by decide) (r_loadq (q := (iCells q 29 [.slice (some ⟨bo, 0, none⟩) X.g.n X.g.n]).holds) Try.underlying29 rfl rfl (by repeat constructor) (fun w h => (cells_cell h 0).trans rfl)).q ?_
 refine l_call (X := { y : Nat × List Int // ∀ a, a ∈ y.2 ↔ Ana.BG nul (fun i a => a ∈ S i) x.r.body a }) (fun y => .tuple #[.map (some y.1.1), .bool (Ana.allG false nul x.r.body)]) (fun y => MIs intK y.1.1 y.1.2) (by decide) call_47 rfl (fun w hs => begin_call (begin_ok X.g.n s bo (by show X.nts.length ≤ 1000; omega) B S nul x.A x.c x.r.body (by omega) (fun y hy h0 => ok.nt_lt (mem_g hx) hy h0) w (hbody w (hs.facts (Bd X.xs) (by repeat constructor)).1) (hs.own (iCells s 61 (mps X.g.n X.g.n B)) (by repeat constructor)).1 (fun i hi => (hs.own (mset B S i) (fam_mem [_, _] hi)).1) (hs.facts (Sl 1 boolF (some ⟨bo, 0, none⟩) (Ana.mkl X.g.n nul)) (by repeat constructor)).1)) (fun y12 => ?_)
 refine l_q (by decide) (p_move rfl).q ?_
 refine l_q (by decide) (p_extract rfl rfl).q ?_
 refine l_q (by decide) (p_extract rfl rfl).q ?_
 refine l_q (by decide) (p_assign rfl).q ?_
 refine l_q (by decide) (p_assign rfl).q ?_
 refine l_nil ?_
 refine c_seq ?_
 refine c_reg ?_
 refine l_q (by decide) (r_loadq (q := (iCells p 56 [.slice (some ⟨s, 0, none⟩) X.g.n X.g.n]).holds) Try.underlying56 rfl rfl (by repeat constructor) (fun w h => (cells_cell h 0).trans rfl)).q ?_
 first | refine l_q (by decide) (p_faddr (i := 0) 0 Try.underlying41 rfl inf_3 (by decide) rfl rfl).q ?_ | refine l_q (by decide) (p_faddro (i := 0) 0 Try.underlying41 rfl inf_3 (by decide) rfl rfl).q ?_
 first | refine l_q (by decide) (((r_loado Try.underlying3 rfl rfl (by repeat constructor) (by rfl))).to (u := .int .i64 ((x.r.head.toNat : Nat) : Int)) (by rw [hh1])).q ?_ | refine l_q (by decide) (((r_load1 Try.underlying3 rfl rfl (by first | exact .fact (by repeat constructor) | exact .own (by repeat constructor) (by decide) (fun _ => rfl) | exact SlIn.body (by repeat constructor) (by assumption)) (by first | assumption | rfl) (by rfl))).to (u := .int .i64 ((x.r.head.toNat : Nat) : Int)) (by rw [hh1])).q ?_ | refine l_q (by decide) (((r_loadf Try.underlying3 rfl rfl (by first | exact .fact (by repeat constructor) | exact .own (by repeat constructor) (by decide) (fun _ => rfl) | exact SlIn.body (by repeat constructor) (by assumption)) (by assumption) (by rfl))).to (u := .int .i64 ((x.r.head.toNat : Nat) : Int)) (by rw [hh1])).q ?_
 refine l_q (by decide) (p_move rfl).q ?_
 refine l_factex (q := MIs intK y12.1.1 y12.1.2) (kf := intK) (b := y12.1.1) (ks := y12.1.2) (by repeat constructor) (fun w h => h) (fun es clock hes => ?_)
 refine l_perm ((fam_out [_, _] hh2).trans (List.Perm.cons _ (List.Perm.swap _ _ _))) ?_
 refine l_callo (τ := [iMap intK (B x.r.head.toNat) (S x.r.head.toNat), iCells s 61 (mps X.g.n X.g.n B)]) (fun z : AddR (S x.r.head.toNat) y12.1.2 => .bool z.1.1) (fun z => [iMap intK (B x.r.head.toNat) z.1.2, iCells s 61 (mps X.g.n X.g.n B)]) (by decide) call_48 rfl (fun w hs => add_ok X.g.n s y12.1.1 x.r.head.toNat (by show X.nts.length ≤ 1000; omega) B hh2 (S x.r.head.toNat) y12.1.2 es clock hes _ _ (List.mem_cons_self ..) (.inr (List.mem_cons_self ..)) w hs) (fun z => ?_)
 refine l_q (by decide) (p_assign rfl).q ?_
 refine l_nil ?_
 refine c_ret ?_
 refine c_ret1 rfl rfl (fun w hs => ?_)
 obtain ⟨g1, g2, g3⟩ := firsts_step ok hS hx y12.2 z
 refine ⟨⟨(z.1.1, Ana.upd S x.r.head.toNat z.1.2), g1, g2, g3⟩, _, rfl, (St.perm (St.drop (hs.perm (front2 _ _ _ _))) (fam_in [_] hh2 ?_ ?_))⟩
 · unfold mset; dsimp only; rw [upd_at]
 · intro j _ hj; unfold mset; dsimp only; rw [upd_off hj]

theorem firsts_ok (X : GI) (hX : X.small) (w : World) (hM : X.mem w) (ok : Ana.Ok X.g) (bo : Nat) (nul : BF) (hq : Sl 1 boolF (some ⟨bo, 0, none⟩) (Ana.mkl X.g.n nul) w) :
   Calls Try.prog 41 #[.agg #[.slice X.At X.terms.length X.ct, .slice X.An X.nts.length X.cn, .int .i64 X.start, .slice X.Ar X.xs.length X.cr], .slice (some ⟨bo, 0, none⟩) X.g.n X.g.n] w (Ret fun v w' => ∃ (x : { y : Nat × NF × SF // ∀ i a, a ∈ y.2.2 i ↔ Ana.FI X.g nul i a }) (ρ' : Facts), v = .slice (some ⟨x.1.1, 0, none⟩) X.g.n X.g.n ∧ St w [] w' (tauF X x.1.1 x.1.2.1 x.1.2.2) ρ') := by
 have hnl := ok.nl
 have hnn : X.nts.length ≤ 8 := hnl
 refine calls_fx (l := [.agg #[.slice X.At X.terms.length X.ct, .slice X.An X.nts.length X.cn, .int .i64 X.start, .slice X.Ar X.xs.length X.cr], .slice (some ⟨bo, 0, none⟩) X.g.n X.g.n]) Try.func41 rfl Try.ntmps41 (Nat.le_of_ble_eq_true rfl) ((((((St.start w).old hM.t (dep_sl (by decide) hM.t)).old hM.n (dep_sl (by decide) hM.n)).old hM.x (dep_sl (by decide) hM.x)).old hM.b (dep_bd hM.b)).old hq (dep_sl (by decide) hq)) ?_
 refine c_seq ?_
 refine c_reg ?_
 refine l_box (by decide) rfl _ rfl (fun b2 => ?_)
 refine l_box (by decide) rfl _ rfl (fun b3 => ?_)
 refine l_q (by decide) (p_assign rfl).q ?_
 refine l_nil ?_
 refine c_seq ?_
 refine c_reg ?_
 first | refine l_q (by decide) (p_faddr (i := 1) 1 Try.underlying25 rfl inf_22 (by decide) rfl rfl).q ?_ | refine l_q (by decide) (p_faddro (i := 1) 1 Try.underlying25 rfl inf_22 (by decide) rfl rfl).q ?_
 first | refine l_q (by decide) (r_loado Try.underlying22 rfl rfl (by repeat constructor) (by rfl)).q ?_ | refine l_q (by decide) (r_load1 Try.underlying22 rfl rfl (by first | exact .fact (by repeat constructor) | exact .own (by repeat constructor) (by decide) (fun _ => rfl) | exact SlIn.body (by repeat constructor) (by assumption)) (by first | assumption | rfl) (by rfl)).q ?_ | refine l_q (by decide) (r_loadf Try.underlying22 rfl rfl (by first | exact .fact (by repeat constructor) | exact .own (by repeat constructor) (by decide) (fun _ => rfl) | exact SlIn.body (by repeat constructor) (by assumption)) (by assumption) (by rfl)).q ?_
 refine l_q (by decide) (p_len_sl Try.underlying22 rfl).q ?_
 refine l_callo (τ := []) (σ := [iCells b3 29 [.slice (some ⟨bo, 0, none⟩) X.g.n X.g.n], iCells b2 25 [.slice X.At X.terms.length X.ct, .slice X.An X.nts.length X.cn, .int .i64 X.start, .slice X.Ar X.xs.length X.cr]]) (fun y : Nat × NF => .slice (some ⟨y.1, 0, none⟩) X.g.n X.g.n) (fun y => tauF X y.1 y.2 (fun _ => [])) (by decide) call_45 rfl (fun w hs => newsets_ok X.g.n (by show X.nts.length ≤ 1000; omega) w) (fun y9 => ?_)
 refine l_alloc (by decide) inf_56 _ rfl (fun b5 => ?_)
 first | (refine l_store inf_56 rfl rfl rfl rfl (by first | decide | exact Nat.le_of_ble_eq_true rfl | (simp; done) | omega | (simp only [Nat.mul_one]; assumption)) ?_) | (refine l_perm (front1 _ _ _) ?_; refine l_store inf_56 rfl rfl rfl rfl (by first | decide | exact Nat.le_of_ble_eq_true rfl | (simp; done) | omega | (simp only [Nat.mul_one]; assumption)) ?_) | (refine l_perm (front2 _ _ _ _) ?_; refine l_store inf_56 rfl rfl rfl rfl (by first | decide | exact Nat.le_of_ble_eq_true rfl | (simp; done) | omega | (simp only [Nat.mul_one]; assumption)) ?_) | (refine l_perm (front3 _ _ _ _ _) ?_; refine l_store inf_56 rfl rfl rfl rfl (by first | decide | exact Nat.le_of_ble_eq_true rfl | (simp; done) | omega | (simp only [Nat.mul_one]; assumption)) ?_) | (refine l_perm (front4 _ _ _ _ _ _) ?_; refine l_store inf_56 rfl rfl rfl rfl (by first | decide | exact Nat.le_of_ble_eq_true rfl | (simp; done) | omega | (simp only [Nat.mul_one]; assumption)) ?_)
 refine l_nil ?_
 refine c_seq ?_
 refine c_perm (List.Perm.cons _ (List.perm_append_comm (l₁ := tauF X y9.1 y9.2 (fun _ => [])) (l₂ := [_, _]))) ?_
 refine c_keep ?_
 refine c_keep ?_
 refine c_reg ?_
 first | refine l_q (by decide) (r_loada Try.underlying25 rfl inf_25 rfl (by first | exact .fact (by repeat constructor) | exact .own (by repeat constructor) (by decide) (fun _ => rfl) | exact SlIn.body (by repeat constructor) (by assumption)) (by assumption)).q ?_ | refine l_q (by decide) (r_loadow Try.underlying25 rfl inf_25 rfl (by repeat constructor) (by rfl)).q ?_ | refine l_q (by decide) (r_loadoa Try.underlying25 rfl inf_25 rfl (by repeat constructor) (by rfl) (fun j u h => h)).q ?_
 refine l_q (by decide) (p_makeFn rfl rfl).q ?_
 refine l_perm (List.perm_append_comm (l₁ := [_])) ?_
 refine l_callo (τ := tauF X y9.1 y9.2 (fun _ => [])) (σ := [iCells b2 25 [.slice X.At X.terms.length X.ct, .slice X.An X.nts.length X.cn, .int .i64 X.start, .slice X.Ar X.xs.length X.cr]]) (fun _ => .tuple #[]) (fun y : { S : SF // SoundF X nul S ∧ ∀ x, x ∈ X.xs → GoodF nul x S } => tauF X y9.1 y9.2 y.1) (by decide) call_36 rfl (fun w hs => fix_ok X hX 52 call_52 #[.pointer (some ⟨b5, 0, none⟩), .pointer (some ⟨b3, 0, none⟩)] (tauF X y9.1 y9.2) (meas X.g.n (X.g.t + 1)) (SoundF X nul) (GoodF nul) [(iCells b5 56 [.slice (some ⟨y9.1, 0, none⟩) X.g.n X.g.n]).holds, (iCells b3 29 [.slice (some ⟨bo, 0, none⟩) X.g.n X.g.n]).holds, Sl 1 boolF (some ⟨bo, 0, none⟩) (Ana.mkl X.g.n nul)] (fun x hx S hS w h => firsts1_ok X hX ok y9.1 b5 b3 bo y9.2 nul x hx S hS w h) (fun _ => []) (fun _ _ h => absurd h List.not_mem_nil) w (hs.weak (by simp))) (fun y => ?_)
 refine l_nil ?_
 refine c_seq ?_
 refine c_reg ?_
 refine l_q (by decide) (r_loadq (q := (iCells b5 56 [.slice (some ⟨y9.1, 0, none⟩) X.g.n X.g.n]).holds) Try.underlying56 rfl rfl (by repeat constructor) (fun w h => (cells_cell h 0).trans rfl)).q ?_
 refine l_q (by decide) (p_assign rfl).q ?_
 refine l_nil ?_
 refine c_ret ?_
 refine c_ret1 rfl rfl (fun w hs => ?_)
 have hs2 := St.drop (hs.perm (List.perm_append_comm (l₁ := tauF X y9.1 y9.2 y.1) (l₂ := [_])))
 exact ⟨⟨(y9.1, y9.2, y.1), firsts_full y.2.1 y.2.2⟩, _, rfl, hs2⟩

theorem lists_ok (n s W : Nat) (hn : n ≤ 1000) (B : NF) (S : SF) (lst top : Int) (h0 : -1 ≤ lst) (h1 : top = lst + W) (hw : W ≤ 1000) (h2 : lst ≤ 1000) (σ : Fx.Own) (hσ : iCells s 61 (mps n n B) ∈ σ) (hS : ∀ i, i < n → iMap intK (B i) (S i) ∈ σ) (w : World) (h : St w (keysOf σ) w σ []) :
   Calls Try.prog 42 #[.slice (some ⟨s, 0, none⟩) n n, .int .i64 lst, .int .i64 top] w (Ret fun v w' => ∃ x : RLs n (fun i a => decide (a ∈ S i)) lst W, v = rlV x ∧ St w (keysOf σ) w' σ (rlQ x)) := by
 refine calls_fx (l := [.slice (some ⟨s, 0, none⟩) n n, .int .i64 lst, .int .i64 top]) Try.func42 rfl Try.ntmps42 (Nat.le_of_ble_eq_true rfl) h ?_
 refine c_seq ?_
 refine c_reg ?_
 refine l_q (by decide) (p_assign rfl).q ?_
 refine l_nil ?_
 refine c_seq ?_
 refine c_reg ?_
 refine l_q (by decide) (p_move rfl).q ?_
 refine l_q (by decide) (p_len_sl Try.underlying56 rfl).q ?_
 refine l_make (by decide) Try.underlying32 inf_39 rfl rfl rfl rfl rfl rfl (by omega) (by omega) (fun b12 => ?_)
 refine l_q (by decide) (p_assign rfl).q ?_
 refine l_nil ?_
 refine c_seq ?_
 refine c_seq ?_
 refine c_reg ?_
 refine l_q (by decide) (p_move rfl).q ?_
 refine l_q (by decide) (p_len_sl Try.underlying56 rfl).q ?_
 refine l_q (by decide) (p_move (v := .int .i64 ((0 : Nat) : Int)) rfl).q ?_
 refine l_nil ?_
 refine c_block ?_
 rw [hdL_rep]
 refine c_facts [Ld []] (fun w hs => hs.sure (fun w k x h => by simp at h)) ?_
 refine c_loop (S := List XL) (fun zs => zs.length ≤ n ∧ zs.map (·.l) = Ana.rowsOf zs.length (fun i a => decide (a ∈ S i)) lst W) (fun zs => n - zs.length) (fun zs => [(0, .slice (some ⟨s, 0, none⟩) n n), (1, .int .i64 lst), (2, .int .i64 top), (7, .slice (some ⟨b12, 0, none⟩) n n), (14, .int .i64 (n : Int)), (15, .int .i64 ((zs.length : Nat) : Int))]) (fun zs => (iCells b12 39 (hdL n zs) :: σ)) (fun zs => [Ld zs]) (([] : List XL)) ?_ ?_ ?_ ?_ ?_
 · show (([] : List XL)).length ≤ n ∧ (([] : List XL)).map (·.l) = Ana.rowsOf (([] : List XL)).length (fun i a => decide (a ∈ S i)) lst W
   exact ⟨Nat.zero_le _, rfl⟩
 · exact ⟨rfl, rfl, rfl, rfl, rfl, rfl, trivial⟩
 · exact .refl _
 · exact fun _ h => h
 rintro xs hinv
 have hinv : xs.length ≤ n ∧ xs.map (·.l) = Ana.rowsOf xs.length (fun i a => decide (a ∈ S i)) lst W := hinv
 obtain ⟨hJ1, hJ2⟩ := hinv
 show Cont _ _ _ _ [(0, .slice (some ⟨s, 0, none⟩) n n), (1, .int .i64 lst), (2, .int .i64 top), (7, .slice (some ⟨b12, 0, none⟩) n n), (14, .int .i64 (n : Int)), (15, .int .i64 ((xs.length : Nat) : Int))] ((iCells b12 39 (hdL n xs) :: σ)) [Ld xs]
 refine c_seq ?_
 refine c_reg ?_
 first | refine l_q (by decide) (p_lss rfl rfl rfl rfl).q ?_ | refine l_q (by decide) (p_lssi rfl rfl).q ?_
 refine l_nil ?_
 refine c_seq ?_
 first | refine c_dec rfl (fun h16 => ?_) (fun h16 => ?_) | refine c_cond rfl (fun h16 => ?_) (fun h16 => ?_)
 ·skip
  have hkn : xs.length < n := by omega
  refine c_skip ?_
  refine c_seq ?_
  refine c_block ?_
  refine c_seq ?_
  refine c_reg ?_
  refine l_q (by decide) (p_move rfl).q ?_
  refine l_q (by decide) (p_assign rfl).q ?_
  refine l_nil ?_
  refine c_seq ?_
  refine c_reg ?_
  refine l_q (by decide) (p_move rfl).q ?_
  refine l_q (by decide) (p_assign rfl).q ?_
  refine l_nil ?_
  refine c_block ?_
  refine c_sl0 3 1 intF ?_
  rw [← hdL_nil]
  refine c_loop (S := Nat × Option Addr × Nat × List Int) (fun zs => zs.1 ≤ W ∧ zs.2.2.2 = Ana.rowOf ((fun i a => decide (a ∈ S i)) xs.length) lst zs.1) (fun zs => W - zs.1) (fun zs => [(0, .slice (some ⟨s, 0, none⟩) n n), (1, .int .i64 lst), (2, .int .i64 top), (7, .slice (some ⟨b12, 0, none⟩) n n), (8, .int .i64 ((xs.length : Nat) : Int)), (9, .int .i64 (lst + (zs.1 : Int))), (14, .int .i64 (n : Int)), (15, .int .i64 ((xs.length : Nat) : Int))]) (fun zs => (iSl 3 1 intF zs.2.1 zs.2.2.1 zs.2.2.2 :: iCells b12 39 (hdL n (xs ++ [⟨zs.2.2.2, zs.2.1, zs.2.2.1⟩])) :: σ)) (fun zs => [Ld xs]) (0, none, 0, ([] : List Int)) ?_ ?_ ?_ ?_ ?_
  · show (0) ≤ W ∧ (([] : List Int)) = Ana.rowOf ((fun i a => decide (a ∈ S i)) xs.length) lst (0)
    exact ⟨Nat.zero_le _, rfl⟩
  · exact ⟨rfl, rfl, rfl, rfl, rfl, (by show some _ = some _; congr 2 <;> omega), rfl, rfl, trivial⟩
  · exact .refl _
  · exact fun _ h => h
  rintro ⟨j, A, c, row⟩ hinv
  have hinv : j ≤ W ∧ row = Ana.rowOf ((fun i a => decide (a ∈ S i)) xs.length) lst j := hinv
  obtain ⟨hL1, hL2⟩ := hinv
  show Cont _ _ _ _ [(0, .slice (some ⟨s, 0, none⟩) n n), (1, .int .i64 lst), (2, .int .i64 top), (7, .slice (some ⟨b12, 0, none⟩) n n), (8, .int .i64 ((xs.length : Nat) : Int)), (9, .int .i64 (lst + (j : Int))), (14, .int .i64 (n : Int)), (15, .int .i64 ((xs.length : Nat) : Int))] ((iSl 3 1 intF A c row :: iCells b12 39 (hdL n (xs ++ [⟨row, A, c⟩])) :: σ)) [Ld xs]
  refine c_seq ?_
  refine c_seq ?_
  refine c_reg ?_
  refine l_q (by decide) (p_move rfl).q ?_
  refine l_q (by decide) (p_move rfl).q ?_
  first | refine l_q (by decide) (p_lss rfl rfl rfl rfl).q ?_ | refine l_q (by decide) (p_lssi rfl rfl).q ?_
  refine l_nil ?_
  first | refine c_dec rfl (fun h21 => ?_) (fun h21 => ?_) | refine c_cond rfl (fun h21 => ?_) (fun h21 => ?_)
  ·skip
   refine c_skip ?_
   refine c_seq ?_
   refine c_block ?_
   refine c_seq ?_
   refine c_reg ?_
   refine l_q (by decide) (p_move rfl).q ?_
   refine l_q (by decide) (p_move rfl).q ?_
   first | refine l_q (by decide) (r_index Try.underlying56 inf_61 rfl rfl rfl (by first | exact .fact (by repeat constructor) | exact .own (by repeat constructor) (by decide) (fun _ => rfl) | exact SlIn.body (by repeat constructor) (by assumption)) rfl (by omega)).q ?_ | refine l_q (by decide) (r_index Try.underlying56 inf_61 rfl rfl rfl (by first | exact .fact (by repeat constructor) | exact .own (by repeat constructor) (by decide) (fun _ => rfl) | exact SlIn.body (by repeat constructor) (by assumption)) rfl (by decide)).q ?_ | refine l_q (by decide) (p_indexo Try.underlying56 inf_61 rfl rfl rfl (by omega)).q ?_
   refine l_q (by decide) (r_loado Try.underlying61 rfl rfl (List.mem_cons_of_mem _ (List.mem_cons_of_mem _ hσ)) (mps_at hkn)).q ?_
   refine l_q (by decide) (p_move rfl).q ?_
   refine l_q (by decide) (r_lookup (keyOk_int Try.underlying3) Try.underlying61 inf_4 rfl rfl rfl (.own (List.mem_cons_of_mem _ (List.mem_cons_of_mem _ (hS _ hkn))))).q ?_
   refine l_nil ?_
   first | refine c_dec rfl (fun h29 => ?_) (fun h29 => ?_) | refine c_cond rfl (fun h29 => ?_) (fun h29 => ?_)
   ·skip
    have hrl := Ana.rowOf_len ((fun i a => decide (a ∈ S i)) xs.length) lst j
    rw [← hL2] at hrl
    have hkb : xs.length * 1 < (hdL n (xs ++ [⟨row, A, c⟩])).length := by rw [hdL_len]; omega
    refine c_reg ?_
    refine l_q (by decide) (p_move rfl).q ?_
    refine l_q (by decide) (p_move rfl).q ?_
    refine l_q (by decide) (p_move rfl).q ?_
    refine l_q (by decide) (p_move rfl).q ?_
    first | refine l_q (by decide) (r_index Try.underlying32 inf_39 rfl rfl rfl (by first | exact .fact (by repeat constructor) | exact .own (by repeat constructor) (by decide) (fun _ => rfl) | exact SlIn.body (by repeat constructor) (by assumption)) rfl (by omega)).q ?_ | refine l_q (by decide) (r_index Try.underlying32 inf_39 rfl rfl rfl (by first | exact .fact (by repeat constructor) | exact .own (by repeat constructor) (by decide) (fun _ => rfl) | exact SlIn.body (by repeat constructor) (by assumption)) rfl (by decide)).q ?_ | refine l_q (by decide) (p_indexo Try.underlying32 inf_39 rfl rfl rfl (by omega)).q ?_
    refine l_q (by decide) (r_loado Try.underlying39 rfl rfl (by repeat constructor) (hdL_at hkn)).q ?_
    refine l_q (by decide) (p_move rfl).q ?_
    refine l_buildSlice (by decide) Try.underlying39 inf_3 (by decide) (by decide) rfl rfl rfl rfl (fun b37 => ?_)
    first | (refine l_append1 (lst + (j : Int)) (by decide) Try.underlying39 inf_3 rfl (by decide) rfl rfl rfl rfl rfl rfl (by omega) (by omega) (fun A38 c38 hA38 => ?_)) | (refine l_perm (.cons _ (front1 _ _ _)) ?_; refine l_append1 (lst + (j : Int)) (by decide) Try.underlying39 inf_3 rfl (by decide) rfl rfl rfl rfl rfl rfl (by omega) (by omega) (fun A38 c38 hA38 => ?_)) | (refine l_perm (.cons _ (front2 _ _ _ _)) ?_; refine l_append1 (lst + (j : Int)) (by decide) Try.underlying39 inf_3 rfl (by decide) rfl rfl rfl rfl rfl rfl (by omega) (by omega) (fun A38 c38 hA38 => ?_)) | (refine l_perm (front1 _ _ _) ?_; refine l_append1 (lst + (j : Int)) (by decide) Try.underlying39 inf_3 rfl (by decide) rfl rfl rfl rfl rfl rfl (by omega) (by omega) (fun A38 c38 hA38 => ?_)) | (refine l_perm (front1 _ _ _) ?_; refine l_perm (.cons _ (front1 _ _ _)) ?_; refine l_append1 (lst + (j : Int)) (by decide) Try.underlying39 inf_3 rfl (by decide) rfl rfl rfl rfl rfl rfl (by omega) (by omega) (fun A38 c38 hA38 => ?_)) | (refine l_perm (front1 _ _ _) ?_; refine l_perm (.cons _ (front2 _ _ _ _)) ?_; refine l_append1 (lst + (j : Int)) (by decide) Try.underlying39 inf_3 rfl (by decide) rfl rfl rfl rfl rfl rfl (by omega) (by omega) (fun A38 c38 hA38 => ?_)) | (refine l_perm (front2 _ _ _ _) ?_; refine l_perm (.cons _ (front1 _ _ _)) ?_; refine l_append1 (lst + (j : Int)) (by decide) Try.underlying39 inf_3 rfl (by decide) rfl rfl rfl rfl rfl rfl (by omega) (by omega) (fun A38 c38 hA38 => ?_)) | (refine l_perm (front2 _ _ _ _) ?_; refine l_perm (.cons _ (front2 _ _ _ _)) ?_; refine l_append1 (lst + (j : Int)) (by decide) Try.underlying39 inf_3 rfl (by decide) rfl rfl rfl rfl rfl rfl (by omega) (by omega) (fun A38 c38 hA38 => ?_))
    first | refine l_q (by decide) (r_index Try.underlying32 inf_39 rfl rfl rfl (by first | exact .fact (by repeat constructor) | exact .own (by repeat constructor) (by decide) (fun _ => rfl) | exact SlIn.body (by repeat constructor) (by assumption)) rfl (by omega)).q ?_ | refine l_q (by decide) (r_index Try.underlying32 inf_39 rfl rfl rfl (by first | exact .fact (by repeat constructor) | exact .own (by repeat constructor) (by decide) (fun _ => rfl) | exact SlIn.body (by repeat constructor) (by assumption)) rfl (by decide)).q ?_ | refine l_q (by decide) (p_indexo Try.underlying32 inf_39 rfl rfl rfl (by omega)).q ?_
    first | (refine l_store inf_39 rfl rfl rfl rfl (by first | decide | exact Nat.le_of_ble_eq_true rfl | (simp; done) | omega | (simp only [Nat.mul_one]; assumption)) ?_) | (refine l_perm (front1 _ _ _) ?_; refine l_store inf_39 rfl rfl rfl rfl (by first | decide | exact Nat.le_of_ble_eq_true rfl | (simp; done) | omega | (simp only [Nat.mul_one]; assumption)) ?_) | (refine l_perm (front2 _ _ _ _) ?_; refine l_store inf_39 rfl rfl rfl rfl (by first | decide | exact Nat.le_of_ble_eq_true rfl | (simp; done) | omega | (simp only [Nat.mul_one]; assumption)) ?_) | (refine l_perm (front3 _ _ _ _ _) ?_; refine l_store inf_39 rfl rfl rfl rfl (by first | decide | exact Nat.le_of_ble_eq_true rfl | (simp; done) | omega | (simp only [Nat.mul_one]; assumption)) ?_) | (refine l_perm (front4 _ _ _ _ _ _) ?_; refine l_store inf_39 rfl rfl rfl rfl (by first | decide | exact Nat.le_of_ble_eq_true rfl | (simp; done) | omega | (simp only [Nat.mul_one]; assumption)) ?_)
    refine l_nil ?_
    refine c_reg ?_
    refine l_q (by decide) (p_move rfl).q ?_
    first | refine l_q (by decide) (p_add (j := 1) rfl rfl rfl rfl (by show _ ≤ (9223372036854775807 : Nat); omega)).q ?_ | refine l_q (by decide) (p_addi rfl rfl (by show (-9223372036854775808 : Int) ≤ _; omega) (by show _ ≤ ((9223372036854775807 : Nat) : Int); omega)).q ?_
    refine l_q (by decide) (p_assign rfl).q ?_
    refine l_nil ?_
    refine c_join ((j + 1), (A38), (c38), (row ++ [lst + (j : Int)])) ?_ ?_ ?_ ?_
    ·show ((j + 1) ≤ W ∧ (row ++ [lst + (j : Int)]) = Ana.rowOf ((fun i a => decide (a ∈ S i)) xs.length) lst (j + 1)) ∧ W - (j + 1) < W - j
     exact ⟨⟨by omega, by rw [Ana.rowOf_succ, if_pos (decide_eq_true h29), ← hL2]⟩, by omega⟩
    · exact ⟨rfl, rfl, rfl, rfl, rfl, (by show some _ = some _; congr 2 <;> omega), rfl, rfl, trivial⟩
    ·show List.Perm _ ((iSl 3 1 intF (A38) (c38) (row ++ [lst + (j : Int)]) :: iCells b12 39 (hdL n (xs ++ [⟨(row ++ [lst + (j : Int)]), (A38), (c38)⟩])) :: σ))
     rw [hdL_set]
     exact List.Perm.swap _ _ _
    · exact fun _ h => h
   ·skip
    refine c_skip ?_
    refine c_reg ?_
    refine l_q (by decide) (p_move rfl).q ?_
    first | refine l_q (by decide) (p_add (j := 1) rfl rfl rfl rfl (by show _ ≤ (9223372036854775807 : Nat); omega)).q ?_ | refine l_q (by decide) (p_addi rfl rfl (by show (-9223372036854775808 : Int) ≤ _; omega) (by show _ ≤ ((9223372036854775807 : Nat) : Int); omega)).q ?_
    refine l_q (by decide) (p_assign rfl).q ?_
    refine l_nil ?_
    refine c_join ((j + 1), (A), (c), (row)) ?_ ?_ ?_ ?_
    ·show ((j + 1) ≤ W ∧ (row) = Ana.rowOf ((fun i a => decide (a ∈ S i)) xs.length) lst (j + 1)) ∧ W - (j + 1) < W - j
     exact ⟨⟨by omega, by rw [Ana.rowOf_succ, if_neg (fun hd => h29 (of_decide_eq_true hd)), List.append_nil]; exact hL2⟩, by omega⟩
    · exact ⟨rfl, rfl, rfl, rfl, rfl, (by show some _ = some _; congr 2 <;> omega), rfl, rfl, trivial⟩
    ·show List.Perm _ ((iSl 3 1 intF (A) (c) (row) :: iCells b12 39 (hdL n (xs ++ [⟨(row), (A), (c)⟩])) :: σ))
     exact .refl _
    · exact fun _ h => h
  ·skip
   refine c_exit ?_
   refine c_here ?_
   refine c_reg ?_
   first | refine l_q (by decide) (p_add (j := 1) rfl rfl rfl rfl (by show _ ≤ (9223372036854775807 : Nat); omega)).q ?_ | refine l_q (by decide) (p_addi rfl rfl (by show (-9223372036854775808 : Int) ≤ _; omega) (by show _ ≤ ((9223372036854775807 : Nat) : Int); omega)).q ?_
   refine l_q (by decide) (p_move rfl).q ?_
   refine l_nil ?_
   refine c_sealr (by decide) (fun _ => rfl) ?_
   refine c_facts [Ld (xs ++ [⟨row, A, c⟩])] (fun w hs => (st_ld_snoc (c := c) hs (by repeat constructor) (by repeat constructor)).weak (by simp)) ?_
   refine c_join ((xs ++ [(⟨row, A, c⟩ : XL)])) ?_ ?_ ?_ ?_
   ·show ((xs ++ [(⟨row, A, c⟩ : XL)]).length ≤ n ∧ (xs ++ [(⟨row, A, c⟩ : XL)]).map (·.l) = Ana.rowsOf (xs ++ [(⟨row, A, c⟩ : XL)]).length (fun i a => decide (a ∈ S i)) lst W) ∧ n - (xs ++ [(⟨row, A, c⟩ : XL)]).length < n - xs.length
    obtain rfl : j = W := by omega
    refine ⟨⟨by rw [List.length_append]; simp only [List.length_cons, List.length_nil]; omega, ?_⟩, by rw [List.length_append]; simp only [List.length_cons, List.length_nil]; omega⟩
    rw [List.map_append, hJ2, List.length_append, show xs.length + [(⟨row, A, c⟩ : XL)].length = xs.length + 1 from rfl, rowsOf_succ, hL2]; rfl
   · exact ⟨rfl, rfl, rfl, rfl, rfl, (by show some _ = some _; rw [List.length_append]; rfl), trivial⟩
   ·show List.Perm _ ((iCells b12 39 (hdL n (xs ++ [(⟨row, A, c⟩ : XL)])) :: σ))
    exact .refl _
   · exact fun _ h => h
 ·skip
  refine c_exit ?_
  refine c_here ?_
  refine c_seq ?_
  refine c_reg ?_
  refine l_q (by decide) (p_move rfl).q ?_
  have hxn : xs.length = n := by omega
  refine l_sealc lsF xs (hdL_full hxn) (fun _ => rfl) ?_
  refine l_q (by decide) (p_assign rfl).q ?_
  refine l_nil ?_
  refine c_ret ?_
  refine c_ret1 rfl rfl (fun w hs => ?_)
  exact ⟨⟨(some ⟨b12, 0, none⟩, n, xs), by rw [hJ2, hxn]⟩, congrArg (fun m => Value.slice (some ⟨b12, 0, none⟩) m n) hxn.symm, hs⟩

theorem first_ok (X : GI) (hX : X.small) (ok : Ana.Ok X.g) (σ : Fx.Own) (w : World) (h : St w (keysOf σ) w σ [Bd X.xs, Sl 3 ruF X.Ar X.xs, Sl 1 strF X.An X.nts, Sl 1 strF X.At X.terms]) :
   Calls Try.prog 22 #[.agg #[.slice X.At X.terms.length X.ct, .slice X.An X.nts.length X.cn, .int .i64 X.start, .slice X.Ar X.xs.length X.cr]] w (Ret fun v w' => ∃ x : RLs X.g.n (fun i a => Ana.fi X.g i a) 0 X.g.t, v = rlV x ∧ St w (keysOf σ) w' σ (rlQ x)) := by
 have hnl := ok.nl
 have hnn : X.nts.length ≤ 8 := hnl
 have htl : X.terms.length ≤ 6 := ok.tl
 refine calls_fx (l := [.agg #[.slice X.At X.terms.length X.ct, .slice X.An X.nts.length X.cn, .int .i64 X.start, .slice X.Ar X.xs.length X.cr]]) Try.func22 rfl Try.ntmps22 (Nat.le_of_ble_eq_true rfl) h ?_
 refine c_seq ?_
 refine c_reg ?_
 refine l_box (by decide) rfl _ rfl (fun b1 => ?_)
 refine l_q (by decide) (p_assign rfl).q ?_
 refine l_nil ?_
 refine c_seq ?_
 obtain ⟨lo, hlo⟩ : ∃ lo, lo = w.heap.size := ⟨_, rfl⟩
 refine m_draw [] mixed ?_
 first | refine m_take 0 rfl (by kernel_rfl) (by decide) (by first | exact (List.Perm.refl _ : List.Perm _ ([] ++ _)) | exact (List.Perm.refl _ : List.Perm _ ([_] ++ _)) | exact (List.Perm.refl _ : List.Perm _ ([_, _] ++ _)) | exact (List.Perm.refl _ : List.Perm _ ([_, _, _] ++ _)) | exact (List.Perm.refl _ : List.Perm _ ([_, _, _, _] ++ _)) | exact (List.Perm.refl _ : List.Perm _ ([_, _, _, _, _] ++ _)) | exact List.Perm.refl _) (by first | exact fun _ h => h | exact fun _ h => List.mem_cons_of_mem _ h | exact fun _ h => List.mem_cons_of_mem _ (List.mem_cons_of_mem _ h) | exact fun _ h => List.mem_cons_of_mem _ (List.mem_cons_of_mem _ (List.mem_cons_of_mem _ h)) | exact fun _ h => List.mem_cons_of_mem _ (List.mem_cons_of_mem _ (List.mem_cons_of_mem _ (List.mem_cons_of_mem _ h))) | exact fun _ h => List.mem_cons_of_mem _ (List.mem_cons_of_mem _ (List.mem_cons_of_mem _ (List.mem_cons_of_mem _ (List.mem_cons_of_mem _ h))))) (r_loada Try.underlying25 rfl inf_25 rfl (by first | exact .fact (by repeat constructor) | exact .own (by repeat constructor) (by decide) (fun _ => rfl) | exact SlIn.body (by repeat constructor) (by assumption)) (by assumption)).r ?_ | refine m_take 0 rfl (by kernel_rfl) (by decide) (by first | exact (List.Perm.refl _ : List.Perm _ ([] ++ _)) | exact (List.Perm.refl _ : List.Perm _ ([_] ++ _)) | exact (List.Perm.refl _ : List.Perm _ ([_, _] ++ _)) | exact (List.Perm.refl _ : List.Perm _ ([_, _, _] ++ _)) | exact (List.Perm.refl _ : List.Perm _ ([_, _, _, _] ++ _)) | exact (List.Perm.refl _ : List.Perm _ ([_, _, _, _, _] ++ _)) | exact List.Perm.refl _) (by first | exact fun _ h => h | exact fun _ h => List.mem_cons_of_mem _ h | exact fun _ h => List.mem_cons_of_mem _ (List.mem_cons_of_mem _ h) | exact fun _ h => List.mem_cons_of_mem _ (List.mem_cons_of_mem _ (List.mem_cons_of_mem _ h)) | exact fun _ h => List.mem_cons_of_mem _ (List.mem_cons_of_mem _ (List.mem_cons_of_mem _ (List.mem_cons_of_mem _ h))) | exact fun _ h => List.mem_cons_of_mem _ (List.mem_cons_of_mem _ (List.mem_cons_of_mem _ (List.mem_cons_of_mem _ (List.mem_cons_of_mem _ h))))) (r_loadow Try.underlying25 rfl inf_25 rfl (by repeat constructor) (by rfl)).r ?_ | refine m_take 0 rfl (by kernel_rfl) (by decide) (by first | exact (List.Perm.refl _ : List.Perm _ ([] ++ _)) | exact (List.Perm.refl _ : List.Perm _ ([_] ++ _)) | exact (List.Perm.refl _ : List.Perm _ ([_, _] ++ _)) | exact (List.Perm.refl _ : List.Perm _ ([_, _, _] ++ _)) | exact (List.Perm.refl _ : List.Perm _ ([_, _, _, _] ++ _)) | exact (List.Perm.refl _ : List.Perm _ ([_, _, _, _, _] ++ _)) | exact List.Perm.refl _) (by first | exact fun _ h => h | exact fun _ h => List.mem_cons_of_mem _ h | exact fun _ h => List.mem_cons_of_mem _ (List.mem_cons_of_mem _ h) | exact fun _ h => List.mem_cons_of_mem _ (List.mem_cons_of_mem _ (List.mem_cons_of_mem _ h)) | exact fun _ h => List.mem_cons_of_mem _ (List.mem_cons_of_mem _ (List.mem_cons_of_mem _ (List.mem_cons_of_mem _ h))) | exact fun _ h => List.mem_cons_of_mem _ (List.mem_cons_of_mem _ (List.mem_cons_of_mem _ (List.mem_cons_of_mem _ (List.mem_cons_of_mem _ h))))) (r_loadoa Try.underlying25 rfl inf_25 rfl (by repeat constructor) (by rfl) (fun j u h => h)).r ?_
 first | refine m_take 1 rfl (by kernel_rfl) (by decide) (by first | exact (List.Perm.refl _ : List.Perm _ ([] ++ _)) | exact (List.Perm.refl _ : List.Perm _ ([_] ++ _)) | exact (List.Perm.refl _ : List.Perm _ ([_, _] ++ _)) | exact (List.Perm.refl _ : List.Perm _ ([_, _, _] ++ _)) | exact (List.Perm.refl _ : List.Perm _ ([_, _, _, _] ++ _)) | exact (List.Perm.refl _ : List.Perm _ ([_, _, _, _, _] ++ _)) | exact List.Perm.refl _) (by first | exact fun _ h => h | exact fun _ h => List.mem_cons_of_mem _ h | exact fun _ h => List.mem_cons_of_mem _ (List.mem_cons_of_mem _ h) | exact fun _ h => List.mem_cons_of_mem _ (List.mem_cons_of_mem _ (List.mem_cons_of_mem _ h)) | exact fun _ h => List.mem_cons_of_mem _ (List.mem_cons_of_mem _ (List.mem_cons_of_mem _ (List.mem_cons_of_mem _ h))) | exact fun _ h => List.mem_cons_of_mem _ (List.mem_cons_of_mem _ (List.mem_cons_of_mem _ (List.mem_cons_of_mem _ (List.mem_cons_of_mem _ h))))) (r_loada Try.underlying25 rfl inf_25 rfl (by first | exact .fact (by repeat constructor) | exact .own (by repeat constructor) (by decide) (fun _ => rfl) | exact SlIn.body (by repeat constructor) (by assumption)) (by assumption)).r ?_ | refine m_take 1 rfl (by kernel_rfl) (by decide) (by first | exact (List.Perm.refl _ : List.Perm _ ([] ++ _)) | exact (List.Perm.refl _ : List.Perm _ ([_] ++ _)) | exact (List.Perm.refl _ : List.Perm _ ([_, _] ++ _)) | exact (List.Perm.refl _ : List.Perm _ ([_, _, _] ++ _)) | exact (List.Perm.refl _ : List.Perm _ ([_, _, _, _] ++ _)) | exact (List.Perm.refl _ : List.Perm _ ([_, _, _, _, _] ++ _)) | exact List.Perm.refl _) (by first | exact fun _ h => h | exact fun _ h => List.mem_cons_of_mem _ h | exact fun _ h => List.mem_cons_of_mem _ (List.mem_cons_of_mem _ h) | exact fun _ h => List.mem_cons_of_mem _ (List.mem_cons_of_mem _ (List.mem_cons_of_mem _ h)) | exact fun _ h => List.mem_cons_of_mem _ (List.mem_cons_of_mem _ (List.mem_cons_of_mem _ (List.mem_cons_of_mem _ h))) | exact fun _ h => List.mem_cons_of_mem _ (List.mem_cons_of_mem _ (List.mem_cons_of_mem _ (List.mem_cons_of_mem _ (List.mem_cons_of_mem _ h))))) (r_loadow Try.underlying25 rfl inf_25 rfl (by repeat constructor) (by rfl)).r ?_ | refine m_take 1 rfl (by kernel_rfl) (by decide) (by first | exact (List.Perm.refl _ : List.Perm _ ([] ++ _)) | exact (List.Perm.refl _ : List.Perm _ ([_] ++ _)) | exact (List.Perm.refl _ : List.Perm _ ([_, _] ++ _)) | exact (List.Perm.refl _ : List.Perm _ ([_, _, _] ++ _)) | exact (List.Perm.refl _ : List.Perm _ ([_, _, _, _] ++ _)) | exact (List.Perm.refl _ : List.Perm _ ([_, _, _, _, _] ++ _)) | exact List.Perm.refl _) (by first | exact fun _ h => h | exact fun _ h => List.mem_cons_of_mem _ h | exact fun _ h => List.mem_cons_of_mem _ (List.mem_cons_of_mem _ h) | exact fun _ h => List.mem_cons_of_mem _ (List.mem_cons_of_mem _ (List.mem_cons_of_mem _ h)) | exact fun _ h => List.mem_cons_of_mem _ (List.mem_cons_of_mem _ (List.mem_cons_of_mem _ (List.mem_cons_of_mem _ h))) | exact fun _ h => List.mem_cons_of_mem _ (List.mem_cons_of_mem _ (List.mem_cons_of_mem _ (List.mem_cons_of_mem _ (List.mem_cons_of_mem _ h))))) (r_loadoa Try.underlying25 rfl inf_25 rfl (by repeat constructor) (by rfl) (fun j u h => h)).r ?_
 first | refine m_takep 4 rfl (by kernel_rfl) (by decide) (p_faddr (i := 0) 0 Try.underlying25 rfl inf_22 (by decide) rfl rfl) ?_ | refine m_takep 4 rfl (by kernel_rfl) (by decide) (p_faddro (i := 0) 0 Try.underlying25 rfl inf_22 (by decide) rfl rfl) ?_
 first | refine m_take 5 rfl (by kernel_rfl) (by decide) (by first | exact (List.Perm.refl _ : List.Perm _ ([] ++ _)) | exact (List.Perm.refl _ : List.Perm _ ([_] ++ _)) | exact (List.Perm.refl _ : List.Perm _ ([_, _] ++ _)) | exact (List.Perm.refl _ : List.Perm _ ([_, _, _] ++ _)) | exact (List.Perm.refl _ : List.Perm _ ([_, _, _, _] ++ _)) | exact (List.Perm.refl _ : List.Perm _ ([_, _, _, _, _] ++ _)) | exact List.Perm.refl _) (by first | exact fun _ h => h | exact fun _ h => List.mem_cons_of_mem _ h | exact fun _ h => List.mem_cons_of_mem _ (List.mem_cons_of_mem _ h) | exact fun _ h => List.mem_cons_of_mem _ (List.mem_cons_of_mem _ (List.mem_cons_of_mem _ h)) | exact fun _ h => List.mem_cons_of_mem _ (List.mem_cons_of_mem _ (List.mem_cons_of_mem _ (List.mem_cons_of_mem _ h))) | exact fun _ h => List.mem_cons_of_mem _ (List.mem_cons_of_mem _ (List.mem_cons_of_mem _ (List.mem_cons_of_mem _ (List.mem_cons_of_mem _ h))))) (r_loado Try.underlying22 rfl rfl (by repeat constructor) (by rfl)).r ?_ | refine m_take 5 rfl (by kernel_rfl) (by decide) (by first | exact (List.Perm.refl _ : List.Perm _ ([] ++ _)) | exact (List.Perm.refl _ : List.Perm _ ([_] ++ _)) | exact (List.Perm.refl _ : List.Perm _ ([_, _] ++ _)) | exact (List.Perm.refl _ : List.Perm _ ([_, _, _] ++ _)) | exact (List.Perm.refl _ : List.Perm _ ([_, _, _, _] ++ _)) | exact (List.Perm.refl _ : List.Perm _ ([_, _, _, _, _] ++ _)) | exact List.Perm.refl _) (by first | exact fun _ h => h | exact fun _ h => List.mem_cons_of_mem _ h | exact fun _ h => List.mem_cons_of_mem _ (List.mem_cons_of_mem _ h) | exact fun _ h => List.mem_cons_of_mem _ (List.mem_cons_of_mem _ (List.mem_cons_of_mem _ h)) | exact fun _ h => List.mem_cons_of_mem _ (List.mem_cons_of_mem _ (List.mem_cons_of_mem _ (List.mem_cons_of_mem _ h))) | exact fun _ h => List.mem_cons_of_mem _ (List.mem_cons_of_mem _ (List.mem_cons_of_mem _ (List.mem_cons_of_mem _ (List.mem_cons_of_mem _ h))))) (r_load1 Try.underlying22 rfl rfl (by first | exact .fact (by repeat constructor) | exact .own (by repeat constructor) (by decide) (fun _ => rfl) | exact SlIn.body (by repeat constructor) (by assumption)) (by first | assumption | rfl) (by rfl)).r ?_ | refine m_take 5 rfl (by kernel_rfl) (by decide) (by first | exact (List.Perm.refl _ : List.Perm _ ([] ++ _)) | exact (List.Perm.refl _ : List.Perm _ ([_] ++ _)) | exact (List.Perm.refl _ : List.Perm _ ([_, _] ++ _)) | exact (List.Perm.refl _ : List.Perm _ ([_, _, _] ++ _)) | exact (List.Perm.refl _ : List.Perm _ ([_, _, _, _] ++ _)) | exact (List.Perm.refl _ : List.Perm _ ([_, _, _, _, _] ++ _)) | exact List.Perm.refl _) (by first | exact fun _ h => h | exact fun _ h => List.mem_cons_of_mem _ h | exact fun _ h => List.mem_cons_of_mem _ (List.mem_cons_of_mem _ h) | exact fun _ h => List.mem_cons_of_mem _ (List.mem_cons_of_mem _ (List.mem_cons_of_mem _ h)) | exact fun _ h => List.mem_cons_of_mem _ (List.mem_cons_of_mem _ (List.mem_cons_of_mem _ (List.mem_cons_of_mem _ h))) | exact fun _ h => List.mem_cons_of_mem _ (List.mem_cons_of_mem _ (List.mem_cons_of_mem _ (List.mem_cons_of_mem _ (List.mem_cons_of_mem _ h))))) (r_loadf Try.underlying22 rfl rfl (by first | exact .fact (by repeat constructor) | exact .own (by repeat constructor) (by decide) (fun _ => rfl) | exact SlIn.body (by repeat constructor) (by assumption)) (by assumption) (by rfl)).r ?_
 refine m_takep 6 rfl (by kernel_rfl) (by decide) (p_len_sl Try.underlying22 rfl) ?_
 refine m_run 2 rfl (by kernel_rfl) ?_
 refine l_call (X := { bo : Nat // lo ≤ bo }) (fun x => .slice (some ⟨x.1, 0, none⟩) X.g.n X.g.n) (fun x => Sl 1 boolF (some ⟨x.1, 0, none⟩) (Ana.mkl X.g.n (Ana.pn X.g false))) (by decide) call_13 rfl (fun w hs => tab_call (by rw [hlo]; exact hs.ext.size) (nullable_ok X hX w (GI.of hs (by repeat constructor) (by repeat constructor) (by repeat constructor) (by repeat constructor)) ok)) (fun x5 => ?_)
 refine l_nil ?_
 refine m_next _ (by first | exact (List.Perm.refl _ : List.Perm _ ([] ++ _)) | exact (List.Perm.refl _ : List.Perm _ ([_] ++ _)) | exact (List.Perm.refl _ : List.Perm _ ([_, _] ++ _)) | exact (List.Perm.refl _ : List.Perm _ ([_, _, _] ++ _)) | exact (List.Perm.refl _ : List.Perm _ ([_, _, _, _] ++ _)) | exact (List.Perm.refl _ : List.Perm _ ([_, _, _, _, _] ++ _)) | exact List.Perm.refl _) (by first | exact fun _ h => h | exact fun _ h => List.mem_cons_of_mem _ h | exact fun _ h => List.mem_cons_of_mem _ (List.mem_cons_of_mem _ h) | exact fun _ h => List.mem_cons_of_mem _ (List.mem_cons_of_mem _ (List.mem_cons_of_mem _ h)) | exact fun _ h => List.mem_cons_of_mem _ (List.mem_cons_of_mem _ (List.mem_cons_of_mem _ (List.mem_cons_of_mem _ h))) | exact fun _ h => List.mem_cons_of_mem _ (List.mem_cons_of_mem _ (List.mem_cons_of_mem _ (List.mem_cons_of_mem _ (List.mem_cons_of_mem _ h))))) ?_
 refine m_run 3 rfl (by kernel_rfl) ?_
 refine l_callo (τ := []) (fun y : { y : Nat × NF × SF // ∀ i a, a ∈ y.2.2 i ↔ Ana.FI X.g (Ana.pn X.g false) i a } => .slice (some ⟨y.1.1, 0, none⟩) X.g.n X.g.n) (fun y => tauF X y.1.1 y.1.2.1 y.1.2.2) (by decide) call_41 rfl (fun w hs => firsts_ok X hX w (GI.of hs (by repeat constructor) (by repeat constructor) (by repeat constructor) (by repeat constructor)) ok x5.1 (Ana.pn X.g false) (hs.facts _ (List.mem_cons_self ..)).1) (fun y6 => ?_)
 refine l_nil ?_
 refine m_next _ (by first | exact (List.Perm.refl _ : List.Perm _ ([] ++ _)) | exact (List.Perm.refl _ : List.Perm _ ([_] ++ _)) | exact (List.Perm.refl _ : List.Perm _ ([_, _] ++ _)) | exact (List.Perm.refl _ : List.Perm _ ([_, _, _] ++ _)) | exact (List.Perm.refl _ : List.Perm _ ([_, _, _, _] ++ _)) | exact (List.Perm.refl _ : List.Perm _ ([_, _, _, _, _] ++ _)) | exact List.Perm.refl _) (by first | exact fun _ h => h | exact fun _ h => List.mem_cons_of_mem _ h | exact fun _ h => List.mem_cons_of_mem _ (List.mem_cons_of_mem _ h) | exact fun _ h => List.mem_cons_of_mem _ (List.mem_cons_of_mem _ (List.mem_cons_of_mem _ h)) | exact fun _ h => List.mem_cons_of_mem _ (List.mem_cons_of_mem _ (List.mem_cons_of_mem _ (List.mem_cons_of_mem _ h))) | exact fun _ h => List.mem_cons_of_mem _ (List.mem_cons_of_mem _ (List.mem_cons_of_mem _ (List.mem_cons_of_mem _ (List.mem_cons_of_mem _ h))))) ?_
 refine m_run 7 rfl (by kernel_rfl) ?_
 refine l_callf (X := RLs X.g.n (fun i a => decide (a ∈ y6.1.2.2 i)) 0 X.g.t) [] (fun x : RLs X.g.n (fun i a => decide (a ∈ y6.1.2.2 i)) 0 X.g.t => rlV x) rlQ (by decide) call_42 rfl (fun _ h => absurd h List.not_mem_nil) (fun w hs => lists_ok X.g.n y6.1.1 X.g.t (by show X.nts.length ≤ 1000; omega) y6.1.2.1 y6.1.2.2 0 X.terms.length (by omega) (by show ((X.terms.length : Nat) : Int) = 0 + ((X.terms.length : Nat) : Int); omega) (by show X.terms.length ≤ 1000; omega) (by omega) _ (List.mem_cons_self ..) (fun i hi => List.mem_cons_of_mem _ (List.mem_append.2 (.inl (mem_fam hi)))) w hs) (fun x10 => ?_)
 refine l_nil ?_
 refine m_next _ (by first | exact (List.Perm.refl _ : List.Perm _ ([] ++ _)) | exact (List.Perm.refl _ : List.Perm _ ([_] ++ _)) | exact (List.Perm.refl _ : List.Perm _ ([_, _] ++ _)) | exact (List.Perm.refl _ : List.Perm _ ([_, _, _] ++ _)) | exact (List.Perm.refl _ : List.Perm _ ([_, _, _, _] ++ _)) | exact (List.Perm.refl _ : List.Perm _ ([_, _, _, _, _] ++ _)) | exact List.Perm.refl _) (by first | exact fun _ h => h | exact fun _ h => List.mem_cons_of_mem _ h | exact fun _ h => List.mem_cons_of_mem _ (List.mem_cons_of_mem _ h) | exact fun _ h => List.mem_cons_of_mem _ (List.mem_cons_of_mem _ (List.mem_cons_of_mem _ h)) | exact fun _ h => List.mem_cons_of_mem _ (List.mem_cons_of_mem _ (List.mem_cons_of_mem _ (List.mem_cons_of_mem _ h))) | exact fun _ h => List.mem_cons_of_mem _ (List.mem_cons_of_mem _ (List.mem_cons_of_mem _ (List.mem_cons_of_mem _ (List.mem_cons_of_mem _ h))))) ?_
 refine m_takep 8 rfl (by kernel_rfl) (by decide) (p_assign rfl) ?_
 refine m_done (by kernel_rfl) ?_
 refine c_ret ?_
 refine c_ret1 rfl rfl (fun w hs => ?_)
 exact ⟨⟨x10.1, x10.2.trans (rowsOf_ext (fun i a => by unfold Ana.fi; exact (Ana.dec_mem (y6.2 i a))))⟩, rfl, ((st_dropAll hs).drop).weak (by simp)⟩
end Go.Proofs.Ytidbhgolhiaijaa
