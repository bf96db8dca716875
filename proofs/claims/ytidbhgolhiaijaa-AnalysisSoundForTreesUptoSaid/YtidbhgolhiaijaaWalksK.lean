/- The walks of analysis, eleventh part (the example); conditions: lengths. -/
import Derived.Test.YtidbhgolhiaijaaWalksI
import Derived.Test.YtidbhgolhiaijaaWalksD
namespace Go.Proofs.Ytidbhgolhiaijaa
open Go Go.Fx Go.Proofs

def exR0 : Ana.Rl := ⟨0, [-2, -1, 1], 0⟩
def exR1 : Ana.Rl := ⟨0, [-2], 0⟩
def exR2 : Ana.Rl := ⟨1, [0], 0⟩
def exR3 : Ana.Rl := ⟨1, [], 0⟩
def exG : Ana.Gr := ⟨2, 2, 0, [exR0, exR1, exR2, exR3]⟩
theorem ex_mem {r : Ana.Rl} (h : r ∈ exG.rules) : r = exR0 ∨ r = exR1 ∨ r = exR2 ∨ r = exR3 := by
  unfold exG at h
  simp only [List.mem_cons, List.not_mem_nil, or_false] at h
  exact h
theorem m0 : exR0 ∈ exG.rules := List.mem_cons_self ..
theorem m1 : exR1 ∈ exG.rules := List.mem_cons_of_mem _ (List.mem_cons_self ..)
theorem m2 : exR2 ∈ exG.rules := List.mem_cons_of_mem _ (List.mem_cons_of_mem _ (List.mem_cons_self ..))
theorem m3 : exR3 ∈ exG.rules := List.mem_cons_of_mem _ (List.mem_cons_of_mem _ (List.mem_cons_of_mem _ (List.mem_cons_self ..)))
theorem exG_ok : Ana.Ok exG := by
  constructor
  case tl => decide
  case n1 => decide
  case nl => decide
  case rl => decide
  case s0 => decide
  case s1 => decide
  all_goals
    intro r hr
    rcases ex_mem hr with rfl | rfl | rfl | rfl
  all_goals first | decide | (intro x hx; revert x; decide)
theorem ex_pn (tm : Bool) (i : Nat) (hi : i < 2) : Ana.pn exG tm i = true := by
  have h1 : Ana.PN exG tm 1 := .mk exR3 m3 (fun x hx => by cases hx) (fun x hx => by cases hx)
  have h0 : Ana.PN exG tm 0 := .mk exR1 m1 (fun x hx h => by rw [List.mem_singleton.1 hx] at h; omega) (fun x hx _ => by rw [List.mem_singleton.1 hx]; exact h1)
  match i, hi with
  | 0, _ => exact Ana.dec_true h0
  | 1, _ => exact Ana.dec_true h1
theorem ex_pn_tab (tm : Bool) : Ana.mkl 2 (Ana.pn exG tm) = [true, true] := by
  show [Ana.pn exG tm 0, Ana.pn exG tm 1] = _
  rw [ex_pn tm 0 (by omega), ex_pn tm 1 (by omega)]
theorem ex_rc_tab : Ana.mkl 2 (Ana.rc exG) = [true, true] := by
  have h0 : Ana.RC exG 0 := .start
  have h1 : Ana.RC exG 1 := .step exR1 (-2) m1 h0 (List.mem_cons_self ..) (by omega)
  show [Ana.rc exG 0, Ana.rc exG 1] = _
  rw [show Ana.rc exG 0 = true from Ana.dec_true h0, show Ana.rc exG 1 = true from Ana.dec_true h1]
theorem ex_at {r : Ana.Rl} (hr : r ∈ exG.rules) {k : Nat} {x : Int} (hx : r.body[k]? = some x) (h0 : x < 0) : (r = exR0 ∧ k = 0 ∧ x = -2) ∨ (r = exR0 ∧ k = 1 ∧ x = -1) ∨ (r = exR1 ∧ k = 0 ∧ x = -2) := by
  rcases ex_mem hr with rfl | rfl | rfl | rfl
  · match k, hx with
    | 0, hx => injection hx with hx; exact .inl ⟨rfl, rfl, hx.symm⟩
    | 1, hx => injection hx with hx; exact .inr (.inl ⟨rfl, rfl, hx.symm⟩)
    | 2, hx => injection hx with hx; omega
  · match k, hx with
    | 0, hx => injection hx with hx; exact .inr (.inr ⟨rfl, rfl, hx.symm⟩)
  · match k, hx with
    | 0, hx => injection hx with hx; omega
  · simp [exR3] at hx
theorem ex_one {i j : Nat} (h : i = 1 ∨ j = 0) : Ana.one exG (Ana.pn exG false) i j = false := Ana.dec_false fun ⟨r, hr, k, h1, x, hx, h0, hj, _, h5⟩ => by
  rcases ex_at hr hx h0 with ⟨rfl, rfl, rfl⟩ | ⟨rfl, rfl, rfl⟩ | ⟨rfl, rfl, rfl⟩
  · rcases h with rfl | rfl
    · cases h1
    · cases hj
  · cases h5
  · rcases h with rfl | rfl
    · cases h1
    · cases hj
theorem ex_cyc (i : Nat) (hi : i < 2) : Ana.cyc exG i = false := by
  have w1 : ∀ a b, Ana.wars 1 (Ana.one exG (Ana.pn exG false)) a b = Ana.one exG (Ana.pn exG false) a b := fun a b => by
    show (Ana.one exG (Ana.pn exG false) a b || (Ana.one exG (Ana.pn exG false) a 0 && _)) = _
    rw [ex_one (i := a) (.inr rfl)]; simp
  have w2 : ∀ a b, Ana.wars 2 (Ana.one exG (Ana.pn exG false)) a b = Ana.one exG (Ana.pn exG false) a b := fun a b => by
    show (Ana.wars 1 (Ana.one exG (Ana.pn exG false)) a b || (Ana.wars 1 (Ana.one exG (Ana.pn exG false)) a 1 && Ana.wars 1 (Ana.one exG (Ana.pn exG false)) 1 b)) = _
    rw [w1, w1, w1, ex_one (i := 1) (.inl rfl)]; simp
  show Ana.wars 2 (Ana.one exG (Ana.pn exG false)) i i = false
  rw [w2]
  match i, hi with
  | 0, _ => exact ex_one (.inr rfl)
  | 1, _ => exact ex_one (.inl rfl)
theorem ex_cyc_tab : Ana.mkl 2 (Ana.cyc exG) = [false, false] := by
  show [Ana.cyc exG 0, Ana.cyc exG 1] = _
  rw [ex_cyc 0 (by omega), ex_cyc 1 (by omega)]
noncomputable abbrev exN : Nat → Bool := Ana.pn exG false
theorem exN0 : exN 0 = true := ex_pn false 0 (by omega)
theorem exN1 : exN 1 = true := ex_pn false 1 (by omega)
theorem fi_10 : Ana.FI exG exN 1 0 := .term exR2 0 0 m2 rfl (fun y hy => by cases hy) (by omega)
theorem fi_00 : Ana.FI exG exN 0 0 := .nont exR1 0 (-2) 0 m1 rfl (fun y hy => by cases hy) (by omega) fi_10
theorem fi_01 : Ana.FI exG exN 0 1 := .term exR0 2 1 m0 rfl (fun y hy => by
  have : y = -2 ∨ y = -1 := by simpa [exR0] using hy
  rcases this with rfl | rfl
  · exact ⟨by omega, exN1⟩
  · exact ⟨by omega, exN0⟩) (by omega)
theorem fi_1 {i : Nat} {a : Int} (h : Ana.FI exG exN i a) : i = 1 → a = 0 := by
  cases h with
  | term r k a hr hk hn h0 =>
    intro hi
    rcases ex_mem hr with rfl | rfl | rfl | rfl
    · cases hi
    · cases hi
    · match k, hk with
      | 0, hk => injection hk with hk; exact hk.symm
    · simp [exR3] at hk
  | nont r k x a hr hk hn h0 _ =>
    intro hi
    rcases ex_at hr hk h0 with ⟨rfl, _⟩ | ⟨rfl, _⟩ | ⟨rfl, _⟩ <;> cases hi
theorem ex_first : Ana.rowsOf 2 (fun i a => Ana.fi exG i a) 0 2 = [[0, 1], [0]] := by
  have e : ∀ i, Ana.rowOf (fun a => Ana.fi exG i a) 0 2 = (if Ana.fi exG i 0 = true then [0] else []) ++ (if Ana.fi exG i 1 = true then [1] else []) := fun i => by
    rw [Ana.rowOf_succ, Ana.rowOf_succ]; rfl
  show [Ana.rowOf (fun a => Ana.fi exG 0 a) 0 2, Ana.rowOf (fun a => Ana.fi exG 1 a) 0 2] = _
  rw [e, e, show Ana.fi exG 0 0 = true from Ana.dec_true fi_00, show Ana.fi exG 0 1 = true from Ana.dec_true fi_01, show Ana.fi exG 1 0 = true from Ana.dec_true fi_10, show Ana.fi exG 1 1 = false from Ana.dec_false (fun h => by have := fi_1 h rfl; omega)]
  rfl
abbrev exF : Nat → Int → Prop := Ana.FI exG exN
theorem fo_0m : Ana.FO exG exN exF 0 (-1) := .start
theorem fo_01 : Ana.FO exG exN exF 0 1 := .first exR0 1 (-1) 1 m0 rfl (by omega) (.inl ⟨by omega, rfl⟩)
theorem fo_1m : Ana.FO exG exN exF 1 (-1) := .inh exR1 0 (-2) (-1) m1 rfl (by omega) rfl fo_0m
theorem fo_10 : Ana.FO exG exN exF 1 0 := .first exR0 0 (-2) 0 m0 rfl (by omega) (.inr (.inl ⟨by omega, fi_00⟩))
theorem fo_11 : Ana.FO exG exN exF 1 1 := .first exR0 0 (-2) 1 m0 rfl (by omega) (.inr (.inl ⟨by omega, fi_01⟩))
theorem fo_0 {i : Nat} {a : Int} (h : Ana.FO exG exN exF i a) : i = 0 → a ≠ 0 := by
  cases h with
  | start => intro _; decide
  | first r k x a hr hk h0 hb =>
    intro hi
    rcases ex_at hr hk h0 with ⟨rfl, rfl, rfl⟩ | ⟨rfl, rfl, rfl⟩ | ⟨rfl, rfl, rfl⟩
    · cases hi
    · rcases hb with ⟨_, h⟩ | ⟨h, _⟩ | ⟨h, _⟩
      · omega
      · omega
      · exact absurd h.1 (by omega)
    · cases hi
  | inh r k x a hr hk h0 hn _ =>
    intro hi
    rcases ex_at hr hk h0 with ⟨rfl, rfl, rfl⟩ | ⟨rfl, rfl, rfl⟩ | ⟨rfl, rfl, rfl⟩
    · cases hi
    · cases hn
    · cases hi
theorem ex_follow : Ana.rowsOf 2 (fun i a => Ana.fo exG i a) (-1) 3 = [[-1, 1], [-1, 0, 1]] := by
  have e : ∀ i, Ana.rowOf (fun a => Ana.fo exG i a) (-1) 3 = ((if Ana.fo exG i (-1) = true then [-1] else []) ++ (if Ana.fo exG i 0 = true then [0] else [])) ++ (if Ana.fo exG i 1 = true then [1] else []) := fun i => by
    rw [Ana.rowOf_succ, Ana.rowOf_succ, Ana.rowOf_succ]; rfl
  show [Ana.rowOf (fun a => Ana.fo exG 0 a) (-1) 3, Ana.rowOf (fun a => Ana.fo exG 1 a) (-1) 3] = _
  rw [e, e, show Ana.fo exG 0 (-1) = true from Ana.dec_true fo_0m, show Ana.fo exG 0 1 = true from Ana.dec_true fo_01, show Ana.fo exG 0 0 = false from Ana.dec_false (fun h => fo_0 h rfl rfl), show Ana.fo exG 1 (-1) = true from Ana.dec_true fo_1m, show Ana.fo exG 1 0 = true from Ana.dec_true fo_10, show Ana.fo exG 1 1 = true from Ana.dec_true fo_11]
  rfl
abbrev ExG := { X : GI // X.g = exG ∧ X.small }
theorem same_yes {A B : Option Addr} {c d n1 n2 : Nat} {l m : List Bool} (h1 : l.length = n1) (h2 : m.length = n2) (he : l = m) (hl : n1 ≤ 1000) {w : World} (hq : Sl 1 boolF A l w) (hp : Sl 1 boolF B m w) : Calls Try.prog 12 #[.slice A n1 c, .slice B n2 d] w (Ret fun v w' => v = .bool true ∧ Ext [] w w') := by
  subst h1; subst h2
  have := samebools_ok A B c d l m (by omega) w hq hp
  rw [decide_eq_true he] at this
  exact this
theorem lists_yes {A B : Option Addr} {c d : Nat} {l m : List XL} (he : l.map (·.l) = m.map (·.l)) (hl : l.length ≤ 1000) (hb : ∀ u, u ∈ l → u.l.length ≤ 1000) {w : World} (hq : Sl 1 lsF A l w) (hp : Sl 1 lsF B m w) (h1 : Ld l w) (h2 : Ld m w) : Calls Try.prog 21 #[.slice A l.length c, .slice B m.length d] w (Ret fun v w' => v = .bool true ∧ Ext [] w w') := by
  have := same_ok A B c d l m hl hb w hq hp h1 h2
  rw [decide_eq_true he] at this
  exact this
theorem rl_len {n W : Nat} {p : Nat → Int → Bool} {lst : Int} (x : RLs n p lst W) : x.1.2.2.length = n := by
  have := congrArg List.length x.2
  rw [List.length_map, rowsOf_len] at this
  exact this
theorem rl_row {n W : Nat} {p : Nat → Int → Bool} {lst : Int} (x : RLs n p lst W) : ∀ u, u ∈ x.1.2.2 → u.l.length ≤ W := fun u hu => by
  have h : u.l ∈ Ana.rowsOf n p lst W := x.2 ▸ List.mem_map.2 ⟨u, hu, rfl⟩
  obtain ⟨i, _, e⟩ := List.mem_map.1 h
  rw [← e]
  exact Ana.rowOf_len _ _ _
abbrev X2of (X : GI) (A : Option Addr) (c : Nat) (x : XR) : GI := { X with Ar := A, cr := c, xs := X.xs ++ [x] }
theorem X2_small {X : GI} (hX : X.small) (hx9 : X.xs.length * 40 + 40 ≤ 140737488355328) {x : XR} (hxb : x.r.body.length ≤ 140737488355328 ∧ x.r.body.length ≤ x.c) (A : Option Addr) (c : Nat) : (X2of X A c x).small := by
  refine ⟨hX.t, hX.n, ?_, fun z hz => ?_⟩
  · show (X.xs ++ [x]).length ≤ _
    rw [List.length_append]; simp only [List.length_cons, List.length_nil]; omega
  · rcases List.mem_append.1 hz with h | h
    · exact hX.b z h
    · rw [List.mem_singleton.1 h]; exact hxb
theorem imp_dec {p q : Prop} (h : p → q) (hd : Ana.dec p = true) : Ana.dec q = true := Ana.dec_true (h (Ana.dec_iff.1 hd))
theorem imp_tab {n : Nat} {p q : Nat → Bool} (h : ∀ i, p i = true → q i = true) (k : Nat) (hk : (Ana.mkl n p)[k]? = some true) : (Ana.mkl n q)[k]? = some true := by
  have hlt : k < n := by have := (List.getElem?_eq_some_iff.1 hk).1; rwa [Ana.mkl_len] at this
  rw [Ana.mkl_at hlt] at hk ⊢
  injection hk with hk
  rw [h k hk]
section
variable {P : Program} {w0 : World} {K : List Nat} {n : Sz} {N : Act → World → Prop} {L : Slots} {σ : Fx.Own} {ρ : Fx.Facts} {ops : Array Oper} {rest : List Oper}
theorem st_bd_snoc {w : World} {xs : List XR} {x : XR} (hs : St w0 K w σ ρ) (h1 : Bd xs ∈ ρ) (h2 : Sl 1 intF x.A x.r.body ∈ ρ) : St w0 K w σ (Bd (xs ++ [x]) :: ρ) :=
  ((hs.and h1 h2).iff (q := Bd (xs ++ [x])) (List.mem_cons_self ..) (fun w => ⟨fun ⟨g1, g2⟩ k y hx => by
    by_cases hk : k < xs.length
    · rw [List.getElem?_append_left hk] at hx; exact g1 k y hx
    · rw [List.getElem?_append_right (by omega)] at hx
      have := (List.getElem?_eq_some_iff.1 hx).1
      simp only [List.length_cons, List.length_nil] at this
      rw [show k - xs.length = 0 by omega] at hx
      injection hx with hx; subst hx; exact g2, fun g => ⟨fun k y hx => g k y (by rw [List.getElem?_append_left ((List.getElem?_eq_some_iff.1 hx).1)]; exact hx), g xs.length _ (by rw [List.getElem?_append_right (Nat.le_refl _), Nat.sub_self]; rfl)⟩⟩)).weak
    (fun q hq => by
      rcases List.mem_cons.1 hq with rfl | hq
      · exact List.mem_cons_self ..
      · exact List.mem_cons_of_mem _ (List.mem_cons_of_mem _ hq))
theorem st_ld2 {w : World} {u v : XL} (hs : St w0 K w σ ρ) (h1 : Sl 1 intF u.A u.l ∈ ρ) (h2 : Sl 1 intF v.A v.l ∈ ρ) : St w0 K w σ (Ld [u, v] :: ρ) := by
  have g0 := hs.sure (q := Ld []) (fun w k x h => by simp at h)
  have g1 := st_ld_snoc (c := u.c) g0 (List.mem_cons_self ..) (List.mem_cons_of_mem _ h1)
  have g2 := st_ld_snoc (c := v.c) g1 (List.mem_cons_self ..) (List.mem_cons_of_mem _ (List.mem_cons_of_mem _ h2))
  exact g2.weak fun q hq => by
    rcases List.mem_cons.1 hq with rfl | hq
    · exact List.mem_cons_self ..
    · exact List.mem_cons_of_mem _ (List.mem_cons_of_mem _ (List.mem_cons_of_mem _ hq))
end
theorem pl_25 : PlacesIs Try.prog 25 [(0, 1), (1, 1), (2, 1), (3, 1)] := ⟨_, Try.underlying25, by kernel_rfl⟩
theorem pl_41 : PlacesIs Try.prog 41 [(0, 1), (1, 1), (2, 1)] := ⟨_, Try.underlying41, by kernel_rfl⟩
theorem call_12 : Callable Try.prog 12 := ⟨_, Try.func12, by kernel_rfl, rfl⟩
theorem call_15 : Callable Try.prog 15 := ⟨_, Try.func15, by kernel_rfl, rfl⟩
theorem call_17 : Callable Try.prog 17 := ⟨_, Try.func17, by kernel_rfl, rfl⟩
theorem call_19 : Callable Try.prog 19 := ⟨_, Try.func19, by kernel_rfl, rfl⟩
theorem call_21 : Callable Try.prog 21 := ⟨_, Try.func21, by kernel_rfl, rfl⟩
theorem call_22 : Callable Try.prog 22 := ⟨_, Try.func22, by kernel_rfl, rfl⟩
theorem call_24 : Callable Try.prog 24 := ⟨_, Try.func24, by kernel_rfl, rfl⟩
theorem call_32 : Callable Try.prog 32 := ⟨_, Try.func32, by kernel_rfl, rfl⟩
theorem example_ok (σ : Fx.Own) (w : World) (h : St w (keysOf σ) w σ []) :
   Calls Try.prog 32 #[] w (Ret fun v w' => ∃ X : ExG, v = .agg #[.slice X.1.At X.1.terms.length X.1.ct, .slice X.1.An X.1.nts.length X.1.cn, .int .i64 X.1.start, .slice X.1.Ar X.1.xs.length X.1.cr] ∧ St w (keysOf σ) w' σ [Bd X.1.xs, Sl 3 ruF X.1.Ar X.1.xs, Sl 1 strF X.1.An X.1.nts, Sl 1 strF X.1.At X.1.terms]) := by
 refine calls_fx (l := []) Try.func32 rfl Try.ntmps32 (Nat.le_of_ble_eq_true rfl) h ?_
 refine c_seq ?_
 refine c_reg ?_
 refine l_alloc (by decide) inf_25 _ rfl (fun b0 => ?_)
 refine l_nil ?_
 refine c_seq ?_
 refine c_reg ?_
 refine l_buildSlice (by decide) Try.underlying22 inf_9 (by decide) (by decide) rfl rfl rfl rfl (fun b1 => ?_)
 refine l_sealc (size := 1) strF [[97], [98]] rfl (fun _ => rfl) ?_
 refine l_buildSlice (by decide) Try.underlying22 inf_9 (by decide) (by decide) rfl rfl rfl rfl (fun b2 => ?_)
 refine l_sealc (size := 1) strF [[83], [65]] rfl (fun _ => rfl) ?_
 refine l_buildSlice (by decide) Try.underlying39 inf_3 (by decide) (by decide) rfl rfl rfl rfl (fun b3 => ?_)
 refine l_sealc (size := 1) intF [-2, -1, 1] rfl (fun _ => rfl) ?_
 refine l_q (by decide) (p_build (cells := #[_, _, _]) inf_41 pl_41 rfl rfl).q ?_
 refine l_buildSlice (by decide) Try.underlying39 inf_3 (by decide) (by decide) rfl rfl rfl rfl (fun b5 => ?_)
 refine l_sealc (size := 1) intF [-2] rfl (fun _ => rfl) ?_
 refine l_q (by decide) (p_build (cells := #[_, _, _]) inf_41 pl_41 rfl rfl).q ?_
 refine l_buildSlice (by decide) Try.underlying39 inf_3 (by decide) (by decide) rfl rfl rfl rfl (fun b7 => ?_)
 refine l_sealc (size := 1) intF [0] rfl (fun _ => rfl) ?_
 refine l_q (by decide) (p_build (cells := #[_, _, _]) inf_41 pl_41 rfl rfl).q ?_
 refine l_q (by decide) (p_build (cells := #[_, _, _]) inf_41 pl_41 rfl rfl).q ?_
 refine l_buildSlice (by decide) Try.underlying23 inf_41 (by decide) (by decide) rfl rfl rfl rfl (fun b10 => ?_)
 refine l_sealc (size := 3) ruF [⟨exR0, (some ⟨b3, 0, none⟩), 3⟩, ⟨exR1, (some ⟨b5, 0, none⟩), 1⟩, ⟨exR2, (some ⟨b7, 0, none⟩), 1⟩, ⟨exR3, none, 0⟩] rfl (fun _ => rfl) ?_
 refine l_q (by decide) (p_build (cells := #[_, _, _, _]) inf_25 pl_25 rfl rfl).q ?_
 first | (refine l_storew inf_25 rfl rfl rfl rfl rfl ?_) | (refine l_perm (front1 _ _ _) ?_; refine l_storew inf_25 rfl rfl rfl rfl rfl ?_) | (refine l_perm (front2 _ _ _ _) ?_; refine l_storew inf_25 rfl rfl rfl rfl rfl ?_) | (refine l_perm (front3 _ _ _ _ _) ?_; refine l_storew inf_25 rfl rfl rfl rfl rfl ?_) | (refine l_perm (front4 _ _ _ _ _ _) ?_; refine l_storew inf_25 rfl rfl rfl rfl rfl ?_) | (refine l_storea inf_25 rfl rfl rfl rfl (by decide) ?_) | (refine l_perm (front1 _ _ _) ?_; refine l_storea inf_25 rfl rfl rfl rfl (by decide) ?_) | (refine l_perm (front2 _ _ _ _) ?_; refine l_storea inf_25 rfl rfl rfl rfl (by decide) ?_)
 refine l_nil ?_
 refine c_ret ?_
 refine c_retcw rfl rfl Try.underlying25 rfl inf_25 (by repeat constructor) (by rfl) (fun w hs => ?_)
 refine ⟨⟨({ At := (some ⟨b1, 0, none⟩), ct := 2, terms := [[97], [98]], An := (some ⟨b2, 0, none⟩), cn := 2, nts := [[83], [65]], start := 0, Ar := (some ⟨b10, 0, none⟩), cr := 4, xs := [⟨exR0, (some ⟨b3, 0, none⟩), 3⟩, ⟨exR1, (some ⟨b5, 0, none⟩), 1⟩, ⟨exR2, (some ⟨b7, 0, none⟩), 1⟩, ⟨exR3, none, 0⟩] } : GI), rfl, ⟨(show (2 : Nat) ≤ 140737488355328 by decide), (show (2 : Nat) ≤ 140737488355328 by decide), (show (4 : Nat) ≤ 140737488355328 by decide), ?_⟩⟩, rfl, ?_⟩
 · intro x hx
   simp only [List.mem_cons, List.not_mem_nil, or_false] at hx
   rcases hx with rfl | rfl | rfl | rfl
   · exact (show (3 : Nat) ≤ 140737488355328 ∧ (3 : Nat) ≤ 3 by decide)
   · exact (show (1 : Nat) ≤ 140737488355328 ∧ (1 : Nat) ≤ 1 by decide)
   · exact (show (1 : Nat) ≤ 140737488355328 ∧ (1 : Nat) ≤ 1 by decide)
   · exact (show (0 : Nat) ≤ 140737488355328 ∧ (0 : Nat) ≤ 0 by decide)
 · have g0 := hs.drop.sure (q := Bd []) (fun w k x h => by simp at h)
   have g1 := st_bd_snoc (x := ⟨exR0, (some ⟨b3, 0, none⟩), 3⟩) g0 (by repeat constructor) (by repeat constructor)
   have g2 := st_bd_snoc (x := ⟨exR1, (some ⟨b5, 0, none⟩), 1⟩) g1 (by repeat constructor) (by repeat constructor)
   have g3 := st_bd_snoc (x := ⟨exR2, (some ⟨b7, 0, none⟩), 1⟩) g2 (by repeat constructor) (by repeat constructor)
   have g4 := st_bd_snoc (x := ⟨exR3, none, 0⟩) (g3.sure (q := Sl 1 intF none []) (fun w => Sl.nil _ _ _ w)) (by repeat constructor) (by repeat constructor)
   exact g4.weak (by intro q hq; simp only [List.mem_cons, List.not_mem_nil, or_false] at hq; rcases hq with rfl | rfl | rfl | rfl <;> repeat constructor)

theorem awake_ok (w : World) :
   Calls Try.prog 10 #[] w (Ret fun v w' => v = .bool true ∧ Ext [] w w') := by
 refine calls_fx (l := []) Try.func10 rfl Try.ntmps10 (Nat.le_of_ble_eq_true rfl) (St.start w) ?_
 refine c_seq ?_
 refine c_reg ?_
 refine l_q (by decide) (p_assign rfl).q ?_
 refine l_nil ?_
 refine c_seq ?_
 refine c_reg ?_
 refine l_callf [] (fun X : ExG => .agg #[.slice X.1.At X.1.terms.length X.1.ct, .slice X.1.An X.1.nts.length X.1.cn, .int .i64 X.1.start, .slice X.1.Ar X.1.xs.length X.1.cr]) (fun X => [Bd X.1.xs, Sl 3 ruF X.1.Ar X.1.xs, Sl 1 strF X.1.An X.1.nts, Sl 1 strF X.1.At X.1.terms]) (by decide) call_32 rfl (fun _ h => absurd h List.not_mem_nil) (fun w hs => example_ok _ w hs) (fun x4 => ?_)
 obtain ⟨X, hXg, hX⟩ := x4
 dsimp only
 have ok : Ana.Ok X.g := by rw [hXg]; exact exG_ok
 have hnl := ok.nl
 have hnn : X.nts.length ≤ 8 := hnl
 have htl : X.terms.length ≤ 6 := ok.tl
 refine l_alloc (by decide) inf_25 _ rfl (fun b1 => ?_)
 first | (refine l_storew inf_25 rfl rfl rfl rfl rfl ?_) | (refine l_perm (front1 _ _ _) ?_; refine l_storew inf_25 rfl rfl rfl rfl rfl ?_) | (refine l_perm (front2 _ _ _ _) ?_; refine l_storew inf_25 rfl rfl rfl rfl rfl ?_) | (refine l_perm (front3 _ _ _ _ _) ?_; refine l_storew inf_25 rfl rfl rfl rfl rfl ?_) | (refine l_perm (front4 _ _ _ _ _ _) ?_; refine l_storew inf_25 rfl rfl rfl rfl rfl ?_) | (refine l_storea inf_25 rfl rfl rfl rfl (by decide) ?_) | (refine l_perm (front1 _ _ _) ?_; refine l_storea inf_25 rfl rfl rfl rfl (by decide) ?_) | (refine l_perm (front2 _ _ _ _) ?_; refine l_storea inf_25 rfl rfl rfl rfl (by decide) ?_)
 refine l_nil ?_
 refine c_seq ?_
 refine c_reg ?_
 refine l_buildSlice (by decide) Try.underlying29 inf_4 (by decide) (by decide) rfl rfl rfl rfl (fun b5 => ?_)
 refine l_sealc (size := 1) boolF [true, true] rfl (fun _ => rfl) ?_
 refine l_buildSlice (by decide) Try.underlying29 inf_4 (by decide) (by decide) rfl rfl rfl rfl (fun b6 => ?_)
 refine l_sealc (size := 1) boolF [false, false] rfl (fun _ => rfl) ?_
 refine l_q (by decide) (p_assign rfl).q ?_
 refine l_q (by decide) (p_assign rfl).q ?_
 refine l_nil ?_
 refine c_seq ?_
 obtain ⟨lo, hlo⟩ : ∃ lo, lo = w.heap.size := ⟨_, rfl⟩
 refine c_reg ?_
 first | refine l_q (by decide) (r_loada Try.underlying25 rfl inf_25 rfl (by first | exact .fact (by repeat constructor) | exact .own (by repeat constructor) (by decide) (fun _ => rfl) | exact SlIn.body (by repeat constructor) (by assumption)) (by assumption)).q ?_ | refine l_q (by decide) (r_loadow Try.underlying25 rfl inf_25 rfl (by repeat constructor) (by rfl)).q ?_ | refine l_q (by decide) (r_loadoa Try.underlying25 rfl inf_25 rfl (by repeat constructor) (by rfl) (fun j u h => h)).q ?_
 refine l_call (X := { bo : Nat // lo ≤ bo }) (fun x => .slice (some ⟨x.1, 0, none⟩) X.g.n X.g.n) (fun x => Sl 1 boolF (some ⟨x.1, 0, none⟩) (Ana.mkl X.g.n (Ana.pn X.g false))) (by decide) call_13 rfl (fun w hs => tab_call (by rw [hlo]; exact hs.ext.size) (nullable_ok X hX w (GI.of hs (by repeat constructor) (by repeat constructor) (by repeat constructor) (by repeat constructor)) ok)) (fun x8 => ?_)
 refine l_q (by decide) (p_move rfl).q ?_
 refine l_q (by decide) (q_call call_12 rfl (fun w hs => same_yes (l := Ana.mkl X.g.n (Ana.pn X.g false)) (m := [true, true]) (Ana.mkl_len _ _) rfl (by rw [hXg]; exact ex_pn_tab false) (by show X.nts.length ≤ 1000; omega) (hs.facts (Sl 1 boolF (some ⟨x8.1, 0, none⟩) (Ana.mkl X.g.n (Ana.pn X.g false))) (by repeat constructor)).1 (hs.facts (Sl 1 boolF (some ⟨b5, 0, none⟩) [true, true]) (by repeat constructor)).1)) ?_
 refine l_q (by decide) (p_move rfl).q ?_
 first | refine l_g (j := 4) rfl rfl (by decide) (r_loada Try.underlying25 rfl inf_25 rfl (by first | exact .fact (by repeat constructor) | exact .own (by repeat constructor) (by decide) (fun _ => rfl) | exact SlIn.body (by repeat constructor) (by assumption)) (by assumption)).q ?_ | refine l_g (j := 4) rfl rfl (by decide) (r_loadow Try.underlying25 rfl inf_25 rfl (by repeat constructor) (by rfl)).q ?_ | refine l_g (j := 4) rfl rfl (by decide) (r_loadoa Try.underlying25 rfl inf_25 rfl (by repeat constructor) (by rfl) (fun j u h => h)).q ?_
 refine l_strip (j := 4) rfl rfl ?_
 refine l_call (X := { bo : Nat // lo ≤ bo }) (fun x => .slice (some ⟨x.1, 0, none⟩) X.g.n X.g.n) (fun x => Sl 1 boolF (some ⟨x.1, 0, none⟩) (Ana.mkl X.g.n (Ana.pn X.g true))) (by decide) call_15 rfl (fun w hs => tab_call (by rw [hlo]; exact hs.ext.size) (productive_ok X hX w (GI.of hs (by repeat constructor) (by repeat constructor) (by repeat constructor) (by repeat constructor)) ok)) (fun x13 => ?_)
 refine l_g (j := 4) rfl rfl (by decide) (p_move rfl).q ?_
 refine l_g (j := 4) rfl rfl (by decide) (q_call call_12 rfl (fun w hs => same_yes (l := Ana.mkl X.g.n (Ana.pn X.g true)) (m := [true, true]) (Ana.mkl_len _ _) rfl (by rw [hXg]; exact ex_pn_tab true) (by show X.nts.length ≤ 1000; omega) (hs.facts (Sl 1 boolF (some ⟨x13.1, 0, none⟩) (Ana.mkl X.g.n (Ana.pn X.g true))) (by repeat constructor)).1 (hs.facts (Sl 1 boolF (some ⟨b5, 0, none⟩) [true, true]) (by repeat constructor)).1)) ?_
 refine l_q (by decide) (p_pick rfl rfl).q ?_
 refine l_q (by decide) (p_move rfl).q ?_
 first | refine l_g (j := 10) rfl rfl (by decide) (r_loada Try.underlying25 rfl inf_25 rfl (by first | exact .fact (by repeat constructor) | exact .own (by repeat constructor) (by decide) (fun _ => rfl) | exact SlIn.body (by repeat constructor) (by assumption)) (by assumption)).q ?_ | refine l_g (j := 10) rfl rfl (by decide) (r_loadow Try.underlying25 rfl inf_25 rfl (by repeat constructor) (by rfl)).q ?_ | refine l_g (j := 10) rfl rfl (by decide) (r_loadoa Try.underlying25 rfl inf_25 rfl (by repeat constructor) (by rfl) (fun j u h => h)).q ?_
 refine l_strip (j := 10) rfl rfl ?_
 refine l_call (X := { bo : Nat // lo ≤ bo }) (fun x => .slice (some ⟨x.1, 0, none⟩) X.g.n X.g.n) (fun x => Sl 1 boolF (some ⟨x.1, 0, none⟩) (Ana.mkl X.g.n (Ana.rc X.g))) (by decide) call_17 rfl (fun w hs => tab_call (by rw [hlo]; exact hs.ext.size) (reach_ok X hX w (GI.of hs (by repeat constructor) (by repeat constructor) (by repeat constructor) (by repeat constructor)) ok)) (fun x19 => ?_)
 refine l_g (j := 10) rfl rfl (by decide) (p_move rfl).q ?_
 refine l_g (j := 10) rfl rfl (by decide) (q_call call_12 rfl (fun w hs => same_yes (l := Ana.mkl X.g.n (Ana.rc X.g)) (m := [true, true]) (Ana.mkl_len _ _) rfl (by rw [hXg]; exact ex_rc_tab) (by show X.nts.length ≤ 1000; omega) (hs.facts (Sl 1 boolF (some ⟨x19.1, 0, none⟩) (Ana.mkl X.g.n (Ana.rc X.g))) (by repeat constructor)).1 (hs.facts (Sl 1 boolF (some ⟨b5, 0, none⟩) [true, true]) (by repeat constructor)).1)) ?_
 refine l_q (by decide) (p_pick rfl rfl).q ?_
 refine l_q (by decide) (p_move rfl).q ?_
 first | refine l_g (j := 16) rfl rfl (by decide) (r_loada Try.underlying25 rfl inf_25 rfl (by first | exact .fact (by repeat constructor) | exact .own (by repeat constructor) (by decide) (fun _ => rfl) | exact SlIn.body (by repeat constructor) (by assumption)) (by assumption)).q ?_ | refine l_g (j := 16) rfl rfl (by decide) (r_loadow Try.underlying25 rfl inf_25 rfl (by repeat constructor) (by rfl)).q ?_ | refine l_g (j := 16) rfl rfl (by decide) (r_loadoa Try.underlying25 rfl inf_25 rfl (by repeat constructor) (by rfl) (fun j u h => h)).q ?_
 refine l_strip (j := 16) rfl rfl ?_
 refine l_call (X := { bo : Nat // lo ≤ bo }) (fun x => .slice (some ⟨x.1, 0, none⟩) X.g.n X.g.n) (fun x => Sl 1 boolF (some ⟨x.1, 0, none⟩) (Ana.mkl X.g.n (Ana.cyc X.g))) (by decide) call_19 rfl (fun w hs => tab_call (by rw [hlo]; exact hs.ext.size) (cyclic_ok X hX w (GI.of hs (by repeat constructor) (by repeat constructor) (by repeat constructor) (by repeat constructor)) ok)) (fun x25 => ?_)
 refine l_g (j := 16) rfl rfl (by decide) (p_move rfl).q ?_
 refine l_g (j := 16) rfl rfl (by decide) (q_call call_12 rfl (fun w hs => same_yes (l := Ana.mkl X.g.n (Ana.cyc X.g)) (m := [false, false]) (Ana.mkl_len _ _) rfl (by rw [hXg]; exact ex_cyc_tab) (by show X.nts.length ≤ 1000; omega) (hs.facts (Sl 1 boolF (some ⟨x25.1, 0, none⟩) (Ana.mkl X.g.n (Ana.cyc X.g))) (by repeat constructor)).1 (hs.facts (Sl 1 boolF (some ⟨b6, 0, none⟩) [false, false]) (by repeat constructor)).1)) ?_
 refine l_q (by decide) (p_pick rfl rfl).q ?_
 refine l_q (by decide) (p_move rfl).q ?_
 first | refine l_g (j := 22) rfl rfl (by decide) (r_loada Try.underlying25 rfl inf_25 rfl (by first | exact .fact (by repeat constructor) | exact .own (by repeat constructor) (by decide) (fun _ => rfl) | exact SlIn.body (by repeat constructor) (by assumption)) (by assumption)).q ?_ | refine l_g (j := 22) rfl rfl (by decide) (r_loadow Try.underlying25 rfl inf_25 rfl (by repeat constructor) (by rfl)).q ?_ | refine l_g (j := 22) rfl rfl (by decide) (r_loadoa Try.underlying25 rfl inf_25 rfl (by repeat constructor) (by rfl) (fun j u h => h)).q ?_
 refine l_strip (j := 22) rfl rfl ?_
 refine l_callf (X := RLs X.g.n (fun i a => Ana.fi X.g i a) 0 X.g.t) [Bd X.xs, Sl 3 ruF X.Ar X.xs, Sl 1 strF X.An X.nts, Sl 1 strF X.At X.terms] (fun x => rlV x) rlQ (by decide) call_22 rfl (by intro p hp; simp only [List.mem_cons, List.not_mem_nil, or_false] at hp; rcases hp with rfl | rfl | rfl | rfl <;> repeat constructor) (fun w hs => first_ok X hX ok _ w hs) (fun x31 => ?_)
 refine l_strip (j := 22) rfl rfl ?_
 refine l_buildSlice (by decide) Try.underlying39 inf_3 (by decide) (by decide) rfl rfl rfl rfl (fun b32 => ?_)
 refine l_sealc (size := 1) intF [0, 1] rfl (fun _ => rfl) ?_
 refine l_strip (j := 22) rfl rfl ?_
 refine l_buildSlice (by decide) Try.underlying39 inf_3 (by decide) (by decide) rfl rfl rfl rfl (fun b33 => ?_)
 refine l_sealc (size := 1) intF [0] rfl (fun _ => rfl) ?_
 refine l_strip (j := 22) rfl rfl ?_
 refine l_buildSlice (by decide) Try.underlying32 inf_39 (by decide) (by decide) rfl rfl rfl rfl (fun b34 => ?_)
 refine l_sealc (size := 1) lsF [(⟨[0, 1], some ⟨b32, 0, none⟩, 2⟩ : XL), ⟨[0], some ⟨b33, 0, none⟩, 1⟩] rfl (fun _ => rfl) ?_
 refine l_facts (Ld [(⟨[0, 1], some ⟨b32, 0, none⟩, 2⟩ : XL), ⟨[0], some ⟨b33, 0, none⟩, 1⟩] :: _) (fun w hs => st_ld2 hs (by repeat constructor) (by repeat constructor)) ?_
 refine l_g (j := 22) rfl rfl (by decide) (q_call call_21 rfl (fun w hs => lists_yes (l := x31.1.2.2) (m := [(⟨[0, 1], some ⟨b32, 0, none⟩, 2⟩ : XL), ⟨[0], some ⟨b33, 0, none⟩, 1⟩]) (by rw [x31.2, hXg]; exact ex_first) (by rw [rl_len]; show X.nts.length ≤ 1000; omega) (fun u hu => by have := rl_row x31 u hu; have h2 : X.g.t = X.terms.length := rfl; omega) (hs.facts (Sl 1 lsF x31.1.1 x31.1.2.2) (by repeat constructor)).1 (hs.facts (Sl 1 lsF (some ⟨b34, 0, none⟩) [(⟨[0, 1], some ⟨b32, 0, none⟩, 2⟩ : XL), ⟨[0], some ⟨b33, 0, none⟩, 1⟩]) (by repeat constructor)).1 (hs.facts (Ld x31.1.2.2) (by repeat constructor)).1 (hs.facts (Ld [(⟨[0, 1], some ⟨b32, 0, none⟩, 2⟩ : XL), ⟨[0], some ⟨b33, 0, none⟩, 1⟩]) (by repeat constructor)).1)) ?_
 refine l_q (by decide) (p_pick rfl rfl).q ?_
 refine l_q (by decide) (p_move rfl).q ?_
 first | refine l_g (j := 30) rfl rfl (by decide) (r_loada Try.underlying25 rfl inf_25 rfl (by first | exact .fact (by repeat constructor) | exact .own (by repeat constructor) (by decide) (fun _ => rfl) | exact SlIn.body (by repeat constructor) (by assumption)) (by assumption)).q ?_ | refine l_g (j := 30) rfl rfl (by decide) (r_loadow Try.underlying25 rfl inf_25 rfl (by repeat constructor) (by rfl)).q ?_ | refine l_g (j := 30) rfl rfl (by decide) (r_loadoa Try.underlying25 rfl inf_25 rfl (by repeat constructor) (by rfl) (fun j u h => h)).q ?_
 refine l_strip (j := 30) rfl rfl ?_
 refine l_callf (X := RLs X.g.n (fun i a => Ana.fo X.g i a) (-1) (X.g.t + 1)) [Bd X.xs, Sl 3 ruF X.Ar X.xs, Sl 1 strF X.An X.nts, Sl 1 strF X.At X.terms] (fun x => rlV x) rlQ (by decide) call_24 rfl (by intro p hp; simp only [List.mem_cons, List.not_mem_nil, or_false] at hp; rcases hp with rfl | rfl | rfl | rfl <;> repeat constructor) (fun w hs => follow_ok X hX ok _ w hs) (fun x39 => ?_)
 refine l_strip (j := 30) rfl rfl ?_
 refine l_buildSlice (by decide) Try.underlying39 inf_3 (by decide) (by decide) rfl rfl rfl rfl (fun b40 => ?_)
 refine l_sealc (size := 1) intF [-1, 1] rfl (fun _ => rfl) ?_
 refine l_strip (j := 30) rfl rfl ?_
 refine l_buildSlice (by decide) Try.underlying39 inf_3 (by decide) (by decide) rfl rfl rfl rfl (fun b41 => ?_)
 refine l_sealc (size := 1) intF [-1, 0, 1] rfl (fun _ => rfl) ?_
 refine l_strip (j := 30) rfl rfl ?_
 refine l_buildSlice (by decide) Try.underlying32 inf_39 (by decide) (by decide) rfl rfl rfl rfl (fun b42 => ?_)
 refine l_sealc (size := 1) lsF [(⟨[-1, 1], some ⟨b40, 0, none⟩, 2⟩ : XL), ⟨[-1, 0, 1], some ⟨b41, 0, none⟩, 3⟩] rfl (fun _ => rfl) ?_
 refine l_facts (Ld [(⟨[-1, 1], some ⟨b40, 0, none⟩, 2⟩ : XL), ⟨[-1, 0, 1], some ⟨b41, 0, none⟩, 3⟩] :: _) (fun w hs => st_ld2 hs (by repeat constructor) (by repeat constructor)) ?_
 refine l_g (j := 30) rfl rfl (by decide) (q_call call_21 rfl (fun w hs => lists_yes (l := x39.1.2.2) (m := [(⟨[-1, 1], some ⟨b40, 0, none⟩, 2⟩ : XL), ⟨[-1, 0, 1], some ⟨b41, 0, none⟩, 3⟩]) (by rw [x39.2, hXg]; exact ex_follow) (by rw [rl_len]; show X.nts.length ≤ 1000; omega) (fun u hu => by have := rl_row x39 u hu; have h2 : X.g.t = X.terms.length := rfl; omega) (hs.facts (Sl 1 lsF x39.1.1 x39.1.2.2) (by repeat constructor)).1 (hs.facts (Sl 1 lsF (some ⟨b42, 0, none⟩) [(⟨[-1, 1], some ⟨b40, 0, none⟩, 2⟩ : XL), ⟨[-1, 0, 1], some ⟨b41, 0, none⟩, 3⟩]) (by repeat constructor)).1 (hs.facts (Ld x39.1.2.2) (by repeat constructor)).1 (hs.facts (Ld [(⟨[-1, 1], some ⟨b40, 0, none⟩, 2⟩ : XL), ⟨[-1, 0, 1], some ⟨b41, 0, none⟩, 3⟩]) (by repeat constructor)).1)) ?_
 refine l_q (by decide) (p_pick rfl rfl).q ?_
 refine l_q (by decide) (p_assign rfl).q ?_
 refine l_nil ?_
 refine c_ret ?_
 refine c_ret1 rfl rfl (fun w hs => ?_)
 exact ⟨rfl, hs.ext⟩
end Go.Proofs.Ytidbhgolhiaijaa
