/- The walks of the recognizer, thirteenth part (Reduce); conditions: lengths. -/
import Derived.Test.YtncagpppmaehhaaWalksL
import Derived.Test.YtncagpppmaehhaaFxY
namespace Go.Proofs.Ytncagpppmaehhaa
open Go Go.Fx Go.Proofs

open Go.Proofs.Rec
def il (n : Nat) (f : Nat → Int) : List Value := (Ana.mkl n f).map (Value.int .i64)
theorem il_len (n : Nat) (f : Nat → Int) : (il n f).length = n := by rw [il, List.length_map, Ana.mkl_len]
theorem il_at {n j : Nat} {f : Nat → Int} (h : j < n) : (il n f)[j * 1]? = some (.int .i64 (f j)) := by rw [Nat.mul_one, il, List.getElem?_map, Ana.mkl_at h]; rfl
theorem il_set {n j : Nat} {f : Nat → Int} {v : Int} : (il n f).set (j * 1) (.int .i64 v) = il n (Ana.upd f j v) := by rw [Nat.mul_one, il, ← List.map_set, Ana.mkl_set]; rfl
theorem il_rep (n : Nat) : List.replicate n (Value.int .i64 0) = il n (fun _ => 0) := by rw [il, ← Ana.mkl_rep, List.map_replicate]
theorem il_ext {n : Nat} {f g : Nat → Int} (h : ∀ j, j < n → f j = g j) : il n f = il n g := by unfold il; rw [Ana.mkl_ext h]
def numf (U : Nat → Bool) (i j : Nat) : Int := if j < i ∧ U j = true then ((num U j : Nat) : Int) else 0
theorem numf_zero (n : Nat) (U : Nat → Bool) : il n (fun _ => 0) = il n (numf U 0) := il_ext fun j _ => by unfold numf; rw [if_neg (by omega)]
theorem numf_yes {n i : Nat} {U : Nat → Bool} (h : U i = true) : il n (Ana.upd (numf U i) i ((num U i : Nat) : Int)) = il n (numf U (i + 1)) := il_ext fun j _ => by
  unfold Ana.upd numf
  by_cases e : j = i
  · subst e; rw [if_pos rfl, if_pos ⟨Nat.lt_succ_self _, h⟩]
  · rw [if_neg e]
    by_cases h2 : j < i ∧ U j = true
    · rw [if_pos h2, if_pos ⟨by omega, h2.2⟩]
    · rw [if_neg h2, if_neg (fun h3 => h2 ⟨by omega, h3.2⟩)]
theorem numf_no {n i : Nat} {U : Nat → Bool} (h : U i = false) : il n (numf U i) = il n (numf U (i + 1)) := il_ext fun j _ => by
  unfold numf
  by_cases h2 : j < i ∧ U j = true
  · rw [if_pos h2, if_pos ⟨by omega, h2.2⟩]
  · rw [if_neg h2, if_neg]
    rintro ⟨h3, h4⟩
    have e : j = i := by
      apply Classical.byContradiction
      intro e
      exact h2 ⟨by omega, h4⟩
    subst e
    rw [h] at h4; cases h4
theorem numf_at {n i : Nat} {U : Nat → Bool} (h1 : i < n) (h2 : U i = true) : numf U n i = ((num U i : Nat) : Int) := if_pos ⟨h1, h2⟩
theorem num_self (U : Nat → Bool) (i : Nat) : num U i ≤ i := by
  unfold num
  have := List.length_filter_le U (List.range i)
  rwa [List.length_range] at this
theorem num_zero (U : Nat → Bool) : num U 0 = 0 := rfl
theorem stays_eq {U P : Nat → Bool} {r : Ana.Rl} : stays U P r = (U r.head.toNat && Ana.allG true P r.body) := by
  unfold stays Ana.allG
  congr 2
  funext x
  unfold Ana.good
  by_cases h : 0 ≤ x
  · simp [h]
  · simp [h, show x < 0 by omega]
noncomputable def redR (X : GI) (l : List XR) : List Ana.Rl := ((l.map (·.r)).filter (stays (us X.g) (pP X))).map (renR (us X.g))
theorem redR_yes {X : GI} {l : List XR} {x : XR} (h : stays (us X.g) (pP X) x.r = true) : redR X (l ++ [x]) = redR X l ++ [renR (us X.g) x.r] := by
  unfold redR
  rw [List.map_append, List.filter_append, List.map_append]
  congr 1
  rw [List.map_cons, List.map_nil, List.filter_cons, if_pos h]; rfl
theorem redR_no {X : GI} {l : List XR} {x : XR} (h : stays (us X.g) (pP X) x.r = false) : redR X (l ++ [x]) = redR X l := by
  unfold redR
  rw [List.map_append, List.filter_append, List.map_append]
  rw [List.map_cons, List.map_nil, List.filter_cons, if_neg (by rw [h]; decide)]
  simp
theorem redR_len {X : GI} (l : List XR) : (redR X l).length ≤ l.length := by
  unfold redR
  rw [List.length_map]
  have := List.length_filter_le (stays (us X.g) (pP X)) (l.map (·.r))
  rwa [List.length_map] at this
theorem bd_snoc {w0 w : World} {K : List Nat} {σ : Fx.Own} {ρ : Fx.Facts} {xs : List XR} {x : XR} (h : St w0 K w σ ρ) (h1 : Bd xs ∈ ρ) (h2 : Sl 1 intF x.A x.r.body ∈ ρ) : St w0 K w σ (Bd (xs ++ [x]) :: ρ) :=
  ((h.and h1 h2).iff (List.mem_cons_self ..) (q := Bd (xs ++ [x])) (fun w => by
    constructor
    · rintro ⟨g1, g2⟩ k y hy
      by_cases hk : k < xs.length
      · rw [List.getElem?_append_left hk] at hy; exact g1 k y hy
      · rw [List.getElem?_append_right (by omega)] at hy
        have := (List.getElem?_eq_some_iff.1 hy).1
        have e : k - xs.length = 0 := by simp at this; omega
        rw [e] at hy
        injection hy with hy
        subst hy; exact g2
    · intro g
      refine ⟨fun k y hy => g k y ?_, g xs.length x ?_⟩
      · rw [List.getElem?_append_left (List.getElem?_eq_some_iff.1 hy).1]; exact hy
      · rw [List.getElem?_append_right (Nat.le_refl _), Nat.sub_self]; rfl)).weak (fun q hq => by
    rcases List.mem_cons.1 hq with rfl | hq
    · exact List.mem_cons_self ..
    · exact List.mem_cons_of_mem _ (List.mem_cons_of_mem _ hq))
theorem bd_nil (w : World) : Bd [] w := fun k x h => by simp at h
theorem len_ruF (x : XR) : (ruF x).length = 3 := rfl
/-- a grammar in memory as one fact -/
theorem dep_gi {X : GI} {lo hi : Nat} (h1 : Dep lo hi (Sl 1 strF X.At X.terms)) (h2 : Dep lo hi (Sl 1 strF X.An X.nts)) (h3 : Dep lo hi (Sl 3 ruF X.Ar X.xs)) (h4 : Dep lo hi (Bd X.xs)) : Dep lo hi X.mem := fun w1 w2 hb h => ⟨h1 w1 w2 hb h.t, h2 w1 w2 hb h.n, h3 w1 w2 hb h.x, h4 w1 w2 hb h.b⟩
/-- what Reduce returns: grammar, origins, error -/
structure RedV where
  Y : GI
  A : Option Addr
  n : Nat
  c : Nat
  e : Nat
def RedV.V (z : RedV) : Value := .tuple #[.agg #[.slice z.Y.At z.Y.terms.length z.Y.ct, .slice z.Y.An z.Y.nts.length z.Y.cn, .int .i64 z.Y.start, .slice z.Y.Ar z.Y.xs.length z.Y.cr], .slice z.A z.n z.c, .int .i64 ((z.e : Nat) : Int)]
structure RedV.Ok (X : GI) (z : RedV) : Prop where
  yes : z.e = 0 → z.Y.g = red X.g (us X.g) (pP X) ∧ z.Y.small ∧ Ana.PN X.g true X.g.start.toNat
  no : z.e ≠ 0 → ¬ Ana.PN X.g true X.g.start.toNat
abbrev RedR (X : GI) := { z : RedV // z.Ok X }
theorem ok2_red {g : Ana.Gr} (ok : Ana.Ok2 g) {U P : Nat → Bool} (hu : Useful g U P) : Ana.Ok2 (red g U P) := by
  have hs0 := ok.s0
  have hs1 := ok.s1
  have hst : num U g.start.toNat < num U g.n := num_lt (by omega) hu.start
  have hrule : ∀ r, r ∈ (red g U P).rules → ∃ q, q ∈ g.rules ∧ stays U P q = true ∧ r = renR U q := fun r hr => by
    obtain ⟨q, hq1, rfl⟩ := List.mem_map.1 hr
    obtain ⟨hq2, hq3⟩ := List.mem_filter.1 hq1
    exact ⟨q, hq2, hq3, rfl⟩
  refine ⟨ok.tl, ?_, Nat.le_trans (num_self U g.n) ok.nl, ?_, ?_, ?_, ?_, ?_, ?_, ?_, ?_⟩
  · show 1 ≤ num U g.n
    omega
  · show (List.map _ (List.filter _ _)).length ≤ 20
    rw [List.length_map]
    exact Nat.le_trans (List.length_filter_le _ _) ok.rl
  · show 0 ≤ ((num U g.start.toNat : Nat) : Int)
    omega
  · show ((num U g.start.toNat : Nat) : Int) < ((num U g.n : Nat) : Int)
    omega
  · intro r hr
    obtain ⟨q, _, _, rfl⟩ := hrule r hr
    show 0 ≤ ((num U q.head.toNat : Nat) : Int)
    omega
  · intro r hr
    obtain ⟨q, hq, hq2, rfl⟩ := hrule r hr
    have := num_lt (ok.hd hq).2 ((stays_iff hu.prod).1 hq2).1
    show ((num U q.head.toNat : Nat) : Int) < ((num U g.n : Nat) : Int)
    omega
  · intro r hr
    obtain ⟨q, hq, _, rfl⟩ := hrule r hr
    show (q.body.map (ren U)).length ≤ 6
    rw [List.length_map]
    exact ok.bl q hq
  · intro r hr y hy
    obtain ⟨q, hq, hq2, rfl⟩ := hrule r hr
    obtain ⟨x, hx, rfl⟩ := List.mem_map.1 hy
    show -((num U g.n : Nat) : Int) ≤ _
    by_cases h : x < 0
    · rw [ren_neg h]
      have := num_lt (ok.nt_lt hq hx h) (hu.closed q hq hq2 x hx h)
      omega
    · rw [ren_pos (by omega)]
      omega
  · intro r hr y hy
    obtain ⟨q, hq, hq2, rfl⟩ := hrule r hr
    obtain ⟨x, hx, rfl⟩ := List.mem_map.1 hy
    have := ok.b1 q hq x hx
    show _ < (g.t : Int)
    by_cases h : x < 0
    · rw [ren_neg h]; omega
    · rw [ren_pos (by omega)]; exact this
theorem redR_body {X : GI} (ok : Ana.Ok2 X.g) {ys l : List XR} (hl : ∀ x, x ∈ l → x ∈ X.xs) (h : ys.map XR.r = redR X l) {z : XR} (hz : z ∈ ys) : z.r.body.length ≤ 6 := by
  have h1 : z.r ∈ redR X l := h ▸ List.mem_map.2 ⟨z, hz, rfl⟩
  obtain ⟨q, hq, e⟩ := List.mem_map.1 h1
  obtain ⟨x, hx, rfl⟩ := List.mem_map.1 (List.mem_filter.1 hq).1
  rw [← e]
  show (x.r.body.map _).length ≤ 6
  rw [List.length_map]
  exact ok.bl _ (List.mem_map.2 ⟨x, hl x hx, rfl⟩)
def GI.none : GI := ⟨.none, 0, [], .none, 0, [], 0, .none, 0, []⟩
theorem none_mem (w : World) : GI.none.mem w := ⟨Sl.nil _ _ _ w, Sl.nil _ _ _ w, Sl.nil _ _ _ w, bd_nil w⟩
theorem dep_bd2 {xs : List XR} {w : World} {lo : Nat} (h : Bd xs w) (hlo : ∀ x, x ∈ xs → ∀ a, x.A = some a → lo ≤ a.block) : Dep lo w.heap.size (Bd xs) := fun w1 w2 hb hq k x hx => dep_sl2 (w := w) (by decide) (h k x hx) (hlo x (List.mem_of_getElem? hx)) w1 w2 hb (hq k x hx)
theorem pl_25 : PlacesIs Try.prog 25 [(0, 1), (1, 1), (2, 1), (3, 1)] := ⟨_, Try.underlying25, by kernel_rfl⟩
theorem pl_49 : PlacesIs Try.prog 49 [(0, 1), (1, 1), (2, 1)] := ⟨_, Try.underlying49, by kernel_rfl⟩
theorem call_30 : Callable Try.prog 30 := ⟨_, Try.func30, by kernel_rfl, rfl⟩
theorem reduce_ok (X : GI) (hX : X.small) (w : World) (hM : X.mem w) (ok : Ana.Ok2 X.g) (hv : validB X = true) :
   Calls Try.prog 19 #[.agg #[.slice X.At X.terms.length X.ct, .slice X.An X.nts.length X.cn, .int .i64 X.start, .slice X.Ar X.xs.length X.cr]] w (Ret fun v w' => ∃ z : RedR X, v = z.1.V ∧ z.1.Y.mem w' ∧ Dep w.heap.size w'.heap.size z.1.Y.mem ∧ Ext [] w w') := by
 have hnl := ok.nl
 have htl : X.terms.length ≤ 12 := ok.tl
 have hnn : X.nts.length ≤ 16 := hnl
 have hxl : X.xs.length ≤ 20 := by have := ok.rl; rwa [show X.g.rules.length = X.xs.length from List.length_map ..] at this
 refine calls_fx (l := [.agg #[.slice X.At X.terms.length X.ct, .slice X.An X.nts.length X.cn, .int .i64 X.start, .slice X.Ar X.xs.length X.cr]]) Try.func19 rfl Try.ntmps19 (Nat.le_of_ble_eq_true rfl) (X.begin hM) ?_
 refine c_seq ?_
 refine c_reg ?_
 refine l_box (by decide) rfl _ rfl (fun b1 => ?_)
 refine l_alloc (by decide) inf_25 _ rfl (fun b2 => ?_)
 refine l_q (by decide) (p_assign rfl).q ?_
 refine l_q (by decide) (p_assign (v := .int .i64 ((0 : Nat) : Int)) rfl).q ?_
 refine l_nil ?_
 refine c_seq ?_
 refine c_seq ?_
 obtain ⟨lo, hlo⟩ : ∃ lo, lo = w.heap.size := ⟨_, rfl⟩
 refine c_reg ?_
 refine l_q (by decide) (r_loadow Try.underlying25 rfl inf_25 rfl (by repeat constructor) (by rfl)).q ?_
 refine l_q (by decide) (q_call call_22 rfl (fun w hs => valid_eq X hX w (GI.of hs (by repeat constructor) (by repeat constructor) (by repeat constructor) (by repeat constructor)))) ?_
 refine l_q (by decide) (p_not rfl).q ?_
 refine l_nil ?_
 refine c_cond rfl (fun h19 => ?_) (fun h19 => ?_)
 ·skip
  refine c_seq ?_
  refine c_reg ?_
  refine l_q (by decide) (p_build (cells := #[_, _, _, _]) inf_25 pl_25 rfl rfl).q ?_
  (refine l_storew inf_25 rfl rfl rfl rfl rfl ?_)
  refine l_q (by decide) (p_assign rfl).q ?_
  refine l_q (by decide) (p_assign (v := .int .i64 ((1 : Nat) : Int)) rfl).q ?_
  refine l_nil ?_
  refine c_ret ?_
  refine c_retcw3 rfl rfl rfl rfl Try.underlying25 rfl inf_25 (by repeat constructor) (by rfl) (fun w hs => ?_)
  simp [hv] at h19
 ·skip
  refine c_skip ?_
  refine c_seq ?_
  have hst1 : ((X.g.start.toNat : Nat) : Int) = X.start := by have := ok.s0; show ((X.start.toNat : Nat) : Int) = _; have h : 0 ≤ X.start := this; omega
  have hst2 : X.g.start.toNat < X.nts.length := by have h0 : 0 ≤ X.start := ok.s0; have h1 : X.start < (X.nts.length : Int) := ok.s1; show X.start.toNat < X.nts.length; omega
  have hUs : us X.g X.g.start.toNat = true := us_useful.start
  refine c_reg ?_
  refine l_q (by decide) (r_loadow Try.underlying25 rfl inf_25 rfl (by repeat constructor) (by rfl)).q ?_
  refine l_call (X := { bo : Nat // lo ≤ bo }) (fun x => .slice (some ⟨x.1, 0, none⟩) X.g.n X.g.n) (fun x => Sl 1 boolF (some ⟨x.1, 0, none⟩) (Ana.mkl X.g.n (Ana.pn X.g true))) (by decide) call_29 rfl (fun w hs => tab_call (by rw [hlo]; exact hs.ext.size) (rprod_ok X hX w (GI.of hs (by repeat constructor) (by repeat constructor) (by repeat constructor) (by repeat constructor)) ok)) (fun x22 => ?_)
  refine l_q (by decide) (p_assign rfl).q ?_
  refine l_nil ?_
  refine c_seq ?_
  refine c_seq ?_
  refine c_reg ?_
  refine l_q (by decide) (p_move rfl).q ?_
  refine l_q (by decide) (p_faddro (i := 2) 2 Try.underlying25 rfl inf_3 (by decide) rfl rfl).q ?_
  refine l_q (by decide) (((r_loado Try.underlying3 rfl rfl (by repeat constructor) (by rfl))).to (u := .int .i64 ((X.g.start.toNat : Nat) : Int)) (by rw [hst1])).q ?_
  refine l_q (by decide) (r_index (A := some ⟨x22.1, 0, none⟩) (es := Ana.mkl X.g.n (Ana.pn X.g true)) (f := boolF) (j := X.g.start.toNat) Try.underlying42 inf_4 rfl rfl rfl (.fact (by repeat constructor)) (by rw [Ana.mkl_len]) (by rw [Ana.mkl_len]; exact hst2)).q ?_
  refine l_q (by decide) (r_load1 (f := boolF) (A := some ⟨x22.1, 0, none⟩) (es := Ana.mkl X.g.n (Ana.pn X.g true)) (j := X.g.start.toNat) Try.underlying4 rfl rfl (.fact (by repeat constructor)) (Ana.mkl_at hst2) rfl).q ?_
  refine l_q (by decide) (p_not rfl).q ?_
  refine l_nil ?_
  refine c_cond rfl (fun h28 => ?_) (fun h28 => ?_)
  ·skip
   refine c_seq ?_
   refine c_reg ?_
   refine l_q (by decide) (p_build (cells := #[_, _, _, _]) inf_25 pl_25 rfl rfl).q ?_
   (refine l_storew inf_25 rfl rfl rfl rfl rfl ?_)
   refine l_q (by decide) (p_assign rfl).q ?_
   refine l_q (by decide) (p_assign (v := .int .i64 ((10 : Nat) : Int)) rfl).q ?_
   refine l_nil ?_
   refine c_ret ?_
   refine c_retcw3 rfl rfl rfl rfl Try.underlying25 rfl inf_25 (by repeat constructor) (by rfl) (fun w hs => ?_)
   exact ⟨⟨⟨GI.none, none, 0, 0, 10⟩, fun h => (by cases h), fun _ hp => by rw [show Ana.pn X.g true X.g.start.toNat = true from Ana.dec_iff.2 hp] at h28; cases h28⟩, rfl, none_mem w, fun _ w2 _ _ => none_mem w2, hs.ext⟩
  ·skip
   refine c_skip ?_
   refine c_seq ?_
   refine c_reg ?_
   refine l_q (by decide) (r_loadow Try.underlying25 rfl inf_25 rfl (by repeat constructor) (by rfl)).q ?_
   refine l_call (X := { bo : Nat // lo ≤ bo }) (fun x => .slice (some ⟨x.1, 0, none⟩) X.g.n X.g.n) (fun x => Sl 1 boolF (some ⟨x.1, 0, none⟩) (Ana.mkl X.g.n (us X.g))) (by decide) call_30 rfl (fun w hs => tab_call (by rw [hlo]; exact hs.ext.size) (useful_ok X hX w (GI.of hs (by repeat constructor) (by repeat constructor) (by repeat constructor) (by repeat constructor)) ok)) (fun x31 => ?_)
   refine l_q (by decide) (p_assign rfl).q ?_
   refine l_nil ?_
   refine c_seq ?_
   refine c_reg ?_
   refine l_q (by decide) (p_faddro (i := 1) 1 Try.underlying25 rfl inf_22 (by decide) rfl rfl).q ?_
   refine l_q (by decide) (r_loado Try.underlying22 rfl rfl (by repeat constructor) (by rfl)).q ?_
   refine l_q (by decide) (p_len_sl Try.underlying22 rfl).q ?_
   refine l_make (by decide) Try.underlying26 inf_3 rfl rfl rfl rfl rfl rfl (by omega) (by omega) (fun b35 => ?_)
   refine l_q (by decide) (p_assign rfl).q ?_
   refine l_nil ?_
   refine c_seq ?_
   refine c_reg ?_
   refine l_q (by decide) (p_assign rfl).q ?_
   refine l_nil ?_
   refine c_seq ?_
   refine c_seq ?_
   refine c_reg ?_
   refine l_q (by decide) (p_assign (v := .int .i64 ((0 : Nat) : Int)) rfl).q ?_
   refine l_nil ?_
   refine c_block ?_
   rw [show List.replicate X.nts.length (Value.int .i64 0) = il X.nts.length (numf (us X.g) 0) from (il_rep _).trans (numf_zero _ _)]
   refine c_sl0 9 1 strF ?_
   refine c_loop (S := Nat × List (List UInt8) × Option Addr × Nat) (fun zs => zs.1 ≤ X.nts.length ∧ zs.2.1.length = Rec.num (us X.g) zs.1) (fun zs => X.nts.length - zs.1) (fun zs => [(1, .pointer (some ⟨b1, 0, none⟩)), (2, .pointer (some ⟨b2, 0, none⟩)), (5, .slice (some ⟨x22.1, 0, none⟩) X.g.n X.g.n), (6, .slice (some ⟨x31.1, 0, none⟩) X.g.n X.g.n), (7, .slice (some ⟨b35, 0, none⟩) X.nts.length X.nts.length), (8, .slice zs.2.2.1 zs.2.1.length zs.2.2.2), (9, .int .i64 (zs.1 : Int))]) (fun zs => [iSl 9 1 strF zs.2.2.1 zs.2.2.2 zs.2.1, iCells b35 3 (il X.nts.length (numf (us X.g) zs.1)), iCells b2 25 [.slice none 0 0, .slice none 0 0, .int .i64 0, .slice none 0 0], iCells b1 25 [.slice X.At X.terms.length X.ct, .slice X.An X.nts.length X.cn, .int .i64 X.start, .slice X.Ar X.xs.length X.cr]]) (fun zs => (Sl 1 boolF (some ⟨x31.1, 0, none⟩) (Ana.mkl X.g.n (us X.g)) :: Sl 1 boolF (some ⟨x22.1, 0, none⟩) (Ana.mkl X.g.n (Ana.pn X.g true)) :: [Bd X.xs, Sl 3 ruF X.Ar X.xs, Sl 1 strF X.An X.nts, Sl 1 strF X.At X.terms])) (0, [], none, 0) ?_ ?_ ?_ ?_ ?_
   · show (0) ≤ X.nts.length ∧ ([]).length = Rec.num (us X.g) (0)
     exact ⟨Nat.zero_le _, rfl⟩
   · exact ⟨rfl, rfl, rfl, rfl, rfl, rfl, rfl, trivial⟩
   · exact .refl _
   · exact fun _ h => h
   rintro ⟨i, nm, A0, c0⟩ hinv
   have hinv : i ≤ X.nts.length ∧ nm.length = Rec.num (us X.g) i := hinv
   obtain ⟨hi, hnm⟩ := hinv
   have hkb : i * 1 < (il X.nts.length (numf (us X.g) i)).length ∨ True := .inr trivial
   have hnum := num_self (us X.g) i
   show Cont _ _ _ _ [(1, .pointer (some ⟨b1, 0, none⟩)), (2, .pointer (some ⟨b2, 0, none⟩)), (5, .slice (some ⟨x22.1, 0, none⟩) X.g.n X.g.n), (6, .slice (some ⟨x31.1, 0, none⟩) X.g.n X.g.n), (7, .slice (some ⟨b35, 0, none⟩) X.nts.length X.nts.length), (8, .slice A0 nm.length c0), (9, .int .i64 (i : Int))] ([iSl 9 1 strF A0 c0 nm, iCells b35 3 (il X.nts.length (numf (us X.g) i)), iCells b2 25 [.slice none 0 0, .slice none 0 0, .int .i64 0, .slice none 0 0], iCells b1 25 [.slice X.At X.terms.length X.ct, .slice X.An X.nts.length X.cn, .int .i64 X.start, .slice X.Ar X.xs.length X.cr]]) (Sl 1 boolF (some ⟨x31.1, 0, none⟩) (Ana.mkl X.g.n (us X.g)) :: Sl 1 boolF (some ⟨x22.1, 0, none⟩) (Ana.mkl X.g.n (Ana.pn X.g true)) :: [Bd X.xs, Sl 3 ruF X.Ar X.xs, Sl 1 strF X.An X.nts, Sl 1 strF X.At X.terms])
   refine c_seq ?_
   refine c_seq ?_
   refine c_reg ?_
   refine l_q (by decide) (p_move rfl).q ?_
   refine l_q (by decide) (p_faddro (i := 1) 1 Try.underlying25 rfl inf_22 (by decide) rfl rfl).q ?_
   refine l_q (by decide) (r_loado Try.underlying22 rfl rfl (by repeat constructor) (by rfl)).q ?_
   refine l_q (by decide) (p_len_sl Try.underlying22 rfl).q ?_
   refine l_q (by decide) (p_lss rfl rfl rfl rfl).q ?_
   refine l_nil ?_
   refine c_dec rfl (fun h40 => ?_) (fun h40 => ?_)
   ·skip
    obtain ⟨s0, hs0⟩ := at_some (l := X.nts) (n := i) (by omega)
    have hkb2 : i * 1 < (il X.nts.length (numf (us X.g) i)).length := by rw [il_len]; omega
    refine c_skip ?_
    refine c_seq ?_
    refine c_block ?_
    refine c_seq ?_
    refine c_reg ?_
    refine l_q (by decide) (p_move rfl).q ?_
    refine l_q (by decide) (p_move rfl).q ?_
    refine l_q (by decide) (r_index (A := some ⟨x31.1, 0, none⟩) (es := Ana.mkl X.g.n (us X.g)) (f := boolF) (j := i) Try.underlying42 inf_4 rfl rfl rfl (.fact (by repeat constructor)) (by rw [Ana.mkl_len]) (by rw [Ana.mkl_len]; exact h40)).q ?_
    refine l_q (by decide) (r_load1 (f := boolF) (A := some ⟨x31.1, 0, none⟩) (es := Ana.mkl X.g.n (us X.g)) (j := i) Try.underlying4 rfl rfl (.fact (by repeat constructor)) (Ana.mkl_at h40) rfl).q ?_
    refine l_nil ?_
    refine c_cond rfl (fun h46 => ?_) (fun h46 => ?_)
    ·skip
     refine c_seq ?_
     refine c_reg ?_
     refine l_q (by decide) (p_move rfl).q ?_
     refine l_q (by decide) (p_move rfl).q ?_
     refine l_q (by decide) (p_move rfl).q ?_
     refine l_q (by decide) (p_len_sl Try.underlying22 rfl).q ?_
     refine l_q (by decide) (p_indexo Try.underlying26 inf_3 rfl rfl rfl (by omega)).q ?_
     (refine l_perm (front1 _ _ _) ?_; refine l_store inf_3 rfl rfl rfl rfl (by omega) ?_)
     refine l_nil ?_
     refine c_reg ?_
     refine l_q (by decide) (p_move rfl).q ?_
     refine l_q (by decide) (p_faddro (i := 1) 1 Try.underlying25 rfl inf_22 (by decide) rfl rfl).q ?_
     refine l_q (by decide) (r_loado Try.underlying22 rfl rfl (by repeat constructor) (by rfl)).q ?_
     refine l_q (by decide) (p_move rfl).q ?_
     refine l_q (by decide) (r_index Try.underlying22 inf_9 rfl rfl rfl (by exact .fact (by repeat constructor)) rfl (by omega)).q ?_
     refine l_q (by decide) (r_load1 Try.underlying9 rfl rfl (by exact .fact (by repeat constructor)) (by assumption) (by rfl)).q ?_
     refine l_buildSlice (by decide) Try.underlying22 inf_9 (by decide) (by decide) rfl rfl rfl rfl (fun b58 => ?_)
     (refine l_perm (.cons _ (front1 _ _ _)) ?_; refine l_append1 (s0) (by decide) Try.underlying22 inf_9 rfl (by decide) rfl rfl rfl rfl rfl rfl (by omega) (by omega) (fun A59 c59 hA59 => ?_))
     refine l_q (by decide) (p_assign rfl).q ?_
     refine l_nil ?_
     refine c_reg ?_
     refine l_q (by decide) (p_move rfl).q ?_
     refine l_q (by decide) (p_add (j := 1) rfl rfl rfl rfl (by show _ ≤ (9223372036854775807 : Nat); omega)).q ?_
     refine l_q (by decide) (p_assign rfl).q ?_
     refine l_nil ?_
     refine c_join ((i + 1), (nm ++ [s0]), (A59), (c59)) ?_ ?_ ?_ ?_
     ·show ((i + 1) ≤ X.nts.length ∧ (nm ++ [s0]).length = Rec.num (us X.g) (i + 1)) ∧ X.nts.length - (i + 1) < X.nts.length - i
      exact ⟨⟨by omega, by rw [List.length_append, num_succ, if_pos h46, hnm]; rfl⟩, by omega⟩
     · exact ⟨rfl, rfl, rfl, rfl, rfl, rfl, rfl, trivial⟩
     ·show List.Perm _ ([iSl 9 1 strF (A59) (c59) (nm ++ [s0]), iCells b35 3 (il X.nts.length (numf (us X.g) (i + 1))), iCells b2 25 [.slice none 0 0, .slice none 0 0, .int .i64 0, .slice none 0 0], iCells b1 25 [.slice X.At X.terms.length X.ct, .slice X.An X.nts.length X.cn, .int .i64 X.start, .slice X.Ar X.xs.length X.cr]])
      rw [il_set, hnm, numf_yes h46]
      repeat (first | exact List.Perm.refl _ | refine List.Perm.cons _ ?_ | refine (front1 _ _ _).trans (List.Perm.cons _ ?_) | refine (front2 _ _ _ _).trans (List.Perm.cons _ ?_) | refine (front3 _ _ _ _ _).trans (List.Perm.cons _ ?_) | refine (front4 _ _ _ _ _ _).trans (List.Perm.cons _ ?_))
     · exact fun _ h => h
    ·skip
     refine c_skip ?_
     refine c_reg ?_
     refine l_q (by decide) (p_move rfl).q ?_
     refine l_q (by decide) (p_add (j := 1) rfl rfl rfl rfl (by show _ ≤ (9223372036854775807 : Nat); omega)).q ?_
     refine l_q (by decide) (p_assign rfl).q ?_
     refine l_nil ?_
     refine c_join ((i + 1), (nm), (A0), (c0)) ?_ ?_ ?_ ?_
     ·show ((i + 1) ≤ X.nts.length ∧ (nm).length = Rec.num (us X.g) (i + 1)) ∧ X.nts.length - (i + 1) < X.nts.length - i
      exact ⟨⟨by omega, by rw [num_succ, if_neg (by rw [h46]; decide), hnm, Nat.add_zero]⟩, by omega⟩
     · exact ⟨rfl, rfl, rfl, rfl, rfl, rfl, rfl, trivial⟩
     ·show List.Perm _ ([iSl 9 1 strF (A0) (c0) (nm), iCells b35 3 (il X.nts.length (numf (us X.g) (i + 1))), iCells b2 25 [.slice none 0 0, .slice none 0 0, .int .i64 0, .slice none 0 0], iCells b1 25 [.slice X.At X.terms.length X.ct, .slice X.An X.nts.length X.cn, .int .i64 X.start, .slice X.Ar X.xs.length X.cr]])
      rw [numf_no (by simpa using h46)]
      repeat (first | exact List.Perm.refl _ | refine List.Perm.cons _ ?_ | refine (front1 _ _ _).trans (List.Perm.cons _ ?_) | refine (front2 _ _ _ _).trans (List.Perm.cons _ ?_) | refine (front3 _ _ _ _ _).trans (List.Perm.cons _ ?_) | refine (front4 _ _ _ _ _ _).trans (List.Perm.cons _ ?_))
     · exact fun _ h => h
   ·skip
    refine c_exit ?_
    refine c_here ?_
    refine c_seq ?_
    refine c_reg ?_
    refine l_q (by decide) (p_assign rfl).q ?_
    refine l_nil ?_
    refine c_seq ?_
    refine c_reg ?_
    refine l_q (by decide) (p_assign rfl).q ?_
    refine l_nil ?_
    refine c_seq ?_
    refine c_seq ?_
    refine c_reg ?_
    refine l_q (by decide) (p_assign (v := .int .i64 ((0 : Nat) : Int)) rfl).q ?_
    refine l_nil ?_
    refine c_block ?_
    obtain rfl : i = X.nts.length := by omega
    refine c_pure (p := nm.length ≤ c0 ∧ ∀ a, A0 = some a → lo ≤ a.block) (fun w hs => by have := hs.row_new (e := 9) (size := 1) (f := strF) (es := nm) (A := A0) (c := c0) (by repeat constructor); exact ⟨this.1, by rw [hlo]; exact this.2⟩) (fun hnmc => ?_)
    refine c_sealr (by decide) (fun _ => rfl) ?_
    refine c_keep ?_
    refine c_sure (q := Bd []) bd_nil ?_
    refine c_sl0 3 1 intF ?_
    refine c_sl0 49 3 ruF ?_
    refine c_loop (S := Nat × List XR × Option Addr × Nat × List Int × Option Addr × Nat) (fun zs => zs.1 ≤ X.xs.length ∧ List.map XR.r zs.2.1 = redR X (X.xs.take zs.1) ∧ zs.2.2.2.2.1.length ≤ zs.1 ∧ ∀ zz : XR, zz ∈ zs.2.1 → zz.r.body.length ≤ zz.c ∧ ∀ a, zz.A = some a → lo ≤ a.block) (fun zs => X.xs.length - zs.1) (fun zs => [(1, .pointer (some ⟨b1, 0, none⟩)), (2, .pointer (some ⟨b2, 0, none⟩)), (5, .slice (some ⟨x22.1, 0, none⟩) X.g.n X.g.n), (6, .slice (some ⟨x31.1, 0, none⟩) X.g.n X.g.n), (7, .slice (some ⟨b35, 0, none⟩) X.nts.length X.nts.length), (8, .slice A0 nm.length c0), (10, .slice zs.2.2.1 zs.2.1.length zs.2.2.2.1), (11, .slice zs.2.2.2.2.2.1 zs.2.2.2.2.1.length zs.2.2.2.2.2.2), (12, .int .i64 (zs.1 : Int))]) (fun zs => [iSl 49 3 ruF zs.2.2.1 zs.2.2.2.1 zs.2.1, iSl 3 1 intF zs.2.2.2.2.2.1 zs.2.2.2.2.2.2 zs.2.2.2.2.1, iCells b2 25 [.slice none 0 0, .slice none 0 0, .int .i64 0, .slice none 0 0], iCells b1 25 [.slice X.At X.terms.length X.ct, .slice X.An X.nts.length X.cn, .int .i64 X.start, .slice X.Ar X.xs.length X.cr]]) (fun zs => (Bd zs.2.1 :: ((iCells b35 3 (il X.nts.length (numf (us X.g) X.nts.length))).holds :: Sl 1 strF A0 nm :: (Sl 1 boolF (some ⟨x31.1, 0, none⟩) (Ana.mkl X.g.n (us X.g)) :: Sl 1 boolF (some ⟨x22.1, 0, none⟩) (Ana.mkl X.g.n (Ana.pn X.g true)) :: [Bd X.xs, Sl 3 ruF X.Ar X.xs, Sl 1 strF X.An X.nts, Sl 1 strF X.At X.terms])))) (0, [], none, 0, [], none, 0) ?_ ?_ ?_ ?_ ?_
    · show (0) ≤ X.xs.length ∧ List.map XR.r ([]) = redR X (X.xs.take (0)) ∧ ([]).length ≤ (0) ∧ ∀ zz : XR, zz ∈ ([]) → zz.r.body.length ≤ zz.c ∧ ∀ a, zz.A = some a → lo ≤ a.block
      exact ⟨Nat.zero_le _, rfl, Nat.le_refl _, fun zz h => absurd h List.not_mem_nil⟩
    · exact ⟨rfl, rfl, rfl, rfl, rfl, rfl, rfl, rfl, rfl, trivial⟩
    · exact .refl _
    · exact fun _ h => h
    rintro ⟨k, ys, A1, c1, fr, A2, c2⟩ hinv
    have hinv : k ≤ X.xs.length ∧ List.map XR.r ys = redR X (X.xs.take k) ∧ fr.length ≤ k ∧ ∀ zz : XR, zz ∈ ys → zz.r.body.length ≤ zz.c ∧ ∀ a, zz.A = some a → lo ≤ a.block := hinv
    obtain ⟨hJ1, hJ2, hJ3, hJ4⟩ := hinv
    show Cont _ _ _ _ [(1, .pointer (some ⟨b1, 0, none⟩)), (2, .pointer (some ⟨b2, 0, none⟩)), (5, .slice (some ⟨x22.1, 0, none⟩) X.g.n X.g.n), (6, .slice (some ⟨x31.1, 0, none⟩) X.g.n X.g.n), (7, .slice (some ⟨b35, 0, none⟩) X.nts.length X.nts.length), (8, .slice A0 nm.length c0), (10, .slice A1 ys.length c1), (11, .slice A2 fr.length c2), (12, .int .i64 (k : Int))] ([iSl 49 3 ruF A1 c1 ys, iSl 3 1 intF A2 c2 fr, iCells b2 25 [.slice none 0 0, .slice none 0 0, .int .i64 0, .slice none 0 0], iCells b1 25 [.slice X.At X.terms.length X.ct, .slice X.An X.nts.length X.cn, .int .i64 X.start, .slice X.Ar X.xs.length X.cr]]) (Bd ys :: ((iCells b35 3 (il X.nts.length (numf (us X.g) X.nts.length))).holds :: Sl 1 strF A0 nm :: (Sl 1 boolF (some ⟨x31.1, 0, none⟩) (Ana.mkl X.g.n (us X.g)) :: Sl 1 boolF (some ⟨x22.1, 0, none⟩) (Ana.mkl X.g.n (Ana.pn X.g true)) :: [Bd X.xs, Sl 3 ruF X.Ar X.xs, Sl 1 strF X.An X.nts, Sl 1 strF X.At X.terms])))
    refine c_seq ?_
    refine c_seq ?_
    refine c_reg ?_
    refine l_q (by decide) (p_move rfl).q ?_
    refine l_q (by decide) (p_faddro (i := 3) 3 Try.underlying25 rfl inf_23 (by decide) rfl rfl).q ?_
    refine l_q (by decide) (r_loado Try.underlying23 rfl rfl (by repeat constructor) (by rfl)).q ?_
    refine l_q (by decide) (p_len_sl Try.underlying23 rfl).q ?_
    refine l_q (by decide) (p_lss rfl rfl rfl rfl).q ?_
    refine l_nil ?_
    refine c_dec rfl (fun h64 => ?_) (fun h64 => ?_)
    ·skip
     obtain ⟨x, hx⟩ := at_some (l := X.xs) (n := k) (by omega)
     obtain ⟨hh1, hh2⟩ := ok.hd (rule_mem hx)
     have hh2 : x.r.head.toNat < X.nts.length := hh2
     have hyl : ys.length ≤ k := by
       have h1 := congrArg List.length hJ2
       have h2 := redR_len (X := X) (X.xs.take k)
       rw [List.length_map] at h1
       rw [List.length_take] at h2
       omega
     have hbl := ok.bl _ (rule_mem hx)
     refine c_skip ?_
     refine c_seq ?_
     refine c_block ?_
     refine c_seq ?_
     refine c_reg ?_
     refine l_q (by decide) (p_faddro (i := 3) 3 Try.underlying25 rfl inf_23 (by decide) rfl rfl).q ?_
     refine l_q (by decide) (r_loado Try.underlying23 rfl rfl (by repeat constructor) (by rfl)).q ?_
     refine l_q (by decide) (p_move rfl).q ?_
     refine l_q (by decide) (r_index Try.underlying23 inf_49 rfl rfl rfl (by exact .fact (by repeat constructor)) rfl (by omega)).q ?_
     refine l_q (by decide) (r_loada Try.underlying49 rfl inf_49 rfl (by exact .fact (by repeat constructor)) (by assumption)).q ?_
     refine l_alloc (by decide) inf_49 _ rfl (fun b13 => ?_)
     (refine l_storew inf_49 rfl rfl rfl rfl rfl ?_)
     refine l_nil ?_
     refine c_seq ?_
     refine c_seq ?_
     refine c_reg ?_
     refine l_q (by decide) (p_move rfl).q ?_
     refine l_q (by decide) (p_faddro (i := 0) 0 Try.underlying49 rfl inf_3 (by decide) rfl rfl).q ?_
     refine l_q (by decide) (((r_loado Try.underlying3 rfl rfl (by repeat constructor) (by rfl))).to (u := .int .i64 ((x.r.head.toNat : Nat) : Int)) (by rw [hh1])).q ?_
     refine l_q (by decide) (r_index (A := some ⟨x31.1, 0, none⟩) (es := Ana.mkl X.g.n (us X.g)) (f := boolF) (j := x.r.head.toNat) Try.underlying42 inf_4 rfl rfl rfl (.fact (by repeat constructor)) (by rw [Ana.mkl_len]) (by rw [Ana.mkl_len]; exact hh2)).q ?_
     refine l_q (by decide) (r_load1 (f := boolF) (A := some ⟨x31.1, 0, none⟩) (es := Ana.mkl X.g.n (us X.g)) (j := x.r.head.toNat) Try.underlying4 rfl rfl (.fact (by repeat constructor)) (Ana.mkl_at hh2) rfl).q ?_
     refine l_q (by decide) (p_not rfl).q ?_
     refine l_q (by decide) (p_move rfl).q ?_
     refine l_splitb (t := 78) rfl (fun h78 => ?_) (fun h78 => ?_)
     ·skip
      refine l_off (j := 6) rfl rfl (by (simp; done)) (by decide) ?_
      refine l_off (j := 6) rfl rfl (by (simp; done)) (by decide) ?_
      refine l_off (j := 6) rfl rfl (by (simp; done)) (by decide) ?_
      refine l_off (j := 6) rfl rfl (by (simp; done)) (by decide) ?_
      refine l_off (j := 6) rfl rfl (by (simp; done)) (by decide) ?_
      refine l_q (by decide) (p_pick rfl rfl).q ?_
      refine l_nil ?_
      refine c_true rfl ?_
      refine c_exit ?_
      refine c_here ?_
      refine c_reg ?_
      refine l_q (by decide) (p_move rfl).q ?_
      refine l_q (by decide) (p_add (j := 1) rfl rfl rfl rfl (by show _ ≤ (9223372036854775807 : Nat); omega)).q ?_
      refine l_q (by decide) (p_assign rfl).q ?_
      refine l_nil ?_
      (refine c_drop (x := iCells b13 _ _) ?_)
      refine c_join ((k + 1), (ys), (A1), (c1), (fr), (A2), (c2)) ?_ ?_ ?_ ?_
      ·show ((k + 1) ≤ X.xs.length ∧ List.map XR.r (ys) = redR X (X.xs.take (k + 1)) ∧ (fr).length ≤ (k + 1) ∧ ∀ zz : XR, zz ∈ (ys) → zz.r.body.length ≤ zz.c ∧ ∀ a, zz.A = some a → lo ≤ a.block) ∧ X.xs.length - (k + 1) < X.xs.length - k
       refine ⟨⟨by omega, ?_, by omega, hJ4⟩, by omega⟩
       rw [take_at hx, redR_no (by rw [stays_eq]; have h5 : us X.g x.r.head.toNat = false := (by simpa using h78); simp [h5])]
       exact hJ2
      · exact ⟨rfl, rfl, rfl, rfl, rfl, rfl, rfl, rfl, rfl, trivial⟩
      ·show List.Perm _ ([iSl 49 3 ruF (A1) (c1) (ys), iSl 3 1 intF (A2) (c2) (fr), iCells b2 25 [.slice none 0 0, .slice none 0 0, .int .i64 0, .slice none 0 0], iCells b1 25 [.slice X.At X.terms.length X.ct, .slice X.An X.nts.length X.cn, .int .i64 X.start, .slice X.Ar X.xs.length X.cr]])
       repeat (first | exact List.Perm.refl _ | refine List.Perm.cons _ ?_ | refine (front1 _ _ _).trans (List.Perm.cons _ ?_) | refine (front2 _ _ _ _).trans (List.Perm.cons _ ?_) | refine (front3 _ _ _ _ _).trans (List.Perm.cons _ ?_) | refine (front4 _ _ _ _ _ _).trans (List.Perm.cons _ ?_))
      · exact fun _ h => h
     ·skip
      refine l_g (j := 6) rfl rfl (by decide) (p_move rfl).q ?_
      refine l_g (j := 6) rfl rfl (by decide) (p_faddro (i := 1) 1 Try.underlying49 rfl inf_26 (by decide) rfl rfl).q ?_
      refine l_g (j := 6) rfl rfl (by decide) (r_loado Try.underlying26 rfl rfl (by repeat constructor) (by rfl)).q ?_
      refine l_g (j := 6) rfl rfl (by decide) (q_call call_31 rfl (fun w hs => prodl_ok x.A (some ⟨x22.1, 0, none⟩) x.c X.g.n x.r.body X.g.n (pP X) (by omega) (by show X.nts.length ≤ 1000; omega) (fun y hy h0 => ok.nt_lt (rule_mem hx) hy h0) w ((hs.facts (Bd X.xs) (by repeat constructor)).1 k x hx) (hs.facts (Sl 1 boolF (some ⟨x22.1, 0, none⟩) (Ana.mkl X.g.n (Ana.pn X.g true))) (by repeat constructor)).1)) ?_
      refine l_g (j := 6) rfl rfl (by decide) (p_not rfl).q ?_
      refine l_q (by decide) (p_pick rfl rfl).q ?_
      refine l_nil ?_
      refine c_cond rfl (fun h84 => ?_) (fun h84 => ?_)
      ·skip
       refine c_exit ?_
       refine c_here ?_
       refine c_reg ?_
       refine l_q (by decide) (p_move rfl).q ?_
       refine l_q (by decide) (p_add (j := 1) rfl rfl rfl rfl (by show _ ≤ (9223372036854775807 : Nat); omega)).q ?_
       refine l_q (by decide) (p_assign rfl).q ?_
       refine l_nil ?_
       (refine c_drop (x := iCells b13 _ _) ?_)
       refine c_join ((k + 1), (ys), (A1), (c1), (fr), (A2), (c2)) ?_ ?_ ?_ ?_
       ·show ((k + 1) ≤ X.xs.length ∧ List.map XR.r (ys) = redR X (X.xs.take (k + 1)) ∧ (fr).length ≤ (k + 1) ∧ ∀ zz : XR, zz ∈ (ys) → zz.r.body.length ≤ zz.c ∧ ∀ a, zz.A = some a → lo ≤ a.block) ∧ X.xs.length - (k + 1) < X.xs.length - k
        refine ⟨⟨by omega, ?_, by omega, hJ4⟩, by omega⟩
        rw [take_at hx, redR_no (by rw [stays_eq]; have h5 : Ana.allG true (pP X) x.r.body = false := (by simpa using h84); simp [h5])]
        exact hJ2
       · exact ⟨rfl, rfl, rfl, rfl, rfl, rfl, rfl, rfl, rfl, trivial⟩
       ·show List.Perm _ ([iSl 49 3 ruF (A1) (c1) (ys), iSl 3 1 intF (A2) (c2) (fr), iCells b2 25 [.slice none 0 0, .slice none 0 0, .int .i64 0, .slice none 0 0], iCells b1 25 [.slice X.At X.terms.length X.ct, .slice X.An X.nts.length X.cn, .int .i64 X.start, .slice X.Ar X.xs.length X.cr]])
        repeat (first | exact List.Perm.refl _ | refine List.Perm.cons _ ?_ | refine (front1 _ _ _).trans (List.Perm.cons _ ?_) | refine (front2 _ _ _ _).trans (List.Perm.cons _ ?_) | refine (front3 _ _ _ _ _).trans (List.Perm.cons _ ?_) | refine (front4 _ _ _ _ _ _).trans (List.Perm.cons _ ?_))
       · exact fun _ h => h
      ·skip
       have hUh : us X.g x.r.head.toNat = true := by simpa using h78
       have hall : Ana.allG true (pP X) x.r.body = true := by simpa using h84
       have hst : stays (us X.g) (pP X) x.r = true := by rw [stays_eq, hUh, hall]; rfl
       have hU := us_useful.closed _ (rule_mem hx) hst
       refine c_skip ?_
       refine c_seq ?_
       refine c_reg ?_
       refine l_q (by decide) (p_assign rfl).q ?_
       refine l_nil ?_
       refine c_seq ?_
       refine c_seq ?_
       refine c_reg ?_
       refine l_q (by decide) (p_assign (v := .int .i64 ((0 : Nat) : Int)) rfl).q ?_
       refine l_nil ?_
       refine c_block ?_
       refine c_sl0 3 1 intF ?_
       refine c_loop (S := Nat × Option Addr × Nat) (fun zs => zs.1 ≤ x.r.body.length) (fun zs => x.r.body.length - zs.1) (fun zs => [(1, .pointer (some ⟨b1, 0, none⟩)), (2, .pointer (some ⟨b2, 0, none⟩)), (5, .slice (some ⟨x22.1, 0, none⟩) X.g.n X.g.n), (6, .slice (some ⟨x31.1, 0, none⟩) X.g.n X.g.n), (7, .slice (some ⟨b35, 0, none⟩) X.nts.length X.nts.length), (8, .slice A0 nm.length c0), (10, .slice A1 ys.length c1), (11, .slice A2 fr.length c2), (12, .int .i64 (k : Int)), (13, .pointer (some ⟨b13, 0, none⟩)), (14, .slice zs.2.1 ((x.r.body.take zs.1).map (Rec.ren (us X.g))).length zs.2.2), (15, .int .i64 (zs.1 : Int))]) (fun zs => [iSl 3 1 intF zs.2.1 zs.2.2 ((x.r.body.take zs.1).map (Rec.ren (us X.g))), iCells b13 49 (ruF x), iSl 49 3 ruF A1 c1 ys, iSl 3 1 intF A2 c2 fr, iCells b2 25 [.slice none 0 0, .slice none 0 0, .int .i64 0, .slice none 0 0], iCells b1 25 [.slice X.At X.terms.length X.ct, .slice X.An X.nts.length X.cn, .int .i64 X.start, .slice X.Ar X.xs.length X.cr]]) (fun zs => (Bd ys :: ((iCells b35 3 (il X.nts.length (numf (us X.g) X.nts.length))).holds :: Sl 1 strF A0 nm :: (Sl 1 boolF (some ⟨x31.1, 0, none⟩) (Ana.mkl X.g.n (us X.g)) :: Sl 1 boolF (some ⟨x22.1, 0, none⟩) (Ana.mkl X.g.n (Ana.pn X.g true)) :: [Bd X.xs, Sl 3 ruF X.Ar X.xs, Sl 1 strF X.An X.nts, Sl 1 strF X.At X.terms])))) (0, none, 0) ?_ ?_ ?_ ?_ ?_
       · show (0) ≤ x.r.body.length
         exact Nat.zero_le _
       · exact ⟨rfl, rfl, rfl, rfl, rfl, rfl, rfl, rfl, rfl, rfl, rfl, rfl, trivial⟩
       · exact .refl _
       · exact fun _ h => h
       rintro ⟨j, A3, c3⟩ hinv
       have hinv : j ≤ x.r.body.length := hinv
       have hj := hinv
       show Cont _ _ _ _ [(1, .pointer (some ⟨b1, 0, none⟩)), (2, .pointer (some ⟨b2, 0, none⟩)), (5, .slice (some ⟨x22.1, 0, none⟩) X.g.n X.g.n), (6, .slice (some ⟨x31.1, 0, none⟩) X.g.n X.g.n), (7, .slice (some ⟨b35, 0, none⟩) X.nts.length X.nts.length), (8, .slice A0 nm.length c0), (10, .slice A1 ys.length c1), (11, .slice A2 fr.length c2), (12, .int .i64 (k : Int)), (13, .pointer (some ⟨b13, 0, none⟩)), (14, .slice A3 ((x.r.body.take j).map (Rec.ren (us X.g))).length c3), (15, .int .i64 (j : Int))] ([iSl 3 1 intF A3 c3 ((x.r.body.take j).map (Rec.ren (us X.g))), iCells b13 49 (ruF x), iSl 49 3 ruF A1 c1 ys, iSl 3 1 intF A2 c2 fr, iCells b2 25 [.slice none 0 0, .slice none 0 0, .int .i64 0, .slice none 0 0], iCells b1 25 [.slice X.At X.terms.length X.ct, .slice X.An X.nts.length X.cn, .int .i64 X.start, .slice X.Ar X.xs.length X.cr]]) (Bd ys :: ((iCells b35 3 (il X.nts.length (numf (us X.g) X.nts.length))).holds :: Sl 1 strF A0 nm :: (Sl 1 boolF (some ⟨x31.1, 0, none⟩) (Ana.mkl X.g.n (us X.g)) :: Sl 1 boolF (some ⟨x22.1, 0, none⟩) (Ana.mkl X.g.n (Ana.pn X.g true)) :: [Bd X.xs, Sl 3 ruF X.Ar X.xs, Sl 1 strF X.An X.nts, Sl 1 strF X.At X.terms])))
       refine c_seq ?_
       refine c_seq ?_
       refine c_reg ?_
       refine l_q (by decide) (p_move rfl).q ?_
       refine l_q (by decide) (p_faddro (i := 1) 1 Try.underlying49 rfl inf_26 (by decide) rfl rfl).q ?_
       refine l_q (by decide) (r_loado Try.underlying26 rfl rfl (by repeat constructor) (by rfl)).q ?_
       refine l_q (by decide) (p_len_sl Try.underlying26 rfl).q ?_
       refine l_q (by decide) (p_lss rfl rfl rfl rfl).q ?_
       refine l_nil ?_
       refine c_dec rfl (fun h89 => ?_) (fun h89 => ?_)
       ·skip
        obtain ⟨y, hy⟩ := at_some (l := x.r.body) (n := j) (by omega)
        refine c_skip ?_
        refine c_seq ?_
        refine c_block ?_
        refine c_seq ?_
        refine c_reg ?_
        refine l_q (by decide) (p_faddro (i := 1) 1 Try.underlying49 rfl inf_26 (by decide) rfl rfl).q ?_
        refine l_q (by decide) (r_loado Try.underlying26 rfl rfl (by repeat constructor) (by rfl)).q ?_
        refine l_q (by decide) (p_move rfl).q ?_
        refine l_q (by decide) (r_index Try.underlying26 inf_3 rfl rfl rfl (by exact SlIn.body (xs := X.xs) (by repeat constructor) (by assumption)) rfl (by omega)).q ?_
        refine l_q (by decide) (r_load1 Try.underlying3 rfl rfl (by exact SlIn.body (xs := X.xs) (by repeat constructor) (by assumption)) (by assumption) (by rfl)).q ?_
        refine l_q (by decide) (p_assign rfl).q ?_
        refine l_nil ?_
        refine c_seq ?_
        refine c_seq ?_
        refine c_reg ?_
        refine l_q (by decide) (p_move rfl).q ?_
        refine l_q (by decide) (p_lssi rfl rfl).q ?_
        refine l_nil ?_
        refine c_meetn (S := Unit) (fun zs => True) (fun zs => [(1, .pointer (some ⟨b1, 0, none⟩)), (2, .pointer (some ⟨b2, 0, none⟩)), (5, .slice (some ⟨x22.1, 0, none⟩) X.g.n X.g.n), (6, .slice (some ⟨x31.1, 0, none⟩) X.g.n X.g.n), (7, .slice (some ⟨b35, 0, none⟩) X.nts.length X.nts.length), (8, .slice A0 nm.length c0), (10, .slice A1 ys.length c1), (11, .slice A2 fr.length c2), (12, .int .i64 (k : Int)), (13, .pointer (some ⟨b13, 0, none⟩)), (14, .slice A3 ((x.r.body.take j).map (Rec.ren (us X.g))).length c3), (15, .int .i64 (j : Int)), (16, .int .i64 (Rec.ren (us X.g) y))]) (fun zs => [iSl 3 1 intF A3 c3 ((x.r.body.take j).map (Rec.ren (us X.g))), iCells b13 49 (ruF x), iSl 49 3 ruF A1 c1 ys, iSl 3 1 intF A2 c2 fr, iCells b2 25 [.slice none 0 0, .slice none 0 0, .int .i64 0, .slice none 0 0], iCells b1 25 [.slice X.At X.terms.length X.ct, .slice X.An X.nts.length X.cn, .int .i64 X.start, .slice X.Ar X.xs.length X.cr]]) (fun zs => (Bd ys :: ((iCells b35 3 (il X.nts.length (numf (us X.g) X.nts.length))).holds :: Sl 1 strF A0 nm :: (Sl 1 boolF (some ⟨x31.1, 0, none⟩) (Ana.mkl X.g.n (us X.g)) :: Sl 1 boolF (some ⟨x22.1, 0, none⟩) (Ana.mkl X.g.n (Ana.pn X.g true)) :: [Bd X.xs, Sl 3 ruF X.Ar X.xs, Sl 1 strF X.An X.nts, Sl 1 strF X.At X.terms])))) ?_ ?_
        ·skip
         refine c_dec rfl (fun h98 => ?_) (fun h98 => ?_)
         ·skip
          have hn2 : Ana.nt y < X.nts.length := ok.nt_lt (rule_mem hx) (List.mem_of_getElem? hy) h98
          have hUy := hU y (List.mem_of_getElem? hy) h98
          have hncs : Ana.nt y = (-1 - y).toNat := rfl
          have hnum := num_self (us X.g) (Ana.nt y)
          refine c_reg ?_
          refine l_q (by decide) (p_move rfl).q ?_
          refine l_q (by decide) (p_move rfl).q ?_
          refine l_q (by decide) (((p_subi rfl rfl (by show (-9223372036854775808 : Int) ≤ _; omega) (by show _ ≤ ((9223372036854775807 : Nat) : Int); omega))).to (u := .int .i64 ((Ana.nt y : Nat) : Int)) (by rw [Ana.nt_cast h98])).q ?_
          refine l_q (by decide) (p_indexo Try.underlying26 inf_3 rfl rfl rfl (by omega)).q ?_
          refine l_q (by decide) (((r_loadq (q := (iCells b35 3 (il X.nts.length (numf (us X.g) X.nts.length))).holds) Try.underlying3 rfl rfl (by repeat constructor) (fun w h => (cells_cell h _).trans (il_at hn2)))).to (u := .int .i64 ((Rec.num (us X.g) (Ana.nt y) : Nat) : Int)) (by rw [numf_at hn2 hUy])).q ?_
          refine l_q (by decide) (((p_subi rfl rfl (by show (-9223372036854775808 : Int) ≤ _; omega) (by show _ ≤ ((9223372036854775807 : Nat) : Int); omega))).to (u := .int .i64 (Rec.ren (us X.g) y)) (by rw [ren_neg h98])).q ?_
          refine l_q (by decide) (p_assign rfl).q ?_
          refine l_nil ?_
          refine c_join (()) ?inv ?sub ?perm ?facts
          case sub => exact ⟨rfl, rfl, rfl, rfl, rfl, rfl, rfl, rfl, rfl, rfl, rfl, rfl, (rfl), trivial⟩
          case perm =>
           exact .refl _
          case facts => exact fun _ h => h
          case inv =>
           trivial
         ·skip
          refine c_skip ?_
          refine c_join (()) ?inv ?sub ?perm ?facts
          case sub => exact ⟨rfl, rfl, rfl, rfl, rfl, rfl, rfl, rfl, rfl, rfl, rfl, rfl, (by rw [ren_pos (by omega)]; rfl), trivial⟩
          case perm =>
           exact .refl _
          case facts => exact fun _ h => h
          case inv =>
           trivial
        rintro uu hmeet
        show Cont _ _ _ _ [(1, .pointer (some ⟨b1, 0, none⟩)), (2, .pointer (some ⟨b2, 0, none⟩)), (5, .slice (some ⟨x22.1, 0, none⟩) X.g.n X.g.n), (6, .slice (some ⟨x31.1, 0, none⟩) X.g.n X.g.n), (7, .slice (some ⟨b35, 0, none⟩) X.nts.length X.nts.length), (8, .slice A0 nm.length c0), (10, .slice A1 ys.length c1), (11, .slice A2 fr.length c2), (12, .int .i64 (k : Int)), (13, .pointer (some ⟨b13, 0, none⟩)), (14, .slice A3 ((x.r.body.take j).map (Rec.ren (us X.g))).length c3), (15, .int .i64 (j : Int)), (16, .int .i64 (Rec.ren (us X.g) y))] ([iSl 3 1 intF A3 c3 ((x.r.body.take j).map (Rec.ren (us X.g))), iCells b13 49 (ruF x), iSl 49 3 ruF A1 c1 ys, iSl 3 1 intF A2 c2 fr, iCells b2 25 [.slice none 0 0, .slice none 0 0, .int .i64 0, .slice none 0 0], iCells b1 25 [.slice X.At X.terms.length X.ct, .slice X.An X.nts.length X.cn, .int .i64 X.start, .slice X.Ar X.xs.length X.cr]]) (Bd ys :: ((iCells b35 3 (il X.nts.length (numf (us X.g) X.nts.length))).holds :: Sl 1 strF A0 nm :: (Sl 1 boolF (some ⟨x31.1, 0, none⟩) (Ana.mkl X.g.n (us X.g)) :: Sl 1 boolF (some ⟨x22.1, 0, none⟩) (Ana.mkl X.g.n (Ana.pn X.g true)) :: [Bd X.xs, Sl 3 ruF X.Ar X.xs, Sl 1 strF X.An X.nts, Sl 1 strF X.At X.terms])))
        refine c_reg ?_
        refine l_q (by decide) (p_move rfl).q ?_
        refine l_q (by decide) (p_move rfl).q ?_
        refine l_buildSlice (by decide) Try.underlying26 inf_3 (by decide) (by decide) rfl rfl rfl rfl (fun b107 => ?_)
        (refine l_append1 (Rec.ren (us X.g) y) (by decide) Try.underlying26 inf_3 rfl (by decide) rfl rfl rfl rfl rfl rfl (by simp only [List.length_map, List.length_take]; omega) (by simp only [List.length_map, List.length_take]; omega) (fun A108 c108 hA108 => ?_))
        refine l_q (by decide) (p_assign rfl).q ?_
        refine l_nil ?_
        refine c_reg ?_
        refine l_q (by decide) (p_move rfl).q ?_
        refine l_q (by decide) (p_add (j := 1) rfl rfl rfl rfl (by show _ ≤ (9223372036854775807 : Nat); omega)).q ?_
        refine l_q (by decide) (p_assign rfl).q ?_
        refine l_nil ?_
        refine c_join ((j + 1), (A108), (c108)) ?_ ?_ ?_ ?_
        ·show ((j + 1) ≤ x.r.body.length) ∧ x.r.body.length - (j + 1) < x.r.body.length - j
         exact ⟨by omega, by omega⟩
        · exact ⟨rfl, rfl, rfl, rfl, rfl, rfl, rfl, rfl, rfl, rfl, (by rw [take_at hy, List.map_append]; rfl), rfl, trivial⟩
        ·show List.Perm _ ([iSl 3 1 intF (A108) (c108) ((x.r.body.take (j + 1)).map (Rec.ren (us X.g))), iCells b13 49 (ruF x), iSl 49 3 ruF A1 c1 ys, iSl 3 1 intF A2 c2 fr, iCells b2 25 [.slice none 0 0, .slice none 0 0, .int .i64 0, .slice none 0 0], iCells b1 25 [.slice X.At X.terms.length X.ct, .slice X.An X.nts.length X.cn, .int .i64 X.start, .slice X.Ar X.xs.length X.cr]])
         rw [take_at hy, List.map_append]
         exact .refl _
        · exact fun _ h => h
       ·skip
        refine c_exit ?_
        refine c_here ?_
        obtain rfl : j = x.r.body.length := by omega
        rw [List.take_length]
        refine c_pure (p := (x.r.body.map (Rec.ren (us X.g))).length ≤ c3 ∧ ∀ a, A3 = some a → lo ≤ a.block) (fun w hs => by have := hs.row_new (e := 3) (size := 1) (f := intF) (es := x.r.body.map (Rec.ren (us X.g))) (A := A3) (c := c3) (by repeat constructor); exact ⟨this.1, by rw [hlo]; exact this.2⟩) (fun hbc => ?_)
        refine c_sealr (by decide) (fun _ => rfl) ?_
        refine c_facts (Bd (ys ++ [(⟨renR (us X.g) x.r, A3, c3⟩ : XR)]) :: ((iCells b35 3 (il X.nts.length (numf (us X.g) X.nts.length))).holds :: Sl 1 strF A0 nm :: (Sl 1 boolF (some ⟨x31.1, 0, none⟩) (Ana.mkl X.g.n (us X.g)) :: Sl 1 boolF (some ⟨x22.1, 0, none⟩) (Ana.mkl X.g.n (Ana.pn X.g true)) :: [Bd X.xs, Sl 3 ruF X.Ar X.xs, Sl 1 strF X.An X.nts, Sl 1 strF X.At X.terms]))) (fun w hs => (bd_snoc (xs := ys) (x := (⟨renR (us X.g) x.r, A3, c3⟩ : XR)) hs (by repeat constructor) (by repeat constructor)).weak (fun q hq => by
          rcases List.mem_cons.1 hq with rfl | hq
          · exact List.mem_cons_self ..
          · exact List.mem_cons_of_mem _ (List.mem_cons_of_mem _ (List.mem_cons_of_mem _ hq)))) ?_
        refine c_perm (front2 _ _ _ _).symm ?_
        refine m_drawb [] [iCells b13 49 (ruF x), iCells b2 25 [.slice none 0 0, .slice none 0 0, .int .i64 0, .slice none 0 0], iCells b1 25 [.slice X.At X.terms.length X.ct, .slice X.An X.nts.length X.cn, .int .i64 X.start, .slice X.Ar X.xs.length X.cr]] mixed ?_
        refine m_takep 0 rfl (by kernel_rfl) (by decide) (p_move rfl) ?_
        refine m_takep 1 rfl (by kernel_rfl) (by decide) (p_move rfl) ?_
        refine m_takep 2 rfl (by kernel_rfl) (by decide) (p_faddro (i := 0) 0 Try.underlying49 rfl inf_3 (by decide) rfl rfl) ?_
        refine m_take 3 rfl (by kernel_rfl) (by decide) (by exact (List.Perm.refl _ : List.Perm _ ([_, _] ++ _))) (by exact fun _ h => h) (((r_loado Try.underlying3 rfl rfl (by repeat constructor) (by rfl))).to (u := .int .i64 ((x.r.head.toNat : Nat) : Int)) (by rw [hh1])).r ?_
        refine m_takep 4 rfl (by kernel_rfl) (by decide) (p_indexo Try.underlying26 inf_3 rfl rfl rfl (by omega)) ?_
        refine m_take 5 rfl (by kernel_rfl) (by decide) (by exact (List.Perm.refl _ : List.Perm _ ([_, _] ++ _))) (by exact fun _ h => h) (((r_loadq (q := (iCells b35 3 (il X.nts.length (numf (us X.g) X.nts.length))).holds) Try.underlying3 rfl rfl (by repeat constructor) (fun w h => (cells_cell h _).trans (il_at hh2)))).to (u := .int .i64 ((Rec.num (us X.g) (x.r.head.toNat) : Nat) : Int)) (by rw [numf_at hh2 hUh])).r ?_
        refine m_takep 6 rfl (by kernel_rfl) (by decide) (p_move rfl) ?_
        refine m_takep 7 rfl (by kernel_rfl) (by decide) (p_faddro (i := 2) 2 Try.underlying49 rfl inf_3 (by decide) rfl rfl) ?_
        refine m_take 8 rfl (by kernel_rfl) (by decide) (by exact (List.Perm.refl _ : List.Perm _ ([_, _] ++ _))) (by exact fun _ h => h) (r_loado Try.underlying3 rfl rfl (by repeat constructor) (by rfl)).r ?_
        refine m_takep 9 rfl (by kernel_rfl) (by decide) (p_build (cells := #[_, _, _]) inf_49 pl_49 rfl rfl) ?_
        refine m_takep 12 rfl (by kernel_rfl) (by decide) (p_move rfl) ?_
        refine m_takep 13 rfl (by kernel_rfl) (by decide) (p_move rfl) ?_
        refine m_two 10 14 rfl rfl (by kernel_rfl) ?_ ?_
        ·skip
         refine l_buildSlice (by decide) Try.underlying23 inf_49 (by decide) (by decide) rfl rfl rfl rfl (fun b119 => ?_)
         refine l_nil ?_
         refine m_next _ (by exact (List.Perm.refl _ : List.Perm _ ([_, _, _] ++ _))) (by exact fun _ h => h) ?_
         refine m_two 11 14 rfl rfl (by kernel_rfl) ?_ ?_
         ·skip
          (refine l_append1 ((⟨renR (us X.g) x.r, A3, c3⟩ : XR)) (by decide) Try.underlying23 inf_49 rfl (by decide) rfl rfl rfl rfl rfl rfl (by omega) (by omega) (fun A120 c120 hA120 => ?_))
          refine l_nil ?_
          refine m_next _ (by exact (List.Perm.refl _ : List.Perm _ ([_, _] ++ _))) (by exact fun _ h => h) ?_
          refine m_run 14 rfl (by kernel_rfl) ?_
          refine l_buildSlice (by decide) Try.underlying26 inf_3 (by decide) (by decide) rfl rfl rfl rfl (fun b123 => ?_)
          refine l_nil ?_
          refine m_next _ (by exact (List.Perm.refl _ : List.Perm _ ([_, _, _] ++ _))) (by exact fun _ h => h) ?_
          refine m_run 15 rfl (by kernel_rfl) ?_
          (refine l_perm (.cons _ (front1 _ _ _)) ?_; refine l_append1 (((k : Nat) : Int)) (by decide) Try.underlying26 inf_3 rfl (by decide) rfl rfl rfl rfl rfl rfl (by omega) (by omega) (fun A124 c124 hA124 => ?_))
          refine l_nil ?_
          refine m_next _ (by exact (List.Perm.refl _ : List.Perm _ ([_, _] ++ _))) (by exact fun _ h => h) ?_
          refine m_takep 16 rfl (by kernel_rfl) (by decide) (p_assign rfl) ?_
          refine m_takep 17 rfl (by kernel_rfl) (by decide) (p_assign rfl) ?_
          refine m_done (by kernel_rfl) ?_
          refine c_reg ?_
          refine l_q (by decide) (p_move rfl).q ?_
          refine l_q (by decide) (p_add (j := 1) rfl rfl rfl rfl (by show _ ≤ (9223372036854775807 : Nat); omega)).q ?_
          refine l_q (by decide) (p_assign rfl).q ?_
          refine l_nil ?_
          (refine c_perm (front2 _ _ _ _) ?_; refine c_drop (x := iCells b13 _ _) ?_)
          refine c_join ((k + 1), (ys ++ [(⟨renR (us X.g) x.r, A3, c3⟩ : XR)]), (A120), (c120), (fr ++ [((k : Nat) : Int)]), (A124), (c124)) ?_ ?_ ?_ ?_
          ·show ((k + 1) ≤ X.xs.length ∧ List.map XR.r (ys ++ [(⟨renR (us X.g) x.r, A3, c3⟩ : XR)]) = redR X (X.xs.take (k + 1)) ∧ (fr ++ [((k : Nat) : Int)]).length ≤ (k + 1) ∧ ∀ zz : XR, zz ∈ (ys ++ [(⟨renR (us X.g) x.r, A3, c3⟩ : XR)]) → zz.r.body.length ≤ zz.c ∧ ∀ a, zz.A = some a → lo ≤ a.block) ∧ X.xs.length - (k + 1) < X.xs.length - k
           refine ⟨⟨by omega, ?_, by simp; omega, fun zz hz => ?_⟩, by omega⟩
           · rw [List.map_append, take_at hx, redR_yes hst, hJ2]; rfl
           · rcases List.mem_append.1 hz with h5 | h5
             · exact hJ4 zz h5
             · rw [List.mem_singleton.1 h5]; exact hbc
          · exact ⟨rfl, rfl, rfl, rfl, rfl, rfl, rfl, rfl, rfl, trivial⟩
          ·show List.Perm _ ([iSl 49 3 ruF (A120) (c120) (ys ++ [(⟨renR (us X.g) x.r, A3, c3⟩ : XR)]), iSl 3 1 intF (A124) (c124) (fr ++ [((k : Nat) : Int)]), iCells b2 25 [.slice none 0 0, .slice none 0 0, .int .i64 0, .slice none 0 0], iCells b1 25 [.slice X.At X.terms.length X.ct, .slice X.An X.nts.length X.cn, .int .i64 X.start, .slice X.Ar X.xs.length X.cr]])
           repeat (first | exact List.Perm.refl _ | refine List.Perm.cons _ ?_ | refine (front1 _ _ _).trans (List.Perm.cons _ ?_) | refine (front2 _ _ _ _).trans (List.Perm.cons _ ?_) | refine (front3 _ _ _ _ _).trans (List.Perm.cons _ ?_) | refine (front4 _ _ _ _ _ _).trans (List.Perm.cons _ ?_))
          · exact fun _ h => h
         ·skip
          refine l_buildSlice (by decide) Try.underlying26 inf_3 (by decide) (by decide) rfl rfl rfl rfl (fun b123 => ?_)
          refine l_nil ?_
          refine m_next _ (by exact (List.Perm.refl _ : List.Perm _ ([_, _, _, _] ++ _))) (by exact fun _ h => h) ?_
          refine m_run 11 rfl (by kernel_rfl) ?_
          (refine l_perm (front1 _ _ _) ?_; refine l_perm (.cons _ (front1 _ _ _)) ?_; refine l_append1 ((⟨renR (us X.g) x.r, A3, c3⟩ : XR)) (by decide) Try.underlying23 inf_49 rfl (by decide) rfl rfl rfl rfl rfl rfl (by omega) (by omega) (fun A120 c120 hA120 => ?_))
          refine l_nil ?_
          refine m_next _ (by exact (List.Perm.refl _ : List.Perm _ ([_, _, _] ++ _))) (by exact fun _ h => h) ?_
          refine m_run 15 rfl (by kernel_rfl) ?_
          (refine l_perm (front1 _ _ _) ?_; refine l_perm (.cons _ (front1 _ _ _)) ?_; refine l_append1 (((k : Nat) : Int)) (by decide) Try.underlying26 inf_3 rfl (by decide) rfl rfl rfl rfl rfl rfl (by omega) (by omega) (fun A124 c124 hA124 => ?_))
          refine l_nil ?_
          refine m_next _ (by exact (List.Perm.refl _ : List.Perm _ ([_, _] ++ _))) (by exact fun _ h => h) ?_
          refine m_takep 16 rfl (by kernel_rfl) (by decide) (p_assign rfl) ?_
          refine m_takep 17 rfl (by kernel_rfl) (by decide) (p_assign rfl) ?_
          refine m_done (by kernel_rfl) ?_
          refine c_reg ?_
          refine l_q (by decide) (p_move rfl).q ?_
          refine l_q (by decide) (p_add (j := 1) rfl rfl rfl rfl (by show _ ≤ (9223372036854775807 : Nat); omega)).q ?_
          refine l_q (by decide) (p_assign rfl).q ?_
          refine l_nil ?_
          (refine c_perm (front2 _ _ _ _) ?_; refine c_drop (x := iCells b13 _ _) ?_)
          refine c_join ((k + 1), (ys ++ [(⟨renR (us X.g) x.r, A3, c3⟩ : XR)]), (A120), (c120), (fr ++ [((k : Nat) : Int)]), (A124), (c124)) ?_ ?_ ?_ ?_
          ·show ((k + 1) ≤ X.xs.length ∧ List.map XR.r (ys ++ [(⟨renR (us X.g) x.r, A3, c3⟩ : XR)]) = redR X (X.xs.take (k + 1)) ∧ (fr ++ [((k : Nat) : Int)]).length ≤ (k + 1) ∧ ∀ zz : XR, zz ∈ (ys ++ [(⟨renR (us X.g) x.r, A3, c3⟩ : XR)]) → zz.r.body.length ≤ zz.c ∧ ∀ a, zz.A = some a → lo ≤ a.block) ∧ X.xs.length - (k + 1) < X.xs.length - k
           refine ⟨⟨by omega, ?_, by simp; omega, fun zz hz => ?_⟩, by omega⟩
           · rw [List.map_append, take_at hx, redR_yes hst, hJ2]; rfl
           · rcases List.mem_append.1 hz with h5 | h5
             · exact hJ4 zz h5
             · rw [List.mem_singleton.1 h5]; exact hbc
          · exact ⟨rfl, rfl, rfl, rfl, rfl, rfl, rfl, rfl, rfl, trivial⟩
          ·show List.Perm _ ([iSl 49 3 ruF (A120) (c120) (ys ++ [(⟨renR (us X.g) x.r, A3, c3⟩ : XR)]), iSl 3 1 intF (A124) (c124) (fr ++ [((k : Nat) : Int)]), iCells b2 25 [.slice none 0 0, .slice none 0 0, .int .i64 0, .slice none 0 0], iCells b1 25 [.slice X.At X.terms.length X.ct, .slice X.An X.nts.length X.cn, .int .i64 X.start, .slice X.Ar X.xs.length X.cr]])
           repeat (first | exact List.Perm.refl _ | refine List.Perm.cons _ ?_ | refine (front1 _ _ _).trans (List.Perm.cons _ ?_) | refine (front2 _ _ _ _).trans (List.Perm.cons _ ?_) | refine (front3 _ _ _ _ _).trans (List.Perm.cons _ ?_) | refine (front4 _ _ _ _ _ _).trans (List.Perm.cons _ ?_))
          · exact fun _ h => h
        ·skip
         refine l_buildSlice (by decide) Try.underlying26 inf_3 (by decide) (by decide) rfl rfl rfl rfl (fun b123 => ?_)
         refine l_nil ?_
         refine m_next _ (by exact (List.Perm.refl _ : List.Perm _ ([_, _, _] ++ _))) (by exact fun _ h => h) ?_
         refine m_run 10 rfl (by kernel_rfl) ?_
         refine l_buildSlice (by decide) Try.underlying23 inf_49 (by decide) (by decide) rfl rfl rfl rfl (fun b119 => ?_)
         refine l_nil ?_
         refine m_next _ (by exact (List.Perm.refl _ : List.Perm _ ([_, _, _, _] ++ _))) (by exact fun _ h => h) ?_
         refine m_run 11 rfl (by kernel_rfl) ?_
         (refine l_perm (.cons _ (front1 _ _ _)) ?_; refine l_append1 ((⟨renR (us X.g) x.r, A3, c3⟩ : XR)) (by decide) Try.underlying23 inf_49 rfl (by decide) rfl rfl rfl rfl rfl rfl (by omega) (by omega) (fun A120 c120 hA120 => ?_))
         refine l_nil ?_
         refine m_next _ (by exact (List.Perm.refl _ : List.Perm _ ([_, _, _] ++ _))) (by exact fun _ h => h) ?_
         refine m_run 15 rfl (by kernel_rfl) ?_
         (refine l_perm (front1 _ _ _) ?_; refine l_perm (.cons _ (front1 _ _ _)) ?_; refine l_append1 (((k : Nat) : Int)) (by decide) Try.underlying26 inf_3 rfl (by decide) rfl rfl rfl rfl rfl rfl (by omega) (by omega) (fun A124 c124 hA124 => ?_))
         refine l_nil ?_
         refine m_next _ (by exact (List.Perm.refl _ : List.Perm _ ([_, _] ++ _))) (by exact fun _ h => h) ?_
         refine m_takep 16 rfl (by kernel_rfl) (by decide) (p_assign rfl) ?_
         refine m_takep 17 rfl (by kernel_rfl) (by decide) (p_assign rfl) ?_
         refine m_done (by kernel_rfl) ?_
         refine c_reg ?_
         refine l_q (by decide) (p_move rfl).q ?_
         refine l_q (by decide) (p_add (j := 1) rfl rfl rfl rfl (by show _ ≤ (9223372036854775807 : Nat); omega)).q ?_
         refine l_q (by decide) (p_assign rfl).q ?_
         refine l_nil ?_
         (refine c_perm (front2 _ _ _ _) ?_; refine c_drop (x := iCells b13 _ _) ?_)
         refine c_join ((k + 1), (ys ++ [(⟨renR (us X.g) x.r, A3, c3⟩ : XR)]), (A120), (c120), (fr ++ [((k : Nat) : Int)]), (A124), (c124)) ?_ ?_ ?_ ?_
         ·show ((k + 1) ≤ X.xs.length ∧ List.map XR.r (ys ++ [(⟨renR (us X.g) x.r, A3, c3⟩ : XR)]) = redR X (X.xs.take (k + 1)) ∧ (fr ++ [((k : Nat) : Int)]).length ≤ (k + 1) ∧ ∀ zz : XR, zz ∈ (ys ++ [(⟨renR (us X.g) x.r, A3, c3⟩ : XR)]) → zz.r.body.length ≤ zz.c ∧ ∀ a, zz.A = some a → lo ≤ a.block) ∧ X.xs.length - (k + 1) < X.xs.length - k
          refine ⟨⟨by omega, ?_, by simp; omega, fun zz hz => ?_⟩, by omega⟩
          · rw [List.map_append, take_at hx, redR_yes hst, hJ2]; rfl
          · rcases List.mem_append.1 hz with h5 | h5
            · exact hJ4 zz h5
            · rw [List.mem_singleton.1 h5]; exact hbc
         · exact ⟨rfl, rfl, rfl, rfl, rfl, rfl, rfl, rfl, rfl, trivial⟩
         ·show List.Perm _ ([iSl 49 3 ruF (A120) (c120) (ys ++ [(⟨renR (us X.g) x.r, A3, c3⟩ : XR)]), iSl 3 1 intF (A124) (c124) (fr ++ [((k : Nat) : Int)]), iCells b2 25 [.slice none 0 0, .slice none 0 0, .int .i64 0, .slice none 0 0], iCells b1 25 [.slice X.At X.terms.length X.ct, .slice X.An X.nts.length X.cn, .int .i64 X.start, .slice X.Ar X.xs.length X.cr]])
          repeat (first | exact List.Perm.refl _ | refine List.Perm.cons _ ?_ | refine (front1 _ _ _).trans (List.Perm.cons _ ?_) | refine (front2 _ _ _ _).trans (List.Perm.cons _ ?_) | refine (front3 _ _ _ _ _).trans (List.Perm.cons _ ?_) | refine (front4 _ _ _ _ _ _).trans (List.Perm.cons _ ?_))
         · exact fun _ h => h
    ·skip
     refine c_exit ?_
     refine c_here ?_
     refine c_seq ?_
     refine m_draw [13] mixed ?_
     refine m_takep 1 rfl (by kernel_rfl) (by decide) (p_faddro (i := 0) 0 Try.underlying25 rfl inf_22 (by decide) rfl rfl) ?_
     refine m_take 2 rfl (by kernel_rfl) (by decide) (by exact (List.Perm.refl _ : List.Perm _ ([] ++ _))) (by exact fun _ h => h) (r_loado Try.underlying22 rfl rfl (by repeat constructor) (by rfl)).r ?_
     refine m_takep 4 rfl (by kernel_rfl) (by decide) (p_move rfl) ?_
     refine m_takep 5 rfl (by kernel_rfl) (by decide) (p_move rfl) ?_
     refine m_takep 6 rfl (by kernel_rfl) (by decide) (p_faddro (i := 2) 2 Try.underlying25 rfl inf_3 (by decide) rfl rfl) ?_
     refine m_take 7 rfl (by kernel_rfl) (by decide) (by exact (List.Perm.refl _ : List.Perm _ ([] ++ _))) (by exact fun _ h => h) (((r_loado Try.underlying3 rfl rfl (by repeat constructor) (by rfl))).to (u := .int .i64 ((X.g.start.toNat : Nat) : Int)) (by rw [hst1])).r ?_
     refine m_takep 8 rfl (by kernel_rfl) (by decide) (p_indexo Try.underlying26 inf_3 rfl rfl rfl (by omega)) ?_
     refine m_take 9 rfl (by kernel_rfl) (by decide) (by exact (List.Perm.refl _ : List.Perm _ ([] ++ _))) (by exact fun _ h => h) (((r_loadq (q := (iCells b35 3 (il X.nts.length (numf (us X.g) X.nts.length))).holds) Try.underlying3 rfl rfl (by repeat constructor) (fun w h => (cells_cell h _).trans (il_at hst2)))).to (u := .int .i64 ((Rec.num (us X.g) (X.g.start.toNat) : Nat) : Int)) (by rw [numf_at hst2 hUs])).r ?_
     refine m_takep 10 rfl (by kernel_rfl) (by decide) (p_move rfl) ?_
     refine m_takep 12 rfl (by kernel_rfl) (by decide) (p_move rfl) ?_
     refine m_run 0 rfl (by kernel_rfl) ?_
     refine l_buildSlice0 (by decide) Try.underlying22 inf_9 (fun b125 => ?_)
     refine l_nil ?_
     refine m_next _ (by exact (List.Perm.refl _ : List.Perm _ ([_] ++ _))) (by exact fun _ h => h) ?_
     refine m_run 3 rfl (by kernel_rfl) ?_
     refine l_rowc (e := 9) (size := 1) strF [] rfl rfl (by decide) ?_
     refine l_appendsl (f := strF) X.terms (by decide) Try.underlying22 inf_9 rfl (by decide) rfl rfl rfl rfl (by repeat constructor) (fun e u h => by rw [List.mem_singleton.1 h]; rfl) (by simp only [List.length_nil]; omega) (by simp only [List.length_nil]; omega) (fun A128 c128 => ?_)
     refine l_nil ?_
     refine m_next _ (by exact (List.Perm.refl _ : List.Perm _ ([_] ++ _))) (by exact fun _ h => h) ?_
     refine m_takep 11 rfl (by kernel_rfl) (by decide) (p_build (cells := #[_, _, _, _]) inf_25 pl_25 rfl rfl) ?_
     refine m_run 13 rfl (by kernel_rfl) ?_
     (refine l_perm (front3 _ _ _ _ _) ?_; refine l_storew inf_25 rfl rfl rfl rfl rfl ?_)
     refine l_nil ?_
     refine m_late rfl ?_
     refine m_takep 14 rfl (by kernel_rfl) (by decide) (p_assign rfl) ?_
     refine m_takep 15 rfl (by kernel_rfl) (by decide) (p_assign (v := .int .i64 ((0 : Nat) : Int)) rfl) ?_
     refine m_done (by kernel_rfl) ?_
     refine c_ret ?_
     refine c_retcw3 rfl rfl rfl rfl Try.underlying25 rfl inf_25 (by repeat constructor) (by rfl) (fun w hs => ?_)
     obtain rfl : k = X.xs.length := by omega
     rw [List.take_length] at hJ2
     have g1 := hs.give (e := 9) (size := 1) (f := strF) (es := [] ++ X.terms) (A := A128) (c := c128) (by repeat constructor) (by decide) (fun _ => rfl)
     have g2 := hs.give (e := 49) (size := 3) (f := ruF) (es := ys) (A := A1) (c := c1) (by repeat constructor) (by decide) len_ruF
     have g3 := (hs.facts (Sl 1 strF A0 nm) (by repeat constructor)).1
     have g4 := (hs.facts (Bd ys) (by repeat constructor)).1
     rw [← hlo] at g1 g2
     have hyl : ys.length ≤ X.xs.length := by
       have h1 := congrArg List.length hJ2
       have h2 := redR_len (X := X) X.xs
       rw [List.length_map] at h1
       omega
     refine ⟨⟨⟨⟨A128, c128, X.terms, A0, c0, nm, ((Rec.num (us X.g) X.g.start.toNat : Nat) : Int), A1, c1, ys⟩, A2, fr.length, c2, 0⟩, fun _ => ⟨?_, ⟨hX.t, ?_, ?_, fun z hz => ⟨?_, (hJ4 z hz).1⟩⟩, Ana.dec_iff.1 (show Ana.pn X.g true X.g.start.toNat = true by simpa using h28)⟩, fun h => absurd rfl h⟩, rfl, ⟨g1.1, g3, g2.1, g4⟩, ?_, hs.ext⟩
     · show Ana.Gr.mk X.terms.length nm.length _ (ys.map XR.r) = _
       rw [hnm, hJ2]; rfl
     · show nm.length ≤ _; omega
     · show ys.length ≤ _; omega
     · have := redR_body ok (fun x h => h) hJ2 hz; omega
     · rw [← hlo]; exact dep_gi g1.2.1 (dep_sl2 (by decide) g3 hnmc.2) g2.2.1 (dep_bd2 g4 (fun x hx => (hJ4 x hx).2))
end Go.Proofs.Ytncagpppmaehhaa
