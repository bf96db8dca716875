/- The walks of edit scripts, fifth part; conditions: lengths. -/
import Derived.Test.YtlefheiohblgdaaDoorWalksD
namespace Go.Proofs.YtlefheiohblgdaaDoor
open Go Go.Fx Go.Proofs

def stk (I : Ed.In) (i : Nat) (ys : List Int) : Nat → List Ed.Stp
  | 1 => Ed.st1 I i ys
  | 2 => Ed.st2 I i
  | 3 => Ed.st3 I ys
  | 4 => Ed.st4 I i ys
  | _ => []
def kv (I : Ed.In) (i : Nat) (ys : List Int) (k : Nat) : Int := Ed.least ((stk I i ys k).map fun s => Ed.plus s.cost (Ed.C I (i + s.tok) (ys.drop s.emi)))
theorem kv_nil {I : Ed.In} {i k : Nat} {ys : List Int} (h : stk I i ys k = []) : kv I i ys k = 1099511627776 := by unfold kv; rw [h]; rfl
theorem kv_one {I : Ed.In} {i k : Nat} {ys : List Int} {s : Ed.Stp} (h : stk I i ys k = [s]) : kv I i ys k = Ed.plus s.cost (Ed.C I (i + s.tok) (ys.drop s.emi)) := by
  unfold kv; rw [h]
  show min Ed.inf (Ed.plus _ _) = _
  unfold Ed.plus; omega
def bst (I : Ed.In) (i : Nat) (ys : List Int) : Nat → Int
  | 0 => if i = I.cols.length ∧ ys = [] then 0 else 1099511627776
  | k + 1 => min (bst I i ys k) (kv I i ys (k + 1))
theorem foldl_min_app (l m : List Int) (a : Int) : (l ++ m).foldl min a = min (l.foldl min a) (m.foldl min Ed.inf) ∨ Ed.inf < a := by
  by_cases ha : a ≤ Ed.inf
  · left
    rw [List.foldl_append]
    have : ∀ (m : List Int) (b c : Int), b ≤ c → m.foldl min b = min b (m.foldl min c) := fun m => by
      induction m with
      | nil => intro b c h; show b = min b c; omega
      | cons x m ih =>
        intro b c h
        show m.foldl min (min b x) = min b (m.foldl min (min c x))
        rw [ih (min b x) (min c x) (by omega)]
        have h2 := (Ed.foldl_min_le m (min c x)).1
        have h3 : ∀ z : Int, m.foldl min (min c x) = z → z ≤ x := fun z hz => by omega
        have := h3 _ rfl
        omega
    have hl : l.foldl min a ≤ Ed.inf := Int.le_trans (Ed.foldl_min_le l a).1 ha
    exact this m _ _ hl
  · right; omega
theorem least_app (l m : List Int) : Ed.least (l ++ m) = min (Ed.least l) (Ed.least m) := by
  rcases foldl_min_app l m Ed.inf with h | h
  · exact h
  · omega
theorem steps_end {I : Ed.In} (i : Nat) (h : I.cols.length ≤ i) : Ed.steps I i [] = [] := by
  have h1 : I.cols[i]? = none := List.getElem?_eq_none h
  unfold Ed.steps Ed.st1 Ed.st2 Ed.st3 Ed.st4 Ed.swp
  rw [h1]; rfl
theorem bst_C {I : Ed.In} (i : Nat) (ys : List Int) (hi : i ≤ I.cols.length) : bst I i ys 4 = Ed.C I i ys := by
  have hall : Ed.least ((Ed.steps I i ys).map fun s => Ed.plus s.cost (Ed.C I (i + s.tok) (ys.drop s.emi))) = min (kv I i ys 1) (min (kv I i ys 2) (min (kv I i ys 3) (kv I i ys 4))) := by
    unfold Ed.steps; rw [List.map_append, List.map_append, List.map_append, least_app, least_app, least_app]; rfl
  have h0 : Ed.least ((Ed.steps I i ys).map fun s => Ed.plus s.cost (Ed.C I (i + s.tok) (ys.drop s.emi))) ≤ 1099511627776 := Ed.least_inf _
  rw [Ed.C_eq I i ys hi]
  show min (min (min (min (bst I i ys 0) (kv I i ys 1)) (kv I i ys 2)) (kv I i ys 3)) (kv I i ys 4) = _
  by_cases he : i = I.cols.length ∧ ys = []
  · rw [if_pos he]
    show min (min (min (min (if i = I.cols.length ∧ ys = [] then 0 else 1099511627776) (kv I i ys 1)) (kv I i ys 2)) (kv I i ys 3)) (kv I i ys 4) = _
    rw [if_pos he]
    obtain ⟨h1, rfl⟩ := he
    rw [steps_end i (by omega)] at hall
    have h2 : (Ed.inf : Int) = min (kv I i [] 1) (min (kv I i [] 2) (min (kv I i [] 3) (kv I i [] 4))) := hall
    unfold Ed.inf at h2
    omega
  · rw [if_neg he]
    show min (min (min (min (if i = I.cols.length ∧ ys = [] then 0 else 1099511627776) (kv I i ys 1)) (kv I i ys 2)) (kv I i ys 3)) (kv I i ys 4) = _
    rw [if_neg he, hall]
    rw [hall] at h0
    omega
def Tb (X : Inp) (y tb : List Int) (p q : Nat) : Prop := tb.length = (X.xs.length + 1) * (y.length + 1) ∧ ∀ a b, a ≤ X.xs.length → b ≤ y.length → (p ≤ a ∨ (p = a + 1 ∧ q ≤ b)) → tb[a * (y.length + 1) + b]? = some (Ed.C X.pl a (y.drop b))
theorem C_ok {X : Inp} (hO : Ed.Okin X.pl) {a : Nat} (ys : List Int) (h : a ≤ X.xs.length) : 0 ≤ Ed.C X.pl a ys ∧ Ed.C X.pl a ys ≤ 1099511627776 :=
  ⟨Ed.C_nonneg hO _ a ys (Nat.le_refl _) (by rw [pl_len]; exact h), Ed.C_le_inf X.pl a ys (by rw [pl_len]; exact h)⟩
theorem idx_lt {n m i j : Nat} (hi : i ≤ n) (hj : j ≤ m) : i * (m + 1) + j < (n + 1) * (m + 1) := by
  have := Nat.mul_le_mul_right (m + 1) hi
  rw [Nat.add_mul]; omega
theorem idx_inj {m a b i j : Nat} (hb : b ≤ m) (hj : j ≤ m) (h : a * (m + 1) + b = i * (m + 1) + j) : a = i ∧ b = j := by
  rcases Nat.lt_trichotomy a i with h2 | h2 | h2
  · have := Nat.mul_le_mul_right (m + 1) (show a + 1 ≤ i from h2); rw [Nat.add_mul] at this; omega
  · subst h2; exact ⟨rfl, by omega⟩
  · have := Nat.mul_le_mul_right (m + 1) (show i + 1 ≤ a from h2); rw [Nat.add_mul] at this; omega
theorem Tb.set {X : Inp} {y tb : List Int} {i j : Nat} (h : Tb X y tb (i + 1) (j + 1)) (hi : i ≤ X.xs.length) (hj : j ≤ y.length) : Tb X y (tb.set (i * (y.length + 1) + j) (Ed.C X.pl i (y.drop j))) (i + 1) j := by
  refine ⟨by rw [List.length_set]; exact h.1, fun a b ha hb hc => ?_⟩
  by_cases he : a * (y.length + 1) + b = i * (y.length + 1) + j
  · obtain ⟨rfl, rfl⟩ := idx_inj hb hj he
    rw [List.getElem?_set_self (by rw [h.1]; exact idx_lt ha hb)]
  · rw [List.getElem?_set_ne (fun e => he e.symm)]
    refine h.2 a b ha hb ?_
    rcases hc with hc | hc
    · exact .inl hc
    · by_cases hbj : b = j
      · subst hbj; have : a = i := by omega
        subst this; exact absurd rfl he
      · exact .inr ⟨hc.1, by omega⟩
theorem flat_set (tb : List Int) (k : Nat) (v : Int) : (tb.flatMap intF).set k (.int .i64 v) = (tb.set k v).flatMap intF := by
  induction tb generalizing k with
  | nil => rfl
  | cons x l ih => cases k with
    | zero => rfl
    | succ k => show Value.int .i64 x :: (l.flatMap intF).set k _ = Value.int .i64 x :: (l.set k v).flatMap intF; rw [ih]
theorem flat_repl (n : Nat) : List.replicate n (Value.int .i64 0) = (List.replicate n (0 : Int)).flatMap intF := by
  induction n with
  | zero => rfl
  | succ n ih => rw [List.replicate_succ, List.replicate_succ, ih]; rfl
theorem flat_len (tb : List Int) : (tb.flatMap intF).length = tb.length := by
  induction tb with
  | nil => rfl
  | cons x l ih => show (l.flatMap intF).length + 1 = _; rw [ih]; rfl
theorem SlIn.cells {α : Type} {w0 : World} {K : List Nat} {σ : Fx.Own} {ρ : Fx.Facts} {b e size : Nat} {f : α → List Value} {es : List α} (h : iCells b e (es.flatMap f) ∈ σ) (hf : ∀ x, (f x).length = size) : SlIn w0 K σ ρ size f (some ⟨b, 0, none⟩) es := fun _ hs => cells_sl hf (hs.own _ h).1
theorem drop2 (y : List Int) (a b : Nat) : (y.drop a).drop b = y.drop (a + b) := List.drop_drop
theorem drop_end {y : List Int} {j : Nat} (hj : j ≤ y.length) : y.drop j = [] ↔ j = y.length := by rw [List.drop_eq_nil_iff]; omega
theorem call_33 : Callable Tryd.prog 33 := ⟨_, Tryd.func33, by kernel_rfl, rfl⟩
theorem call_34 : Callable Tryd.prog 34 := ⟨_, Tryd.func34, by kernel_rfl, rfl⟩
theorem step_ok (X : Inp) (hX : X.small) (w : World) (hM : X.mem w) (hO : Ed.Okin X.pl) (hn : X.xs.length ≤ 1000) (C : Option Addr) (e : Nat) (y : List Int) (hl : y.length ≤ 1000) (hY : Sl 1 intF C y w) (hy : ∀ t, t ∈ y → 0 ≤ t ∧ t < X.ins.length) (T : Option Addr) (tc : Nat) (tb : List Int) (hT : Sl 1 intF T tb w) (i j k : Nat) (hi : i ≤ X.xs.length) (hj : j ≤ y.length) (hB : Tb X y tb (i + 1) (j + 1)) (hk1 : 1 ≤ k) (hk4 : k ≤ 4) :
   Calls Tryd.prog 37 #[.agg #[.slice X.A X.xs.length X.c, .slice X.B X.ins.length X.d, .int .i64 X.sw], .slice C y.length e, .slice T tb.length tc, .int .i64 ((y.length + 1 : Nat) : Int), .int .i64 (i : Int), .int .i64 (j : Int), .int .i64 (k : Int)] w (Ret fun v w' => v = .int .i64 (kv X.pl i (y.drop j) k) ∧ Ext [] w w') := by
 refine calls_fx (l := [.agg #[.slice X.A X.xs.length X.c, .slice X.B X.ins.length X.d, .int .i64 X.sw], .slice C y.length e, .slice T tb.length tc, .int .i64 ((y.length + 1 : Nat) : Int), .int .i64 (i : Int), .int .i64 (j : Int), .int .i64 (k : Int)]) Tryd.func37 rfl Tryd.ntmps37 (Nat.le_of_ble_eq_true rfl) (((X.start hM).old hY (dep_sl (by decide) hY)).old hT (dep_sl (by decide) hT)) ?_
 refine c_seq ?_
 have hxl := hX.xs
 have hil := hX.ins
 obtain ⟨x, hx0⟩ : ∃ x : XCol, i < X.xs.length → X.xs[i]? = some x := opt_at _ _ ⟨none, 0, ⟨0, [], 0⟩⟩
 obtain ⟨x2, hx20⟩ : ∃ x : XCol, i + 1 < X.xs.length → X.xs[i + 1]? = some x := opt_at _ _ ⟨none, 0, ⟨0, [], 0⟩⟩
 obtain ⟨t, hu0⟩ : ∃ t : Nat, j < y.length → y[j]? = some (t : Int) := by
   by_cases h : j < y.length
   · obtain ⟨u, hu⟩ := at_some h
     exact ⟨u.toNat, fun _ => by rw [hu, Int.toNat_of_nonneg (hy u (List.mem_of_getElem? hu)).1]⟩
   · exact ⟨0, fun h2 => absurd h2 h⟩
 obtain ⟨u2, hu20⟩ := opt_at y (j + 1) 0
 have htl : j < y.length → t < X.ins.length := fun h => by have := hy _ (List.mem_of_getElem? (hu0 h)); omega
 obtain ⟨q, hq0⟩ : ∃ q, j < y.length → X.ins[t]? = some q := by
   obtain ⟨q, hq⟩ := opt_at X.ins t 0
   exact ⟨q, fun h => hq (htl h)⟩
 obtain ⟨r, hr0⟩ : ∃ r, i < X.xs.length → j < y.length → x.o.read[t]? = some r := by
   obtain ⟨r, hr⟩ := opt_at x.o.read t 0
   refine ⟨r, fun h h2 => hr ?_⟩
   rw [(okin_cols hO x (List.mem_of_getElem? (hx0 h))).len]; exact htl h2
 have hm0 : i * (y.length + 1) ≤ 1002 * 1001 := Nat.mul_le_mul (by omega) (by omega)
 have hm1 : (i + 1) * (y.length + 1) ≤ 1002 * 1001 := Nat.mul_le_mul (by omega) (by omega)
 have hm2 : (i + 2) * (y.length + 1) ≤ 1002 * 1001 := Nat.mul_le_mul (by omega) (by omega)
 have hB1 : i + 1 ≤ X.xs.length → j + 1 ≤ y.length → tb[(i + 1) * (y.length + 1) + j + 1]? = some (Ed.C X.pl (i + 1) (y.drop (j + 1))) := fun h h2 => hB.2 (i + 1) (j + 1) h h2 (.inl (Nat.le_refl _))
 have hB2 : i + 1 ≤ X.xs.length → tb[(i + 1) * (y.length + 1) + j]? = some (Ed.C X.pl (i + 1) (y.drop j)) := fun h => hB.2 (i + 1) j h hj (.inl (Nat.le_refl _))
 have hB3 : j + 1 ≤ y.length → tb[i * (y.length + 1) + j + 1]? = some (Ed.C X.pl i (y.drop (j + 1))) := fun h => hB.2 i (j + 1) hi h (.inr ⟨rfl, Nat.le_refl _⟩)
 have hB4 : i + 2 ≤ X.xs.length → j + 2 ≤ y.length → tb[(i + 2) * (y.length + 1) + j + 2]? = some (Ed.C X.pl (i + 2) (y.drop (j + 2))) := fun h h2 => hB.2 (i + 2) (j + 2) h h2 (.inl (by omega))
 have hs0 : 0 ≤ X.sw := hO.s0
 have hs1 : X.sw ≤ 60000 := hO.s1
 refine c_reg ?_
 refine l_box (by decide) rfl _ rfl (fun b7 => ?_)
 refine l_q (by decide) (p_assign (v := .int .i64 ((0 : Nat) : Int)) rfl).q ?_
 refine l_nil ?_
 refine c_seq ?_
 refine c_reg ?_
 first | refine l_q (by decide) (p_faddr (i := 0) 0 Tryd.underlying25 rfl inf_22 (by decide) rfl rfl).q ?_ | refine l_q (by decide) (p_faddro (i := 0) 0 Tryd.underlying25 rfl inf_22 (by decide) rfl rfl).q ?_
 first | refine l_q (by decide) (r_loado Tryd.underlying22 rfl rfl (by repeat constructor) (by rfl)).q ?_ | refine l_q (by decide) (r_load1 Tryd.underlying22 rfl rfl (by first | exact .fact (by repeat constructor) | exact .own (by repeat constructor) (by decide) (fun _ => rfl) | exact SlIn.reads (by repeat constructor) (by assumption)) (by first | assumption | rfl) (by rfl)).q ?_ | refine l_q (by decide) (r_loadf Tryd.underlying22 rfl rfl (by first | exact .fact (by repeat constructor) | exact .own (by repeat constructor) (by decide) (fun _ => rfl) | exact SlIn.reads (by repeat constructor) (by assumption)) (by assumption) (by rfl)).q ?_
 refine l_q (by decide) (p_len_sl Tryd.underlying22 rfl).q ?_
 refine l_q (by decide) (p_assign rfl).q ?_
 refine l_nil ?_
 refine c_seq ?_
 refine c_block ?_
 refine c_seq ?_
 refine c_meetn (S := Unit) (fun zs => True) (fun zs => [(1, .slice C y.length e), (2, .slice T tb.length tc), (3, .int .i64 ((y.length + 1 : Nat) : Int)), (4, .int .i64 (i : Int)), (5, .int .i64 (j : Int)), (6, .int .i64 (k : Int)), (7, .pointer (some ⟨b7, 0, none⟩)), (15, .int .i64 (X.xs.length : Int)), (19, .bool (decide (k = 1 ∧ i < X.xs.length ∧ j < y.length ∧ 0 ≤ r)))]) (fun zs => [iCells b7 25 [.slice X.A X.xs.length X.c, .slice X.B X.ins.length X.d, .int .i64 X.sw]]) (fun zs => (Sl 1 intF T tb :: (Sl 1 intF C y :: [Rd X.xs, Sl 1 intF X.B X.ins, Sl 3 colF X.A X.xs]))) ?_ ?_
 ·skip
  refine c_draw mixed (by decide +kernel) ?_
  refine q_q (by decide) (p_move rfl).q ?_
  first | refine q_q (by decide) (p_eql (j := 1) rfl rfl rfl rfl).q ?_ | refine q_q (by decide) (p_eqli rfl rfl).q ?_
  refine q_q (by decide) (p_move rfl).q ?_
  first | refine q_splitd (t := 22) rfl (fun h22 => ?_) (fun h22 => ?_) | refine q_splitb (t := 22) rfl (fun h22 => ?_) (fun h22 => ?_)
  ·skip
   refine q_g (j := 2) rfl rfl (by decide) (p_move rfl).q ?_
   refine q_g (j := 2) rfl rfl (by decide) (p_move rfl).q ?_
   first | refine q_g (j := 2) rfl rfl (by decide) (p_lss rfl rfl rfl rfl).q ?_ | refine q_g (j := 2) rfl rfl (by decide) (p_lssi rfl rfl).q ?_
   refine q_q (by decide) (p_pick rfl rfl).q ?_
   refine q_q (by decide) (p_move rfl).q ?_
   first | refine q_splitd (t := 27) rfl (fun h27 => ?_) (fun h27 => ?_) | refine q_splitb (t := 27) rfl (fun h27 => ?_) (fun h27 => ?_)
   ·skip
    have hx := hx0 (by omega)
    refine q_g (j := 7) rfl rfl (by decide) (p_move rfl).q ?_
    refine q_g (j := 7) rfl rfl (by decide) (p_move rfl).q ?_
    refine q_g (j := 7) rfl rfl (by decide) (p_len_sl Tryd.underlying23 rfl).q ?_
    first | refine q_g (j := 7) rfl rfl (by decide) (p_lss rfl rfl rfl rfl).q ?_ | refine q_g (j := 7) rfl rfl (by decide) (p_lssi rfl rfl).q ?_
    refine q_q (by decide) (p_pick rfl rfl).q ?_
    refine q_q (by decide) (p_move rfl).q ?_
    first | refine q_splitd (t := 33) rfl (fun h33 => ?_) (fun h33 => ?_) | refine q_splitb (t := 33) rfl (fun h33 => ?_) (fun h33 => ?_)
    ·skip
     have hu := hu0 (by omega)
     have ht := htl (by omega)
     have hr := hr0 (by omega) (by omega)
     have hrl := at_lt hr
     first | refine q_g (j := 13) rfl rfl (by decide) (p_faddr (i := 0) 0 Tryd.underlying25 rfl inf_22 (by decide) rfl rfl).q ?_ | refine q_g (j := 13) rfl rfl (by decide) (p_faddro (i := 0) 0 Tryd.underlying25 rfl inf_22 (by decide) rfl rfl).q ?_
     first | refine q_g (j := 13) rfl rfl (by decide) (r_loado Tryd.underlying22 rfl rfl (by repeat constructor) (by rfl)).q ?_ | refine q_g (j := 13) rfl rfl (by decide) (r_load1 Tryd.underlying22 rfl rfl (by first | exact .fact (by repeat constructor) | exact .own (by repeat constructor) (by decide) (fun _ => rfl) | exact SlIn.reads (by repeat constructor) (by assumption)) (by first | assumption | rfl) (by rfl)).q ?_ | refine q_g (j := 13) rfl rfl (by decide) (r_loadf Tryd.underlying22 rfl rfl (by first | exact .fact (by repeat constructor) | exact .own (by repeat constructor) (by decide) (fun _ => rfl) | exact SlIn.reads (by repeat constructor) (by assumption)) (by assumption) (by rfl)).q ?_
     refine q_g (j := 13) rfl rfl (by decide) (p_move rfl).q ?_
     first | refine q_g (j := 13) rfl rfl (by decide) (r_index Tryd.underlying22 inf_44 rfl rfl rfl (by first | exact .fact (by repeat constructor) | exact .own (by repeat constructor) (by decide) (fun _ => rfl) | exact SlIn.reads (by repeat constructor) (by assumption)) rfl (by omega)).q ?_ | refine q_g (j := 13) rfl rfl (by decide) (r_index Tryd.underlying22 inf_44 rfl rfl rfl (by first | exact .fact (by repeat constructor) | exact .own (by repeat constructor) (by decide) (fun _ => rfl) | exact SlIn.reads (by repeat constructor) (by assumption)) rfl (by decide)).q ?_ | refine q_g (j := 13) rfl rfl (by decide) (p_indexo Tryd.underlying22 inf_44 rfl rfl rfl (by omega)).q ?_
     first | refine q_g (j := 13) rfl rfl (by decide) (p_faddr (i := 1) 1 Tryd.underlying44 rfl inf_23 (by decide) rfl rfl).q ?_ | refine q_g (j := 13) rfl rfl (by decide) (p_faddro (i := 1) 1 Tryd.underlying44 rfl inf_23 (by decide) rfl rfl).q ?_
     first | refine q_g (j := 13) rfl rfl (by decide) (r_loado Tryd.underlying23 rfl rfl (by repeat constructor) (by rfl)).q ?_ | refine q_g (j := 13) rfl rfl (by decide) (r_load1 Tryd.underlying23 rfl rfl (by first | exact .fact (by repeat constructor) | exact .own (by repeat constructor) (by decide) (fun _ => rfl) | exact SlIn.reads (by repeat constructor) (by assumption)) (by first | assumption | rfl) (by rfl)).q ?_ | refine q_g (j := 13) rfl rfl (by decide) (r_loadf Tryd.underlying23 rfl rfl (by first | exact .fact (by repeat constructor) | exact .own (by repeat constructor) (by decide) (fun _ => rfl) | exact SlIn.reads (by repeat constructor) (by assumption)) (by assumption) (by rfl)).q ?_
     refine q_g (j := 13) rfl rfl (by decide) (p_move rfl).q ?_
     refine q_g (j := 13) rfl rfl (by decide) (p_move rfl).q ?_
     first | refine q_g (j := 13) rfl rfl (by decide) (r_index Tryd.underlying23 inf_3 rfl rfl rfl (by first | exact .fact (by repeat constructor) | exact .own (by repeat constructor) (by decide) (fun _ => rfl) | exact SlIn.reads (by repeat constructor) (by assumption)) rfl (by omega)).q ?_ | refine q_g (j := 13) rfl rfl (by decide) (r_index Tryd.underlying23 inf_3 rfl rfl rfl (by first | exact .fact (by repeat constructor) | exact .own (by repeat constructor) (by decide) (fun _ => rfl) | exact SlIn.reads (by repeat constructor) (by assumption)) rfl (by decide)).q ?_ | refine q_g (j := 13) rfl rfl (by decide) (p_indexo Tryd.underlying23 inf_3 rfl rfl rfl (by omega)).q ?_
     first | refine q_g (j := 13) rfl rfl (by decide) (r_loado Tryd.underlying3 rfl rfl (by repeat constructor) (by rfl)).q ?_ | refine q_g (j := 13) rfl rfl (by decide) (r_load1 Tryd.underlying3 rfl rfl (by first | exact .fact (by repeat constructor) | exact .own (by repeat constructor) (by decide) (fun _ => rfl) | exact SlIn.reads (by repeat constructor) (by assumption)) (by first | assumption | rfl) (by rfl)).q ?_ | refine q_g (j := 13) rfl rfl (by decide) (r_loadf Tryd.underlying3 rfl rfl (by first | exact .fact (by repeat constructor) | exact .own (by repeat constructor) (by decide) (fun _ => rfl) | exact SlIn.reads (by repeat constructor) (by assumption)) (by assumption) (by rfl)).q ?_
     first | refine q_g (j := 13) rfl rfl (by decide) (r_index Tryd.underlying23 inf_3 rfl rfl rfl (by first | exact .fact (by repeat constructor) | exact .own (by repeat constructor) (by decide) (fun _ => rfl) | exact SlIn.reads (by repeat constructor) (by assumption)) rfl (by omega)).q ?_ | refine q_g (j := 13) rfl rfl (by decide) (r_index Tryd.underlying23 inf_3 rfl rfl rfl (by first | exact .fact (by repeat constructor) | exact .own (by repeat constructor) (by decide) (fun _ => rfl) | exact SlIn.reads (by repeat constructor) (by assumption)) rfl (by decide)).q ?_ | refine q_g (j := 13) rfl rfl (by decide) (p_indexo Tryd.underlying23 inf_3 rfl rfl rfl (by omega)).q ?_
     first | refine q_g (j := 13) rfl rfl (by decide) (r_loado Tryd.underlying3 rfl rfl (by repeat constructor) (by rfl)).q ?_ | refine q_g (j := 13) rfl rfl (by decide) (r_load1 Tryd.underlying3 rfl rfl (by first | exact .fact (by repeat constructor) | exact .own (by repeat constructor) (by decide) (fun _ => rfl) | exact SlIn.reads (by repeat constructor) (by assumption)) (by first | assumption | rfl) (by rfl)).q ?_ | refine q_g (j := 13) rfl rfl (by decide) (r_loadf Tryd.underlying3 rfl rfl (by first | exact .fact (by repeat constructor) | exact .own (by repeat constructor) (by decide) (fun _ => rfl) | exact SlIn.reads (by repeat constructor) (by assumption)) (by assumption) (by rfl)).q ?_
     first | refine q_g (j := 13) rfl rfl (by decide) (p_geq (j := 0) rfl rfl rfl rfl).q ?_ | refine q_g (j := 13) rfl rfl (by decide) (p_geqi rfl rfl).q ?_
     refine q_q (by decide) (p_pick rfl rfl).q ?_
     refine q_q (by decide) (p_assign rfl).q ?_
     refine q_nil ?_
     refine c_join (()) ?inv ?sub ?perm ?facts
     case sub => exact ⟨rfl, rfl, rfl, rfl, rfl, rfl, rfl, rfl, (by first | rfl | exact congrArg (fun b => some (Value.bool b)) (decide_eq_true (by omega)).symm | exact congrArg (fun b => some (Value.bool b)) (decide_eq_false (by omega)).symm | exact congrArg (fun b => some (Value.bool b)) (decide_eq_decide.2 (by omega))), trivial⟩
     case perm =>
      exact .refl _
     case facts => exact fun _ h => h
     case inv =>
      trivial
    ·skip
     refine q_off (j := 13) rfl rfl (by first | (simp; done) | (simp [undef]; done)) (by decide) ?_
     refine q_off (j := 13) rfl rfl (by first | (simp; done) | (simp [undef]; done)) (by decide) ?_
     refine q_off (j := 13) rfl rfl (by first | (simp; done) | (simp [undef]; done)) (by decide) ?_
     refine q_off (j := 13) rfl rfl (by first | (simp; done) | (simp [undef]; done)) (by decide) ?_
     refine q_off (j := 13) rfl rfl (by first | (simp; done) | (simp [undef]; done)) (by decide) ?_
     refine q_off (j := 13) rfl rfl (by first | (simp; done) | (simp [undef]; done)) (by decide) ?_
     refine q_off (j := 13) rfl rfl (by first | (simp; done) | (simp [undef]; done)) (by decide) ?_
     refine q_off (j := 13) rfl rfl (by first | (simp; done) | (simp [undef]; done)) (by decide) ?_
     refine q_off (j := 13) rfl rfl (by first | (simp; done) | (simp [undef]; done)) (by decide) ?_
     refine q_off (j := 13) rfl rfl (by first | (simp; done) | (simp [undef]; done)) (by decide) ?_
     refine q_off (j := 13) rfl rfl (by first | (simp; done) | (simp [undef]; done)) (by decide) ?_
     refine q_off (j := 13) rfl rfl (by first | (simp; done) | (simp [undef]; done)) (by decide) ?_
     refine q_off (j := 13) rfl rfl (by first | (simp; done) | (simp [undef]; done)) (by decide) ?_
     refine q_q (by decide) (p_pick rfl rfl).q ?_
     refine q_q (by decide) (p_assign rfl).q ?_
     refine q_nil ?_
     refine c_join (()) ?inv ?sub ?perm ?facts
     case sub => exact ⟨rfl, rfl, rfl, rfl, rfl, rfl, rfl, rfl, (by first | rfl | exact congrArg (fun b => some (Value.bool b)) (decide_eq_true (by omega)).symm | exact congrArg (fun b => some (Value.bool b)) (decide_eq_false (by omega)).symm | exact congrArg (fun b => some (Value.bool b)) (decide_eq_decide.2 (by omega))), trivial⟩
     case perm =>
      exact .refl _
     case facts => exact fun _ h => h
     case inv =>
      trivial
   ·skip
    refine q_off (j := 7) rfl rfl (by first | (simp; done) | (simp [undef]; done)) (by decide) ?_
    refine q_off (j := 7) rfl rfl (by first | (simp; done) | (simp [undef]; done)) (by decide) ?_
    refine q_off (j := 7) rfl rfl (by first | (simp; done) | (simp [undef]; done)) (by decide) ?_
    refine q_off (j := 7) rfl rfl (by first | (simp; done) | (simp [undef]; done)) (by decide) ?_
    refine q_q (by decide) (p_pick rfl rfl).q ?_
    refine q_q (by decide) (p_move rfl).q ?_
    refine q_off (j := 13) rfl rfl (by first | (simp; done) | (simp [undef]; done)) (by decide) ?_
    refine q_off (j := 13) rfl rfl (by first | (simp; done) | (simp [undef]; done)) (by decide) ?_
    refine q_off (j := 13) rfl rfl (by first | (simp; done) | (simp [undef]; done)) (by decide) ?_
    refine q_off (j := 13) rfl rfl (by first | (simp; done) | (simp [undef]; done)) (by decide) ?_
    refine q_off (j := 13) rfl rfl (by first | (simp; done) | (simp [undef]; done)) (by decide) ?_
    refine q_off (j := 13) rfl rfl (by first | (simp; done) | (simp [undef]; done)) (by decide) ?_
    refine q_off (j := 13) rfl rfl (by first | (simp; done) | (simp [undef]; done)) (by decide) ?_
    refine q_off (j := 13) rfl rfl (by first | (simp; done) | (simp [undef]; done)) (by decide) ?_
    refine q_off (j := 13) rfl rfl (by first | (simp; done) | (simp [undef]; done)) (by decide) ?_
    refine q_off (j := 13) rfl rfl (by first | (simp; done) | (simp [undef]; done)) (by decide) ?_
    refine q_off (j := 13) rfl rfl (by first | (simp; done) | (simp [undef]; done)) (by decide) ?_
    refine q_off (j := 13) rfl rfl (by first | (simp; done) | (simp [undef]; done)) (by decide) ?_
    refine q_off (j := 13) rfl rfl (by first | (simp; done) | (simp [undef]; done)) (by decide) ?_
    refine q_q (by decide) (p_pick rfl rfl).q ?_
    refine q_q (by decide) (p_assign rfl).q ?_
    refine q_nil ?_
    refine c_join (()) ?inv ?sub ?perm ?facts
    case sub => exact ⟨rfl, rfl, rfl, rfl, rfl, rfl, rfl, rfl, (by first | rfl | exact congrArg (fun b => some (Value.bool b)) (decide_eq_true (by omega)).symm | exact congrArg (fun b => some (Value.bool b)) (decide_eq_false (by omega)).symm | exact congrArg (fun b => some (Value.bool b)) (decide_eq_decide.2 (by omega))), trivial⟩
    case perm =>
     exact .refl _
    case facts => exact fun _ h => h
    case inv =>
     trivial
  ·skip
   refine q_off (j := 2) rfl rfl (by first | (simp; done) | (simp [undef]; done)) (by decide) ?_
   refine q_off (j := 2) rfl rfl (by first | (simp; done) | (simp [undef]; done)) (by decide) ?_
   refine q_off (j := 2) rfl rfl (by first | (simp; done) | (simp [undef]; done)) (by decide) ?_
   refine q_q (by decide) (p_pick rfl rfl).q ?_
   refine q_q (by decide) (p_move rfl).q ?_
   refine q_off (j := 7) rfl rfl (by first | (simp; done) | (simp [undef]; done)) (by decide) ?_
   refine q_off (j := 7) rfl rfl (by first | (simp; done) | (simp [undef]; done)) (by decide) ?_
   refine q_off (j := 7) rfl rfl (by first | (simp; done) | (simp [undef]; done)) (by decide) ?_
   refine q_off (j := 7) rfl rfl (by first | (simp; done) | (simp [undef]; done)) (by decide) ?_
   refine q_q (by decide) (p_pick rfl rfl).q ?_
   refine q_q (by decide) (p_move rfl).q ?_
   refine q_off (j := 13) rfl rfl (by first | (simp; done) | (simp [undef]; done)) (by decide) ?_
   refine q_off (j := 13) rfl rfl (by first | (simp; done) | (simp [undef]; done)) (by decide) ?_
   refine q_off (j := 13) rfl rfl (by first | (simp; done) | (simp [undef]; done)) (by decide) ?_
   refine q_off (j := 13) rfl rfl (by first | (simp; done) | (simp [undef]; done)) (by decide) ?_
   refine q_off (j := 13) rfl rfl (by first | (simp; done) | (simp [undef]; done)) (by decide) ?_
   refine q_off (j := 13) rfl rfl (by first | (simp; done) | (simp [undef]; done)) (by decide) ?_
   refine q_off (j := 13) rfl rfl (by first | (simp; done) | (simp [undef]; done)) (by decide) ?_
   refine q_off (j := 13) rfl rfl (by first | (simp; done) | (simp [undef]; done)) (by decide) ?_
   refine q_off (j := 13) rfl rfl (by first | (simp; done) | (simp [undef]; done)) (by decide) ?_
   refine q_off (j := 13) rfl rfl (by first | (simp; done) | (simp [undef]; done)) (by decide) ?_
   refine q_off (j := 13) rfl rfl (by first | (simp; done) | (simp [undef]; done)) (by decide) ?_
   refine q_off (j := 13) rfl rfl (by first | (simp; done) | (simp [undef]; done)) (by decide) ?_
   refine q_off (j := 13) rfl rfl (by first | (simp; done) | (simp [undef]; done)) (by decide) ?_
   refine q_q (by decide) (p_pick rfl rfl).q ?_
   refine q_q (by decide) (p_assign rfl).q ?_
   refine q_nil ?_
   refine c_join (()) ?inv ?sub ?perm ?facts
   case sub => exact ⟨rfl, rfl, rfl, rfl, rfl, rfl, rfl, rfl, (by first | rfl | exact congrArg (fun b => some (Value.bool b)) (decide_eq_true (by omega)).symm | exact congrArg (fun b => some (Value.bool b)) (decide_eq_false (by omega)).symm | exact congrArg (fun b => some (Value.bool b)) (decide_eq_decide.2 (by omega))), trivial⟩
   case perm =>
    exact .refl _
   case facts => exact fun _ h => h
   case inv =>
    trivial
 rintro uu hmeet
 show Cont _ _ _ _ [(1, .slice C y.length e), (2, .slice T tb.length tc), (3, .int .i64 ((y.length + 1 : Nat) : Int)), (4, .int .i64 (i : Int)), (5, .int .i64 (j : Int)), (6, .int .i64 (k : Int)), (7, .pointer (some ⟨b7, 0, none⟩)), (15, .int .i64 (X.xs.length : Int)), (19, .bool (decide (k = 1 ∧ i < X.xs.length ∧ j < y.length ∧ 0 ≤ r)))] ([iCells b7 25 [.slice X.A X.xs.length X.c, .slice X.B X.ins.length X.d, .int .i64 X.sw]]) (Sl 1 intF T tb :: (Sl 1 intF C y :: [Rd X.xs, Sl 1 intF X.B X.ins, Sl 3 colF X.A X.xs]))
 first | refine c_dec rfl (fun h19 => ?_) (fun h19 => ?_) | refine c_cond rfl (fun h19 => ?_) (fun h19 => ?_)
 ·skip
  have hx := hx0 (by omega)
  have hu := hu0 (by omega)
  have ht := htl (by omega)
  have hr := hr0 (by omega) (by omega)
  have hrl := at_lt hr
  have h1 := hB1 (by omega) (by omega)
  have hl1 := at_lt h1
  have hrow := okc_row (okin_cols hO x (List.mem_of_getElem? hx)) ht hr
  have hr6 : r ≤ 60000 := by split at hrow <;> omega
  have hC := C_ok hO (y.drop (j + 1)) (show i + 1 ≤ X.xs.length by omega)
  refine c_seq ?_
  refine c_draw mixed (by decide +kernel) ?_
  first | refine q_q (by decide) (p_faddr (i := 0) 0 Tryd.underlying25 rfl inf_22 (by decide) rfl rfl).q ?_ | refine q_q (by decide) (p_faddro (i := 0) 0 Tryd.underlying25 rfl inf_22 (by decide) rfl rfl).q ?_
  first | refine q_q (by decide) (r_loado Tryd.underlying22 rfl rfl (by repeat constructor) (by rfl)).q ?_ | refine q_q (by decide) (r_load1 Tryd.underlying22 rfl rfl (by first | exact .fact (by repeat constructor) | exact .own (by repeat constructor) (by decide) (fun _ => rfl) | exact SlIn.reads (by repeat constructor) (by assumption)) (by first | assumption | rfl) (by rfl)).q ?_ | refine q_q (by decide) (r_loadf Tryd.underlying22 rfl rfl (by first | exact .fact (by repeat constructor) | exact .own (by repeat constructor) (by decide) (fun _ => rfl) | exact SlIn.reads (by repeat constructor) (by assumption)) (by assumption) (by rfl)).q ?_
  refine q_q (by decide) (p_move rfl).q ?_
  first | refine q_q (by decide) (r_index Tryd.underlying22 inf_44 rfl rfl rfl (by first | exact .fact (by repeat constructor) | exact .own (by repeat constructor) (by decide) (fun _ => rfl) | exact SlIn.reads (by repeat constructor) (by assumption)) rfl (by omega)).q ?_ | refine q_q (by decide) (r_index Tryd.underlying22 inf_44 rfl rfl rfl (by first | exact .fact (by repeat constructor) | exact .own (by repeat constructor) (by decide) (fun _ => rfl) | exact SlIn.reads (by repeat constructor) (by assumption)) rfl (by decide)).q ?_ | refine q_q (by decide) (p_indexo Tryd.underlying22 inf_44 rfl rfl rfl (by omega)).q ?_
  first | refine q_q (by decide) (p_faddr (i := 1) 1 Tryd.underlying44 rfl inf_23 (by decide) rfl rfl).q ?_ | refine q_q (by decide) (p_faddro (i := 1) 1 Tryd.underlying44 rfl inf_23 (by decide) rfl rfl).q ?_
  first | refine q_q (by decide) (r_loado Tryd.underlying23 rfl rfl (by repeat constructor) (by rfl)).q ?_ | refine q_q (by decide) (r_load1 Tryd.underlying23 rfl rfl (by first | exact .fact (by repeat constructor) | exact .own (by repeat constructor) (by decide) (fun _ => rfl) | exact SlIn.reads (by repeat constructor) (by assumption)) (by first | assumption | rfl) (by rfl)).q ?_ | refine q_q (by decide) (r_loadf Tryd.underlying23 rfl rfl (by first | exact .fact (by repeat constructor) | exact .own (by repeat constructor) (by decide) (fun _ => rfl) | exact SlIn.reads (by repeat constructor) (by assumption)) (by assumption) (by rfl)).q ?_
  refine q_q (by decide) (p_move rfl).q ?_
  refine q_q (by decide) (p_move rfl).q ?_
  first | refine q_q (by decide) (r_index Tryd.underlying23 inf_3 rfl rfl rfl (by first | exact .fact (by repeat constructor) | exact .own (by repeat constructor) (by decide) (fun _ => rfl) | exact SlIn.reads (by repeat constructor) (by assumption)) rfl (by omega)).q ?_ | refine q_q (by decide) (r_index Tryd.underlying23 inf_3 rfl rfl rfl (by first | exact .fact (by repeat constructor) | exact .own (by repeat constructor) (by decide) (fun _ => rfl) | exact SlIn.reads (by repeat constructor) (by assumption)) rfl (by decide)).q ?_ | refine q_q (by decide) (p_indexo Tryd.underlying23 inf_3 rfl rfl rfl (by omega)).q ?_
  first | refine q_q (by decide) (r_loado Tryd.underlying3 rfl rfl (by repeat constructor) (by rfl)).q ?_ | refine q_q (by decide) (r_load1 Tryd.underlying3 rfl rfl (by first | exact .fact (by repeat constructor) | exact .own (by repeat constructor) (by decide) (fun _ => rfl) | exact SlIn.reads (by repeat constructor) (by assumption)) (by first | assumption | rfl) (by rfl)).q ?_ | refine q_q (by decide) (r_loadf Tryd.underlying3 rfl rfl (by first | exact .fact (by repeat constructor) | exact .own (by repeat constructor) (by decide) (fun _ => rfl) | exact SlIn.reads (by repeat constructor) (by assumption)) (by assumption) (by rfl)).q ?_
  first | refine q_q (by decide) (r_index Tryd.underlying23 inf_3 rfl rfl rfl (by first | exact .fact (by repeat constructor) | exact .own (by repeat constructor) (by decide) (fun _ => rfl) | exact SlIn.reads (by repeat constructor) (by assumption)) rfl (by omega)).q ?_ | refine q_q (by decide) (r_index Tryd.underlying23 inf_3 rfl rfl rfl (by first | exact .fact (by repeat constructor) | exact .own (by repeat constructor) (by decide) (fun _ => rfl) | exact SlIn.reads (by repeat constructor) (by assumption)) rfl (by decide)).q ?_ | refine q_q (by decide) (p_indexo Tryd.underlying23 inf_3 rfl rfl rfl (by omega)).q ?_
  first | refine q_q (by decide) (r_loado Tryd.underlying3 rfl rfl (by repeat constructor) (by rfl)).q ?_ | refine q_q (by decide) (r_load1 Tryd.underlying3 rfl rfl (by first | exact .fact (by repeat constructor) | exact .own (by repeat constructor) (by decide) (fun _ => rfl) | exact SlIn.reads (by repeat constructor) (by assumption)) (by first | assumption | rfl) (by rfl)).q ?_ | refine q_q (by decide) (r_loadf Tryd.underlying3 rfl rfl (by first | exact .fact (by repeat constructor) | exact .own (by repeat constructor) (by decide) (fun _ => rfl) | exact SlIn.reads (by repeat constructor) (by assumption)) (by assumption) (by rfl)).q ?_
  refine q_q (by decide) (p_move rfl).q ?_
  refine q_q (by decide) (p_move rfl).q ?_
  first | refine q_q (by decide) (p_add (j := 1) rfl rfl rfl rfl (by show _ ≤ (9223372036854775807 : Nat); omega)).q ?_ | refine q_q (by decide) (p_addi rfl rfl (by show (-9223372036854775808 : Int) ≤ _; omega) (by show _ ≤ ((9223372036854775807 : Nat) : Int); omega)).q ?_
  refine q_q (by decide) (p_move rfl).q ?_
  refine q_q (by decide) (p_mul rfl rfl rfl rfl (by show _ ≤ (9223372036854775807 : Nat); omega)).q ?_
  refine q_q (by decide) (p_move rfl).q ?_
  first | refine q_q (by decide) (p_add rfl rfl rfl rfl (by show _ ≤ (9223372036854775807 : Nat); omega)).q ?_ | refine q_q (by decide) (p_addi rfl rfl (by show (-9223372036854775808 : Int) ≤ _; omega) (by show _ ≤ ((9223372036854775807 : Nat) : Int); omega)).q ?_
  first | refine q_q (by decide) (p_add (j := 1) rfl rfl rfl rfl (by show _ ≤ (9223372036854775807 : Nat); omega)).q ?_ | refine q_q (by decide) (p_addi rfl rfl (by show (-9223372036854775808 : Int) ≤ _; omega) (by show _ ≤ ((9223372036854775807 : Nat) : Int); omega)).q ?_
  first | refine q_q (by decide) (r_index Tryd.underlying23 inf_3 rfl rfl rfl (by first | exact .fact (by repeat constructor) | exact .own (by repeat constructor) (by decide) (fun _ => rfl) | exact SlIn.reads (by repeat constructor) (by assumption)) rfl (by omega)).q ?_ | refine q_q (by decide) (r_index Tryd.underlying23 inf_3 rfl rfl rfl (by first | exact .fact (by repeat constructor) | exact .own (by repeat constructor) (by decide) (fun _ => rfl) | exact SlIn.reads (by repeat constructor) (by assumption)) rfl (by decide)).q ?_ | refine q_q (by decide) (p_indexo Tryd.underlying23 inf_3 rfl rfl rfl (by omega)).q ?_
  first | refine q_q (by decide) (r_loado Tryd.underlying3 rfl rfl (by repeat constructor) (by rfl)).q ?_ | refine q_q (by decide) (r_load1 Tryd.underlying3 rfl rfl (by first | exact .fact (by repeat constructor) | exact .own (by repeat constructor) (by decide) (fun _ => rfl) | exact SlIn.reads (by repeat constructor) (by assumption)) (by first | assumption | rfl) (by rfl)).q ?_ | refine q_q (by decide) (r_loadf Tryd.underlying3 rfl rfl (by first | exact .fact (by repeat constructor) | exact .own (by repeat constructor) (by decide) (fun _ => rfl) | exact SlIn.reads (by repeat constructor) (by assumption)) (by assumption) (by rfl)).q ?_
  refine q_q (by decide) (q_call call_33 rfl (fun w hs => plus_ok (r) (Ed.C X.pl (i + 1) (y.drop (j + 1))) (by omega) (by omega) (by omega) (by omega) w)) ?_
  refine q_q (by decide) (p_assign rfl).q ?_
  refine q_nil ?_
  refine c_ret ?_
  refine c_ret1 rfl rfl (fun w hs => ?_)
  have hk := h19.1
  subst hk
  exact ⟨by rw [kv_one (s := ⟨⟨1, (t : Int)⟩, r, 1, 1⟩) (by show Ed.st1 _ _ _ = _; rw [st1_eq hx0 hu0 hr0, if_pos (by omega)]), drop2], hs.ext⟩
 ·skip
  refine c_seq ?_
  refine c_meetn (S := Unit) (fun zs => True) (fun zs => [(1, .slice C y.length e), (2, .slice T tb.length tc), (3, .int .i64 ((y.length + 1 : Nat) : Int)), (4, .int .i64 (i : Int)), (5, .int .i64 (j : Int)), (6, .int .i64 (k : Int)), (7, .pointer (some ⟨b7, 0, none⟩)), (71, .bool (decide (k = 2 ∧ i < X.xs.length)))]) (fun zs => [iCells b7 25 [.slice X.A X.xs.length X.c, .slice X.B X.ins.length X.d, .int .i64 X.sw]]) (fun zs => (Sl 1 intF T tb :: (Sl 1 intF C y :: [Rd X.xs, Sl 1 intF X.B X.ins, Sl 3 colF X.A X.xs]))) ?_ ?_
  ·skip
   refine c_reg ?_
   refine l_q (by decide) (p_move rfl).q ?_
   first | refine l_q (by decide) (p_eql (j := 2) rfl rfl rfl rfl).q ?_ | refine l_q (by decide) (p_eqli rfl rfl).q ?_
   refine l_q (by decide) (p_move rfl).q ?_
   first | refine l_splitd (t := 74) rfl (fun h74 => ?_) (fun h74 => ?_) | refine l_splitb (t := 74) rfl (fun h74 => ?_) (fun h74 => ?_)
   ·skip
    refine l_g (j := 2) rfl rfl (by decide) (p_move rfl).q ?_
    refine l_g (j := 2) rfl rfl (by decide) (p_move rfl).q ?_
    first | refine l_g (j := 2) rfl rfl (by decide) (p_lss rfl rfl rfl rfl).q ?_ | refine l_g (j := 2) rfl rfl (by decide) (p_lssi rfl rfl).q ?_
    refine l_q (by decide) (p_pick rfl rfl).q ?_
    refine l_q (by decide) (p_assign rfl).q ?_
    refine l_nil ?_
    refine c_join (()) ?inv ?sub ?perm ?facts
    case sub => exact ⟨rfl, rfl, rfl, rfl, rfl, rfl, rfl, (by first | rfl | exact congrArg (fun b => some (Value.bool b)) (decide_eq_true (by omega)).symm | exact congrArg (fun b => some (Value.bool b)) (decide_eq_false (by omega)).symm | exact congrArg (fun b => some (Value.bool b)) (decide_eq_decide.2 (by omega))), trivial⟩
    case perm =>
     exact .refl _
    case facts => exact fun _ h => h
    case inv =>
     trivial
   ·skip
    refine l_off (j := 2) rfl rfl (by first | (simp; done) | (simp [undef]; done)) (by decide) ?_
    refine l_off (j := 2) rfl rfl (by first | (simp; done) | (simp [undef]; done)) (by decide) ?_
    refine l_off (j := 2) rfl rfl (by first | (simp; done) | (simp [undef]; done)) (by decide) ?_
    refine l_q (by decide) (p_pick rfl rfl).q ?_
    refine l_q (by decide) (p_assign rfl).q ?_
    refine l_nil ?_
    refine c_join (()) ?inv ?sub ?perm ?facts
    case sub => exact ⟨rfl, rfl, rfl, rfl, rfl, rfl, rfl, (by first | rfl | exact congrArg (fun b => some (Value.bool b)) (decide_eq_true (by omega)).symm | exact congrArg (fun b => some (Value.bool b)) (decide_eq_false (by omega)).symm | exact congrArg (fun b => some (Value.bool b)) (decide_eq_decide.2 (by omega))), trivial⟩
    case perm =>
     exact .refl _
    case facts => exact fun _ h => h
    case inv =>
     trivial
  rintro uu hmeet
  show Cont _ _ _ _ [(1, .slice C y.length e), (2, .slice T tb.length tc), (3, .int .i64 ((y.length + 1 : Nat) : Int)), (4, .int .i64 (i : Int)), (5, .int .i64 (j : Int)), (6, .int .i64 (k : Int)), (7, .pointer (some ⟨b7, 0, none⟩)), (71, .bool (decide (k = 2 ∧ i < X.xs.length)))] ([iCells b7 25 [.slice X.A X.xs.length X.c, .slice X.B X.ins.length X.d, .int .i64 X.sw]]) (Sl 1 intF T tb :: (Sl 1 intF C y :: [Rd X.xs, Sl 1 intF X.B X.ins, Sl 3 colF X.A X.xs]))
  first | refine c_dec rfl (fun h71 => ?_) (fun h71 => ?_) | refine c_cond rfl (fun h71 => ?_) (fun h71 => ?_)
  ·skip
   have hx := hx0 (by omega)
   have h1 := hB2 (by omega)
   have hl1 := at_lt h1
   have hoc := okin_cols hO x (List.mem_of_getElem? hx)
   have hd1 := hoc.d1
   have hd2 : x.o.del ≤ 60000 ∨ x.o.del = 1099511627776 := hoc.d2
   have hC := C_ok hO (y.drop j) (show i + 1 ≤ X.xs.length by omega)
   refine c_seq ?_
   refine c_draw mixed (by decide +kernel) ?_
   first | refine q_q (by decide) (p_faddr (i := 0) 0 Tryd.underlying25 rfl inf_22 (by decide) rfl rfl).q ?_ | refine q_q (by decide) (p_faddro (i := 0) 0 Tryd.underlying25 rfl inf_22 (by decide) rfl rfl).q ?_
   first | refine q_q (by decide) (r_loado Tryd.underlying22 rfl rfl (by repeat constructor) (by rfl)).q ?_ | refine q_q (by decide) (r_load1 Tryd.underlying22 rfl rfl (by first | exact .fact (by repeat constructor) | exact .own (by repeat constructor) (by decide) (fun _ => rfl) | exact SlIn.reads (by repeat constructor) (by assumption)) (by first | assumption | rfl) (by rfl)).q ?_ | refine q_q (by decide) (r_loadf Tryd.underlying22 rfl rfl (by first | exact .fact (by repeat constructor) | exact .own (by repeat constructor) (by decide) (fun _ => rfl) | exact SlIn.reads (by repeat constructor) (by assumption)) (by assumption) (by rfl)).q ?_
   refine q_q (by decide) (p_move rfl).q ?_
   first | refine q_q (by decide) (r_index Tryd.underlying22 inf_44 rfl rfl rfl (by first | exact .fact (by repeat constructor) | exact .own (by repeat constructor) (by decide) (fun _ => rfl) | exact SlIn.reads (by repeat constructor) (by assumption)) rfl (by omega)).q ?_ | refine q_q (by decide) (r_index Tryd.underlying22 inf_44 rfl rfl rfl (by first | exact .fact (by repeat constructor) | exact .own (by repeat constructor) (by decide) (fun _ => rfl) | exact SlIn.reads (by repeat constructor) (by assumption)) rfl (by decide)).q ?_ | refine q_q (by decide) (p_indexo Tryd.underlying22 inf_44 rfl rfl rfl (by omega)).q ?_
   first | refine q_q (by decide) (p_faddr (i := 2) 2 Tryd.underlying44 rfl inf_3 (by decide) rfl rfl).q ?_ | refine q_q (by decide) (p_faddro (i := 2) 2 Tryd.underlying44 rfl inf_3 (by decide) rfl rfl).q ?_
   first | refine q_q (by decide) (r_loado Tryd.underlying3 rfl rfl (by repeat constructor) (by rfl)).q ?_ | refine q_q (by decide) (r_load1 Tryd.underlying3 rfl rfl (by first | exact .fact (by repeat constructor) | exact .own (by repeat constructor) (by decide) (fun _ => rfl) | exact SlIn.reads (by repeat constructor) (by assumption)) (by first | assumption | rfl) (by rfl)).q ?_ | refine q_q (by decide) (r_loadf Tryd.underlying3 rfl rfl (by first | exact .fact (by repeat constructor) | exact .own (by repeat constructor) (by decide) (fun _ => rfl) | exact SlIn.reads (by repeat constructor) (by assumption)) (by assumption) (by rfl)).q ?_
   refine q_q (by decide) (p_move rfl).q ?_
   refine q_q (by decide) (p_move rfl).q ?_
   first | refine q_q (by decide) (p_add (j := 1) rfl rfl rfl rfl (by show _ ≤ (9223372036854775807 : Nat); omega)).q ?_ | refine q_q (by decide) (p_addi rfl rfl (by show (-9223372036854775808 : Int) ≤ _; omega) (by show _ ≤ ((9223372036854775807 : Nat) : Int); omega)).q ?_
   refine q_q (by decide) (p_move rfl).q ?_
   refine q_q (by decide) (p_mul rfl rfl rfl rfl (by show _ ≤ (9223372036854775807 : Nat); omega)).q ?_
   refine q_q (by decide) (p_move rfl).q ?_
   first | refine q_q (by decide) (p_add rfl rfl rfl rfl (by show _ ≤ (9223372036854775807 : Nat); omega)).q ?_ | refine q_q (by decide) (p_addi rfl rfl (by show (-9223372036854775808 : Int) ≤ _; omega) (by show _ ≤ ((9223372036854775807 : Nat) : Int); omega)).q ?_
   first | refine q_q (by decide) (r_index Tryd.underlying23 inf_3 rfl rfl rfl (by first | exact .fact (by repeat constructor) | exact .own (by repeat constructor) (by decide) (fun _ => rfl) | exact SlIn.reads (by repeat constructor) (by assumption)) rfl (by omega)).q ?_ | refine q_q (by decide) (r_index Tryd.underlying23 inf_3 rfl rfl rfl (by first | exact .fact (by repeat constructor) | exact .own (by repeat constructor) (by decide) (fun _ => rfl) | exact SlIn.reads (by repeat constructor) (by assumption)) rfl (by decide)).q ?_ | refine q_q (by decide) (p_indexo Tryd.underlying23 inf_3 rfl rfl rfl (by omega)).q ?_
   first | refine q_q (by decide) (r_loado Tryd.underlying3 rfl rfl (by repeat constructor) (by rfl)).q ?_ | refine q_q (by decide) (r_load1 Tryd.underlying3 rfl rfl (by first | exact .fact (by repeat constructor) | exact .own (by repeat constructor) (by decide) (fun _ => rfl) | exact SlIn.reads (by repeat constructor) (by assumption)) (by first | assumption | rfl) (by rfl)).q ?_ | refine q_q (by decide) (r_loadf Tryd.underlying3 rfl rfl (by first | exact .fact (by repeat constructor) | exact .own (by repeat constructor) (by decide) (fun _ => rfl) | exact SlIn.reads (by repeat constructor) (by assumption)) (by assumption) (by rfl)).q ?_
   refine q_q (by decide) (q_call call_33 rfl (fun w hs => plus_ok (x.o.del) (Ed.C X.pl (i + 1) (y.drop (j))) (by omega) (by omega) (by omega) (by omega) w)) ?_
   refine q_q (by decide) (p_assign rfl).q ?_
   refine q_nil ?_
   refine c_ret ?_
   refine c_ret1 rfl rfl (fun w hs => ?_)
   have hk := h71.1
   subst hk
   refine ⟨?_, hs.ext⟩
   by_cases hdl : x.o.del < 1099511627776
   · rw [kv_one (s := ⟨⟨2, 0⟩, x.o.del, 1, 0⟩) (by show Ed.st2 _ _ = _; rw [st2_eq hx0, if_pos (by omega)])]; rfl
   · rw [kv_nil (by show Ed.st2 _ _ = _; rw [st2_eq hx0, if_neg (by omega)])]; congr 1; unfold Ed.plus Ed.inf; omega
  ·skip
   refine c_seq ?_
   refine c_meetn (S := Unit) (fun zs => True) (fun zs => [(1, .slice C y.length e), (2, .slice T tb.length tc), (3, .int .i64 ((y.length + 1 : Nat) : Int)), (4, .int .i64 (i : Int)), (5, .int .i64 (j : Int)), (6, .int .i64 (k : Int)), (7, .pointer (some ⟨b7, 0, none⟩)), (95, .bool (decide (k = 3 ∧ j < y.length)))]) (fun zs => [iCells b7 25 [.slice X.A X.xs.length X.c, .slice X.B X.ins.length X.d, .int .i64 X.sw]]) (fun zs => (Sl 1 intF T tb :: (Sl 1 intF C y :: [Rd X.xs, Sl 1 intF X.B X.ins, Sl 3 colF X.A X.xs]))) ?_ ?_
   ·skip
    refine c_reg ?_
    refine l_q (by decide) (p_move rfl).q ?_
    first | refine l_q (by decide) (p_eql (j := 3) rfl rfl rfl rfl).q ?_ | refine l_q (by decide) (p_eqli rfl rfl).q ?_
    refine l_q (by decide) (p_move rfl).q ?_
    first | refine l_splitd (t := 98) rfl (fun h98 => ?_) (fun h98 => ?_) | refine l_splitb (t := 98) rfl (fun h98 => ?_) (fun h98 => ?_)
    ·skip
     refine l_g (j := 2) rfl rfl (by decide) (p_move rfl).q ?_
     refine l_g (j := 2) rfl rfl (by decide) (p_move rfl).q ?_
     refine l_g (j := 2) rfl rfl (by decide) (p_len_sl Tryd.underlying23 rfl).q ?_
     first | refine l_g (j := 2) rfl rfl (by decide) (p_lss rfl rfl rfl rfl).q ?_ | refine l_g (j := 2) rfl rfl (by decide) (p_lssi rfl rfl).q ?_
     refine l_q (by decide) (p_pick rfl rfl).q ?_
     refine l_q (by decide) (p_assign rfl).q ?_
     refine l_nil ?_
     refine c_join (()) ?inv ?sub ?perm ?facts
     case sub => exact ⟨rfl, rfl, rfl, rfl, rfl, rfl, rfl, (by first | rfl | exact congrArg (fun b => some (Value.bool b)) (decide_eq_true (by omega)).symm | exact congrArg (fun b => some (Value.bool b)) (decide_eq_false (by omega)).symm | exact congrArg (fun b => some (Value.bool b)) (decide_eq_decide.2 (by omega))), trivial⟩
     case perm =>
      exact .refl _
     case facts => exact fun _ h => h
     case inv =>
      trivial
    ·skip
     refine l_off (j := 2) rfl rfl (by first | (simp; done) | (simp [undef]; done)) (by decide) ?_
     refine l_off (j := 2) rfl rfl (by first | (simp; done) | (simp [undef]; done)) (by decide) ?_
     refine l_off (j := 2) rfl rfl (by first | (simp; done) | (simp [undef]; done)) (by decide) ?_
     refine l_off (j := 2) rfl rfl (by first | (simp; done) | (simp [undef]; done)) (by decide) ?_
     refine l_q (by decide) (p_pick rfl rfl).q ?_
     refine l_q (by decide) (p_assign rfl).q ?_
     refine l_nil ?_
     refine c_join (()) ?inv ?sub ?perm ?facts
     case sub => exact ⟨rfl, rfl, rfl, rfl, rfl, rfl, rfl, (by first | rfl | exact congrArg (fun b => some (Value.bool b)) (decide_eq_true (by omega)).symm | exact congrArg (fun b => some (Value.bool b)) (decide_eq_false (by omega)).symm | exact congrArg (fun b => some (Value.bool b)) (decide_eq_decide.2 (by omega))), trivial⟩
     case perm =>
      exact .refl _
     case facts => exact fun _ h => h
     case inv =>
      trivial
   rintro uu hmeet
   show Cont _ _ _ _ [(1, .slice C y.length e), (2, .slice T tb.length tc), (3, .int .i64 ((y.length + 1 : Nat) : Int)), (4, .int .i64 (i : Int)), (5, .int .i64 (j : Int)), (6, .int .i64 (k : Int)), (7, .pointer (some ⟨b7, 0, none⟩)), (95, .bool (decide (k = 3 ∧ j < y.length)))] ([iCells b7 25 [.slice X.A X.xs.length X.c, .slice X.B X.ins.length X.d, .int .i64 X.sw]]) (Sl 1 intF T tb :: (Sl 1 intF C y :: [Rd X.xs, Sl 1 intF X.B X.ins, Sl 3 colF X.A X.xs]))
   first | refine c_dec rfl (fun h95 => ?_) (fun h95 => ?_) | refine c_cond rfl (fun h95 => ?_) (fun h95 => ?_)
   ·skip
    have hu := hu0 (by omega)
    have ht := htl (by omega)
    have hq := hq0 (by omega)
    have h1 := hB3 (by omega)
    have hl1 := at_lt h1
    have hq1 := hO.ins q (List.mem_of_getElem? hq)
    have hC := C_ok hO (y.drop (j + 1)) hi
    refine c_seq ?_
    refine c_draw mixed (by decide +kernel) ?_
    first | refine q_q (by decide) (p_faddr (i := 1) 1 Tryd.underlying25 rfl inf_23 (by decide) rfl rfl).q ?_ | refine q_q (by decide) (p_faddro (i := 1) 1 Tryd.underlying25 rfl inf_23 (by decide) rfl rfl).q ?_
    first | refine q_q (by decide) (r_loado Tryd.underlying23 rfl rfl (by repeat constructor) (by rfl)).q ?_ | refine q_q (by decide) (r_load1 Tryd.underlying23 rfl rfl (by first | exact .fact (by repeat constructor) | exact .own (by repeat constructor) (by decide) (fun _ => rfl) | exact SlIn.reads (by repeat constructor) (by assumption)) (by first | assumption | rfl) (by rfl)).q ?_ | refine q_q (by decide) (r_loadf Tryd.underlying23 rfl rfl (by first | exact .fact (by repeat constructor) | exact .own (by repeat constructor) (by decide) (fun _ => rfl) | exact SlIn.reads (by repeat constructor) (by assumption)) (by assumption) (by rfl)).q ?_
    refine q_q (by decide) (p_move rfl).q ?_
    refine q_q (by decide) (p_move rfl).q ?_
    first | refine q_q (by decide) (r_index Tryd.underlying23 inf_3 rfl rfl rfl (by first | exact .fact (by repeat constructor) | exact .own (by repeat constructor) (by decide) (fun _ => rfl) | exact SlIn.reads (by repeat constructor) (by assumption)) rfl (by omega)).q ?_ | refine q_q (by decide) (r_index Tryd.underlying23 inf_3 rfl rfl rfl (by first | exact .fact (by repeat constructor) | exact .own (by repeat constructor) (by decide) (fun _ => rfl) | exact SlIn.reads (by repeat constructor) (by assumption)) rfl (by decide)).q ?_ | refine q_q (by decide) (p_indexo Tryd.underlying23 inf_3 rfl rfl rfl (by omega)).q ?_
    first | refine q_q (by decide) (r_loado Tryd.underlying3 rfl rfl (by repeat constructor) (by rfl)).q ?_ | refine q_q (by decide) (r_load1 Tryd.underlying3 rfl rfl (by first | exact .fact (by repeat constructor) | exact .own (by repeat constructor) (by decide) (fun _ => rfl) | exact SlIn.reads (by repeat constructor) (by assumption)) (by first | assumption | rfl) (by rfl)).q ?_ | refine q_q (by decide) (r_loadf Tryd.underlying3 rfl rfl (by first | exact .fact (by repeat constructor) | exact .own (by repeat constructor) (by decide) (fun _ => rfl) | exact SlIn.reads (by repeat constructor) (by assumption)) (by assumption) (by rfl)).q ?_
    first | refine q_q (by decide) (r_index Tryd.underlying23 inf_3 rfl rfl rfl (by first | exact .fact (by repeat constructor) | exact .own (by repeat constructor) (by decide) (fun _ => rfl) | exact SlIn.reads (by repeat constructor) (by assumption)) rfl (by omega)).q ?_ | refine q_q (by decide) (r_index Tryd.underlying23 inf_3 rfl rfl rfl (by first | exact .fact (by repeat constructor) | exact .own (by repeat constructor) (by decide) (fun _ => rfl) | exact SlIn.reads (by repeat constructor) (by assumption)) rfl (by decide)).q ?_ | refine q_q (by decide) (p_indexo Tryd.underlying23 inf_3 rfl rfl rfl (by omega)).q ?_
    first | refine q_q (by decide) (r_loado Tryd.underlying3 rfl rfl (by repeat constructor) (by rfl)).q ?_ | refine q_q (by decide) (r_load1 Tryd.underlying3 rfl rfl (by first | exact .fact (by repeat constructor) | exact .own (by repeat constructor) (by decide) (fun _ => rfl) | exact SlIn.reads (by repeat constructor) (by assumption)) (by first | assumption | rfl) (by rfl)).q ?_ | refine q_q (by decide) (r_loadf Tryd.underlying3 rfl rfl (by first | exact .fact (by repeat constructor) | exact .own (by repeat constructor) (by decide) (fun _ => rfl) | exact SlIn.reads (by repeat constructor) (by assumption)) (by assumption) (by rfl)).q ?_
    refine q_q (by decide) (p_move rfl).q ?_
    refine q_q (by decide) (p_move rfl).q ?_
    refine q_q (by decide) (p_move rfl).q ?_
    refine q_q (by decide) (p_mul rfl rfl rfl rfl (by show _ ≤ (9223372036854775807 : Nat); omega)).q ?_
    refine q_q (by decide) (p_move rfl).q ?_
    first | refine q_q (by decide) (p_add rfl rfl rfl rfl (by show _ ≤ (9223372036854775807 : Nat); omega)).q ?_ | refine q_q (by decide) (p_addi rfl rfl (by show (-9223372036854775808 : Int) ≤ _; omega) (by show _ ≤ ((9223372036854775807 : Nat) : Int); omega)).q ?_
    first | refine q_q (by decide) (p_add (j := 1) rfl rfl rfl rfl (by show _ ≤ (9223372036854775807 : Nat); omega)).q ?_ | refine q_q (by decide) (p_addi rfl rfl (by show (-9223372036854775808 : Int) ≤ _; omega) (by show _ ≤ ((9223372036854775807 : Nat) : Int); omega)).q ?_
    first | refine q_q (by decide) (r_index Tryd.underlying23 inf_3 rfl rfl rfl (by first | exact .fact (by repeat constructor) | exact .own (by repeat constructor) (by decide) (fun _ => rfl) | exact SlIn.reads (by repeat constructor) (by assumption)) rfl (by omega)).q ?_ | refine q_q (by decide) (r_index Tryd.underlying23 inf_3 rfl rfl rfl (by first | exact .fact (by repeat constructor) | exact .own (by repeat constructor) (by decide) (fun _ => rfl) | exact SlIn.reads (by repeat constructor) (by assumption)) rfl (by decide)).q ?_ | refine q_q (by decide) (p_indexo Tryd.underlying23 inf_3 rfl rfl rfl (by omega)).q ?_
    first | refine q_q (by decide) (r_loado Tryd.underlying3 rfl rfl (by repeat constructor) (by rfl)).q ?_ | refine q_q (by decide) (r_load1 Tryd.underlying3 rfl rfl (by first | exact .fact (by repeat constructor) | exact .own (by repeat constructor) (by decide) (fun _ => rfl) | exact SlIn.reads (by repeat constructor) (by assumption)) (by first | assumption | rfl) (by rfl)).q ?_ | refine q_q (by decide) (r_loadf Tryd.underlying3 rfl rfl (by first | exact .fact (by repeat constructor) | exact .own (by repeat constructor) (by decide) (fun _ => rfl) | exact SlIn.reads (by repeat constructor) (by assumption)) (by assumption) (by rfl)).q ?_
    refine q_q (by decide) (q_call call_33 rfl (fun w hs => plus_ok (q) (Ed.C X.pl (i) (y.drop (j + 1))) (by omega) (by omega) (by omega) (by omega) w)) ?_
    refine q_q (by decide) (p_assign rfl).q ?_
    refine q_nil ?_
    refine c_ret ?_
    refine c_ret1 rfl rfl (fun w hs => ?_)
    have hk := h95.1
    subst hk
    exact ⟨by rw [kv_one (s := ⟨⟨3, (t : Int)⟩, q, 0, 1⟩) (by show Ed.st3 _ _ = _; rw [st3_eq hu0 hq0, if_pos (by omega)]), drop2]; rfl, hs.ext⟩
   ·skip
    refine c_seq ?_
    refine c_meetn (S := Unit) (fun zs => True) (fun zs => [(2, .slice T tb.length tc), (3, .int .i64 ((y.length + 1 : Nat) : Int)), (4, .int .i64 (i : Int)), (5, .int .i64 (j : Int)), (7, .pointer (some ⟨b7, 0, none⟩)), (122, .bool (dec (k = 4 ∧ Sw4 X i j y)))]) (fun zs => [iCells b7 25 [.slice X.A X.xs.length X.c, .slice X.B X.ins.length X.d, .int .i64 X.sw]]) (fun zs => (Sl 1 intF T tb :: (Sl 1 intF C y :: [Rd X.xs, Sl 1 intF X.B X.ins, Sl 3 colF X.A X.xs]))) ?_ ?_
    ·skip
     refine c_draw mixed (by decide +kernel) ?_
     refine q_q (by decide) (p_move rfl).q ?_
     first | refine q_q (by decide) (p_eql (j := 4) rfl rfl rfl rfl).q ?_ | refine q_q (by decide) (p_eqli rfl rfl).q ?_
     refine q_q (by decide) (p_move rfl).q ?_
     first | refine q_splitd (t := 125) rfl (fun h125 => ?_) (fun h125 => ?_) | refine q_splitb (t := 125) rfl (fun h125 => ?_) (fun h125 => ?_)
     ·skip
      first | refine q_g (j := 2) rfl rfl (by decide) (r_loada Tryd.underlying25 rfl inf_25 rfl (by first | exact .fact (by repeat constructor) | exact .own (by repeat constructor) (by decide) (fun _ => rfl) | exact SlIn.reads (by repeat constructor) (by assumption)) (by assumption)).q ?_ | refine q_g (j := 2) rfl rfl (by decide) (r_loadow Tryd.underlying25 rfl inf_25 rfl (by repeat constructor) (by rfl)).q ?_ | refine q_g (j := 2) rfl rfl (by decide) (r_loadoa Tryd.underlying25 rfl inf_25 rfl (by repeat constructor) (by rfl) (fun j u h => h)).q ?_
      refine q_g (j := 2) rfl rfl (by decide) (p_move rfl).q ?_
      refine q_g (j := 2) rfl rfl (by decide) (q_call call_34 rfl (fun w hs => swap_ok X hX w (X.of hs (by repeat constructor) (by repeat constructor) (by repeat constructor)) i (by omega))) ?_
      refine q_q (by decide) (p_pick rfl rfl).q ?_
      refine q_q (by decide) (p_move rfl).q ?_
      first | refine q_splitd (t := 130) rfl (fun h130 => ?_) (fun h130 => ?_) | refine q_splitb (t := 130) rfl (fun h130 => ?_) (fun h130 => ?_)
      ·skip
       refine q_g (j := 7) rfl rfl (by decide) (p_move rfl).q ?_
       first | refine q_g (j := 7) rfl rfl (by decide) (p_add (j := 1) rfl rfl rfl rfl (by show _ ≤ (9223372036854775807 : Nat); omega)).q ?_ | refine q_g (j := 7) rfl rfl (by decide) (p_addi rfl rfl (by show (-9223372036854775808 : Int) ≤ _; omega) (by show _ ≤ ((9223372036854775807 : Nat) : Int); omega)).q ?_
       refine q_g (j := 7) rfl rfl (by decide) (p_move rfl).q ?_
       refine q_g (j := 7) rfl rfl (by decide) (p_len_sl Tryd.underlying23 rfl).q ?_
       first | refine q_g (j := 7) rfl rfl (by decide) (p_lss rfl rfl rfl rfl).q ?_ | refine q_g (j := 7) rfl rfl (by decide) (p_lssi rfl rfl).q ?_
       refine q_q (by decide) (p_pick rfl rfl).q ?_
       refine q_q (by decide) (p_move rfl).q ?_
       first | refine q_splitd (t := 137) rfl (fun h137 => ?_) (fun h137 => ?_) | refine q_splitb (t := 137) rfl (fun h137 => ?_) (fun h137 => ?_)
       ·skip
        have hu := hu0 (by omega)
        have hu2 := hu20 (by omega)
        have hix : i + 1 < X.xs.length := by
          cases hsw : Ed.swp X.pl i with
          | none => rw [hsw] at h130; cases h130
          | some p => obtain ⟨a, b⟩ := p; obtain ⟨z, z2, _, h2, _⟩ := swp_at hsw; exact at_lt h2
        have hx := hx0 (by omega)
        have hx2 := hx20 hix
        have hy4 := fun h : Sw4 X i j y => h.2.2 _ _ _ _ hx hx2 hu hu2
        refine q_g (j := 14) rfl rfl (by decide) (p_move rfl).q ?_
        refine q_g (j := 14) rfl rfl (by decide) (p_move rfl).q ?_
        first | refine q_g (j := 14) rfl rfl (by decide) (r_index Tryd.underlying23 inf_3 rfl rfl rfl (by first | exact .fact (by repeat constructor) | exact .own (by repeat constructor) (by decide) (fun _ => rfl) | exact SlIn.reads (by repeat constructor) (by assumption)) rfl (by omega)).q ?_ | refine q_g (j := 14) rfl rfl (by decide) (r_index Tryd.underlying23 inf_3 rfl rfl rfl (by first | exact .fact (by repeat constructor) | exact .own (by repeat constructor) (by decide) (fun _ => rfl) | exact SlIn.reads (by repeat constructor) (by assumption)) rfl (by decide)).q ?_ | refine q_g (j := 14) rfl rfl (by decide) (p_indexo Tryd.underlying23 inf_3 rfl rfl rfl (by omega)).q ?_
        first | refine q_g (j := 14) rfl rfl (by decide) (r_loado Tryd.underlying3 rfl rfl (by repeat constructor) (by rfl)).q ?_ | refine q_g (j := 14) rfl rfl (by decide) (r_load1 Tryd.underlying3 rfl rfl (by first | exact .fact (by repeat constructor) | exact .own (by repeat constructor) (by decide) (fun _ => rfl) | exact SlIn.reads (by repeat constructor) (by assumption)) (by first | assumption | rfl) (by rfl)).q ?_ | refine q_g (j := 14) rfl rfl (by decide) (r_loadf Tryd.underlying3 rfl rfl (by first | exact .fact (by repeat constructor) | exact .own (by repeat constructor) (by decide) (fun _ => rfl) | exact SlIn.reads (by repeat constructor) (by assumption)) (by assumption) (by rfl)).q ?_
        first | refine q_g (j := 14) rfl rfl (by decide) (p_faddr (i := 0) 0 Tryd.underlying25 rfl inf_22 (by decide) rfl rfl).q ?_ | refine q_g (j := 14) rfl rfl (by decide) (p_faddro (i := 0) 0 Tryd.underlying25 rfl inf_22 (by decide) rfl rfl).q ?_
        first | refine q_g (j := 14) rfl rfl (by decide) (r_loado Tryd.underlying22 rfl rfl (by repeat constructor) (by rfl)).q ?_ | refine q_g (j := 14) rfl rfl (by decide) (r_load1 Tryd.underlying22 rfl rfl (by first | exact .fact (by repeat constructor) | exact .own (by repeat constructor) (by decide) (fun _ => rfl) | exact SlIn.reads (by repeat constructor) (by assumption)) (by first | assumption | rfl) (by rfl)).q ?_ | refine q_g (j := 14) rfl rfl (by decide) (r_loadf Tryd.underlying22 rfl rfl (by first | exact .fact (by repeat constructor) | exact .own (by repeat constructor) (by decide) (fun _ => rfl) | exact SlIn.reads (by repeat constructor) (by assumption)) (by assumption) (by rfl)).q ?_
        refine q_g (j := 14) rfl rfl (by decide) (p_move rfl).q ?_
        first | refine q_g (j := 14) rfl rfl (by decide) (p_add (j := 1) rfl rfl rfl rfl (by show _ ≤ (9223372036854775807 : Nat); omega)).q ?_ | refine q_g (j := 14) rfl rfl (by decide) (p_addi rfl rfl (by show (-9223372036854775808 : Int) ≤ _; omega) (by show _ ≤ ((9223372036854775807 : Nat) : Int); omega)).q ?_
        first | refine q_g (j := 14) rfl rfl (by decide) (r_index Tryd.underlying22 inf_44 rfl rfl rfl (by first | exact .fact (by repeat constructor) | exact .own (by repeat constructor) (by decide) (fun _ => rfl) | exact SlIn.reads (by repeat constructor) (by assumption)) rfl (by omega)).q ?_ | refine q_g (j := 14) rfl rfl (by decide) (r_index Tryd.underlying22 inf_44 rfl rfl rfl (by first | exact .fact (by repeat constructor) | exact .own (by repeat constructor) (by decide) (fun _ => rfl) | exact SlIn.reads (by repeat constructor) (by assumption)) rfl (by decide)).q ?_ | refine q_g (j := 14) rfl rfl (by decide) (p_indexo Tryd.underlying22 inf_44 rfl rfl rfl (by omega)).q ?_
        first | refine q_g (j := 14) rfl rfl (by decide) (p_faddr (i := 0) 0 Tryd.underlying44 rfl inf_3 (by decide) rfl rfl).q ?_ | refine q_g (j := 14) rfl rfl (by decide) (p_faddro (i := 0) 0 Tryd.underlying44 rfl inf_3 (by decide) rfl rfl).q ?_
        first | refine q_g (j := 14) rfl rfl (by decide) (r_loado Tryd.underlying3 rfl rfl (by repeat constructor) (by rfl)).q ?_ | refine q_g (j := 14) rfl rfl (by decide) (r_load1 Tryd.underlying3 rfl rfl (by first | exact .fact (by repeat constructor) | exact .own (by repeat constructor) (by decide) (fun _ => rfl) | exact SlIn.reads (by repeat constructor) (by assumption)) (by first | assumption | rfl) (by rfl)).q ?_ | refine q_g (j := 14) rfl rfl (by decide) (r_loadf Tryd.underlying3 rfl rfl (by first | exact .fact (by repeat constructor) | exact .own (by repeat constructor) (by decide) (fun _ => rfl) | exact SlIn.reads (by repeat constructor) (by assumption)) (by assumption) (by rfl)).q ?_
        first | refine q_g (j := 14) rfl rfl (by decide) (p_eql rfl rfl rfl rfl).q ?_ | refine q_g (j := 14) rfl rfl (by decide) (p_eqli rfl rfl).q ?_
        refine q_q (by decide) (p_pick rfl rfl).q ?_
        refine q_q (by decide) (p_move rfl).q ?_
        first | refine q_splitd (t := 151) rfl (fun h151 => ?_) (fun h151 => ?_) | refine q_splitb (t := 151) rfl (fun h151 => ?_) (fun h151 => ?_)
        ·skip
         refine q_g (j := 28) rfl rfl (by decide) (p_move rfl).q ?_
         refine q_g (j := 28) rfl rfl (by decide) (p_move rfl).q ?_
         first | refine q_g (j := 28) rfl rfl (by decide) (p_add (j := 1) rfl rfl rfl rfl (by show _ ≤ (9223372036854775807 : Nat); omega)).q ?_ | refine q_g (j := 28) rfl rfl (by decide) (p_addi rfl rfl (by show (-9223372036854775808 : Int) ≤ _; omega) (by show _ ≤ ((9223372036854775807 : Nat) : Int); omega)).q ?_
         first | refine q_g (j := 28) rfl rfl (by decide) (r_index Tryd.underlying23 inf_3 rfl rfl rfl (by first | exact .fact (by repeat constructor) | exact .own (by repeat constructor) (by decide) (fun _ => rfl) | exact SlIn.reads (by repeat constructor) (by assumption)) rfl (by omega)).q ?_ | refine q_g (j := 28) rfl rfl (by decide) (r_index Tryd.underlying23 inf_3 rfl rfl rfl (by first | exact .fact (by repeat constructor) | exact .own (by repeat constructor) (by decide) (fun _ => rfl) | exact SlIn.reads (by repeat constructor) (by assumption)) rfl (by decide)).q ?_ | refine q_g (j := 28) rfl rfl (by decide) (p_indexo Tryd.underlying23 inf_3 rfl rfl rfl (by omega)).q ?_
         first | refine q_g (j := 28) rfl rfl (by decide) (r_loado Tryd.underlying3 rfl rfl (by repeat constructor) (by rfl)).q ?_ | refine q_g (j := 28) rfl rfl (by decide) (r_load1 Tryd.underlying3 rfl rfl (by first | exact .fact (by repeat constructor) | exact .own (by repeat constructor) (by decide) (fun _ => rfl) | exact SlIn.reads (by repeat constructor) (by assumption)) (by first | assumption | rfl) (by rfl)).q ?_ | refine q_g (j := 28) rfl rfl (by decide) (r_loadf Tryd.underlying3 rfl rfl (by first | exact .fact (by repeat constructor) | exact .own (by repeat constructor) (by decide) (fun _ => rfl) | exact SlIn.reads (by repeat constructor) (by assumption)) (by assumption) (by rfl)).q ?_
         first | refine q_g (j := 28) rfl rfl (by decide) (p_faddr (i := 0) 0 Tryd.underlying25 rfl inf_22 (by decide) rfl rfl).q ?_ | refine q_g (j := 28) rfl rfl (by decide) (p_faddro (i := 0) 0 Tryd.underlying25 rfl inf_22 (by decide) rfl rfl).q ?_
         first | refine q_g (j := 28) rfl rfl (by decide) (r_loado Tryd.underlying22 rfl rfl (by repeat constructor) (by rfl)).q ?_ | refine q_g (j := 28) rfl rfl (by decide) (r_load1 Tryd.underlying22 rfl rfl (by first | exact .fact (by repeat constructor) | exact .own (by repeat constructor) (by decide) (fun _ => rfl) | exact SlIn.reads (by repeat constructor) (by assumption)) (by first | assumption | rfl) (by rfl)).q ?_ | refine q_g (j := 28) rfl rfl (by decide) (r_loadf Tryd.underlying22 rfl rfl (by first | exact .fact (by repeat constructor) | exact .own (by repeat constructor) (by decide) (fun _ => rfl) | exact SlIn.reads (by repeat constructor) (by assumption)) (by assumption) (by rfl)).q ?_
         refine q_g (j := 28) rfl rfl (by decide) (p_move rfl).q ?_
         first | refine q_g (j := 28) rfl rfl (by decide) (r_index Tryd.underlying22 inf_44 rfl rfl rfl (by first | exact .fact (by repeat constructor) | exact .own (by repeat constructor) (by decide) (fun _ => rfl) | exact SlIn.reads (by repeat constructor) (by assumption)) rfl (by omega)).q ?_ | refine q_g (j := 28) rfl rfl (by decide) (r_index Tryd.underlying22 inf_44 rfl rfl rfl (by first | exact .fact (by repeat constructor) | exact .own (by repeat constructor) (by decide) (fun _ => rfl) | exact SlIn.reads (by repeat constructor) (by assumption)) rfl (by decide)).q ?_ | refine q_g (j := 28) rfl rfl (by decide) (p_indexo Tryd.underlying22 inf_44 rfl rfl rfl (by omega)).q ?_
         first | refine q_g (j := 28) rfl rfl (by decide) (p_faddr (i := 0) 0 Tryd.underlying44 rfl inf_3 (by decide) rfl rfl).q ?_ | refine q_g (j := 28) rfl rfl (by decide) (p_faddro (i := 0) 0 Tryd.underlying44 rfl inf_3 (by decide) rfl rfl).q ?_
         first | refine q_g (j := 28) rfl rfl (by decide) (r_loado Tryd.underlying3 rfl rfl (by repeat constructor) (by rfl)).q ?_ | refine q_g (j := 28) rfl rfl (by decide) (r_load1 Tryd.underlying3 rfl rfl (by first | exact .fact (by repeat constructor) | exact .own (by repeat constructor) (by decide) (fun _ => rfl) | exact SlIn.reads (by repeat constructor) (by assumption)) (by first | assumption | rfl) (by rfl)).q ?_ | refine q_g (j := 28) rfl rfl (by decide) (r_loadf Tryd.underlying3 rfl rfl (by first | exact .fact (by repeat constructor) | exact .own (by repeat constructor) (by decide) (fun _ => rfl) | exact SlIn.reads (by repeat constructor) (by assumption)) (by assumption) (by rfl)).q ?_
         first | refine q_g (j := 28) rfl rfl (by decide) (p_eql rfl rfl rfl rfl).q ?_ | refine q_g (j := 28) rfl rfl (by decide) (p_eqli rfl rfl).q ?_
         refine q_q (by decide) (p_pick rfl rfl).q ?_
         refine q_q (by decide) (p_assign rfl).q ?_
         refine q_nil ?_
         refine c_join (()) ?inv ?sub ?perm ?facts
         case sub => exact ⟨rfl, rfl, rfl, rfl, rfl, (decb ⟨fun h => ⟨by omega, by omega, h130, fun a b c d h1 h2 h3 h4 => by rw [hx] at h1; rw [hx2] at h2; rw [hu] at h3; rw [hu2] at h4; injection h1 with h1; injection h2 with h2; injection h3 with h3; injection h4 with h4; subst h1; subst h2; subst h3; subst h4; exact ⟨by omega, by omega⟩⟩, fun h => by have := hy4 h.2; omega⟩), trivial⟩
         case perm =>
          exact .refl _
         case facts => exact fun _ h => h
         case inv =>
          trivial
        ·skip
         refine q_off (j := 28) rfl rfl (by first | (simp; done) | (simp [undef]; done)) (by decide) ?_
         refine q_off (j := 28) rfl rfl (by first | (simp; done) | (simp [undef]; done)) (by decide) ?_
         refine q_off (j := 28) rfl rfl (by first | (simp; done) | (simp [undef]; done)) (by decide) ?_
         refine q_off (j := 28) rfl rfl (by first | (simp; done) | (simp [undef]; done)) (by decide) ?_
         refine q_off (j := 28) rfl rfl (by first | (simp; done) | (simp [undef]; done)) (by decide) ?_
         refine q_off (j := 28) rfl rfl (by first | (simp; done) | (simp [undef]; done)) (by decide) ?_
         refine q_off (j := 28) rfl rfl (by first | (simp; done) | (simp [undef]; done)) (by decide) ?_
         refine q_off (j := 28) rfl rfl (by first | (simp; done) | (simp [undef]; done)) (by decide) ?_
         refine q_off (j := 28) rfl rfl (by first | (simp; done) | (simp [undef]; done)) (by decide) ?_
         refine q_off (j := 28) rfl rfl (by first | (simp; done) | (simp [undef]; done)) (by decide) ?_
         refine q_off (j := 28) rfl rfl (by first | (simp; done) | (simp [undef]; done)) (by decide) ?_
         refine q_off (j := 28) rfl rfl (by first | (simp; done) | (simp [undef]; done)) (by decide) ?_
         refine q_q (by decide) (p_pick rfl rfl).q ?_
         refine q_q (by decide) (p_assign rfl).q ?_
         refine q_nil ?_
         refine c_join (()) ?inv ?sub ?perm ?facts
         case sub => exact ⟨rfl, rfl, rfl, rfl, rfl, (decn fun h => by have := hy4 h.2; omega), trivial⟩
         case perm =>
          exact .refl _
         case facts => exact fun _ h => h
         case inv =>
          trivial
       ·skip
        refine q_off (j := 14) rfl rfl (by first | (simp; done) | (simp [undef]; done)) (by decide) ?_
        refine q_off (j := 14) rfl rfl (by first | (simp; done) | (simp [undef]; done)) (by decide) ?_
        refine q_off (j := 14) rfl rfl (by first | (simp; done) | (simp [undef]; done)) (by decide) ?_
        refine q_off (j := 14) rfl rfl (by first | (simp; done) | (simp [undef]; done)) (by decide) ?_
        refine q_off (j := 14) rfl rfl (by first | (simp; done) | (simp [undef]; done)) (by decide) ?_
        refine q_off (j := 14) rfl rfl (by first | (simp; done) | (simp [undef]; done)) (by decide) ?_
        refine q_off (j := 14) rfl rfl (by first | (simp; done) | (simp [undef]; done)) (by decide) ?_
        refine q_off (j := 14) rfl rfl (by first | (simp; done) | (simp [undef]; done)) (by decide) ?_
        refine q_off (j := 14) rfl rfl (by first | (simp; done) | (simp [undef]; done)) (by decide) ?_
        refine q_off (j := 14) rfl rfl (by first | (simp; done) | (simp [undef]; done)) (by decide) ?_
        refine q_off (j := 14) rfl rfl (by first | (simp; done) | (simp [undef]; done)) (by decide) ?_
        refine q_off (j := 14) rfl rfl (by first | (simp; done) | (simp [undef]; done)) (by decide) ?_
        refine q_q (by decide) (p_pick rfl rfl).q ?_
        refine q_q (by decide) (p_move rfl).q ?_
        refine q_off (j := 28) rfl rfl (by first | (simp; done) | (simp [undef]; done)) (by decide) ?_
        refine q_off (j := 28) rfl rfl (by first | (simp; done) | (simp [undef]; done)) (by decide) ?_
        refine q_off (j := 28) rfl rfl (by first | (simp; done) | (simp [undef]; done)) (by decide) ?_
        refine q_off (j := 28) rfl rfl (by first | (simp; done) | (simp [undef]; done)) (by decide) ?_
        refine q_off (j := 28) rfl rfl (by first | (simp; done) | (simp [undef]; done)) (by decide) ?_
        refine q_off (j := 28) rfl rfl (by first | (simp; done) | (simp [undef]; done)) (by decide) ?_
        refine q_off (j := 28) rfl rfl (by first | (simp; done) | (simp [undef]; done)) (by decide) ?_
        refine q_off (j := 28) rfl rfl (by first | (simp; done) | (simp [undef]; done)) (by decide) ?_
        refine q_off (j := 28) rfl rfl (by first | (simp; done) | (simp [undef]; done)) (by decide) ?_
        refine q_off (j := 28) rfl rfl (by first | (simp; done) | (simp [undef]; done)) (by decide) ?_
        refine q_off (j := 28) rfl rfl (by first | (simp; done) | (simp [undef]; done)) (by decide) ?_
        refine q_off (j := 28) rfl rfl (by first | (simp; done) | (simp [undef]; done)) (by decide) ?_
        refine q_q (by decide) (p_pick rfl rfl).q ?_
        refine q_q (by decide) (p_assign rfl).q ?_
        refine q_nil ?_
        refine c_join (()) ?inv ?sub ?perm ?facts
        case sub => exact ⟨rfl, rfl, rfl, rfl, rfl, (decn fun h => by have := h.2.1; omega), trivial⟩
        case perm =>
         exact .refl _
        case facts => exact fun _ h => h
        case inv =>
         trivial
      ·skip
       refine q_off (j := 7) rfl rfl (by first | (simp; done) | (simp [undef]; done)) (by decide) ?_
       refine q_off (j := 7) rfl rfl (by first | (simp; done) | (simp [undef]; done)) (by decide) ?_
       refine q_off (j := 7) rfl rfl (by first | (simp; done) | (simp [undef]; done)) (by decide) ?_
       refine q_off (j := 7) rfl rfl (by first | (simp; done) | (simp [undef]; done)) (by decide) ?_
       refine q_off (j := 7) rfl rfl (by first | (simp; done) | (simp [undef]; done)) (by decide) ?_
       refine q_q (by decide) (p_pick rfl rfl).q ?_
       refine q_q (by decide) (p_move rfl).q ?_
       refine q_off (j := 14) rfl rfl (by first | (simp; done) | (simp [undef]; done)) (by decide) ?_
       refine q_off (j := 14) rfl rfl (by first | (simp; done) | (simp [undef]; done)) (by decide) ?_
       refine q_off (j := 14) rfl rfl (by first | (simp; done) | (simp [undef]; done)) (by decide) ?_
       refine q_off (j := 14) rfl rfl (by first | (simp; done) | (simp [undef]; done)) (by decide) ?_
       refine q_off (j := 14) rfl rfl (by first | (simp; done) | (simp [undef]; done)) (by decide) ?_
       refine q_off (j := 14) rfl rfl (by first | (simp; done) | (simp [undef]; done)) (by decide) ?_
       refine q_off (j := 14) rfl rfl (by first | (simp; done) | (simp [undef]; done)) (by decide) ?_
       refine q_off (j := 14) rfl rfl (by first | (simp; done) | (simp [undef]; done)) (by decide) ?_
       refine q_off (j := 14) rfl rfl (by first | (simp; done) | (simp [undef]; done)) (by decide) ?_
       refine q_off (j := 14) rfl rfl (by first | (simp; done) | (simp [undef]; done)) (by decide) ?_
       refine q_off (j := 14) rfl rfl (by first | (simp; done) | (simp [undef]; done)) (by decide) ?_
       refine q_off (j := 14) rfl rfl (by first | (simp; done) | (simp [undef]; done)) (by decide) ?_
       refine q_q (by decide) (p_pick rfl rfl).q ?_
       refine q_q (by decide) (p_move rfl).q ?_
       refine q_off (j := 28) rfl rfl (by first | (simp; done) | (simp [undef]; done)) (by decide) ?_
       refine q_off (j := 28) rfl rfl (by first | (simp; done) | (simp [undef]; done)) (by decide) ?_
       refine q_off (j := 28) rfl rfl (by first | (simp; done) | (simp [undef]; done)) (by decide) ?_
       refine q_off (j := 28) rfl rfl (by first | (simp; done) | (simp [undef]; done)) (by decide) ?_
       refine q_off (j := 28) rfl rfl (by first | (simp; done) | (simp [undef]; done)) (by decide) ?_
       refine q_off (j := 28) rfl rfl (by first | (simp; done) | (simp [undef]; done)) (by decide) ?_
       refine q_off (j := 28) rfl rfl (by first | (simp; done) | (simp [undef]; done)) (by decide) ?_
       refine q_off (j := 28) rfl rfl (by first | (simp; done) | (simp [undef]; done)) (by decide) ?_
       refine q_off (j := 28) rfl rfl (by first | (simp; done) | (simp [undef]; done)) (by decide) ?_
       refine q_off (j := 28) rfl rfl (by first | (simp; done) | (simp [undef]; done)) (by decide) ?_
       refine q_off (j := 28) rfl rfl (by first | (simp; done) | (simp [undef]; done)) (by decide) ?_
       refine q_off (j := 28) rfl rfl (by first | (simp; done) | (simp [undef]; done)) (by decide) ?_
       refine q_q (by decide) (p_pick rfl rfl).q ?_
       refine q_q (by decide) (p_assign rfl).q ?_
       refine q_nil ?_
       refine c_join (()) ?inv ?sub ?perm ?facts
       case sub => exact ⟨rfl, rfl, rfl, rfl, rfl, (decn fun h => by rw [h.2.2.1] at h130; cases h130), trivial⟩
       case perm =>
        exact .refl _
       case facts => exact fun _ h => h
       case inv =>
        trivial
     ·skip
      refine q_off (j := 2) rfl rfl (by first | (simp; done) | (simp [undef]; done)) (by decide) ?_
      refine q_off (j := 2) rfl rfl (by first | (simp; done) | (simp [undef]; done)) (by decide) ?_
      refine q_off (j := 2) rfl rfl (by first | (simp; done) | (simp [undef]; done)) (by decide) ?_
      refine q_q (by decide) (p_pick rfl rfl).q ?_
      refine q_q (by decide) (p_move rfl).q ?_
      refine q_off (j := 7) rfl rfl (by first | (simp; done) | (simp [undef]; done)) (by decide) ?_
      refine q_off (j := 7) rfl rfl (by first | (simp; done) | (simp [undef]; done)) (by decide) ?_
      refine q_off (j := 7) rfl rfl (by first | (simp; done) | (simp [undef]; done)) (by decide) ?_
      refine q_off (j := 7) rfl rfl (by first | (simp; done) | (simp [undef]; done)) (by decide) ?_
      refine q_off (j := 7) rfl rfl (by first | (simp; done) | (simp [undef]; done)) (by decide) ?_
      refine q_q (by decide) (p_pick rfl rfl).q ?_
      refine q_q (by decide) (p_move rfl).q ?_
      refine q_off (j := 14) rfl rfl (by first | (simp; done) | (simp [undef]; done)) (by decide) ?_
      refine q_off (j := 14) rfl rfl (by first | (simp; done) | (simp [undef]; done)) (by decide) ?_
      refine q_off (j := 14) rfl rfl (by first | (simp; done) | (simp [undef]; done)) (by decide) ?_
      refine q_off (j := 14) rfl rfl (by first | (simp; done) | (simp [undef]; done)) (by decide) ?_
      refine q_off (j := 14) rfl rfl (by first | (simp; done) | (simp [undef]; done)) (by decide) ?_
      refine q_off (j := 14) rfl rfl (by first | (simp; done) | (simp [undef]; done)) (by decide) ?_
      refine q_off (j := 14) rfl rfl (by first | (simp; done) | (simp [undef]; done)) (by decide) ?_
      refine q_off (j := 14) rfl rfl (by first | (simp; done) | (simp [undef]; done)) (by decide) ?_
      refine q_off (j := 14) rfl rfl (by first | (simp; done) | (simp [undef]; done)) (by decide) ?_
      refine q_off (j := 14) rfl rfl (by first | (simp; done) | (simp [undef]; done)) (by decide) ?_
      refine q_off (j := 14) rfl rfl (by first | (simp; done) | (simp [undef]; done)) (by decide) ?_
      refine q_off (j := 14) rfl rfl (by first | (simp; done) | (simp [undef]; done)) (by decide) ?_
      refine q_q (by decide) (p_pick rfl rfl).q ?_
      refine q_q (by decide) (p_move rfl).q ?_
      refine q_off (j := 28) rfl rfl (by first | (simp; done) | (simp [undef]; done)) (by decide) ?_
      refine q_off (j := 28) rfl rfl (by first | (simp; done) | (simp [undef]; done)) (by decide) ?_
      refine q_off (j := 28) rfl rfl (by first | (simp; done) | (simp [undef]; done)) (by decide) ?_
      refine q_off (j := 28) rfl rfl (by first | (simp; done) | (simp [undef]; done)) (by decide) ?_
      refine q_off (j := 28) rfl rfl (by first | (simp; done) | (simp [undef]; done)) (by decide) ?_
      refine q_off (j := 28) rfl rfl (by first | (simp; done) | (simp [undef]; done)) (by decide) ?_
      refine q_off (j := 28) rfl rfl (by first | (simp; done) | (simp [undef]; done)) (by decide) ?_
      refine q_off (j := 28) rfl rfl (by first | (simp; done) | (simp [undef]; done)) (by decide) ?_
      refine q_off (j := 28) rfl rfl (by first | (simp; done) | (simp [undef]; done)) (by decide) ?_
      refine q_off (j := 28) rfl rfl (by first | (simp; done) | (simp [undef]; done)) (by decide) ?_
      refine q_off (j := 28) rfl rfl (by first | (simp; done) | (simp [undef]; done)) (by decide) ?_
      refine q_off (j := 28) rfl rfl (by first | (simp; done) | (simp [undef]; done)) (by decide) ?_
      refine q_q (by decide) (p_pick rfl rfl).q ?_
      refine q_q (by decide) (p_assign rfl).q ?_
      refine q_nil ?_
      refine c_join (()) ?inv ?sub ?perm ?facts
      case sub => exact ⟨rfl, rfl, rfl, rfl, rfl, (decn fun h => by omega), trivial⟩
      case perm =>
       exact .refl _
      case facts => exact fun _ h => h
      case inv =>
       trivial
    rintro uu hmeet
    show Cont _ _ _ _ [(2, .slice T tb.length tc), (3, .int .i64 ((y.length + 1 : Nat) : Int)), (4, .int .i64 (i : Int)), (5, .int .i64 (j : Int)), (7, .pointer (some ⟨b7, 0, none⟩)), (122, .bool (dec (k = 4 ∧ Sw4 X i j y)))] ([iCells b7 25 [.slice X.A X.xs.length X.c, .slice X.B X.ins.length X.d, .int .i64 X.sw]]) (Sl 1 intF T tb :: (Sl 1 intF C y :: [Rd X.xs, Sl 1 intF X.B X.ins, Sl 3 colF X.A X.xs]))
    first | refine c_dec rfl (fun h122 => ?_) (fun h122 => ?_) | refine c_cond rfl (fun h122 => ?_) (fun h122 => ?_)
    ·skip
     have hsw4 := of_dec h122
     have hjl := hsw4.2.1
     have hix : i + 1 < X.xs.length := by
       cases hsw : Ed.swp X.pl i with
       | none => have := hsw4.2.2.1; rw [hsw] at this; cases this
       | some p => obtain ⟨a, b⟩ := p; obtain ⟨z, z2, _, h2, _⟩ := swp_at hsw; exact at_lt h2
     have h1 := hB4 (by omega) (by omega)
     have hl1 := at_lt h1
     have hC := C_ok hO (y.drop (j + 2)) (show i + 2 ≤ X.xs.length by omega)
     refine c_seq ?_
     refine c_draw mixed (by decide +kernel) ?_
     first | refine q_q (by decide) (p_faddr (i := 2) 2 Tryd.underlying25 rfl inf_3 (by decide) rfl rfl).q ?_ | refine q_q (by decide) (p_faddro (i := 2) 2 Tryd.underlying25 rfl inf_3 (by decide) rfl rfl).q ?_
     first | refine q_q (by decide) (r_loado Tryd.underlying3 rfl rfl (by repeat constructor) (by rfl)).q ?_ | refine q_q (by decide) (r_load1 Tryd.underlying3 rfl rfl (by first | exact .fact (by repeat constructor) | exact .own (by repeat constructor) (by decide) (fun _ => rfl) | exact SlIn.reads (by repeat constructor) (by assumption)) (by first | assumption | rfl) (by rfl)).q ?_ | refine q_q (by decide) (r_loadf Tryd.underlying3 rfl rfl (by first | exact .fact (by repeat constructor) | exact .own (by repeat constructor) (by decide) (fun _ => rfl) | exact SlIn.reads (by repeat constructor) (by assumption)) (by assumption) (by rfl)).q ?_
     refine q_q (by decide) (p_move rfl).q ?_
     refine q_q (by decide) (p_move rfl).q ?_
     first | refine q_q (by decide) (p_add (j := 2) rfl rfl rfl rfl (by show _ ≤ (9223372036854775807 : Nat); omega)).q ?_ | refine q_q (by decide) (p_addi rfl rfl (by show (-9223372036854775808 : Int) ≤ _; omega) (by show _ ≤ ((9223372036854775807 : Nat) : Int); omega)).q ?_
     refine q_q (by decide) (p_move rfl).q ?_
     refine q_q (by decide) (p_mul rfl rfl rfl rfl (by show _ ≤ (9223372036854775807 : Nat); omega)).q ?_
     refine q_q (by decide) (p_move rfl).q ?_
     first | refine q_q (by decide) (p_add rfl rfl rfl rfl (by show _ ≤ (9223372036854775807 : Nat); omega)).q ?_ | refine q_q (by decide) (p_addi rfl rfl (by show (-9223372036854775808 : Int) ≤ _; omega) (by show _ ≤ ((9223372036854775807 : Nat) : Int); omega)).q ?_
     first | refine q_q (by decide) (p_add (j := 2) rfl rfl rfl rfl (by show _ ≤ (9223372036854775807 : Nat); omega)).q ?_ | refine q_q (by decide) (p_addi rfl rfl (by show (-9223372036854775808 : Int) ≤ _; omega) (by show _ ≤ ((9223372036854775807 : Nat) : Int); omega)).q ?_
     first | refine q_q (by decide) (r_index Tryd.underlying23 inf_3 rfl rfl rfl (by first | exact .fact (by repeat constructor) | exact .own (by repeat constructor) (by decide) (fun _ => rfl) | exact SlIn.reads (by repeat constructor) (by assumption)) rfl (by omega)).q ?_ | refine q_q (by decide) (r_index Tryd.underlying23 inf_3 rfl rfl rfl (by first | exact .fact (by repeat constructor) | exact .own (by repeat constructor) (by decide) (fun _ => rfl) | exact SlIn.reads (by repeat constructor) (by assumption)) rfl (by decide)).q ?_ | refine q_q (by decide) (p_indexo Tryd.underlying23 inf_3 rfl rfl rfl (by omega)).q ?_
     first | refine q_q (by decide) (r_loado Tryd.underlying3 rfl rfl (by repeat constructor) (by rfl)).q ?_ | refine q_q (by decide) (r_load1 Tryd.underlying3 rfl rfl (by first | exact .fact (by repeat constructor) | exact .own (by repeat constructor) (by decide) (fun _ => rfl) | exact SlIn.reads (by repeat constructor) (by assumption)) (by first | assumption | rfl) (by rfl)).q ?_ | refine q_q (by decide) (r_loadf Tryd.underlying3 rfl rfl (by first | exact .fact (by repeat constructor) | exact .own (by repeat constructor) (by decide) (fun _ => rfl) | exact SlIn.reads (by repeat constructor) (by assumption)) (by assumption) (by rfl)).q ?_
     refine q_q (by decide) (q_call call_33 rfl (fun w hs => plus_ok (X.sw) (Ed.C X.pl (i + 2) (y.drop (j + 2))) (by omega) (by omega) (by omega) (by omega) w)) ?_
     refine q_q (by decide) (p_assign rfl).q ?_
     refine q_nil ?_
     refine c_ret ?_
     refine c_ret1 rfl rfl (fun w hs => ?_)
     have hk := hsw4.1
     subst hk
     exact ⟨by rw [kv_one (s := ⟨⟨4, 0⟩, X.sw, 2, 2⟩) (by show Ed.st4 _ _ _ = _; rw [st4_eq, if_pos (dec_true hsw4.2)]), drop2], hs.ext⟩
    ·skip
     refine c_skip ?_
     refine c_seq ?_
     refine c_reg ?_
     refine l_q (by decide) (p_assign (v := .int .i64 ((1099511627776 : Nat) : Int)) rfl).q ?_
     refine l_nil ?_
     refine c_ret ?_
     refine c_ret1 rfl rfl (fun w hs => ?_)
     have hkn : kv X.pl i (y.drop j) k = 1099511627776 := by
       refine kv_nil ?_
       have hk : k = 1 ∨ k = 2 ∨ k = 3 ∨ k = 4 := by omega
       rcases hk with rfl | rfl | rfl | rfl
       · show Ed.st1 _ _ _ = _; rw [st1_eq hx0 hu0 hr0, if_neg (by omega)]
       · show Ed.st2 _ _ = _; rw [st2_eq hx0, if_neg (by omega)]
       · show Ed.st3 _ _ = _; rw [st3_eq hu0 hq0, if_neg (by omega)]
       · show Ed.st4 _ _ _ = _; rw [st4_eq, if_neg (fun h => by rw [dec_true ⟨rfl, of_dec h⟩] at h122; cases h122)]
     exact ⟨by rw [hkn]; rfl, hs.ext⟩
end Go.Proofs.YtlefheiohblgdaaDoor
