/- The walks of edit scripts, seventh part; conditions: lengths. -/
import Derived.Test.YtlefheiohblgdaaDoorWalksF
namespace Go.Proofs.YtlefheiohblgdaaDoor
open Go Go.Fx Go.Proofs

def rowC (X : Inp) (y : List Int) (a : Nat) : List Int := (List.range (y.length + 1)).map fun b => Ed.C X.pl a (y.drop b)
theorem rowC_len (X : Inp) (y : List Int) (a : Nat) : (rowC X y a).length = y.length + 1 := by simp [rowC]
theorem rowC_at {X : Inp} {y : List Int} {a b : Nat} (hb : b ≤ y.length) : (rowC X y a)[b]? = some (Ed.C X.pl a (y.drop b)) := by simp [rowC, List.getElem?_map, List.getElem?_range (show b < y.length + 1 by omega)]
abbrev Hd := Option Addr × Nat × Nat
def hdF (h : Hd) : List Value := [.slice h.1 h.2.1 h.2.2]
theorem len_hdF (h : Hd) : (hdF h).length = 1 := rfl
theorem hd_set (hds : List Hd) (k : Nat) (A : Option Addr) (a b : Nat) : (hds.flatMap hdF).set k (.slice A a b) = (hds.set k (A, a, b)).flatMap hdF := by
  induction hds generalizing k with
  | nil => rfl
  | cons x l ih => cases k with
    | zero => rfl
    | succ k => show Value.slice x.1 x.2.1 x.2.2 :: (l.flatMap hdF).set k _ = Value.slice x.1 x.2.1 x.2.2 :: (l.set k (A, a, b)).flatMap hdF; rw [ih]
theorem hd_repl (n : Nat) : List.replicate n (Value.slice none 0 0) = (List.replicate n ((none, 0, 0) : Hd)).flatMap hdF := by
  induction n with
  | zero => rfl
  | succ n ih => rw [List.replicate_succ, List.replicate_succ, ih]; rfl
theorem hd_len (hds : List Hd) : (hds.flatMap hdF).length = hds.length := by
  induction hds with
  | nil => rfl
  | cons x l ih => show (l.flatMap hdF).length + 1 = _; rw [ih]; rfl
def RowsF (lo : Nat) (X : Inp) (y : List Int) (hds : List Hd) (p : Nat) : World → Prop := fun w => ∀ (a : Nat) (h : Hd), p ≤ a → hds[a]? = some h → (∀ ad : Addr, h.1 = some ad → lo ≤ ad.block) ∧ Sl 1 intF h.1 (rowC X y a) w
def cur (X : Inp) (y : List Int) (i : Nat) (rw_ : List Int) (k : Nat) : List Int := if k = i then rw_ else rowC X y k
section
variable {P : Program} {w0 : World} {K : List Nat} {n : Sz} {N : Act → World → Prop} {L : Slots} {σ : Fx.Own} {ρ : Fx.Facts} {lo i k bR c1 c2 : Nat} {X : Inp} {y r : List Int} {hds hds2 : List Hd}
theorem SlIn.rows {h : Hd} {p : Nat} (hpi : i + 1 = p) (h1 : iCells bR 3 (r.flatMap intF) ∈ σ) (h2 : RowsF lo X y hds p ∈ ρ) (he : hds2 = hds.set i (some ⟨bR, 0, none⟩, c1, c2)) (hk : hds2[k]? = some h) (hik : i ≤ k) : SlIn w0 K σ ρ 1 intF h.1 (cur X y i r k) := fun w hs => by
  subst hpi
  unfold cur
  by_cases hki : k = i
  · subst hki; rw [if_pos rfl]
    have hlt : k < hds.length := by have := at_lt hk; rw [he, List.length_set] at this; exact this
    rw [he, List.getElem?_set_self hlt] at hk; injection hk with hk; subst hk
    exact cells_sl (fun _ => rfl) (hs.own _ h1).1
  · rw [if_neg hki]
    rw [he, List.getElem?_set_ne (fun e => hki e.symm)] at hk
    exact ((hs.facts _ h2).1 k h (by omega) hk).2
theorem c_triv (q : World → Prop) (hq : ∀ w, q w) (h : Cont w0 K n N L σ (q :: ρ)) : Cont w0 K n N L σ ρ := fun a w hf hs => h a w hf ⟨hs.ext, hs.nodup, hs.own, fun p hp => by
  rcases List.mem_cons.1 hp with rfl | hp
  · exact ⟨hq w, fun _ => False, fun _ h => h.elim, fun _ w2 _ _ => hq w2, fun _ _ h => h⟩
  · exact hs.facts p hp⟩
theorem c_sealrow {p : Nat} (hpi : i + 1 = p) (hR : RowsF w0.heap.size X y hds p ∈ ρ) (he : hds2 = hds.set i (some ⟨bR, 0, none⟩, c1, c2)) (hr : r = rowC X y i) (hK : K = []) (hil : i < hds.length) (h : Cont w0 K n N L σ (RowsF w0.heap.size X y hds2 i :: ρ)) : Cont w0 K n N L (iCells bR 3 (r.flatMap intF) :: σ) ρ := fun a w hf hs => by
  subst hpi
  have hb := (hs.own _ (List.mem_cons_self ..)).2.2 bR (by simp [iCells])
  have hb2 : w0.heap.size ≤ bR := by rcases hb.2 with h | h; subst hK; cases h; exact h
  have h1 := hs.sealc intF r rfl (fun _ => rfl)
  have h2 := h1.and (p := Sl 1 intF (some ⟨bR, 0, none⟩) r) (q := RowsF w0.heap.size X y hds (i + 1)) (List.mem_cons_self ..) (List.mem_cons_of_mem _ hR)
  have h3 := h2.iff (q := RowsF w0.heap.size X y hds2 i) (List.mem_cons_self ..) (fun w1 => by
    constructor
    · rintro ⟨g1, g2⟩ k hd hk hh
      by_cases hki : k = i
      · subst hki
        have hlt : k < hds.length := by have := at_lt hh; rw [he, List.length_set] at this; exact this
        rw [he, List.getElem?_set_self hlt] at hh; injection hh with hh; subst hh
        exact ⟨fun ad had => by injection had with had; subst had; exact hb2, hr ▸ g1⟩
      · rw [he, List.getElem?_set_ne (fun e => hki e.symm)] at hh
        exact g2 k hd (by omega) hh
    · intro g
      refine ⟨?_, fun k hd hk hh => g k hd (by omega) (by rw [he, List.getElem?_set_ne (by omega)]; exact hh)⟩
      by_cases hlt : i < hds.length
      · have := (g i (some ⟨bR, 0, none⟩, c1, c2) (Nat.le_refl _) (by rw [he, List.getElem?_set_self hlt])).2
        rw [hr]; exact this
      · exact absurd hil hlt)
  exact h a w hf ⟨h3.ext, h3.nodup, h3.own, fun q hq => h3.facts q (by
    rcases List.mem_cons.1 hq with rfl | hq
    · exact List.mem_cons_self ..
    · exact List.mem_cons_of_mem _ (List.mem_cons_of_mem _ (List.mem_cons_of_mem _ hq)))⟩
end
structure Tbl (X : Inp) (y : List Int) where
  A : Option Addr
  c : Nat
  hds : List Hd
  len : hds.length = X.xs.length + 1
  hd : ∀ (a : Nat) (h : Hd), hds[a]? = some h → h.2.1 = y.length + 1
def TabF {X : Inp} {y : List Int} (lo : Nat) (x : Tbl X y) : World → Prop := fun w => Sl 1 hdF x.A x.hds w ∧ RowsF lo X y x.hds 0 w
theorem least_snoc (l : List Int) (x : Int) : Ed.least (l ++ [x]) = min (Ed.least l) x := by unfold Ed.least; rw [List.foldl_append]; rfl
def gS (X : Inp) (i j : Nat) (y : List Int) (s : Ed.Stp) : Int := Ed.plus s.cost (Ed.C X.pl (i + s.tok) (y.drop (j + s.emi)))
theorem C_steps {X : Inp} {i j : Nat} {y : List Int} (hi : i ≤ X.xs.length) (hj : j ≤ y.length) (h : ¬ (i = X.xs.length ∧ j = y.length)) : Ed.least ((Ed.steps X.pl i (y.drop j)).map (gS X i j y)) = Ed.C X.pl i (y.drop j) := by
  rw [Ed.C_eq X.pl i (y.drop j) (by rw [pl_len]; exact hi), if_neg (by rw [pl_len, drop_end hj]; exact h)]
  congr 1
  apply List.map_congr_left
  intro s _
  unfold gS; rw [drop2]
theorem C_end {X : Inp} {y : List Int} : Ed.C X.pl X.xs.length (y.drop y.length) = 0 := by
  rw [Ed.C_eq X.pl _ _ (by rw [pl_len]; exact Nat.le_refl _), if_pos ⟨(pl_len X).symm, by simp⟩]
theorem step_ok2 {X : Inp} (hO : Ed.Okin X.pl) {i j k : Nat} {y : List Int} {s : Ed.Stp} (hi : i ≤ X.xs.length) (hj : j ≤ y.length) (hs : (Ed.steps X.pl i (y.drop j))[k]? = some s) : i + s.tok ≤ X.xs.length ∧ j + s.emi ≤ y.length ∧ 0 < s.tok + s.emi ∧ 0 ≤ s.cost ∧ s.cost ≤ 60000 := by
  have hm := List.mem_of_getElem? hs
  obtain ⟨e, r, h1, h2, h3⟩ := Ed.steps_one hm
  have h4 := Ed.one_size h3
  have h5 := Ed.one_cost hO h3
  have h6 := (Ed.fuel_step (ys := y.drop j) (by rw [pl_len]; exact hi) hm).2
  rw [pl_len] at h6
  have h7 : (y.drop j).length = e.length + r.length := by rw [h1, List.length_append]
  rw [List.length_drop] at h7
  exact ⟨h6, by omega, by omega, h5.1, h5.2⟩
theorem steps_len (I : Ed.In) (i : Nat) (ys : List Int) : (Ed.steps I i ys).length ≤ 4 := by
  have h1 := (Ed.st1_shape I i ys).1
  have h2 := (Ed.st2_shape I i).1
  have h3 := (Ed.st3_shape I ys).1
  have h4 := (Ed.st4_shape I i ys).1
  unfold Ed.steps; simp only [List.length_append]; omega
structure RowI (X : Inp) (y r : List Int) (i q : Nat) : Prop where
  len : r.length = y.length + 1
  zero : ∀ b, b < q → r[b]? = some 0
  done : ∀ b, q ≤ b → b ≤ y.length → r[b]? = some (Ed.C X.pl i (y.drop b))
theorem RowI.set {X : Inp} {y r : List Int} {i j : Nat} {v : Int} (h : RowI X y r i (j + 1)) (hj : j ≤ y.length) (hv : v = Ed.C X.pl i (y.drop j)) : RowI X y (r.set j v) i j := by
  refine ⟨by rw [List.length_set]; exact h.len, fun b hb => ?_, fun b hb hb2 => ?_⟩
  · rw [List.getElem?_set_ne (by omega)]; exact h.zero b (by omega)
  · by_cases hbj : b = j
    · subst hbj; rw [List.getElem?_set_self (by rw [h.len]; omega), hv]
    · rw [List.getElem?_set_ne (fun e => hbj e.symm)]; exact h.done b (by omega) hb2
theorem RowI.same {X : Inp} {y r : List Int} {i j : Nat} (h : RowI X y r i (j + 1)) (he : i = X.xs.length ∧ j = y.length) : RowI X y r i j := by
  obtain ⟨rfl, rfl⟩ := he
  refine ⟨h.len, fun b hb => h.zero b (by omega), fun b hb hb2 => ?_⟩
  have : b = y.length := by omega
  subst this
  rw [h.zero _ (by omega), C_end]
theorem RowI.full {X : Inp} {y r : List Int} {i : Nat} (h : RowI X y r i 0) : r = rowC X y i := by
  apply List.ext_getElem?
  intro b
  by_cases hb : b ≤ y.length
  · rw [h.done b (Nat.zero_le _) hb, rowC_at hb]
  · rw [List.getElem?_eq_none (by rw [h.len]; omega), List.getElem?_eq_none (by rw [rowC_len]; omega)]
theorem cur_len {X : Inp} {y r : List Int} {i k q : Nat} (h : RowI X y r i q) : (cur X y i r k).length = y.length + 1 := by unfold cur; split; exact h.len; exact rowC_len X y k
theorem cur_at {X : Inp} {y r : List Int} {i j k b : Nat} (h : RowI X y r i (j + 1)) (hk : k = i → j + 1 ≤ b) (hb : b ≤ y.length) : (cur X y i r k)[b]? = some (Ed.C X.pl k (y.drop b)) := by
  unfold cur; split
  · rename_i e; subst e; exact h.done b (hk rfl) hb
  · exact rowC_at hb
theorem call_35 : Callable Tryd.prog 35 := ⟨_, Tryd.func35, by kernel_rfl, rfl⟩
theorem call_36 : Callable Tryd.prog 36 := ⟨_, Tryd.func36, by kernel_rfl, rfl⟩
theorem table_ok (X : Inp) (hX : X.small) (w : World) (hM : X.mem w) (hO : Ed.Okin X.pl) (hn : X.xs.length ≤ 1000) (C : Option Addr) (e : Nat) (y : List Int) (hl : y.length ≤ 1000) (hY : Sl 1 intF C y w) (hy : ∀ t, t ∈ y → 0 ≤ t ∧ t < X.ins.length) :
   Calls Tryd.prog 31 #[.agg #[.slice X.A X.xs.length X.c, .slice X.B X.ins.length X.d, .int .i64 X.sw], .slice C y.length e] w (Ret fun v w' => ∃ x : Tbl X y, v = .slice x.A x.hds.length x.c ∧ TabF w.heap.size x w' ∧ Dep w.heap.size w'.heap.size (TabF w.heap.size x) ∧ Ext [] w w') := by
 refine calls_fx (l := [.agg #[.slice X.A X.xs.length X.c, .slice X.B X.ins.length X.d, .int .i64 X.sw], .slice C y.length e]) Tryd.func31 rfl Tryd.ntmps31 (Nat.le_of_ble_eq_true rfl) ((X.start hM).old hY (dep_sl (by decide) hY)) ?_
 refine c_seq ?_
 refine c_reg ?_
 refine l_box (by decide) rfl _ rfl (fun b2 => ?_)
 refine l_q (by decide) (p_assign rfl).q ?_
 refine l_nil ?_
 refine c_seq ?_
 refine c_reg ?_
 first | refine l_q (by decide) (p_faddr (i := 0) 0 Tryd.underlying25 rfl inf_22 (by decide) rfl rfl).q ?_ | refine l_q (by decide) (p_faddro (i := 0) 0 Tryd.underlying25 rfl inf_22 (by decide) rfl rfl).q ?_
 first | refine l_q (by decide) (r_loado Tryd.underlying22 rfl rfl (by repeat constructor) (by rfl)).q ?_ | refine l_q (by decide) (r_load1 Tryd.underlying22 rfl rfl (by first | exact .fact (by repeat constructor) | exact .own (by repeat constructor) (by decide) (fun _ => rfl) | exact SlIn.reads (by repeat constructor) (by assumption) | exact SlIn.cells (by repeat constructor) (fun _ => rfl) | exact SlIn.rows (r := rw1) (bR := b30) (hds := hds) (i := i) hpi (by repeat constructor) (by repeat constructor) hh2 (by assumption) (by omega)) (by first | assumption | rfl) (by rfl)).q ?_ | refine l_q (by decide) (r_loadf Tryd.underlying22 rfl rfl (by first | exact .fact (by repeat constructor) | exact .own (by repeat constructor) (by decide) (fun _ => rfl) | exact SlIn.reads (by repeat constructor) (by assumption) | exact SlIn.cells (by repeat constructor) (fun _ => rfl) | exact SlIn.rows (r := rw1) (bR := b30) (hds := hds) (i := i) hpi (by repeat constructor) (by repeat constructor) hh2 (by assumption) (by omega)) (by assumption) (by rfl)).q ?_
 refine l_q (by decide) (p_len_sl Tryd.underlying22 rfl).q ?_
 refine l_q (by decide) (p_move rfl).q ?_
 refine l_q (by decide) (p_len_sl Tryd.underlying23 rfl).q ?_
 refine l_q (by decide) (p_assign rfl).q ?_
 refine l_q (by decide) (p_assign rfl).q ?_
 refine l_nil ?_
 refine c_seq ?_
 refine c_reg ?_
 refine l_q (by decide) (p_move rfl).q ?_
 first | refine l_q (by decide) (p_add (j := 1) rfl rfl rfl rfl (by show _ ≤ (9223372036854775807 : Nat); omega)).q ?_ | refine l_q (by decide) (p_addi rfl rfl (by show (-9223372036854775808 : Int) ≤ _; omega) (by show _ ≤ ((9223372036854775807 : Nat) : Int); omega)).q ?_
 refine l_make (by decide) Tryd.underlying57 inf_23 rfl rfl rfl rfl rfl rfl (by omega) (by omega) (fun b20 => ?_)
 refine l_q (by decide) (p_assign rfl).q ?_
 refine l_nil ?_
 refine c_seq ?_
 refine c_seq ?_
 refine c_reg ?_
 refine l_q (by decide) (p_move rfl).q ?_
 refine l_q (by decide) (p_assign rfl).q ?_
 refine l_nil ?_
 refine c_block ?_
 rw [hd_repl]
 refine c_triv (RowsF w.heap.size X y (List.replicate (X.xs.length + 1) (none, 0, 0)) (X.xs.length + 1)) (fun w a h ha hh => by have := at_lt hh; simp at this; omega) ?_
 refine c_loop (S := Nat × List Hd) (fun zs => zs.1 ≤ X.xs.length + 1 ∧ zs.2.length = X.xs.length + 1 ∧ ∀ (a : Nat) (h : Hd), zs.1 ≤ a → zs.2[a]? = some h → h.2.1 = y.length + 1) (fun zs => zs.1) (fun zs => [(1, .slice C y.length e), (2, .pointer (some ⟨b2, 0, none⟩)), (5, .int .i64 (X.xs.length : Int)), (6, .int .i64 (y.length : Int)), (7, .slice (some ⟨b20, 0, none⟩) (zs.2).length (zs.2).length), (8, .int .i64 ((zs.1 : Int) - 1))]) (fun zs => [iCells b20 23 ((zs.2).flatMap hdF), iCells b2 25 [.slice X.A X.xs.length X.c, .slice X.B X.ins.length X.d, .int .i64 X.sw]]) (fun zs => (RowsF w.heap.size X y (zs.2) (zs.1) :: (Sl 1 intF C y :: [Rd X.xs, Sl 1 intF X.B X.ins, Sl 3 colF X.A X.xs]))) (X.xs.length + 1, List.replicate (X.xs.length + 1) (none, 0, 0)) ?_ ?_ ?_ ?_ ?_
 · show (X.xs.length + 1) ≤ X.xs.length + 1 ∧ (List.replicate (X.xs.length + 1) (none, 0, 0)).length = X.xs.length + 1 ∧ ∀ (a : Nat) (h : Hd), (X.xs.length + 1) ≤ a → (List.replicate (X.xs.length + 1) (none, 0, 0))[a]? = some h → h.2.1 = y.length + 1
   exact ⟨Nat.le_refl _, by simp, fun a h ha hh => by have := at_lt hh; simp at this; omega⟩
 · exact ⟨rfl, rfl, rfl, rfl, (by simp only [List.length_replicate]; rfl), (by show some _ = some _; congr 2 <;> omega), trivial⟩
 · exact .refl _
 · exact fun _ h => h
 rintro ⟨p, hds⟩ hinv
 have hinv : p ≤ X.xs.length + 1 ∧ hds.length = X.xs.length + 1 ∧ ∀ (a : Nat) (h : Hd), p ≤ a → hds[a]? = some h → h.2.1 = y.length + 1 := hinv
 obtain ⟨hp, hhl, hhd⟩ := hinv
 show Cont _ _ _ _ [(1, .slice C y.length e), (2, .pointer (some ⟨b2, 0, none⟩)), (5, .int .i64 (X.xs.length : Int)), (6, .int .i64 (y.length : Int)), (7, .slice (some ⟨b20, 0, none⟩) (hds).length (hds).length), (8, .int .i64 ((p : Int) - 1))] ([iCells b20 23 ((hds).flatMap hdF), iCells b2 25 [.slice X.A X.xs.length X.c, .slice X.B X.ins.length X.d, .int .i64 X.sw]]) (RowsF w.heap.size X y (hds) (p) :: (Sl 1 intF C y :: [Rd X.xs, Sl 1 intF X.B X.ins, Sl 3 colF X.A X.xs]))
 refine c_seq ?_
 refine c_seq ?_
 refine c_reg ?_
 refine l_q (by decide) (p_move rfl).q ?_
 first | refine l_q (by decide) (p_geq (j := 0) rfl rfl rfl rfl).q ?_ | refine l_q (by decide) (p_geqi rfl rfl).q ?_
 refine l_nil ?_
 first | refine c_dec rfl (fun h23 => ?_) (fun h23 => ?_) | refine c_cond rfl (fun h23 => ?_) (fun h23 => ?_)
 ·skip
  have h25 : (p : Int) - 1 ≥ 0 := h23
  obtain ⟨i, hpi⟩ : ∃ i, i + 1 = p := ⟨p - 1, by omega⟩
  rw [show ((p : Int) - 1) = ((i : Nat) : Int) by omega]
  refine c_skip ?_
  refine c_seq ?_
  refine c_block ?_
  refine c_seq ?_
  have hlh := hd_len hds
  refine c_reg ?_
  refine l_q (by decide) (p_move rfl).q ?_
  refine l_q (by decide) (p_move rfl).q ?_
  refine l_q (by decide) (p_move rfl).q ?_
  first | refine l_q (by decide) (p_add (j := 1) rfl rfl rfl rfl (by show _ ≤ (9223372036854775807 : Nat); omega)).q ?_ | refine l_q (by decide) (p_addi rfl rfl (by show (-9223372036854775808 : Int) ≤ _; omega) (by show _ ≤ ((9223372036854775807 : Nat) : Int); omega)).q ?_
  refine l_make (by decide) Tryd.underlying23 inf_3 rfl rfl rfl rfl rfl rfl (by omega) (by omega) (fun b30 => ?_)
  refine l_q (by decide) (p_indexo Tryd.underlying57 inf_23 rfl rfl rfl (by omega)).q ?_
  first | (refine l_store inf_23 rfl rfl rfl rfl (by first | decide | exact Nat.le_of_ble_eq_true rfl | (simp; done) | omega | (simp only [Nat.mul_one]; assumption)) ?_) | (refine l_perm (front1 _ _ _) ?_; refine l_store inf_23 rfl rfl rfl rfl (by first | decide | exact Nat.le_of_ble_eq_true rfl | (simp; done) | omega | (simp only [Nat.mul_one]; assumption)) ?_) | (refine l_perm (front2 _ _ _ _) ?_; refine l_store inf_23 rfl rfl rfl rfl (by first | decide | exact Nat.le_of_ble_eq_true rfl | (simp; done) | omega | (simp only [Nat.mul_one]; assumption)) ?_) | (refine l_perm (front3 _ _ _ _ _) ?_; refine l_store inf_23 rfl rfl rfl rfl (by first | decide | exact Nat.le_of_ble_eq_true rfl | (simp; done) | omega | (simp only [Nat.mul_one]; assumption)) ?_) | (refine l_perm (front4 _ _ _ _ _ _) ?_; refine l_store inf_23 rfl rfl rfl rfl (by first | decide | exact Nat.le_of_ble_eq_true rfl | (simp; done) | omega | (simp only [Nat.mul_one]; assumption)) ?_)
  refine l_nil ?_
  refine c_seq ?_
  obtain ⟨hds2, hh2⟩ : ∃ z, z = hds.set i (some ⟨b30, 0, none⟩, y.length + 1, y.length + 1) := ⟨_, rfl⟩
  have hl2 : hds2.length = hds.length := by rw [hh2, List.length_set]
  have hh2i : hds2[i]? = some (some ⟨b30, 0, none⟩, y.length + 1, y.length + 1) := by rw [hh2, List.getElem?_set_self (by omega)]
  rw [Nat.mul_one, hd_set, ← hh2, flat_repl]
  refine c_reg ?_
  refine l_q (by decide) (p_move rfl).q ?_
  refine l_q (by decide) (p_assign rfl).q ?_
  refine l_nil ?_
  refine c_block ?_
  refine c_loop (S := Nat × List Int) (fun zs => zs.1 ≤ y.length + 1 ∧ RowI X y zs.2 i zs.1) (fun zs => zs.1) (fun zs => [(1, .slice C y.length e), (2, .pointer (some ⟨b2, 0, none⟩)), (5, .int .i64 (X.xs.length : Int)), (6, .int .i64 (y.length : Int)), (7, .slice (some ⟨b20, 0, none⟩) (hds2).length (hds2).length), (8, .int .i64 (i : Int)), (9, .int .i64 ((zs.1 : Int) - 1))]) (fun zs => [iCells b30 3 ((zs.2).flatMap intF), iCells b20 23 ((hds2).flatMap hdF), iCells b2 25 [.slice X.A X.xs.length X.c, .slice X.B X.ins.length X.d, .int .i64 X.sw]]) (fun zs => (RowsF w.heap.size X y (hds) (p) :: (Sl 1 intF C y :: [Rd X.xs, Sl 1 intF X.B X.ins, Sl 3 colF X.A X.xs]))) (y.length + 1, List.replicate (y.length + 1) 0) ?_ ?_ ?_ ?_ ?_
  · show (y.length + 1) ≤ y.length + 1 ∧ RowI X y (List.replicate (y.length + 1) 0) i (y.length + 1)
    exact ⟨Nat.le_refl _, by simp, fun b hb => by simp [hb], fun b hb hb2 => by omega⟩
  · exact ⟨rfl, rfl, rfl, rfl, (by rw [hl2]; rfl), rfl, (by show some _ = some _; congr 2 <;> omega), trivial⟩
  · exact front1 _ _ _
  · exact fun _ h => h
  rintro ⟨q, rw1⟩ hinv
  have hinv : q ≤ y.length + 1 ∧ RowI X y rw1 i q := hinv
  obtain ⟨hq, hR⟩ := hinv
  show Cont _ _ _ _ [(1, .slice C y.length e), (2, .pointer (some ⟨b2, 0, none⟩)), (5, .int .i64 (X.xs.length : Int)), (6, .int .i64 (y.length : Int)), (7, .slice (some ⟨b20, 0, none⟩) (hds2).length (hds2).length), (8, .int .i64 (i : Int)), (9, .int .i64 ((q : Int) - 1))] ([iCells b30 3 ((rw1).flatMap intF), iCells b20 23 ((hds2).flatMap hdF), iCells b2 25 [.slice X.A X.xs.length X.c, .slice X.B X.ins.length X.d, .int .i64 X.sw]]) (RowsF w.heap.size X y (hds) (p) :: (Sl 1 intF C y :: [Rd X.xs, Sl 1 intF X.B X.ins, Sl 3 colF X.A X.xs]))
  refine c_seq ?_
  refine c_seq ?_
  refine c_reg ?_
  refine l_q (by decide) (p_move rfl).q ?_
  first | refine l_q (by decide) (p_geq (j := 0) rfl rfl rfl rfl).q ?_ | refine l_q (by decide) (p_geqi rfl rfl).q ?_
  refine l_nil ?_
  first | refine c_dec rfl (fun h34 => ?_) (fun h34 => ?_) | refine c_cond rfl (fun h34 => ?_) (fun h34 => ?_)
  ·skip
   have h31 : (q : Int) - 1 ≥ 0 := h34
   obtain ⟨j, hqj⟩ : ∃ j, j + 1 = q := ⟨q - 1, by omega⟩
   rw [show ((q : Int) - 1) = ((j : Nat) : Int) by omega]
   refine c_skip ?_
   refine c_seq ?_
   refine c_block ?_
   refine c_seq ?_
   refine c_seq ?_
   refine c_meetn (S := Unit) (fun zs => True) (fun zs => [(1, .slice C y.length e), (2, .pointer (some ⟨b2, 0, none⟩)), (5, .int .i64 (X.xs.length : Int)), (6, .int .i64 (y.length : Int)), (7, .slice (some ⟨b20, 0, none⟩) (hds2).length (hds2).length), (8, .int .i64 (i : Int)), (9, .int .i64 (j : Int)), (44, .bool (decide (i = X.xs.length ∧ j = y.length)))]) (fun zs => [iCells b30 3 ((rw1).flatMap intF), iCells b20 23 ((hds2).flatMap hdF), iCells b2 25 [.slice X.A X.xs.length X.c, .slice X.B X.ins.length X.d, .int .i64 X.sw]]) (fun zs => (RowsF w.heap.size X y (hds) (p) :: (Sl 1 intF C y :: [Rd X.xs, Sl 1 intF X.B X.ins, Sl 3 colF X.A X.xs]))) ?_ ?_
   ·skip
    refine c_reg ?_
    refine l_q (by decide) (p_move rfl).q ?_
    refine l_q (by decide) (p_move rfl).q ?_
    first | refine l_q (by decide) (p_eql rfl rfl rfl rfl).q ?_ | refine l_q (by decide) (p_eqli rfl rfl).q ?_
    refine l_q (by decide) (p_move rfl).q ?_
    first | refine l_splitd (t := 40) rfl (fun h40 => ?_) (fun h40 => ?_) | refine l_splitb (t := 40) rfl (fun h40 => ?_) (fun h40 => ?_)
    ·skip
     refine l_g (j := 3) rfl rfl (by decide) (p_move rfl).q ?_
     refine l_g (j := 3) rfl rfl (by decide) (p_move rfl).q ?_
     first | refine l_g (j := 3) rfl rfl (by decide) (p_eql rfl rfl rfl rfl).q ?_ | refine l_g (j := 3) rfl rfl (by decide) (p_eqli rfl rfl).q ?_
     refine l_q (by decide) (p_pick rfl rfl).q ?_
     refine l_nil ?_
     refine c_join (()) ?inv ?sub ?perm ?facts
     case sub => exact ⟨rfl, rfl, rfl, rfl, rfl, rfl, rfl, (by first | rfl | exact congrArg (fun b => some (Value.bool b)) (decide_eq_true (by omega)).symm | exact congrArg (fun b => some (Value.bool b)) (decide_eq_false (by omega)).symm | exact congrArg (fun b => some (Value.bool b)) (decide_eq_decide.2 (by omega))), trivial⟩
     case perm =>
      exact .refl _
     case facts => exact fun _ h => h
     case inv =>
      trivial
    ·skip
     refine l_off (j := 3) rfl rfl (by first | (simp; done) | (simp [undef]; done)) (by decide) ?_
     refine l_off (j := 3) rfl rfl (by first | (simp; done) | (simp [undef]; done)) (by decide) ?_
     refine l_off (j := 3) rfl rfl (by first | (simp; done) | (simp [undef]; done)) (by decide) ?_
     refine l_q (by decide) (p_pick rfl rfl).q ?_
     refine l_nil ?_
     refine c_join (()) ?inv ?sub ?perm ?facts
     case sub => exact ⟨rfl, rfl, rfl, rfl, rfl, rfl, rfl, (by first | rfl | exact congrArg (fun b => some (Value.bool b)) (decide_eq_true (by omega)).symm | exact congrArg (fun b => some (Value.bool b)) (decide_eq_false (by omega)).symm | exact congrArg (fun b => some (Value.bool b)) (decide_eq_decide.2 (by omega))), trivial⟩
     case perm =>
      exact .refl _
     case facts => exact fun _ h => h
     case inv =>
      trivial
   rintro uu hmeet
   show Cont _ _ _ _ [(1, .slice C y.length e), (2, .pointer (some ⟨b2, 0, none⟩)), (5, .int .i64 (X.xs.length : Int)), (6, .int .i64 (y.length : Int)), (7, .slice (some ⟨b20, 0, none⟩) (hds2).length (hds2).length), (8, .int .i64 (i : Int)), (9, .int .i64 (j : Int)), (44, .bool (decide (i = X.xs.length ∧ j = y.length)))] ([iCells b30 3 ((rw1).flatMap intF), iCells b20 23 ((hds2).flatMap hdF), iCells b2 25 [.slice X.A X.xs.length X.c, .slice X.B X.ins.length X.d, .int .i64 X.sw]]) (RowsF w.heap.size X y (hds) (p) :: (Sl 1 intF C y :: [Rd X.xs, Sl 1 intF X.B X.ins, Sl 3 colF X.A X.xs]))
   first | refine c_dec rfl (fun h44 => ?_) (fun h44 => ?_) | refine c_cond rfl (fun h44 => ?_) (fun h44 => ?_)
   ·skip
    refine c_exit ?_
    refine c_here ?_
    refine c_reg ?_
    refine l_q (by decide) (p_move rfl).q ?_
    first | refine l_q (by decide) (p_sub (j := 1) rfl rfl rfl rfl (by omega) (by show _ ≤ (9223372036854775807 : Nat); omega)).q ?_ | refine l_q (by decide) (p_subi rfl rfl (by show (-9223372036854775808 : Int) ≤ _; omega) (by show _ ≤ ((9223372036854775807 : Nat) : Int); omega)).q ?_
    refine l_q (by decide) (p_assign rfl).q ?_
    refine l_nil ?_
    refine c_join ((j), (rw1)) ?_ ?_ ?_ ?_
    ·show ((j) ≤ y.length + 1 ∧ RowI X y (rw1) i (j)) ∧ (j) < q
     exact ⟨⟨by omega, (hqj ▸ hR : RowI X y rw1 i (j + 1)).same h44⟩, by omega⟩
    · exact ⟨rfl, rfl, rfl, rfl, rfl, rfl, (by show some _ = some _; congr 2 <;> omega), trivial⟩
    ·show List.Perm _ ([iCells b30 3 (((rw1)).flatMap intF), iCells b20 23 ((hds2).flatMap hdF), iCells b2 25 [.slice X.A X.xs.length X.c, .slice X.B X.ins.length X.d, .int .i64 X.sw]])
     exact .refl _
    · simp
   ·skip
    refine c_skip ?_
    refine c_seq ?_
    refine c_reg ?_
    refine l_q (by decide) (p_assign (v := .int .i64 ((1099511627776 : Nat) : Int)) rfl).q ?_
    refine l_nil ?_
    refine c_seq ?_
    refine c_seq ?_
    refine c_reg ?_
    first | refine l_q (by decide) (r_loada Tryd.underlying25 rfl inf_25 rfl (by first | exact .fact (by repeat constructor) | exact .own (by repeat constructor) (by decide) (fun _ => rfl) | exact SlIn.reads (by repeat constructor) (by assumption) | exact SlIn.cells (by repeat constructor) (fun _ => rfl) | exact SlIn.rows (r := rw1) (bR := b30) (hds := hds) (i := i) hpi (by repeat constructor) (by repeat constructor) hh2 (by assumption) (by omega)) (by assumption)).q ?_ | refine l_q (by decide) (r_loadow Tryd.underlying25 rfl inf_25 rfl (by repeat constructor) (by rfl)).q ?_ | refine l_q (by decide) (r_loadoa Tryd.underlying25 rfl inf_25 rfl (by repeat constructor) (by rfl) (fun j u h => h)).q ?_
    refine l_q (by decide) (p_move rfl).q ?_
    refine l_q (by decide) (p_move rfl).q ?_
    refine l_q (by decide) (p_move rfl).q ?_
    refine l_call (X := Option Addr × Nat) (fun x => .slice x.1 (Ed.steps X.pl i (y.drop j)).length x.2) (fun x => Sl 5 stpF x.1 (Ed.steps X.pl i (y.drop j))) (by decide) call_35 rfl (fun w hs => steps_ok X hX w (X.of hs (by repeat constructor) (by repeat constructor) (by repeat constructor)) hO C e y (by omega) (hs.facts (Sl 1 intF C y) (by repeat constructor)).1 hy i j (by omega) (by omega)) (fun x49 => ?_)
    refine l_q (by decide) (p_len_sl Tryd.underlying61 rfl).q ?_
    refine l_q (by decide) (p_move (v := .int .i64 ((0 : Nat) : Int)) rfl).q ?_
    refine l_nil ?_
    refine c_block ?_
    refine c_loop (S := Nat) (fun zs => zs ≤ (Ed.steps X.pl i (y.drop j)).length) (fun zs => (Ed.steps X.pl i (y.drop j)).length - zs) (fun zs => [(1, .slice C y.length e), (2, .pointer (some ⟨b2, 0, none⟩)), (5, .int .i64 (X.xs.length : Int)), (6, .int .i64 (y.length : Int)), (7, .slice (some ⟨b20, 0, none⟩) (hds2).length (hds2).length), (8, .int .i64 (i : Int)), (9, .int .i64 (j : Int)), (10, .int .i64 (Ed.least (((Ed.steps X.pl i (y.drop j)).take zs).map (gS X i j y)))), (49, .slice x49.1 (Ed.steps X.pl i (y.drop j)).length x49.2), (50, .int .i64 ((Ed.steps X.pl i (y.drop j)).length : Int)), (51, .int .i64 (zs : Int))]) (fun zs => [iCells b30 3 ((rw1).flatMap intF), iCells b20 23 ((hds2).flatMap hdF), iCells b2 25 [.slice X.A X.xs.length X.c, .slice X.B X.ins.length X.d, .int .i64 X.sw]]) (fun zs => (Sl 5 stpF x49.1 (Ed.steps X.pl i (y.drop j)) :: (RowsF w.heap.size X y (hds) (p) :: (Sl 1 intF C y :: [Rd X.xs, Sl 1 intF X.B X.ins, Sl 3 colF X.A X.xs])))) (0) ?_ ?_ ?_ ?_ ?_
    · show (0) ≤ (Ed.steps X.pl i (y.drop j)).length
      exact Nat.zero_le _
    · exact ⟨rfl, rfl, rfl, rfl, rfl, rfl, rfl, rfl, rfl, rfl, rfl, trivial⟩
    · exact .refl _
    · exact fun _ h => h
    rintro k hinv
    have hinv : k ≤ (Ed.steps X.pl i (y.drop j)).length := hinv
    have hk := hinv
    show Cont _ _ _ _ [(1, .slice C y.length e), (2, .pointer (some ⟨b2, 0, none⟩)), (5, .int .i64 (X.xs.length : Int)), (6, .int .i64 (y.length : Int)), (7, .slice (some ⟨b20, 0, none⟩) (hds2).length (hds2).length), (8, .int .i64 (i : Int)), (9, .int .i64 (j : Int)), (10, .int .i64 (Ed.least (((Ed.steps X.pl i (y.drop j)).take k).map (gS X i j y)))), (49, .slice x49.1 (Ed.steps X.pl i (y.drop j)).length x49.2), (50, .int .i64 ((Ed.steps X.pl i (y.drop j)).length : Int)), (51, .int .i64 (k : Int))] ([iCells b30 3 ((rw1).flatMap intF), iCells b20 23 ((hds2).flatMap hdF), iCells b2 25 [.slice X.A X.xs.length X.c, .slice X.B X.ins.length X.d, .int .i64 X.sw]]) (Sl 5 stpF x49.1 (Ed.steps X.pl i (y.drop j)) :: (RowsF w.heap.size X y (hds) (p) :: (Sl 1 intF C y :: [Rd X.xs, Sl 1 intF X.B X.ins, Sl 3 colF X.A X.xs])))
    refine c_seq ?_
    refine c_reg ?_
    first | refine l_q (by decide) (p_lss rfl rfl rfl rfl).q ?_ | refine l_q (by decide) (p_lssi rfl rfl).q ?_
    refine l_nil ?_
    refine c_seq ?_
    first | refine c_dec rfl (fun h52 => ?_) (fun h52 => ?_) | refine c_cond rfl (fun h52 => ?_) (fun h52 => ?_)
    ·skip
     have hsl := steps_len X.pl i (y.drop j)
     obtain ⟨s, hs⟩ := at_some (l := Ed.steps X.pl i (y.drop j)) (n := k) (by omega)
     have hso := step_ok2 hO (show i ≤ X.xs.length by omega) (show j ≤ y.length by omega) hs
     obtain ⟨h, hh⟩ := at_some (l := hds2) (n := i + s.tok) (by omega)
     have hhl2 : h.2.1 = y.length + 1 := by
       by_cases h0 : s.tok = 0
       · rw [h0, Nat.add_zero, hh2i] at hh; injection hh with hh; subst hh; rfl
       · rw [hh2, List.getElem?_set_ne (by omega)] at hh; exact hhd _ h (by omega) hh
     have hca := cur_at (hqj ▸ hR : RowI X y rw1 i (j + 1)) (k := i + s.tok) (b := j + s.emi) (by omega) hso.2.1
     have hcl := cur_len hR (k := i + s.tok)
     have hC := C_ok hO (y.drop (j + s.emi)) hso.1
     refine c_skip ?_
     refine c_seq ?_
     refine c_block ?_
     refine c_seq ?_
     refine c_reg ?_
     first | refine l_q (by decide) (r_index Tryd.underlying61 inf_64 rfl rfl rfl (by first | exact .fact (by repeat constructor) | exact .own (by repeat constructor) (by decide) (fun _ => rfl) | exact SlIn.reads (by repeat constructor) (by assumption) | exact SlIn.cells (by repeat constructor) (fun _ => rfl) | exact SlIn.rows (r := rw1) (bR := b30) (hds := hds) (i := i) hpi (by repeat constructor) (by repeat constructor) hh2 (by assumption) (by omega)) rfl (by omega)).q ?_ | refine l_q (by decide) (r_index Tryd.underlying61 inf_64 rfl rfl rfl (by first | exact .fact (by repeat constructor) | exact .own (by repeat constructor) (by decide) (fun _ => rfl) | exact SlIn.reads (by repeat constructor) (by assumption) | exact SlIn.cells (by repeat constructor) (fun _ => rfl) | exact SlIn.rows (r := rw1) (bR := b30) (hds := hds) (i := i) hpi (by repeat constructor) (by repeat constructor) hh2 (by assumption) (by omega)) rfl (by decide)).q ?_ | refine l_q (by decide) (p_indexo Tryd.underlying61 inf_64 rfl rfl rfl (by omega)).q ?_
     first | refine l_q (by decide) (r_loada Tryd.underlying64 rfl inf_64 rfl (by first | exact .fact (by repeat constructor) | exact .own (by repeat constructor) (by decide) (fun _ => rfl) | exact SlIn.reads (by repeat constructor) (by assumption) | exact SlIn.cells (by repeat constructor) (fun _ => rfl) | exact SlIn.rows (r := rw1) (bR := b30) (hds := hds) (i := i) hpi (by repeat constructor) (by repeat constructor) hh2 (by assumption) (by omega)) (by assumption)).q ?_ | refine l_q (by decide) (r_loadow Tryd.underlying64 rfl inf_64 rfl (by repeat constructor) (by rfl)).q ?_ | refine l_q (by decide) (r_loadoa Tryd.underlying64 rfl inf_64 rfl (by repeat constructor) (by rfl) (fun j u h => h)).q ?_
     refine l_alloc (by decide) inf_64 _ rfl (fun b12 => ?_)
     first | (refine l_storew inf_64 rfl rfl rfl rfl rfl ?_) | (refine l_perm (front1 _ _ _) ?_; refine l_storew inf_64 rfl rfl rfl rfl rfl ?_) | (refine l_perm (front2 _ _ _ _) ?_; refine l_storew inf_64 rfl rfl rfl rfl rfl ?_) | (refine l_perm (front3 _ _ _ _ _) ?_; refine l_storew inf_64 rfl rfl rfl rfl rfl ?_) | (refine l_perm (front4 _ _ _ _ _ _) ?_; refine l_storew inf_64 rfl rfl rfl rfl rfl ?_) | (refine l_storea inf_64 rfl rfl rfl rfl (by decide) ?_) | (refine l_perm (front1 _ _ _) ?_; refine l_storea inf_64 rfl rfl rfl rfl (by decide) ?_) | (refine l_perm (front2 _ _ _ _) ?_; refine l_storea inf_64 rfl rfl rfl rfl (by decide) ?_)
     refine l_nil ?_
     refine c_draw mixed (by decide +kernel) ?_
     refine q_q (by decide) (p_move rfl).q ?_
     first | refine q_q (by decide) (p_faddr (i := 1) 2 Tryd.underlying64 rfl inf_3 (by decide) rfl rfl).q ?_ | refine q_q (by decide) (p_faddro (i := 1) 2 Tryd.underlying64 rfl inf_3 (by decide) rfl rfl).q ?_
     first | refine q_q (by decide) (r_loado Tryd.underlying3 rfl rfl (by repeat constructor) (by rfl)).q ?_ | refine q_q (by decide) (r_load1 Tryd.underlying3 rfl rfl (by first | exact .fact (by repeat constructor) | exact .own (by repeat constructor) (by decide) (fun _ => rfl) | exact SlIn.reads (by repeat constructor) (by assumption) | exact SlIn.cells (by repeat constructor) (fun _ => rfl) | exact SlIn.rows (r := rw1) (bR := b30) (hds := hds) (i := i) hpi (by repeat constructor) (by repeat constructor) hh2 (by assumption) (by omega)) (by first | assumption | rfl) (by rfl)).q ?_ | refine q_q (by decide) (r_loadf Tryd.underlying3 rfl rfl (by first | exact .fact (by repeat constructor) | exact .own (by repeat constructor) (by decide) (fun _ => rfl) | exact SlIn.reads (by repeat constructor) (by assumption) | exact SlIn.cells (by repeat constructor) (fun _ => rfl) | exact SlIn.rows (r := rw1) (bR := b30) (hds := hds) (i := i) hpi (by repeat constructor) (by repeat constructor) hh2 (by assumption) (by omega)) (by assumption) (by rfl)).q ?_
     refine q_q (by decide) (p_move rfl).q ?_
     refine q_q (by decide) (p_move rfl).q ?_
     first | refine q_q (by decide) (p_faddr (i := 2) 3 Tryd.underlying64 rfl inf_3 (by decide) rfl rfl).q ?_ | refine q_q (by decide) (p_faddro (i := 2) 3 Tryd.underlying64 rfl inf_3 (by decide) rfl rfl).q ?_
     first | refine q_q (by decide) (r_loado Tryd.underlying3 rfl rfl (by repeat constructor) (by rfl)).q ?_ | refine q_q (by decide) (r_load1 Tryd.underlying3 rfl rfl (by first | exact .fact (by repeat constructor) | exact .own (by repeat constructor) (by decide) (fun _ => rfl) | exact SlIn.reads (by repeat constructor) (by assumption) | exact SlIn.cells (by repeat constructor) (fun _ => rfl) | exact SlIn.rows (r := rw1) (bR := b30) (hds := hds) (i := i) hpi (by repeat constructor) (by repeat constructor) hh2 (by assumption) (by omega)) (by first | assumption | rfl) (by rfl)).q ?_ | refine q_q (by decide) (r_loadf Tryd.underlying3 rfl rfl (by first | exact .fact (by repeat constructor) | exact .own (by repeat constructor) (by decide) (fun _ => rfl) | exact SlIn.reads (by repeat constructor) (by assumption) | exact SlIn.cells (by repeat constructor) (fun _ => rfl) | exact SlIn.rows (r := rw1) (bR := b30) (hds := hds) (i := i) hpi (by repeat constructor) (by repeat constructor) hh2 (by assumption) (by omega)) (by assumption) (by rfl)).q ?_
     first | refine q_q (by decide) (p_add rfl rfl rfl rfl (by show _ ≤ (9223372036854775807 : Nat); omega)).q ?_ | refine q_q (by decide) (p_addi rfl rfl (by show (-9223372036854775808 : Int) ≤ _; omega) (by show _ ≤ ((9223372036854775807 : Nat) : Int); omega)).q ?_
     first | refine q_q (by decide) (r_index Tryd.underlying57 inf_23 rfl rfl rfl (by first | exact .fact (by repeat constructor) | exact .own (by repeat constructor) (by decide) (fun _ => rfl) | exact SlIn.reads (by repeat constructor) (by assumption) | exact SlIn.cells (by repeat constructor) (fun _ => rfl) | exact SlIn.rows (r := rw1) (bR := b30) (hds := hds) (i := i) hpi (by repeat constructor) (by repeat constructor) hh2 (by assumption) (by omega)) rfl (by omega)).q ?_ | refine q_q (by decide) (r_index Tryd.underlying57 inf_23 rfl rfl rfl (by first | exact .fact (by repeat constructor) | exact .own (by repeat constructor) (by decide) (fun _ => rfl) | exact SlIn.reads (by repeat constructor) (by assumption) | exact SlIn.cells (by repeat constructor) (fun _ => rfl) | exact SlIn.rows (r := rw1) (bR := b30) (hds := hds) (i := i) hpi (by repeat constructor) (by repeat constructor) hh2 (by assumption) (by omega)) rfl (by decide)).q ?_ | refine q_q (by decide) (p_indexo Tryd.underlying57 inf_23 rfl rfl rfl (by omega)).q ?_
     first | refine q_q (by decide) (((r_loado Tryd.underlying23 rfl rfl (by repeat constructor) (by rfl))).to (u := .slice h.1 (cur X y i rw1 (i + s.tok)).length h.2.2) (by rw [cur_len hR, hhl2])).q ?_ | refine q_q (by decide) (((r_load1 Tryd.underlying23 rfl rfl (by first | exact .fact (by repeat constructor) | exact .own (by repeat constructor) (by decide) (fun _ => rfl) | exact SlIn.reads (by repeat constructor) (by assumption) | exact SlIn.cells (by repeat constructor) (fun _ => rfl) | exact SlIn.rows (r := rw1) (bR := b30) (hds := hds) (i := i) hpi (by repeat constructor) (by repeat constructor) hh2 (by assumption) (by omega)) (by first | assumption | rfl) (by rfl))).to (u := .slice h.1 (cur X y i rw1 (i + s.tok)).length h.2.2) (by rw [cur_len hR, hhl2])).q ?_ | refine q_q (by decide) (((r_loadf Tryd.underlying23 rfl rfl (by first | exact .fact (by repeat constructor) | exact .own (by repeat constructor) (by decide) (fun _ => rfl) | exact SlIn.reads (by repeat constructor) (by assumption) | exact SlIn.cells (by repeat constructor) (fun _ => rfl) | exact SlIn.rows (r := rw1) (bR := b30) (hds := hds) (i := i) hpi (by repeat constructor) (by repeat constructor) hh2 (by assumption) (by omega)) (by assumption) (by rfl))).to (u := .slice h.1 (cur X y i rw1 (i + s.tok)).length h.2.2) (by rw [cur_len hR, hhl2])).q ?_
     refine q_q (by decide) (p_move rfl).q ?_
     first | refine q_q (by decide) (p_faddr (i := 3) 4 Tryd.underlying64 rfl inf_3 (by decide) rfl rfl).q ?_ | refine q_q (by decide) (p_faddro (i := 3) 4 Tryd.underlying64 rfl inf_3 (by decide) rfl rfl).q ?_
     first | refine q_q (by decide) (r_loado Tryd.underlying3 rfl rfl (by repeat constructor) (by rfl)).q ?_ | refine q_q (by decide) (r_load1 Tryd.underlying3 rfl rfl (by first | exact .fact (by repeat constructor) | exact .own (by repeat constructor) (by decide) (fun _ => rfl) | exact SlIn.reads (by repeat constructor) (by assumption) | exact SlIn.cells (by repeat constructor) (fun _ => rfl) | exact SlIn.rows (r := rw1) (bR := b30) (hds := hds) (i := i) hpi (by repeat constructor) (by repeat constructor) hh2 (by assumption) (by omega)) (by first | assumption | rfl) (by rfl)).q ?_ | refine q_q (by decide) (r_loadf Tryd.underlying3 rfl rfl (by first | exact .fact (by repeat constructor) | exact .own (by repeat constructor) (by decide) (fun _ => rfl) | exact SlIn.reads (by repeat constructor) (by assumption) | exact SlIn.cells (by repeat constructor) (fun _ => rfl) | exact SlIn.rows (r := rw1) (bR := b30) (hds := hds) (i := i) hpi (by repeat constructor) (by repeat constructor) hh2 (by assumption) (by omega)) (by assumption) (by rfl)).q ?_
     first | refine q_q (by decide) (p_add rfl rfl rfl rfl (by show _ ≤ (9223372036854775807 : Nat); omega)).q ?_ | refine q_q (by decide) (p_addi rfl rfl (by show (-9223372036854775808 : Int) ≤ _; omega) (by show _ ≤ ((9223372036854775807 : Nat) : Int); omega)).q ?_
     first | refine q_q (by decide) (r_index Tryd.underlying23 inf_3 rfl rfl rfl (by first | exact .fact (by repeat constructor) | exact .own (by repeat constructor) (by decide) (fun _ => rfl) | exact SlIn.reads (by repeat constructor) (by assumption) | exact SlIn.cells (by repeat constructor) (fun _ => rfl) | exact SlIn.rows (r := rw1) (bR := b30) (hds := hds) (i := i) hpi (by repeat constructor) (by repeat constructor) hh2 (by assumption) (by omega)) rfl (by omega)).q ?_ | refine q_q (by decide) (r_index Tryd.underlying23 inf_3 rfl rfl rfl (by first | exact .fact (by repeat constructor) | exact .own (by repeat constructor) (by decide) (fun _ => rfl) | exact SlIn.reads (by repeat constructor) (by assumption) | exact SlIn.cells (by repeat constructor) (fun _ => rfl) | exact SlIn.rows (r := rw1) (bR := b30) (hds := hds) (i := i) hpi (by repeat constructor) (by repeat constructor) hh2 (by assumption) (by omega)) rfl (by decide)).q ?_ | refine q_q (by decide) (p_indexo Tryd.underlying23 inf_3 rfl rfl rfl (by omega)).q ?_
     first | refine q_q (by decide) (r_loado Tryd.underlying3 rfl rfl (by repeat constructor) (by rfl)).q ?_ | refine q_q (by decide) (r_load1 Tryd.underlying3 rfl rfl (by first | exact .fact (by repeat constructor) | exact .own (by repeat constructor) (by decide) (fun _ => rfl) | exact SlIn.reads (by repeat constructor) (by assumption) | exact SlIn.cells (by repeat constructor) (fun _ => rfl) | exact SlIn.rows (r := rw1) (bR := b30) (hds := hds) (i := i) hpi (by repeat constructor) (by repeat constructor) hh2 (by assumption) (by omega)) (by first | assumption | rfl) (by rfl)).q ?_ | refine q_q (by decide) (r_loadf Tryd.underlying3 rfl rfl (by first | exact .fact (by repeat constructor) | exact .own (by repeat constructor) (by decide) (fun _ => rfl) | exact SlIn.reads (by repeat constructor) (by assumption) | exact SlIn.cells (by repeat constructor) (fun _ => rfl) | exact SlIn.rows (r := rw1) (bR := b30) (hds := hds) (i := i) hpi (by repeat constructor) (by repeat constructor) hh2 (by assumption) (by omega)) (by assumption) (by rfl)).q ?_
     refine q_q (by decide) (q_call call_36 rfl (fun w hs => add_ok s.cost (Ed.C X.pl (i + s.tok) (y.drop (j + s.emi))) (by omega) (by omega) (by omega) (by omega) w)) ?_
     first | refine q_q (by decide) (p_min rfl rfl rfl rfl).q ?_ | refine q_q (by decide) (p_mini rfl rfl).q ?_
     refine q_q (by decide) (p_assign rfl).q ?_
     refine q_nil ?_
     refine c_reg ?_
     first | refine l_q (by decide) (p_add (j := 1) rfl rfl rfl rfl (by show _ ≤ (9223372036854775807 : Nat); omega)).q ?_ | refine l_q (by decide) (p_addi rfl rfl (by show (-9223372036854775808 : Int) ≤ _; omega) (by show _ ≤ ((9223372036854775807 : Nat) : Int); omega)).q ?_
     refine l_q (by decide) (p_move rfl).q ?_
     refine l_nil ?_
     first | (refine c_drop (x := iCells b12 _ _) ?_) | (refine c_perm (front1 _ _ _) ?_; refine c_drop (x := iCells b12 _ _) ?_) | (refine c_perm (front2 _ _ _ _) ?_; refine c_drop (x := iCells b12 _ _) ?_) | (refine c_perm (front3 _ _ _ _ _) ?_; refine c_drop (x := iCells b12 _ _) ?_) | (refine c_perm (front4 _ _ _ _ _ _) ?_; refine c_drop (x := iCells b12 _ _) ?_)
     refine c_join ((k + 1)) ?_ ?_ ?_ ?_
     ·show ((k + 1) ≤ (Ed.steps X.pl i (y.drop j)).length) ∧ (Ed.steps X.pl i (y.drop j)).length - (k + 1) < (Ed.steps X.pl i (y.drop j)).length - k
      exact ⟨by omega, by omega⟩
     · exact ⟨rfl, rfl, rfl, rfl, rfl, rfl, rfl, (by rw [take_at hs, List.map_append, List.map_cons, List.map_nil, least_snoc]; rfl), rfl, rfl, rfl, trivial⟩
     ·show List.Perm _ ([iCells b30 3 ((rw1).flatMap intF), iCells b20 23 ((hds2).flatMap hdF), iCells b2 25 [.slice X.A X.xs.length X.c, .slice X.B X.ins.length X.d, .int .i64 X.sw]])
      exact .refl _
     · exact fun _ h => h
    ·skip
     have hkk : k = (Ed.steps X.pl i (y.drop j)).length := by omega
     have hrl := flat_len rw1
     have hrl2 := hR.len
     refine c_exit ?_
     refine c_here ?_
     refine c_reg ?_
     refine l_q (by decide) (p_move rfl).q ?_
     refine l_q (by decide) (p_move rfl).q ?_
     first | refine l_q (by decide) (r_index Tryd.underlying57 inf_23 rfl rfl rfl (by first | exact .fact (by repeat constructor) | exact .own (by repeat constructor) (by decide) (fun _ => rfl) | exact SlIn.reads (by repeat constructor) (by assumption) | exact SlIn.cells (by repeat constructor) (fun _ => rfl) | exact SlIn.rows (r := rw1) (bR := b30) (hds := hds) (i := i) hpi (by repeat constructor) (by repeat constructor) hh2 (by assumption) (by omega)) rfl (by omega)).q ?_ | refine l_q (by decide) (r_index Tryd.underlying57 inf_23 rfl rfl rfl (by first | exact .fact (by repeat constructor) | exact .own (by repeat constructor) (by decide) (fun _ => rfl) | exact SlIn.reads (by repeat constructor) (by assumption) | exact SlIn.cells (by repeat constructor) (fun _ => rfl) | exact SlIn.rows (r := rw1) (bR := b30) (hds := hds) (i := i) hpi (by repeat constructor) (by repeat constructor) hh2 (by assumption) (by omega)) rfl (by decide)).q ?_ | refine l_q (by decide) (p_indexo Tryd.underlying57 inf_23 rfl rfl rfl (by omega)).q ?_
     first | refine l_q (by decide) (((r_loado Tryd.underlying23 rfl rfl (by repeat constructor) (by rfl))).to (u := .slice (some ⟨b30, 0, none⟩) rw1.length (y.length + 1)) (by rw [hR.len])).q ?_ | refine l_q (by decide) (((r_load1 Tryd.underlying23 rfl rfl (by first | exact .fact (by repeat constructor) | exact .own (by repeat constructor) (by decide) (fun _ => rfl) | exact SlIn.reads (by repeat constructor) (by assumption) | exact SlIn.cells (by repeat constructor) (fun _ => rfl) | exact SlIn.rows (r := rw1) (bR := b30) (hds := hds) (i := i) hpi (by repeat constructor) (by repeat constructor) hh2 (by assumption) (by omega)) (by first | assumption | rfl) (by rfl))).to (u := .slice (some ⟨b30, 0, none⟩) rw1.length (y.length + 1)) (by rw [hR.len])).q ?_ | refine l_q (by decide) (((r_loadf Tryd.underlying23 rfl rfl (by first | exact .fact (by repeat constructor) | exact .own (by repeat constructor) (by decide) (fun _ => rfl) | exact SlIn.reads (by repeat constructor) (by assumption) | exact SlIn.cells (by repeat constructor) (fun _ => rfl) | exact SlIn.rows (r := rw1) (bR := b30) (hds := hds) (i := i) hpi (by repeat constructor) (by repeat constructor) hh2 (by assumption) (by omega)) (by assumption) (by rfl))).to (u := .slice (some ⟨b30, 0, none⟩) rw1.length (y.length + 1)) (by rw [hR.len])).q ?_
     refine l_q (by decide) (p_move rfl).q ?_
     refine l_q (by decide) (p_move rfl).q ?_
     refine l_q (by decide) (p_indexo Tryd.underlying23 inf_3 rfl rfl rfl (by omega)).q ?_
     first | (refine l_store inf_3 rfl rfl rfl rfl (by first | decide | exact Nat.le_of_ble_eq_true rfl | (simp; done) | omega | (simp only [Nat.mul_one]; assumption)) ?_) | (refine l_perm (front1 _ _ _) ?_; refine l_store inf_3 rfl rfl rfl rfl (by first | decide | exact Nat.le_of_ble_eq_true rfl | (simp; done) | omega | (simp only [Nat.mul_one]; assumption)) ?_) | (refine l_perm (front2 _ _ _ _) ?_; refine l_store inf_3 rfl rfl rfl rfl (by first | decide | exact Nat.le_of_ble_eq_true rfl | (simp; done) | omega | (simp only [Nat.mul_one]; assumption)) ?_) | (refine l_perm (front3 _ _ _ _ _) ?_; refine l_store inf_3 rfl rfl rfl rfl (by first | decide | exact Nat.le_of_ble_eq_true rfl | (simp; done) | omega | (simp only [Nat.mul_one]; assumption)) ?_) | (refine l_perm (front4 _ _ _ _ _ _) ?_; refine l_store inf_3 rfl rfl rfl rfl (by first | decide | exact Nat.le_of_ble_eq_true rfl | (simp; done) | omega | (simp only [Nat.mul_one]; assumption)) ?_)
     refine l_nil ?_
     refine c_reg ?_
     refine l_q (by decide) (p_move rfl).q ?_
     first | refine l_q (by decide) (p_sub (j := 1) rfl rfl rfl rfl (by omega) (by show _ ≤ (9223372036854775807 : Nat); omega)).q ?_ | refine l_q (by decide) (p_subi rfl rfl (by show (-9223372036854775808 : Int) ≤ _; omega) (by show _ ≤ ((9223372036854775807 : Nat) : Int); omega)).q ?_
     refine l_q (by decide) (p_assign rfl).q ?_
     refine l_nil ?_
     refine c_join ((j), (rw1.set j (Ed.least ((Ed.steps X.pl i (y.drop j)).map (gS X i j y))))) ?_ ?_ ?_ ?_
     ·show ((j) ≤ y.length + 1 ∧ RowI X y (rw1.set j (Ed.least ((Ed.steps X.pl i (y.drop j)).map (gS X i j y)))) i (j)) ∧ (j) < q
      exact ⟨⟨by omega, (hqj ▸ hR : RowI X y rw1 i (j + 1)).set (by omega) (C_steps (by omega) (by omega) h44)⟩, by omega⟩
     · exact ⟨rfl, rfl, rfl, rfl, rfl, rfl, (by show some _ = some _; congr 2 <;> omega), trivial⟩
     ·show List.Perm _ ([iCells b30 3 (((rw1.set j (Ed.least ((Ed.steps X.pl i (y.drop j)).map (gS X i j y))))).flatMap intF), iCells b20 23 ((hds2).flatMap hdF), iCells b2 25 [.slice X.A X.xs.length X.c, .slice X.B X.ins.length X.d, .int .i64 X.sw]])
      rw [hkk, List.take_of_length_le (Nat.le_refl _), Nat.mul_one, flat_set]
      repeat (first | exact List.Perm.refl _ | refine List.Perm.cons _ ?_ | refine (front1 _ _ _).trans (List.Perm.cons _ ?_) | refine (front2 _ _ _ _).trans (List.Perm.cons _ ?_) | refine (front3 _ _ _ _ _).trans (List.Perm.cons _ ?_) | refine (front4 _ _ _ _ _ _).trans (List.Perm.cons _ ?_))
     · simp
  ·skip
   have h31 : ¬ (q : Int) - 1 ≥ 0 := h34
   refine c_exit ?_
   refine c_here ?_
   refine c_reg ?_
   refine l_q (by decide) (p_move rfl).q ?_
   first | refine l_q (by decide) (p_sub (j := 1) rfl rfl rfl rfl (by omega) (by show _ ≤ (9223372036854775807 : Nat); omega)).q ?_ | refine l_q (by decide) (p_subi rfl rfl (by show (-9223372036854775808 : Int) ≤ _; omega) (by show _ ≤ ((9223372036854775807 : Nat) : Int); omega)).q ?_
   refine l_q (by decide) (p_assign rfl).q ?_
   refine l_nil ?_
   have hq0 : q = 0 := by omega
   subst hq0
   refine c_sealrow (hds := hds) (hds2 := hds2) (i := i) (c1 := y.length + 1) (c2 := y.length + 1) hpi (by repeat constructor) hh2 hR.full rfl (by omega) ?_
   refine c_join ((i), (hds2)) ?_ ?_ ?_ ?_
   ·show ((i) ≤ X.xs.length + 1 ∧ (hds2).length = X.xs.length + 1 ∧ ∀ (a : Nat) (h : Hd), (i) ≤ a → (hds2)[a]? = some h → h.2.1 = y.length + 1) ∧ (i) < p
    refine ⟨⟨by omega, by omega, fun a h ha hh => ?_⟩, by omega⟩
    by_cases hai : a = i
    · subst hai; rw [hh2i] at hh; injection hh with hh; subst hh; rfl
    · rw [hh2, List.getElem?_set_ne (fun e => hai e.symm)] at hh; exact hhd a h (by omega) hh
   · exact ⟨rfl, rfl, rfl, rfl, rfl, rfl, trivial⟩
   ·show List.Perm _ ([iCells b20 23 (((hds2)).flatMap hdF), iCells b2 25 [.slice X.A X.xs.length X.c, .slice X.B X.ins.length X.d, .int .i64 X.sw]])
    exact .refl _
   · simp
 ·skip
  have h25 : ¬ (p : Int) - 1 ≥ 0 := h23
  refine c_exit ?_
  refine c_here ?_
  refine c_seq ?_
  refine c_reg ?_
  refine l_q (by decide) (p_move rfl).q ?_
  refine l_q (by decide) (p_assign rfl).q ?_
  refine l_nil ?_
  refine c_ret ?_
  refine c_ret1 rfl rfl (fun w hs => ?_)
  have hp0 : p = 0 := by omega
  subst hp0
  have h1 := hs.own _ (List.mem_cons_self ..)
  have k1 := h1.2.2 b20 (by simp [iCells])
  have hRw := (hs.facts (RowsF _ X y hds 0) (by repeat constructor)).1
  have g1 : Sl 1 hdF (some ⟨b20, 0, none⟩) hds _ := cells_sl (fun _ => rfl) h1.1
  refine ⟨⟨some ⟨b20, 0, none⟩, hds.length, hds, hhl, fun a h hh => hhd a h (Nat.zero_le _) hh⟩, rfl, ⟨g1, hRw⟩, fun w1 w2 hb hq => ⟨Sl.dep (fun a ha => by injection ha with ha; subst ha; exact ⟨by simpa using k1.2, k1.1⟩) w1 w2 hb hq.1, fun a h ha hh => ⟨(hRw a h ha hh).1, Sl.dep (fun ad had => ⟨(hRw a h ha hh).1 ad had, ?_⟩) w1 w2 hb (hq.2 a h ha hh).2⟩⟩, hs.ext⟩
  obtain ⟨b, off, hbo, hbl⟩ := (hRw a h ha hh).2.lt (by decide) (fun e => by have := rowC_len X y a; rw [e] at this; cases this)
  rw [hbo] at had; injection had with had; subst had; exact hbl
end Go.Proofs.YtlefheiohblgdaaDoor
