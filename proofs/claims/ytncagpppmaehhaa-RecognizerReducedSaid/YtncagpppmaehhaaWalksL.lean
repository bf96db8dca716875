/- The walks of the recognizer, twelfth part (begins); conditions: lengths. -/
import Derived.Test.YtncagpppmaehhaaWalksK
namespace Go.Proofs.Ytncagpppmaehhaa
open Go Go.Fx Go.Proofs

open Go.Proofs.Rec
/-- a table of rows that is read -/
def BM (n L T : Nat) (B : NF) (b : T2) : World → Prop := fun w => (iCells T 42 (hdm n L n B)).holds w ∧ ∀ i, i < n → (iCells (B i) 4 (bl L (b i))).holds w
theorem dep_bm {n L T : Nat} {B : NF} {b : T2} {w : World} (h : BM n L T B b w) : Dep 0 w.heap.size (BM n L T B b) := fun w1 w2 hb ⟨h1, h2⟩ =>
  ⟨dep_holds0 (x := iCells T 42 (hdm n L n B)) rfl (iCells_dep _ _ _) hb (cells_lt h.1) h1, fun i hi => dep_holds0 (x := iCells (B i) 4 (bl L (b i))) rfl (iCells_dep _ _ _) hb (cells_lt (h.2 i hi)) (h2 i hi)⟩
theorem bm_top {n L T : Nat} {B : NF} {b : T2} {w : World} (h : BM n L T B b w) {i : Nat} (hi : i < n) : w.cell? ⟨T, i * 1, none⟩ = some (.slice (some ⟨B i, 0, none⟩) L L) := (cells_cell h.1 _).trans (hdm_at hi hi)
theorem bm_row {n L T : Nat} {B : NF} {b : T2} {w : World} (h : BM n L T B b w) {i m : Nat} (hi : i < n) (hm : m < L) : w.cell? ⟨B i, m * 1, none⟩ = some (.bool (b i m)) := (cells_cell (h.2 _ hi) (m * 1)).trans (bl_at hm)
noncomputable def beB (d : T3) (b : T2) (s l : List Int) (i : Nat) : Bool := Ana.dec (BE d b s l i)
variable {d : T3} {b : T2} {s l : List Int} {x : Int} {i m : Nat}
theorem beB_end (h : i = s.length) : beB d b s l i = true := Ana.dec_true (by
  cases l with
  | nil => exact h
  | cons => exact .inl h)
theorem beB_nil (h : i ≠ s.length) : beB d b s [] i = false := Ana.dec_false h
theorem beB_no (he : i ≠ s.length) (h0 : 0 ≤ x) (h : s[i]? ≠ some x) : beB d b s (x :: l) i = false := Ana.dec_false (by
  rintro (h1 | ⟨_, h1, _⟩ | ⟨h1, _⟩)
  · exact he h1
  · exact h h1
  · omega)
theorem beB_term (he : i ≠ s.length) (h0 : 0 ≤ x) (h : s[i]? = some x) : beB d b s (x :: l) i = beB d b s l (i + 1) := Eq.symm (Ana.eq_dec (by
  unfold beB
  rw [Ana.dec_iff]
  refine ⟨fun h1 => .inr (.inl ⟨h0, h, h1⟩), ?_⟩
  rintro (h1 | ⟨_, _, h1⟩ | ⟨h1, _⟩)
  · exact absurd h1 he
  · exact h1
  · omega))
theorem beB_b (h0 : x < 0) (h : b (Ana.nt x) i = true) : beB d b s (x :: l) i = true := Ana.dec_true (.inr (.inr ⟨h0, .inl h⟩))
theorem beB_hit (h0 : x < 0) (h1 : i ≤ m) (h2 : m ≤ s.length) (h3 : d (Ana.nt x) i m = true) (h4 : beB d b s l m = true) : beB d b s (x :: l) i = true := Ana.dec_true (.inr (.inr ⟨h0, .inr ⟨m, h1, h2, h3, Ana.dec_iff.1 h4⟩⟩))
theorem beB_miss (he : i ≠ s.length) (h0 : x < 0) (hb : b (Ana.nt x) i = false) (h : ∀ q, i ≤ q → q < s.length + 1 → ¬ (d (Ana.nt x) i q = true ∧ beB d b s l q = true)) : beB d b s (x :: l) i = false := Ana.dec_false (by
  rintro (h1 | ⟨h1, _⟩ | ⟨_, h1 | ⟨m, h1, h2, h3, h4⟩⟩)
  · exact he h1
  · omega
  · rw [hb] at h1; cases h1
  · exact h m h1 (by omega) ⟨h3, Ana.dec_true h4⟩)
def begC (d : T3) (b : T2) (s l : List Int) (n T TB : Nat) (As A : Option Addr) (cs c i : Nat) (w : World) : Prop := Calls Try.prog 28 #[.slice (some ⟨T, 0, none⟩) n n, .slice (some ⟨TB, 0, none⟩) n n, .slice As s.length cs, .slice A l.length c, .int .i64 (i : Int)] w (Ret fun v w' => v = .bool (beB d b s l i) ∧ Ext [] w w')
theorem beg_step (d : T3) (b : T2) (s l : List Int) (n T TB : Nat) (M R B : NF) (As A : Option Addr) (cs c i : Nat) (hn : n ≤ 1000) (hs1 : s.length ≤ 1000) (hl : l.length ≤ 1000) (hc : l.length ≤ c) (hr : ∀ x, x ∈ l → x < 0 → Ana.nt x < n) (hik : i ≤ s.length) (ih : ∀ (A2 : Option Addr) (c2 : Nat) (l2 : List Int) (i2 : Nat) (w2 : World), l2.length < l.length → l2.length ≤ c2 → (∀ x, x ∈ l2 → x < 0 → Ana.nt x < n) → i2 ≤ s.length → Sl 1 intF A2 l2 w2 → TM n (s.length + 1) T M R d w2 → BM n (s.length + 1) TB B b w2 → Sl 1 intF As s w2 → begC d b s l2 n T TB As A2 cs c2 i2 w2) (w : World) (hq : Sl 1 intF A l w) (ht : TM n (s.length + 1) T M R d w) (htb : BM n (s.length + 1) TB B b w) (hp : Sl 1 intF As s w) :
   Calls Try.prog 28 #[.slice (some ⟨T, 0, none⟩) n n, .slice (some ⟨TB, 0, none⟩) n n, .slice As s.length cs, .slice A l.length c, .int .i64 (i : Int)] w (Ret fun v w' => v = .bool (beB d b s l i) ∧ Ext [] w w') := by
 refine calls_fx (l := [.slice (some ⟨T, 0, none⟩) n n, .slice (some ⟨TB, 0, none⟩) n n, .slice As s.length cs, .slice A l.length c, .int .i64 (i : Int)]) Try.func28 rfl Try.ntmps28 (Nat.le_of_ble_eq_true rfl) (((((St.start w).old hp (dep_sl (by decide) hp)).old htb (dep_bm htb)).old ht (dep_tm ht)).old hq (dep_sl (by decide) hq)) ?_
 refine c_seq ?_
 refine c_reg ?_
 refine l_q (by decide) (p_assign rfl).q ?_
 refine l_nil ?_
 refine c_seq ?_
 refine c_seq ?_
 refine c_reg ?_
 refine l_q (by decide) (p_move rfl).q ?_
 refine l_q (by decide) (p_move rfl).q ?_
 refine l_q (by decide) (p_len_sl Try.underlying26 rfl).q ?_
 first | refine l_q (by decide) (p_eql rfl rfl rfl rfl).q ?_ | refine l_q (by decide) (p_eqli rfl rfl).q ?_
 refine l_nil ?_
 first | refine c_dec rfl (fun h15 => ?_) (fun h15 => ?_) | refine c_cond rfl (fun h15 => ?_) (fun h15 => ?_)
 ·skip
  refine c_seq ?_
  refine c_reg ?_
  refine l_q (by decide) (p_assign rfl).q ?_
  refine l_nil ?_
  refine c_ret ?_
  refine c_ret1 rfl rfl (fun w hs => ?_)
  exact ⟨by rw [beB_end h15], hs.ext⟩
 ·skip
  refine c_skip ?_
  refine c_seq ?_
  refine c_seq ?_
  refine c_reg ?_
  refine l_q (by decide) (p_move rfl).q ?_
  refine l_q (by decide) (p_len_sl Try.underlying26 rfl).q ?_
  first | refine l_q (by decide) (p_eql (j := 0) rfl rfl rfl rfl).q ?_ | refine l_q (by decide) (p_eqli rfl rfl).q ?_
  refine l_nil ?_
  first | refine c_dec rfl (fun h18 => ?_) (fun h18 => ?_) | refine c_cond rfl (fun h18 => ?_) (fun h18 => ?_)
  ·skip
   refine c_seq ?_
   refine c_reg ?_
   refine l_q (by decide) (p_assign rfl).q ?_
   refine l_nil ?_
   refine c_ret ?_
   refine c_ret1 rfl rfl (fun w hs => ?_)
   obtain rfl : l = [] := List.eq_nil_of_length_eq_zero h18
   exact ⟨by rw [beB_nil h15], hs.ext⟩
  ·skip
   obtain _ | ⟨x, l2⟩ := l
   · exact absurd rfl h18
   refine c_tail (x := x) (l := l2) (by repeat constructor) hc ?_
   refine c_skip ?_
   refine c_seq ?_
   refine c_seq ?_
   refine c_reg ?_
   refine l_q (by decide) (p_move rfl).q ?_
   first | refine l_q (by decide) (r_index (j := 0) Try.underlying26 inf_3 rfl rfl rfl (by first | exact .fact (by repeat constructor) | exact .own (by repeat constructor) (by decide) (fun _ => rfl) | exact SlIn.body (by repeat constructor) (by assumption)) rfl (by omega)).q ?_ | refine l_q (by decide) (r_index (j := 0) Try.underlying26 inf_3 rfl rfl rfl (by first | exact .fact (by repeat constructor) | exact .own (by repeat constructor) (by decide) (fun _ => rfl) | exact SlIn.body (by repeat constructor) (by assumption)) rfl (by decide)).q ?_ | refine l_q (by decide) (p_indexo (j := 0) Try.underlying26 inf_3 rfl rfl rfl (by omega)).q ?_
   first | refine l_q (by decide) (r_loado Try.underlying3 rfl rfl (by repeat constructor) (by rfl)).q ?_ | refine l_q (by decide) (r_load1 Try.underlying3 rfl rfl (by first | exact .fact (by repeat constructor) | exact .own (by repeat constructor) (by decide) (fun _ => rfl) | exact SlIn.body (by repeat constructor) (by assumption)) (by first | assumption | rfl) (by rfl)).q ?_ | refine l_q (by decide) (r_loadf Try.underlying3 rfl rfl (by first | exact .fact (by repeat constructor) | exact .own (by repeat constructor) (by decide) (fun _ => rfl) | exact SlIn.body (by repeat constructor) (by assumption)) (by assumption) (by rfl)).q ?_
   first | refine l_q (by decide) (p_geq (j := 0) rfl rfl rfl rfl).q ?_ | refine l_q (by decide) (p_geqi rfl rfl).q ?_
   refine l_nil ?_
   first | refine c_dec rfl (fun h22 => ?_) (fun h22 => ?_) | refine c_cond rfl (fun h22 => ?_) (fun h22 => ?_)
   ·skip
    refine c_seq ?_
    obtain ⟨u, hu⟩ := at_some (l := s) (n := i) (by omega)
    refine c_draw mixed (by decide +kernel) ?_
    refine q_q (by decide) (p_move rfl).q ?_
    refine q_q (by decide) (p_move rfl).q ?_
    first | refine q_q (by decide) (r_index Try.underlying26 inf_3 rfl rfl rfl (by first | exact .fact (by repeat constructor) | exact .own (by repeat constructor) (by decide) (fun _ => rfl) | exact SlIn.body (by repeat constructor) (by assumption)) rfl (by omega)).q ?_ | refine q_q (by decide) (r_index Try.underlying26 inf_3 rfl rfl rfl (by first | exact .fact (by repeat constructor) | exact .own (by repeat constructor) (by decide) (fun _ => rfl) | exact SlIn.body (by repeat constructor) (by assumption)) rfl (by decide)).q ?_ | refine q_q (by decide) (p_indexo Try.underlying26 inf_3 rfl rfl rfl (by omega)).q ?_
    first | refine q_q (by decide) (r_loado Try.underlying3 rfl rfl (by repeat constructor) (by rfl)).q ?_ | refine q_q (by decide) (r_load1 Try.underlying3 rfl rfl (by first | exact .fact (by repeat constructor) | exact .own (by repeat constructor) (by decide) (fun _ => rfl) | exact SlIn.body (by repeat constructor) (by assumption)) (by first | assumption | rfl) (by rfl)).q ?_ | refine q_q (by decide) (r_loadf Try.underlying3 rfl rfl (by first | exact .fact (by repeat constructor) | exact .own (by repeat constructor) (by decide) (fun _ => rfl) | exact SlIn.body (by repeat constructor) (by assumption)) (by assumption) (by rfl)).q ?_
    refine q_q (by decide) (p_move rfl).q ?_
    first | refine q_q (by decide) (r_index (j := 0) Try.underlying26 inf_3 rfl rfl rfl (by first | exact .fact (by repeat constructor) | exact .own (by repeat constructor) (by decide) (fun _ => rfl) | exact SlIn.body (by repeat constructor) (by assumption)) rfl (by omega)).q ?_ | refine q_q (by decide) (r_index (j := 0) Try.underlying26 inf_3 rfl rfl rfl (by first | exact .fact (by repeat constructor) | exact .own (by repeat constructor) (by decide) (fun _ => rfl) | exact SlIn.body (by repeat constructor) (by assumption)) rfl (by decide)).q ?_ | refine q_q (by decide) (p_indexo (j := 0) Try.underlying26 inf_3 rfl rfl rfl (by omega)).q ?_
    first | refine q_q (by decide) (r_loado Try.underlying3 rfl rfl (by repeat constructor) (by rfl)).q ?_ | refine q_q (by decide) (r_load1 Try.underlying3 rfl rfl (by first | exact .fact (by repeat constructor) | exact .own (by repeat constructor) (by decide) (fun _ => rfl) | exact SlIn.body (by repeat constructor) (by assumption)) (by first | assumption | rfl) (by rfl)).q ?_ | refine q_q (by decide) (r_loadf Try.underlying3 rfl rfl (by first | exact .fact (by repeat constructor) | exact .own (by repeat constructor) (by decide) (fun _ => rfl) | exact SlIn.body (by repeat constructor) (by assumption)) (by assumption) (by rfl)).q ?_
    first | refine q_q (by decide) (p_eql rfl rfl rfl rfl).q ?_ | refine q_q (by decide) (p_eqli rfl rfl).q ?_
    refine q_q (by decide) (p_move rfl).q ?_
    first | refine q_splitd (t := 31) rfl (fun h31 => ?_) (fun h31 => ?_) | refine q_splitb (t := 31) rfl (fun h31 => ?_) (fun h31 => ?_)
    ·skip
     refine q_g (j := 8) rfl rfl (by decide) (p_move rfl).q ?_
     refine q_g (j := 8) rfl rfl (by decide) (p_move rfl).q ?_
     refine q_g (j := 8) rfl rfl (by decide) (p_move rfl).q ?_
     refine q_g (j := 8) rfl rfl (by decide) (p_move rfl).q ?_
     first | refine q_g (j := 8) rfl rfl (by decide) (((p_part_l (i := 1) Try.underlying26 inf_3 rfl rfl rfl (by omega))).to (u := .slice (subA A c 1 1) l2.length (c - 1)) (rfl)).q ?_ | refine q_g (j := 8) rfl rfl (by decide) (((p_slices_l (i := 1) Try.underlying26 inf_3 rfl rfl rfl (by omega))).to (u := .slice (subA A c 1 1) l2.length (c - 1)) (rfl)).q ?_
     refine q_g (j := 8) rfl rfl (by decide) (p_move rfl).q ?_
     first | refine q_g (j := 8) rfl rfl (by decide) (p_add (j := 1) rfl rfl rfl rfl (by show _ ≤ (9223372036854775807 : Nat); omega)).q ?_ | refine q_g (j := 8) rfl rfl (by decide) (p_addi rfl rfl (by show (-9223372036854775808 : Int) ≤ _; omega) (by show _ ≤ ((9223372036854775807 : Nat) : Int); omega)).q ?_
     refine q_g (j := 8) rfl rfl (by decide) (q_call call_28 rfl (fun w hs => ih (subA A c 1 1) (c - 1) l2 (i + 1) w (by show l2.length < (x :: l2).length; simp) (by simp at hc; omega) (fun y hy => hr y (List.mem_cons_of_mem _ hy)) (by omega) (hs.facts _ (List.mem_cons_self ..)).1 (hs.facts (TM n (s.length + 1) T M R d) (by repeat constructor)).1 (hs.facts (BM n (s.length + 1) TB B b) (by repeat constructor)).1 (hs.facts (Sl 1 intF As s) (by repeat constructor)).1)) ?_
     refine q_q (by decide) (p_pick rfl rfl).q ?_
     refine q_q (by decide) (p_assign rfl).q ?_
     refine q_nil ?_
     refine c_ret ?_
     refine c_ret1 rfl rfl (fun w hs => ?_)
     exact ⟨by rw [beB_term h15 h22 (by rw [hu, h31])], hs.ext⟩
    ·skip
     refine q_off (j := 8) rfl rfl (by first | (simp; done) | (simp [undef]; done)) (by decide) ?_
     refine q_off (j := 8) rfl rfl (by first | (simp; done) | (simp [undef]; done)) (by decide) ?_
     refine q_off (j := 8) rfl rfl (by first | (simp; done) | (simp [undef]; done)) (by decide) ?_
     refine q_off (j := 8) rfl rfl (by first | (simp; done) | (simp [undef]; done)) (by decide) ?_
     refine q_off (j := 8) rfl rfl (by first | (simp; done) | (simp [undef]; done)) (by decide) ?_
     refine q_off (j := 8) rfl rfl (by first | (simp; done) | (simp [undef]; done)) (by decide) ?_
     refine q_off (j := 8) rfl rfl (by first | (simp; done) | (simp [undef]; done)) (by decide) ?_
     refine q_off (j := 8) rfl rfl (by first | (simp; done) | (simp [undef]; done)) (by decide) ?_
     refine q_q (by decide) (p_pick rfl rfl).q ?_
     refine q_q (by decide) (p_assign rfl).q ?_
     refine q_nil ?_
     refine c_ret ?_
     refine c_ret1 rfl rfl (fun w hs => ?_)
     exact ⟨by rw [beB_no h15 h22 (fun h => h31 (by rw [hu] at h; injection h))], hs.ext⟩
   ·skip
    refine c_skip ?_
    refine c_seq ?_
    refine c_seq ?_
    have hx0 : x < 0 := by omega
    have hnx : Ana.nt x < n := hr x (List.mem_cons_self ..) hx0
    have hncs : Ana.nt x = (-1 - x).toNat := rfl
    refine c_reg ?_
    refine l_q (by decide) (p_move rfl).q ?_
    refine l_q (by decide) (p_move rfl).q ?_
    first | refine l_q (by decide) (r_index (j := 0) Try.underlying26 inf_3 rfl rfl rfl (by first | exact .fact (by repeat constructor) | exact .own (by repeat constructor) (by decide) (fun _ => rfl) | exact SlIn.body (by repeat constructor) (by assumption)) rfl (by omega)).q ?_ | refine l_q (by decide) (r_index (j := 0) Try.underlying26 inf_3 rfl rfl rfl (by first | exact .fact (by repeat constructor) | exact .own (by repeat constructor) (by decide) (fun _ => rfl) | exact SlIn.body (by repeat constructor) (by assumption)) rfl (by decide)).q ?_ | refine l_q (by decide) (p_indexo (j := 0) Try.underlying26 inf_3 rfl rfl rfl (by omega)).q ?_
    first | refine l_q (by decide) (r_loado Try.underlying3 rfl rfl (by repeat constructor) (by rfl)).q ?_ | refine l_q (by decide) (r_load1 Try.underlying3 rfl rfl (by first | exact .fact (by repeat constructor) | exact .own (by repeat constructor) (by decide) (fun _ => rfl) | exact SlIn.body (by repeat constructor) (by assumption)) (by first | assumption | rfl) (by rfl)).q ?_ | refine l_q (by decide) (r_loadf Try.underlying3 rfl rfl (by first | exact .fact (by repeat constructor) | exact .own (by repeat constructor) (by decide) (fun _ => rfl) | exact SlIn.body (by repeat constructor) (by assumption)) (by assumption) (by rfl)).q ?_
    first | refine l_q (by decide) (((p_sub rfl rfl rfl rfl (by omega) (by show _ ≤ (9223372036854775807 : Nat); omega))).to (u := .int .i64 ((Ana.nt x : Nat) : Int)) (by rw [Ana.nt_cast hx0])).q ?_ | refine l_q (by decide) (((p_subi rfl rfl (by show (-9223372036854775808 : Int) ≤ _; omega) (by show _ ≤ ((9223372036854775807 : Nat) : Int); omega))).to (u := .int .i64 ((Ana.nt x : Nat) : Int)) (by rw [Ana.nt_cast hx0])).q ?_
    first | refine l_q (by decide) (r_index Try.underlying43 inf_42 rfl rfl rfl (by first | exact .fact (by repeat constructor) | exact .own (by repeat constructor) (by decide) (fun _ => rfl) | exact SlIn.body (by repeat constructor) (by assumption)) rfl (by omega)).q ?_ | refine l_q (by decide) (r_index Try.underlying43 inf_42 rfl rfl rfl (by first | exact .fact (by repeat constructor) | exact .own (by repeat constructor) (by decide) (fun _ => rfl) | exact SlIn.body (by repeat constructor) (by assumption)) rfl (by decide)).q ?_ | refine l_q (by decide) (p_indexo Try.underlying43 inf_42 rfl rfl rfl (by omega)).q ?_
    refine l_q (by decide) (r_loadq (q := BM n (s.length + 1) TB B b) Try.underlying42 rfl rfl (by repeat constructor) (fun w h => bm_top h hnx)).q ?_
    refine l_q (by decide) (p_move rfl).q ?_
    first | refine l_q (by decide) (r_index Try.underlying42 inf_4 rfl rfl rfl (by first | exact .fact (by repeat constructor) | exact .own (by repeat constructor) (by decide) (fun _ => rfl) | exact SlIn.body (by repeat constructor) (by assumption)) rfl (by omega)).q ?_ | refine l_q (by decide) (r_index Try.underlying42 inf_4 rfl rfl rfl (by first | exact .fact (by repeat constructor) | exact .own (by repeat constructor) (by decide) (fun _ => rfl) | exact SlIn.body (by repeat constructor) (by assumption)) rfl (by decide)).q ?_ | refine l_q (by decide) (p_indexo Try.underlying42 inf_4 rfl rfl rfl (by omega)).q ?_
    refine l_q (by decide) (r_loadq (q := BM n (s.length + 1) TB B b) Try.underlying4 rfl rfl (by repeat constructor) (fun w h => bm_row h hnx (show i < s.length + 1 by omega))).q ?_
    refine l_nil ?_
    first | refine c_dec rfl (fun h50 => ?_) (fun h50 => ?_) | refine c_cond rfl (fun h50 => ?_) (fun h50 => ?_)
    ·skip
     refine c_seq ?_
     refine c_reg ?_
     refine l_q (by decide) (p_assign rfl).q ?_
     refine l_nil ?_
     refine c_ret ?_
     refine c_ret1 rfl rfl (fun w hs => ?_)
     exact ⟨by rw [beB_b hx0 h50], hs.ext⟩
    ·skip
     refine c_skip ?_
     refine c_seq ?_
     refine c_seq ?_
     refine c_reg ?_
     refine l_q (by decide) (p_move rfl).q ?_
     refine l_q (by decide) (p_assign rfl).q ?_
     refine l_nil ?_
     refine c_block ?_
     refine c_loop (S := Nat) (fun zs => i ≤ zs ∧ zs ≤ s.length + 1 ∧ ∀ q, i ≤ q → q < zs → ¬ (d (Ana.nt x) i q = true ∧ beB d b s l2 q = true)) (fun zs => s.length + 1 - zs) (fun zs => [(0, .slice (some ⟨T, 0, none⟩) n n), (1, .slice (some ⟨TB, 0, none⟩) n n), (2, .slice As s.length cs), (3, .slice A (x :: l2).length c), (4, .int .i64 (i : Int)), (11, .int .i64 (zs : Int))]) (fun zs => []) (fun zs => [Sl 1 intF (subA A c 1 1) l2, Sl 1 intF A (x :: l2), TM n (s.length + 1) T M R d, BM n (s.length + 1) TB B b, Sl 1 intF As s]) (i) ?_ ?_ ?_ ?_ ?_
     · show i ≤ (i) ∧ (i) ≤ s.length + 1 ∧ ∀ q, i ≤ q → q < (i) → ¬ (d (Ana.nt x) i q = true ∧ beB d b s l2 q = true)
       exact ⟨Nat.le_refl _, by omega, fun q h1 h2 => by omega⟩
     · exact ⟨rfl, rfl, rfl, rfl, rfl, rfl, trivial⟩
     · exact .refl _
     · exact fun _ h => h
     rintro m hinv
     have hinv : i ≤ m ∧ m ≤ s.length + 1 ∧ ∀ q, i ≤ q → q < m → ¬ (d (Ana.nt x) i q = true ∧ beB d b s l2 q = true) := hinv
     obtain ⟨hm1, hm2, hm3⟩ := hinv
     show Cont _ _ _ _ [(0, .slice (some ⟨T, 0, none⟩) n n), (1, .slice (some ⟨TB, 0, none⟩) n n), (2, .slice As s.length cs), (3, .slice A (x :: l2).length c), (4, .int .i64 (i : Int)), (11, .int .i64 (m : Int))] ([]) [Sl 1 intF (subA A c 1 1) l2, Sl 1 intF A (x :: l2), TM n (s.length + 1) T M R d, BM n (s.length + 1) TB B b, Sl 1 intF As s]
     refine c_seq ?_
     refine c_seq ?_
     refine c_reg ?_
     refine l_q (by decide) (p_move rfl).q ?_
     refine l_q (by decide) (p_move rfl).q ?_
     refine l_q (by decide) (p_len_sl Try.underlying26 rfl).q ?_
     first | refine l_q (by decide) (p_leq rfl rfl rfl rfl).q ?_ | refine l_q (by decide) (p_leqi rfl rfl).q ?_
     refine l_nil ?_
     first | refine c_dec rfl (fun h55 => ?_) (fun h55 => ?_) | refine c_cond rfl (fun h55 => ?_) (fun h55 => ?_)
     ·skip
      refine c_skip ?_
      refine c_seq ?_
      refine c_block ?_
      refine c_seq ?_
      refine c_reg ?_
      refine l_q (by decide) (p_move rfl).q ?_
      refine l_q (by decide) (p_move rfl).q ?_
      first | refine l_q (by decide) (r_index (j := 0) Try.underlying26 inf_3 rfl rfl rfl (by first | exact .fact (by repeat constructor) | exact .own (by repeat constructor) (by decide) (fun _ => rfl) | exact SlIn.body (by repeat constructor) (by assumption)) rfl (by omega)).q ?_ | refine l_q (by decide) (r_index (j := 0) Try.underlying26 inf_3 rfl rfl rfl (by first | exact .fact (by repeat constructor) | exact .own (by repeat constructor) (by decide) (fun _ => rfl) | exact SlIn.body (by repeat constructor) (by assumption)) rfl (by decide)).q ?_ | refine l_q (by decide) (p_indexo (j := 0) Try.underlying26 inf_3 rfl rfl rfl (by omega)).q ?_
      first | refine l_q (by decide) (r_loado Try.underlying3 rfl rfl (by repeat constructor) (by rfl)).q ?_ | refine l_q (by decide) (r_load1 Try.underlying3 rfl rfl (by first | exact .fact (by repeat constructor) | exact .own (by repeat constructor) (by decide) (fun _ => rfl) | exact SlIn.body (by repeat constructor) (by assumption)) (by first | assumption | rfl) (by rfl)).q ?_ | refine l_q (by decide) (r_loadf Try.underlying3 rfl rfl (by first | exact .fact (by repeat constructor) | exact .own (by repeat constructor) (by decide) (fun _ => rfl) | exact SlIn.body (by repeat constructor) (by assumption)) (by assumption) (by rfl)).q ?_
      first | refine l_q (by decide) (((p_sub rfl rfl rfl rfl (by omega) (by show _ ≤ (9223372036854775807 : Nat); omega))).to (u := .int .i64 ((Ana.nt x : Nat) : Int)) (by rw [Ana.nt_cast hx0])).q ?_ | refine l_q (by decide) (((p_subi rfl rfl (by show (-9223372036854775808 : Int) ≤ _; omega) (by show _ ≤ ((9223372036854775807 : Nat) : Int); omega))).to (u := .int .i64 ((Ana.nt x : Nat) : Int)) (by rw [Ana.nt_cast hx0])).q ?_
      first | refine l_q (by decide) (r_index Try.underlying44 inf_43 rfl rfl rfl (by first | exact .fact (by repeat constructor) | exact .own (by repeat constructor) (by decide) (fun _ => rfl) | exact SlIn.body (by repeat constructor) (by assumption)) rfl (by omega)).q ?_ | refine l_q (by decide) (r_index Try.underlying44 inf_43 rfl rfl rfl (by first | exact .fact (by repeat constructor) | exact .own (by repeat constructor) (by decide) (fun _ => rfl) | exact SlIn.body (by repeat constructor) (by assumption)) rfl (by decide)).q ?_ | refine l_q (by decide) (p_indexo Try.underlying44 inf_43 rfl rfl rfl (by omega)).q ?_
      refine l_q (by decide) (r_loadq (q := TM n (s.length + 1) T M R d) Try.underlying43 rfl rfl (by repeat constructor) (fun w h => tm_top h hnx)).q ?_
      refine l_q (by decide) (p_move rfl).q ?_
      first | refine l_q (by decide) (r_index Try.underlying43 inf_42 rfl rfl rfl (by first | exact .fact (by repeat constructor) | exact .own (by repeat constructor) (by decide) (fun _ => rfl) | exact SlIn.body (by repeat constructor) (by assumption)) rfl (by omega)).q ?_ | refine l_q (by decide) (r_index Try.underlying43 inf_42 rfl rfl rfl (by first | exact .fact (by repeat constructor) | exact .own (by repeat constructor) (by decide) (fun _ => rfl) | exact SlIn.body (by repeat constructor) (by assumption)) rfl (by decide)).q ?_ | refine l_q (by decide) (p_indexo Try.underlying43 inf_42 rfl rfl rfl (by omega)).q ?_
      refine l_q (by decide) (r_loadq (q := TM n (s.length + 1) T M R d) Try.underlying42 rfl rfl (by repeat constructor) (fun w h => tm_mid h hnx (show i < s.length + 1 by omega))).q ?_
      refine l_q (by decide) (p_move rfl).q ?_
      first | refine l_q (by decide) (r_index Try.underlying42 inf_4 rfl rfl rfl (by first | exact .fact (by repeat constructor) | exact .own (by repeat constructor) (by decide) (fun _ => rfl) | exact SlIn.body (by repeat constructor) (by assumption)) rfl (by omega)).q ?_ | refine l_q (by decide) (r_index Try.underlying42 inf_4 rfl rfl rfl (by first | exact .fact (by repeat constructor) | exact .own (by repeat constructor) (by decide) (fun _ => rfl) | exact SlIn.body (by repeat constructor) (by assumption)) rfl (by decide)).q ?_ | refine l_q (by decide) (p_indexo Try.underlying42 inf_4 rfl rfl rfl (by omega)).q ?_
      refine l_q (by decide) (r_loadq (q := TM n (s.length + 1) T M R d) Try.underlying4 rfl rfl (by repeat constructor) (fun w h => tm_row h hnx (show i < s.length + 1 by omega) (show m < s.length + 1 by omega))).q ?_
      refine l_q (by decide) (p_move rfl).q ?_
      first | refine l_splitd (t := 71) rfl (fun h71 => ?_) (fun h71 => ?_) | refine l_splitb (t := 71) rfl (fun h71 => ?_) (fun h71 => ?_)
      ·skip
       refine l_g (j := 13) rfl rfl (by decide) (p_move rfl).q ?_
       refine l_g (j := 13) rfl rfl (by decide) (p_move rfl).q ?_
       refine l_g (j := 13) rfl rfl (by decide) (p_move rfl).q ?_
       refine l_g (j := 13) rfl rfl (by decide) (p_move rfl).q ?_
       first | refine l_g (j := 13) rfl rfl (by decide) (((p_part_l (i := 1) Try.underlying26 inf_3 rfl rfl rfl (by omega))).to (u := .slice (subA A c 1 1) l2.length (c - 1)) (rfl)).q ?_ | refine l_g (j := 13) rfl rfl (by decide) (((p_slices_l (i := 1) Try.underlying26 inf_3 rfl rfl rfl (by omega))).to (u := .slice (subA A c 1 1) l2.length (c - 1)) (rfl)).q ?_
       refine l_g (j := 13) rfl rfl (by decide) (p_move rfl).q ?_
       refine l_g (j := 13) rfl rfl (by decide) (q_call call_28 rfl (fun w hs => ih (subA A c 1 1) (c - 1) l2 (m) w (by show l2.length < (x :: l2).length; simp) (by simp at hc; omega) (fun y hy => hr y (List.mem_cons_of_mem _ hy)) (by omega) (hs.facts _ (List.mem_cons_self ..)).1 (hs.facts (TM n (s.length + 1) T M R d) (by repeat constructor)).1 (hs.facts (BM n (s.length + 1) TB B b) (by repeat constructor)).1 (hs.facts (Sl 1 intF As s) (by repeat constructor)).1)) ?_
       refine l_q (by decide) (p_pick rfl rfl).q ?_
       refine l_nil ?_
       first | refine c_dec rfl (fun h79 => ?_) (fun h79 => ?_) | refine c_cond rfl (fun h79 => ?_) (fun h79 => ?_)
       ·skip
        refine c_seq ?_
        refine c_reg ?_
        refine l_q (by decide) (p_assign rfl).q ?_
        refine l_nil ?_
        refine c_ret ?_
        refine c_ret1 rfl rfl (fun w hs => ?_)
        exact ⟨by rw [beB_hit hx0 hm1 (by omega) h71 h79], hs.ext⟩
       ·skip
        refine c_skip ?_
        refine c_reg ?_
        refine l_q (by decide) (p_move rfl).q ?_
        first | refine l_q (by decide) (p_add (j := 1) rfl rfl rfl rfl (by show _ ≤ (9223372036854775807 : Nat); omega)).q ?_ | refine l_q (by decide) (p_addi rfl rfl (by show (-9223372036854775808 : Int) ≤ _; omega) (by show _ ≤ ((9223372036854775807 : Nat) : Int); omega)).q ?_
        refine l_q (by decide) (p_assign rfl).q ?_
        refine l_nil ?_
        refine c_join ((m + 1)) ?_ ?_ ?_ ?_
        ·show (i ≤ (m + 1) ∧ (m + 1) ≤ s.length + 1 ∧ ∀ q, i ≤ q → q < (m + 1) → ¬ (d (Ana.nt x) i q = true ∧ beB d b s l2 q = true)) ∧ s.length + 1 - (m + 1) < s.length + 1 - m
         refine ⟨⟨by omega, by omega, fun q h1 h2 => ?_⟩, by omega⟩
         by_cases e : q = m
         · subst e; rintro ⟨h3, h4⟩; rw [h4] at h79; cases h79
         · exact hm3 q h1 (by omega)
        · exact ⟨rfl, rfl, rfl, rfl, rfl, rfl, trivial⟩
        ·show List.Perm _ ([])
         exact .refl _
        · exact fun _ h => h
      ·skip
       refine l_off (j := 13) rfl rfl (by first | (simp; done) | (simp [undef]; done)) (by decide) ?_
       refine l_off (j := 13) rfl rfl (by first | (simp; done) | (simp [undef]; done)) (by decide) ?_
       refine l_off (j := 13) rfl rfl (by first | (simp; done) | (simp [undef]; done)) (by decide) ?_
       refine l_off (j := 13) rfl rfl (by first | (simp; done) | (simp [undef]; done)) (by decide) ?_
       refine l_off (j := 13) rfl rfl (by first | (simp; done) | (simp [undef]; done)) (by decide) ?_
       refine l_off (j := 13) rfl rfl (by first | (simp; done) | (simp [undef]; done)) (by decide) ?_
       refine l_off (j := 13) rfl rfl (by first | (simp; done) | (simp [undef]; done)) (by decide) ?_
       refine l_q (by decide) (p_pick rfl rfl).q ?_
       refine l_nil ?_
       refine c_false rfl ?_
       refine c_skip ?_
       refine c_reg ?_
       refine l_q (by decide) (p_move rfl).q ?_
       first | refine l_q (by decide) (p_add (j := 1) rfl rfl rfl rfl (by show _ ≤ (9223372036854775807 : Nat); omega)).q ?_ | refine l_q (by decide) (p_addi rfl rfl (by show (-9223372036854775808 : Int) ≤ _; omega) (by show _ ≤ ((9223372036854775807 : Nat) : Int); omega)).q ?_
       refine l_q (by decide) (p_assign rfl).q ?_
       refine l_nil ?_
       refine c_join ((m + 1)) ?_ ?_ ?_ ?_
       ·show (i ≤ (m + 1) ∧ (m + 1) ≤ s.length + 1 ∧ ∀ q, i ≤ q → q < (m + 1) → ¬ (d (Ana.nt x) i q = true ∧ beB d b s l2 q = true)) ∧ s.length + 1 - (m + 1) < s.length + 1 - m
        refine ⟨⟨by omega, by omega, fun q h1 h2 => ?_⟩, by omega⟩
        by_cases e : q = m
        · subst e; rintro ⟨h3, h4⟩; rw [h3] at h71; cases h71
        · exact hm3 q h1 (by omega)
       · exact ⟨rfl, rfl, rfl, rfl, rfl, rfl, trivial⟩
       ·show List.Perm _ ([])
        exact .refl _
       · exact fun _ h => h
     ·skip
      refine c_exit ?_
      refine c_here ?_
      refine c_seq ?_
      refine c_reg ?_
      refine l_q (by decide) (p_assign rfl).q ?_
      refine l_nil ?_
      refine c_ret ?_
      refine c_ret1 rfl rfl (fun w hs => ?_)
      exact ⟨by rw [beB_miss h15 hx0 (by simpa using h50) (fun q h1 h2 => hm3 q h1 (by omega))], hs.ext⟩

theorem beg_ok (d : T3) (b : T2) (s : List Int) (n T TB : Nat) (M R B : NF) (As : Option Addr) (cs : Nat) (hn : n ≤ 1000) (hs1 : s.length ≤ 1000) : ∀ (m : Nat) (l : List Int) (A : Option Addr) (c i : Nat) (w : World), l.length ≤ m → m ≤ 1000 → l.length ≤ c → (∀ x, x ∈ l → x < 0 → Ana.nt x < n) → i ≤ s.length → Sl 1 intF A l w → TM n (s.length + 1) T M R d w → BM n (s.length + 1) TB B b w → Sl 1 intF As s w → begC d b s l n T TB As A cs c i w := fun m => by
  induction m with
  | zero => exact fun l A c i w hl hm hc hr hik hq ht htb hp => beg_step d b s l n T TB M R B As A cs c i hn hs1 (by omega) hc hr hik (fun A2 c2 l2 i2 w2 h => by omega) w hq ht htb hp
  | succ m ih => exact fun l A c i w hl hm hc hr hik hq ht htb hp => beg_step d b s l n T TB M R B As A cs c i hn hs1 (by omega) hc hr hik (fun A2 c2 l2 i2 w2 h hc2 hr2 hi2 hq2 ht2 htb2 hp2 => ih l2 A2 c2 i2 w2 (by omega) (by omega) hc2 hr2 hi2 hq2 ht2 htb2 hp2) w hq ht htb hp
end Go.Proofs.Ytncagpppmaehhaa
