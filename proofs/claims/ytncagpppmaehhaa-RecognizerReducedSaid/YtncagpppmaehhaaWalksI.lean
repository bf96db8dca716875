/- The walks of the recognizer, ninth part (body); conditions: lengths. -/
import Derived.Test.YtncagpppmaehhaaWalksH
namespace Go.Proofs.Ytncagpppmaehhaa
open Go Go.Fx Go.Proofs

open Go.Proofs.Rec
/-- a table that is only read -/
def TM (n L T : Nat) (M R : NF) (d : T3) : World → Prop := fun w => (iCells T 43 (hdm n L n M)).holds w ∧ (∀ i, i < n → (mid L M R i).holds w) ∧ ∀ p, p < n * L → (row3 L R d p).holds w
theorem dep_holds0 {x : Fx.Item} {b : Nat} (hk : x.keys = [b]) (hd : x.dep) {w w1 w2 : World} (hb : ∀ k, 0 ≤ k → k < w.heap.size → w2.heap[k]? = w1.heap[k]?) (hlt : b < w.heap.size) (h : x.holds w1) : x.holds w2 := hd w1 w2 (fun k hkk => by rw [hk] at hkk; rw [List.mem_singleton.1 hkk]; exact hb b (Nat.zero_le _) hlt) h
theorem cells_lt {b t : Nat} {vs : List Value} {w : World} (h : (iCells b t vs).holds w) : b < w.heap.size := by
  have h : w.heap[b]? = _ := h
  exact (Array.getElem?_eq_some_iff.1 h).1
theorem dep_tm {n L T : Nat} {M R : NF} {d : T3} {w : World} (h : TM n L T M R d w) : Dep 0 w.heap.size (TM n L T M R d) := fun w1 w2 hb ⟨h1, h2, h3⟩ =>
  ⟨dep_holds0 (x := iCells T 43 (hdm n L n M)) rfl (iCells_dep _ _ _) hb (cells_lt h.1) h1, fun i hi => dep_holds0 (x := mid L M R i) rfl (iCells_dep _ _ _) hb (cells_lt (h.2.1 i hi)) (h2 i hi), fun p hp => dep_holds0 (x := row3 L R d p) rfl (iCells_dep _ _ _) hb (cells_lt (h.2.2 p hp)) (h3 p hp)⟩
theorem tm_top {n L T : Nat} {M R : NF} {d : T3} {w : World} (h : TM n L T M R d w) {i : Nat} (hi : i < n) : w.cell? ⟨T, i * 1, none⟩ = some (.slice (some ⟨M i, 0, none⟩) L L) := (cells_cell h.1 _).trans (hdm_at hi hi)
theorem tm_mid {n L T : Nat} {M R : NF} {d : T3} {w : World} (h : TM n L T M R d w) {i k : Nat} (hi : i < n) (hk : k < L) : w.cell? ⟨M i, k * 1, none⟩ = some (.slice (some ⟨R (i * L + k), 0, none⟩) L L) := (cells_cell (h.2.1 i hi) _).trans (hdm_at hk hk)
theorem idx3 {n L i k : Nat} (hi : i < n) (hk : k < L) : i * L + k < n * L ∧ (i * L + k) / L = i ∧ (i * L + k) % L = k := by
  have h := Nat.mul_le_mul_right L (show i + 1 ≤ n by omega)
  rw [Nat.add_mul] at h
  refine ⟨by omega, ?_, ?_⟩
  · rw [Nat.mul_comm i L, Nat.mul_add_div (by omega), Nat.div_eq_of_lt hk, Nat.add_zero]
  · rw [Nat.mul_comm i L, Nat.mul_add_mod, Nat.mod_eq_of_lt hk]
theorem tm_row {n L T : Nat} {M R : NF} {d : T3} {w : World} (h : TM n L T M R d w) {i k m : Nat} (hi : i < n) (hk : k < L) (hm : m < L) : w.cell? ⟨R (i * L + k), m * 1, none⟩ = some (.bool (d i k m)) := by
  obtain ⟨h1, h2, h3⟩ := idx3 hi hk
  have := (cells_cell (h.2.2 _ h1) (m * 1)).trans (bl_at hm)
  rw [h2, h3] at this
  exact this
noncomputable def bdB (d : T3) (s l : List Int) (i k : Nat) : Bool := Ana.dec (BD d s l i k)
section
variable {P : Program} {w0 : World} {K : List Nat} {n : Sz} {N : Act → World → Prop} {L : Slots} {σ : Fx.Own} {ρ : Fx.Facts}
theorem c_tail {A : Option Addr} {c : Nat} {x : Int} {l : List Int} (hq : Sl 1 intF A (x :: l) ∈ ρ) (hc : (x :: l).length ≤ c) (h : Cont w0 K n N L σ (Sl 1 intF (subA A c 1 1) l :: ρ)) : Cont w0 K n N L σ ρ := by
  refine c_part Try.prog c 1 l.length hq hc (by decide) ?_
  rw [show ((x :: l).drop 1).take l.length = l from List.take_length]
  exact h
end
theorem bdB_nil {d : T3} {s : List Int} {i k : Nat} : bdB d s [] i k = decide (i = k) := by
  unfold bdB
  by_cases h : i = k
  · rw [decide_eq_true h]; exact Ana.dec_true h
  · rw [decide_eq_false h]; exact Ana.dec_false h
theorem bdB_no {d : T3} {s : List Int} {x : Int} {l : List Int} {i k : Nat} (h0 : 0 ≤ x) (h : ¬ (i < k ∧ s[i]? = some x)) : bdB d s (x :: l) i k = false := Ana.dec_false (by
  rintro (⟨_, h1, h2, _⟩ | ⟨h1, _⟩)
  · exact h ⟨h1, h2⟩
  · omega)
theorem bdB_term {d : T3} {s : List Int} {x : Int} {l : List Int} {i k : Nat} (h0 : 0 ≤ x) (h1 : i < k) (h2 : s[i]? = some x) : bdB d s (x :: l) i k = bdB d s l (i + 1) k := Eq.symm (Ana.eq_dec (by
  unfold bdB
  rw [Ana.dec_iff]
  refine ⟨fun h => .inl ⟨h0, h1, h2, h⟩, ?_⟩
  rintro (⟨_, _, _, h⟩ | ⟨h, _⟩)
  · exact h
  · omega))
theorem bdB_hit {d : T3} {s : List Int} {x : Int} {l : List Int} {i k m : Nat} (h0 : x < 0) (h1 : i ≤ m) (h2 : m ≤ k) (h3 : d (Ana.nt x) i m = true) (h4 : bdB d s l m k = true) : bdB d s (x :: l) i k = true := Ana.dec_true (.inr ⟨h0, m, h1, h2, h3, Ana.dec_iff.1 h4⟩)
theorem bdB_miss {d : T3} {s : List Int} {x : Int} {l : List Int} {i k : Nat} (h0 : x < 0) (h : ∀ q, i ≤ q → q < k + 1 → ¬ (d (Ana.nt x) i q = true ∧ bdB d s l q k = true)) : bdB d s (x :: l) i k = false := Ana.dec_false (by
  rintro (⟨h1, _⟩ | ⟨_, m, h1, h2, h3, h4⟩)
  · omega
  · exact h m h1 (by omega) ⟨h3, Ana.dec_true h4⟩)
def bodyC (d : T3) (s l : List Int) (n T : Nat) (As A : Option Addr) (cs c i k : Nat) (w : World) : Prop := Calls Try.prog 40 #[.slice (some ⟨T, 0, none⟩) n n, .slice As s.length cs, .slice A l.length c, .int .i64 (i : Int), .int .i64 (k : Int)] w (Ret fun v w' => v = .bool (bdB d s l i k) ∧ Ext [] w w')
theorem call_40 : Callable Try.prog 40 := ⟨_, Try.func40, by kernel_rfl, rfl⟩
theorem body_step (d : T3) (s l : List Int) (n T : Nat) (M R : NF) (As A : Option Addr) (cs c i k : Nat) (hn : n ≤ 1000) (hs1 : s.length ≤ 1000) (hl : l.length ≤ 1000) (hc : l.length ≤ c) (hr : ∀ x, x ∈ l → x < 0 → Ana.nt x < n) (hik : i ≤ k) (hk : k ≤ s.length) (ih : ∀ (A2 : Option Addr) (c2 : Nat) (l2 : List Int) (i2 : Nat) (w2 : World), l2.length < l.length → l2.length ≤ c2 → (∀ x, x ∈ l2 → x < 0 → Ana.nt x < n) → i2 ≤ k → Sl 1 intF A2 l2 w2 → TM n (s.length + 1) T M R d w2 → Sl 1 intF As s w2 → bodyC d s l2 n T As A2 cs c2 i2 k w2) (w : World) (hq : Sl 1 intF A l w) (ht : TM n (s.length + 1) T M R d w) (hp : Sl 1 intF As s w) :
   Calls Try.prog 40 #[.slice (some ⟨T, 0, none⟩) n n, .slice As s.length cs, .slice A l.length c, .int .i64 (i : Int), .int .i64 (k : Int)] w (Ret fun v w' => v = .bool (bdB d s l i k) ∧ Ext [] w w') := by
 refine calls_fx (l := [.slice (some ⟨T, 0, none⟩) n n, .slice As s.length cs, .slice A l.length c, .int .i64 (i : Int), .int .i64 (k : Int)]) Try.func40 rfl Try.ntmps40 (Nat.le_of_ble_eq_true rfl) ((((St.start w).old hp (dep_sl (by decide) hp)).old ht (dep_tm ht)).old hq (dep_sl (by decide) hq)) ?_
 refine c_seq ?_
 refine c_reg ?_
 refine l_q (by decide) (p_assign rfl).q ?_
 refine l_nil ?_
 refine c_seq ?_
 refine c_seq ?_
 refine c_reg ?_
 refine l_q (by decide) (p_move rfl).q ?_
 refine l_q (by decide) (p_len_sl Try.underlying26 rfl).q ?_
 first | refine l_q (by decide) (p_eql (j := 0) rfl rfl rfl rfl).q ?_ | refine l_q (by decide) (p_eqli rfl rfl).q ?_
 refine l_nil ?_
 first | refine c_dec rfl (fun h14 => ?_) (fun h14 => ?_) | refine c_cond rfl (fun h14 => ?_) (fun h14 => ?_)
 ·skip
  refine c_seq ?_
  refine c_reg ?_
  refine l_q (by decide) (p_move rfl).q ?_
  refine l_q (by decide) (p_move rfl).q ?_
  first | refine l_q (by decide) (p_eql rfl rfl rfl rfl).q ?_ | refine l_q (by decide) (p_eqli rfl rfl).q ?_
  refine l_q (by decide) (p_assign rfl).q ?_
  refine l_nil ?_
  refine c_ret ?_
  refine c_ret1 rfl rfl (fun w hs => ?_)
  obtain rfl : l = [] := List.eq_nil_of_length_eq_zero h14
  exact ⟨by rw [bdB_nil], hs.ext⟩
 ·skip
  obtain _ | ⟨x, l2⟩ := l
  · exact absurd rfl h14
  refine c_tail (x := x) (l := l2) (by repeat constructor) hc ?_
  refine c_skip ?_
  refine c_seq ?_
  refine c_seq ?_
  refine c_reg ?_
  refine l_q (by decide) (p_move rfl).q ?_
  first | refine l_q (by decide) (r_index (j := 0) Try.underlying26 inf_3 rfl rfl rfl (by first | exact .fact (by repeat constructor) | exact .own (by repeat constructor) (by decide) (fun _ => rfl) | exact SlIn.body (by repeat constructor) (by assumption)) rfl (by omega)).q ?_ | refine l_q (by decide) (r_index (j := 0) Try.underlying26 inf_3 rfl rfl rfl (by first | exact .fact (by repeat constructor) | exact .own (by repeat constructor) (by decide) (fun _ => rfl) | exact SlIn.body (by repeat constructor) (by assumption)) rfl (by decide)).q ?_ | refine l_q (by decide) (p_indexo (j := 0) Try.underlying26 inf_3 rfl rfl rfl (by omega)).q ?_
  first | refine l_q (by decide) (r_loado Try.underlying3 rfl rfl (by repeat constructor) (by rfl)).q ?_ | refine l_q (by decide) (r_load1 Try.underlying3 rfl rfl (by first | exact .fact (by repeat constructor) | exact .own (by repeat constructor) (by decide) (fun _ => rfl) | exact SlIn.body (by repeat constructor) (by assumption)) (by first | assumption | rfl) (by rfl)).q ?_ | refine l_q (by decide) (r_loadf Try.underlying3 rfl rfl (by first | exact .fact (by repeat constructor) | exact .own (by repeat constructor) (by decide) (fun _ => rfl) | exact SlIn.body (by repeat constructor) (by assumption)) (by assumption) (by rfl)).q ?_
  first | refine l_q (by decide) (p_geq (j := 0) rfl rfl rfl rfl).q ?_ | refine l_q (by decide) (p_geqi rfl rfl).q ?_
  refine l_nil ?_
  first | refine c_dec rfl (fun h21 => ?_) (fun h21 => ?_) | refine c_cond rfl (fun h21 => ?_) (fun h21 => ?_)
  ·skip
   refine c_seq ?_
   refine c_draw mixed (by decide +kernel) ?_
   refine q_q (by decide) (p_move rfl).q ?_
   refine q_q (by decide) (p_move rfl).q ?_
   first | refine q_q (by decide) (p_lss rfl rfl rfl rfl).q ?_ | refine q_q (by decide) (p_lssi rfl rfl).q ?_
   refine q_q (by decide) (p_move rfl).q ?_
   first | refine q_splitd (t := 25) rfl (fun h25 => ?_) (fun h25 => ?_) | refine q_splitb (t := 25) rfl (fun h25 => ?_) (fun h25 => ?_)
   ·skip
    obtain ⟨u, hu⟩ := at_some (l := s) (n := i) (by omega)
    refine q_g (j := 3) rfl rfl (by decide) (p_move rfl).q ?_
    refine q_g (j := 3) rfl rfl (by decide) (p_move rfl).q ?_
    first | refine q_g (j := 3) rfl rfl (by decide) (r_index Try.underlying26 inf_3 rfl rfl rfl (by first | exact .fact (by repeat constructor) | exact .own (by repeat constructor) (by decide) (fun _ => rfl) | exact SlIn.body (by repeat constructor) (by assumption)) rfl (by omega)).q ?_ | refine q_g (j := 3) rfl rfl (by decide) (r_index Try.underlying26 inf_3 rfl rfl rfl (by first | exact .fact (by repeat constructor) | exact .own (by repeat constructor) (by decide) (fun _ => rfl) | exact SlIn.body (by repeat constructor) (by assumption)) rfl (by decide)).q ?_ | refine q_g (j := 3) rfl rfl (by decide) (p_indexo Try.underlying26 inf_3 rfl rfl rfl (by omega)).q ?_
    first | refine q_g (j := 3) rfl rfl (by decide) (r_loado Try.underlying3 rfl rfl (by repeat constructor) (by rfl)).q ?_ | refine q_g (j := 3) rfl rfl (by decide) (r_load1 Try.underlying3 rfl rfl (by first | exact .fact (by repeat constructor) | exact .own (by repeat constructor) (by decide) (fun _ => rfl) | exact SlIn.body (by repeat constructor) (by assumption)) (by first | assumption | rfl) (by rfl)).q ?_ | refine q_g (j := 3) rfl rfl (by decide) (r_loadf Try.underlying3 rfl rfl (by first | exact .fact (by repeat constructor) | exact .own (by repeat constructor) (by decide) (fun _ => rfl) | exact SlIn.body (by repeat constructor) (by assumption)) (by assumption) (by rfl)).q ?_
    refine q_g (j := 3) rfl rfl (by decide) (p_move rfl).q ?_
    first | refine q_g (j := 3) rfl rfl (by decide) (r_index (j := 0) Try.underlying26 inf_3 rfl rfl rfl (by first | exact .fact (by repeat constructor) | exact .own (by repeat constructor) (by decide) (fun _ => rfl) | exact SlIn.body (by repeat constructor) (by assumption)) rfl (by omega)).q ?_ | refine q_g (j := 3) rfl rfl (by decide) (r_index (j := 0) Try.underlying26 inf_3 rfl rfl rfl (by first | exact .fact (by repeat constructor) | exact .own (by repeat constructor) (by decide) (fun _ => rfl) | exact SlIn.body (by repeat constructor) (by assumption)) rfl (by decide)).q ?_ | refine q_g (j := 3) rfl rfl (by decide) (p_indexo (j := 0) Try.underlying26 inf_3 rfl rfl rfl (by omega)).q ?_
    first | refine q_g (j := 3) rfl rfl (by decide) (r_loado Try.underlying3 rfl rfl (by repeat constructor) (by rfl)).q ?_ | refine q_g (j := 3) rfl rfl (by decide) (r_load1 Try.underlying3 rfl rfl (by first | exact .fact (by repeat constructor) | exact .own (by repeat constructor) (by decide) (fun _ => rfl) | exact SlIn.body (by repeat constructor) (by assumption)) (by first | assumption | rfl) (by rfl)).q ?_ | refine q_g (j := 3) rfl rfl (by decide) (r_loadf Try.underlying3 rfl rfl (by first | exact .fact (by repeat constructor) | exact .own (by repeat constructor) (by decide) (fun _ => rfl) | exact SlIn.body (by repeat constructor) (by assumption)) (by assumption) (by rfl)).q ?_
    first | refine q_g (j := 3) rfl rfl (by decide) (p_eql rfl rfl rfl rfl).q ?_ | refine q_g (j := 3) rfl rfl (by decide) (p_eqli rfl rfl).q ?_
    refine q_q (by decide) (p_pick rfl rfl).q ?_
    refine q_q (by decide) (p_move rfl).q ?_
    first | refine q_splitd (t := 35) rfl (fun h35 => ?_) (fun h35 => ?_) | refine q_splitb (t := 35) rfl (fun h35 => ?_) (fun h35 => ?_)
    ·skip
     refine q_g (j := 13) rfl rfl (by decide) (p_move rfl).q ?_
     refine q_g (j := 13) rfl rfl (by decide) (p_move rfl).q ?_
     refine q_g (j := 13) rfl rfl (by decide) (p_move rfl).q ?_
     first | refine q_g (j := 13) rfl rfl (by decide) (((p_part_l (i := 1) Try.underlying26 inf_3 rfl rfl rfl (by omega))).to (u := .slice (subA A c 1 1) l2.length (c - 1)) (rfl)).q ?_ | refine q_g (j := 13) rfl rfl (by decide) (((p_slices_l (i := 1) Try.underlying26 inf_3 rfl rfl rfl (by omega))).to (u := .slice (subA A c 1 1) l2.length (c - 1)) (rfl)).q ?_
     refine q_g (j := 13) rfl rfl (by decide) (p_move rfl).q ?_
     first | refine q_g (j := 13) rfl rfl (by decide) (p_add (j := 1) rfl rfl rfl rfl (by show _ ≤ (9223372036854775807 : Nat); omega)).q ?_ | refine q_g (j := 13) rfl rfl (by decide) (p_addi rfl rfl (by show (-9223372036854775808 : Int) ≤ _; omega) (by show _ ≤ ((9223372036854775807 : Nat) : Int); omega)).q ?_
     refine q_g (j := 13) rfl rfl (by decide) (p_move rfl).q ?_
     refine q_g (j := 13) rfl rfl (by decide) (q_call call_40 rfl (fun w hs => ih (subA A c 1 1) (c - 1) l2 (i + 1) w (by show l2.length < (x :: l2).length; simp) (by simp at hc; omega) (fun y hy => hr y (List.mem_cons_of_mem _ hy)) (by omega) (hs.facts _ (List.mem_cons_self ..)).1 (hs.facts (TM n (s.length + 1) T M R d) (by repeat constructor)).1 (hs.facts (Sl 1 intF As s) (by repeat constructor)).1)) ?_
     refine q_q (by decide) (p_pick rfl rfl).q ?_
     refine q_q (by decide) (p_assign rfl).q ?_
     refine q_nil ?_
     refine c_ret ?_
     refine c_ret1 rfl rfl (fun w hs => ?_)
     exact ⟨by rw [bdB_term h21 h25 (by rw [hu, h35])], hs.ext⟩
    ·skip
     refine q_off (j := 13) rfl rfl (by first | (simp; done) | (simp [undef]; done)) (by decide) ?_
     refine q_off (j := 13) rfl rfl (by first | (simp; done) | (simp [undef]; done)) (by decide) ?_
     refine q_off (j := 13) rfl rfl (by first | (simp; done) | (simp [undef]; done)) (by decide) ?_
     refine q_off (j := 13) rfl rfl (by first | (simp; done) | (simp [undef]; done)) (by decide) ?_
     refine q_off (j := 13) rfl rfl (by first | (simp; done) | (simp [undef]; done)) (by decide) ?_
     refine q_off (j := 13) rfl rfl (by first | (simp; done) | (simp [undef]; done)) (by decide) ?_
     refine q_off (j := 13) rfl rfl (by first | (simp; done) | (simp [undef]; done)) (by decide) ?_
     refine q_off (j := 13) rfl rfl (by first | (simp; done) | (simp [undef]; done)) (by decide) ?_
     refine q_q (by decide) (p_pick rfl rfl).q ?_
     refine q_q (by decide) (p_assign rfl).q ?_
     refine q_nil ?_
     refine c_ret ?_
     refine c_ret1 rfl rfl (fun w hs => ?_)
     exact ⟨by rw [bdB_no h21 (fun h => h35 (by rw [hu] at h; injection h.2))], hs.ext⟩
   ·skip
    refine q_off (j := 3) rfl rfl (by first | (simp; done) | (simp [undef]; done)) (by decide) ?_
    refine q_off (j := 3) rfl rfl (by first | (simp; done) | (simp [undef]; done)) (by decide) ?_
    refine q_off (j := 3) rfl rfl (by first | (simp; done) | (simp [undef]; done)) (by decide) ?_
    refine q_off (j := 3) rfl rfl (by first | (simp; done) | (simp [undef]; done)) (by decide) ?_
    refine q_off (j := 3) rfl rfl (by first | (simp; done) | (simp [undef]; done)) (by decide) ?_
    refine q_off (j := 3) rfl rfl (by first | (simp; done) | (simp [undef]; done)) (by decide) ?_
    refine q_off (j := 3) rfl rfl (by first | (simp; done) | (simp [undef]; done)) (by decide) ?_
    refine q_off (j := 3) rfl rfl (by first | (simp; done) | (simp [undef]; done)) (by decide) ?_
    refine q_q (by decide) (p_pick rfl rfl).q ?_
    refine q_q (by decide) (p_move rfl).q ?_
    refine q_off (j := 13) rfl rfl (by first | (simp; done) | (simp [undef]; done)) (by decide) ?_
    refine q_off (j := 13) rfl rfl (by first | (simp; done) | (simp [undef]; done)) (by decide) ?_
    refine q_off (j := 13) rfl rfl (by first | (simp; done) | (simp [undef]; done)) (by decide) ?_
    refine q_off (j := 13) rfl rfl (by first | (simp; done) | (simp [undef]; done)) (by decide) ?_
    refine q_off (j := 13) rfl rfl (by first | (simp; done) | (simp [undef]; done)) (by decide) ?_
    refine q_off (j := 13) rfl rfl (by first | (simp; done) | (simp [undef]; done)) (by decide) ?_
    refine q_off (j := 13) rfl rfl (by first | (simp; done) | (simp [undef]; done)) (by decide) ?_
    refine q_off (j := 13) rfl rfl (by first | (simp; done) | (simp [undef]; done)) (by decide) ?_
    refine q_q (by decide) (p_pick rfl rfl).q ?_
    refine q_q (by decide) (p_assign rfl).q ?_
    refine q_nil ?_
    refine c_ret ?_
    refine c_ret1 rfl rfl (fun w hs => ?_)
    exact ⟨by rw [bdB_no h21 (fun h => h25 h.1)], hs.ext⟩
  ·skip
   refine c_skip ?_
   refine c_seq ?_
   refine c_seq ?_
   refine c_reg ?_
   refine l_q (by decide) (p_move rfl).q ?_
   refine l_q (by decide) (p_assign rfl).q ?_
   refine l_nil ?_
   refine c_block ?_
   refine c_loop (S := Nat) (fun zs => i ≤ zs ∧ zs ≤ k + 1 ∧ ∀ q, i ≤ q → q < zs → ¬ (d (Ana.nt x) i q = true ∧ bdB d s l2 q k = true)) (fun zs => k + 1 - zs) (fun zs => [(0, .slice (some ⟨T, 0, none⟩) n n), (1, .slice As s.length cs), (2, .slice A (x :: l2).length c), (3, .int .i64 (i : Int)), (4, .int .i64 (k : Int)), (11, .int .i64 (zs : Int))]) (fun zs => []) (fun zs => [Sl 1 intF (subA A c 1 1) l2, Sl 1 intF A (x :: l2), TM n (s.length + 1) T M R d, Sl 1 intF As s]) (i) ?_ ?_ ?_ ?_ ?_
   · show i ≤ (i) ∧ (i) ≤ k + 1 ∧ ∀ q, i ≤ q → q < (i) → ¬ (d (Ana.nt x) i q = true ∧ bdB d s l2 q k = true)
     exact ⟨Nat.le_refl _, by omega, fun q h1 h2 => by omega⟩
   · exact ⟨rfl, rfl, rfl, rfl, rfl, rfl, trivial⟩
   · exact .refl _
   · exact fun _ h => h
   rintro m hinv
   have hinv : i ≤ m ∧ m ≤ k + 1 ∧ ∀ q, i ≤ q → q < m → ¬ (d (Ana.nt x) i q = true ∧ bdB d s l2 q k = true) := hinv
   obtain ⟨hm1, hm2, hm3⟩ := hinv
   have hx0 : x < 0 := by omega
   have hnx : Ana.nt x < n := hr x (List.mem_cons_self ..) hx0
   have hncs : Ana.nt x = (-1 - x).toNat := rfl
   show Cont _ _ _ _ [(0, .slice (some ⟨T, 0, none⟩) n n), (1, .slice As s.length cs), (2, .slice A (x :: l2).length c), (3, .int .i64 (i : Int)), (4, .int .i64 (k : Int)), (11, .int .i64 (m : Int))] ([]) [Sl 1 intF (subA A c 1 1) l2, Sl 1 intF A (x :: l2), TM n (s.length + 1) T M R d, Sl 1 intF As s]
   refine c_seq ?_
   refine c_seq ?_
   refine c_reg ?_
   refine l_q (by decide) (p_move rfl).q ?_
   refine l_q (by decide) (p_move rfl).q ?_
   first | refine l_q (by decide) (p_leq rfl rfl rfl rfl).q ?_ | refine l_q (by decide) (p_leqi rfl rfl).q ?_
   refine l_nil ?_
   first | refine c_dec rfl (fun h48 => ?_) (fun h48 => ?_) | refine c_cond rfl (fun h48 => ?_) (fun h48 => ?_)
   ·skip
    refine c_skip ?_
    refine c_seq ?_
    refine c_block ?_
    refine c_seq ?_
    refine c_reg ?_
    refine l_q (by decide) (p_move rfl).q ?_
    refine l_q (by decide) (p_move rfl).q ?_
    first | refine l_q (by decide) (r_index (j := 0) Try.underlying26 inf_3 rfl rfl rfl (by first | exact .fact (by repeat constructor) | exact .own (by repeat constructor) (by decide) (fun _ => rfl) | exact SlIn.body (by repeat constructor) (by assumption)) rfl (by omega)).q ?_ | refine l_q (by decide) (r_index (j := 0) Try.underlying26 inf_3 rfl rfl rfl (by first | exact .fact (by repeat constructor) | exact .own (by repeat constructor) (by decide) (fun _ => rfl) | exact SlIn.body (by repeat constructor) (by assumption)) rfl (by decide)).q ?_ | refine l_q (by decide) (p_indexo (j := 0) Try.underlying26 inf_3 rfl rfl rfl (by omega)).q ?_
    first | refine l_q (by decide) (r_loado Try.underlying3 rfl rfl (by repeat constructor) (by rfl)).q ?_ | refine l_q (by decide) (r_load1 Try.underlying3 rfl rfl (by first | exact .fact (by repeat constructor) | exact .own (by repeat constructor) (by decide) (fun _ => rfl) | exact SlIn.body (by repeat constructor) (by assumption)) (by first | assumption | rfl) (by rfl)).q ?_ | refine l_q (by decide) (r_loadf Try.underlying3 rfl rfl (by first | exact .fact (by repeat constructor) | exact .own (by repeat constructor) (by decide) (fun _ => rfl) | exact SlIn.body (by repeat constructor) (by assumption)) (by assumption) (by rfl)).q ?_
    first | refine l_q (by decide) (((p_sub rfl rfl rfl rfl (by omega) (by show _ ≤ (9223372036854775807 : Nat); omega))).to (u := .int .i64 ((Ana.nt x : Nat) : Int)) (by rw [Ana.nt_cast hx0])).q ?_ | refine l_q (by decide) (((p_subi rfl rfl (by show (-9223372036854775808 : Int) ≤ _; omega) (by show _ ≤ ((9223372036854775807 : Nat) : Int); omega))).to (u := .int .i64 ((Ana.nt x : Nat) : Int)) (by rw [Ana.nt_cast hx0])).q ?_
    first | refine l_q (by decide) (r_index Try.underlying44 inf_43 rfl rfl rfl (by first | exact .fact (by repeat constructor) | exact .own (by repeat constructor) (by decide) (fun _ => rfl) | exact SlIn.body (by repeat constructor) (by assumption)) rfl (by omega)).q ?_ | refine l_q (by decide) (r_index Try.underlying44 inf_43 rfl rfl rfl (by first | exact .fact (by repeat constructor) | exact .own (by repeat constructor) (by decide) (fun _ => rfl) | exact SlIn.body (by repeat constructor) (by assumption)) rfl (by decide)).q ?_ | refine l_q (by decide) (p_indexo Try.underlying44 inf_43 rfl rfl rfl (by omega)).q ?_
    refine l_q (by decide) (r_loadq (q := TM n (s.length + 1) T M R d) Try.underlying43 rfl rfl (by repeat constructor) (fun w h => tm_top h hnx)).q ?_
    refine l_q (by decide) (p_move rfl).q ?_
    first | refine l_q (by decide) (r_index Try.underlying43 inf_42 rfl rfl rfl (by first | exact .fact (by repeat constructor) | exact .own (by repeat constructor) (by decide) (fun _ => rfl) | exact SlIn.body (by repeat constructor) (by assumption)) rfl (by omega)).q ?_ | refine l_q (by decide) (r_index Try.underlying43 inf_42 rfl rfl rfl (by first | exact .fact (by repeat constructor) | exact .own (by repeat constructor) (by decide) (fun _ => rfl) | exact SlIn.body (by repeat constructor) (by assumption)) rfl (by decide)).q ?_ | refine l_q (by decide) (p_indexo Try.underlying43 inf_42 rfl rfl rfl (by omega)).q ?_
    refine l_q (by decide) (r_loadq (q := TM n (s.length + 1) T M R d) Try.underlying42 rfl rfl (by repeat constructor) (fun w h => tm_mid h hnx (show i < s.length + 1 by omega))).q ?_
    refine l_q (by decide) (p_move rfl).q ?_
    first | refine l_q (by decide) (r_index Try.underlying42 inf_4 rfl rfl rfl (by first | exact .fact (by repeat constructor) | exact .own (by repeat constructor) (by decide) (fun _ => rfl) | exact SlIn.body (by repeat constructor) (by assumption)) rfl (by omega)).q ?_ | refine l_q (by decide) (r_index Try.underlying42 inf_4 rfl rfl rfl (by first | exact .fact (by repeat constructor) | exact .own (by repeat constructor) (by decide) (fun _ => rfl) | exact SlIn.body (by repeat constructor) (by assumption)) rfl (by decide)).q ?_ | refine l_q (by decide) (p_indexo Try.underlying42 inf_4 rfl rfl rfl (by omega)).q ?_
    refine l_q (by decide) (r_loadq (q := TM n (s.length + 1) T M R d) Try.underlying4 rfl rfl (by repeat constructor) (fun w h => tm_row h hnx (show i < s.length + 1 by omega) (show m < s.length + 1 by omega))).q ?_
    refine l_q (by decide) (p_move rfl).q ?_
    first | refine l_splitd (t := 64) rfl (fun h64 => ?_) (fun h64 => ?_) | refine l_splitb (t := 64) rfl (fun h64 => ?_) (fun h64 => ?_)
    ·skip
     refine l_g (j := 13) rfl rfl (by decide) (p_move rfl).q ?_
     refine l_g (j := 13) rfl rfl (by decide) (p_move rfl).q ?_
     refine l_g (j := 13) rfl rfl (by decide) (p_move rfl).q ?_
     first | refine l_g (j := 13) rfl rfl (by decide) (((p_part_l (i := 1) Try.underlying26 inf_3 rfl rfl rfl (by omega))).to (u := .slice (subA A c 1 1) l2.length (c - 1)) (rfl)).q ?_ | refine l_g (j := 13) rfl rfl (by decide) (((p_slices_l (i := 1) Try.underlying26 inf_3 rfl rfl rfl (by omega))).to (u := .slice (subA A c 1 1) l2.length (c - 1)) (rfl)).q ?_
     refine l_g (j := 13) rfl rfl (by decide) (p_move rfl).q ?_
     refine l_g (j := 13) rfl rfl (by decide) (p_move rfl).q ?_
     refine l_g (j := 13) rfl rfl (by decide) (q_call call_40 rfl (fun w hs => ih (subA A c 1 1) (c - 1) l2 (m) w (by show l2.length < (x :: l2).length; simp) (by simp at hc; omega) (fun y hy => hr y (List.mem_cons_of_mem _ hy)) (by omega) (hs.facts _ (List.mem_cons_self ..)).1 (hs.facts (TM n (s.length + 1) T M R d) (by repeat constructor)).1 (hs.facts (Sl 1 intF As s) (by repeat constructor)).1)) ?_
     refine l_q (by decide) (p_pick rfl rfl).q ?_
     refine l_nil ?_
     first | refine c_dec rfl (fun h72 => ?_) (fun h72 => ?_) | refine c_cond rfl (fun h72 => ?_) (fun h72 => ?_)
     ·skip
      refine c_seq ?_
      refine c_reg ?_
      refine l_q (by decide) (p_assign rfl).q ?_
      refine l_nil ?_
      refine c_ret ?_
      refine c_ret1 rfl rfl (fun w hs => ?_)
      exact ⟨by rw [bdB_hit hx0 hm1 (by omega) h64 h72], hs.ext⟩
     ·skip
      refine c_skip ?_
      refine c_reg ?_
      refine l_q (by decide) (p_move rfl).q ?_
      first | refine l_q (by decide) (p_add (j := 1) rfl rfl rfl rfl (by show _ ≤ (9223372036854775807 : Nat); omega)).q ?_ | refine l_q (by decide) (p_addi rfl rfl (by show (-9223372036854775808 : Int) ≤ _; omega) (by show _ ≤ ((9223372036854775807 : Nat) : Int); omega)).q ?_
      refine l_q (by decide) (p_assign rfl).q ?_
      refine l_nil ?_
      refine c_join ((m + 1)) ?_ ?_ ?_ ?_
      ·show (i ≤ (m + 1) ∧ (m + 1) ≤ k + 1 ∧ ∀ q, i ≤ q → q < (m + 1) → ¬ (d (Ana.nt x) i q = true ∧ bdB d s l2 q k = true)) ∧ k + 1 - (m + 1) < k + 1 - m
       refine ⟨⟨by omega, by omega, fun q h1 h2 => ?_⟩, by omega⟩
       by_cases e : q = m
       · subst e; rintro ⟨h3, h4⟩; rw [h4] at h72; cases h72
       · exact hm3 q h1 (by omega)
      · exact ⟨rfl, rfl, rfl, rfl, rfl, rfl, trivial⟩
      ·show List.Perm _ ([])
       exact .refl _
      · exact fun _ h => h
    ·skip
     refine l_off (j := 13) rfl rfl (by first | (simp; done) | (simp [undef]; done)) (by decide) ?_
     refine l_off (j := 13) rfl rfl (by first | (simp; done) | (simp [undef]; done)) (by decide) ?_
     refine l_off (j := 13) rfl rfl (by first | (simp; done) | (simp [undef]; done)) (by decide) ?_
     refine l_off (j := 13) rfl rfl (by first | (simp; done) | (simp [undef]; done)) (by decide) ?_
     refine l_off (j := 13) rfl rfl (by first | (simp; done) | (simp [undef]; done)) (by decide) ?_
     refine l_off (j := 13) rfl rfl (by first | (simp; done) | (simp [undef]; done)) (by decide) ?_
     refine l_off (j := 13) rfl rfl (by first | (simp; done) | (simp [undef]; done)) (by decide) ?_
     refine l_q (by decide) (p_pick rfl rfl).q ?_
     refine l_nil ?_
     refine c_false rfl ?_
     refine c_skip ?_
     refine c_reg ?_
     refine l_q (by decide) (p_move rfl).q ?_
     first | refine l_q (by decide) (p_add (j := 1) rfl rfl rfl rfl (by show _ ≤ (9223372036854775807 : Nat); omega)).q ?_ | refine l_q (by decide) (p_addi rfl rfl (by show (-9223372036854775808 : Int) ≤ _; omega) (by show _ ≤ ((9223372036854775807 : Nat) : Int); omega)).q ?_
     refine l_q (by decide) (p_assign rfl).q ?_
     refine l_nil ?_
     refine c_join ((m + 1)) ?_ ?_ ?_ ?_
     ·show (i ≤ (m + 1) ∧ (m + 1) ≤ k + 1 ∧ ∀ q, i ≤ q → q < (m + 1) → ¬ (d (Ana.nt x) i q = true ∧ bdB d s l2 q k = true)) ∧ k + 1 - (m + 1) < k + 1 - m
      refine ⟨⟨by omega, by omega, fun q h1 h2 => ?_⟩, by omega⟩
      by_cases e : q = m
      · subst e; rintro ⟨h3, h4⟩; rw [h3] at h64; cases h64
      · exact hm3 q h1 (by omega)
     · exact ⟨rfl, rfl, rfl, rfl, rfl, rfl, trivial⟩
     ·show List.Perm _ ([])
      exact .refl _
     · exact fun _ h => h
   ·skip
    refine c_exit ?_
    refine c_here ?_
    refine c_seq ?_
    refine c_reg ?_
    refine l_q (by decide) (p_assign rfl).q ?_
    refine l_nil ?_
    refine c_ret ?_
    refine c_ret1 rfl rfl (fun w hs => ?_)
    exact ⟨by rw [bdB_miss hx0 (fun q h1 h2 => hm3 q h1 (by omega))], hs.ext⟩
end Go.Proofs.Ytncagpppmaehhaa
