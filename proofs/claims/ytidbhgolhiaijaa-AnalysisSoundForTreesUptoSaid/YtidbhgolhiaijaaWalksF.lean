/- The walks of analysis, sixth part (sets); conditions: lengths. -/
import Derived.Test.YtidbhgolhiaijaaWalksE
namespace Go.Proofs.Ytidbhgolhiaijaa
open Go Go.Fx Go.Proofs

abbrev SF := Nat → List Int
/-- the maps of a table of sets: the first k are there -/
def mps (n k : Nat) (B : NF) : List Value := Ana.mkl n fun i => if i < k then .map (some (B i)) else .map none
theorem mps_rep (n : Nat) (B : NF) : List.replicate n (Value.map none) = mps n 0 B := by
  unfold mps
  rw [show List.replicate n (Value.map none) = Ana.mkl n (fun _ => Value.map none) from Ana.mkl_rep ..]
  exact Ana.mkl_ext fun j _ => by rw [if_neg (by omega)]
theorem mps_len (n k : Nat) (B : NF) : (mps n k B).length = n := Ana.mkl_len _ _
theorem mps_at {n i : Nat} {B : NF} (h : i < n) : (mps n n B)[i * 1]? = some (.map (some (B i))) := by
  rw [Nat.mul_one, mps, Ana.mkl_at h, if_pos h]
theorem mps_set {n k b : Nat} {B : NF} : (mps n k B).set (k * 1) (.map (some b)) = mps n (k + 1) (Ana.upd B k b) := by
  rw [Nat.mul_one, mps, Ana.mkl_set]
  refine Ana.mkl_ext fun j _ => ?_
  unfold Ana.upd
  by_cases e : j = k
  · simp [e]
  · by_cases h : j < k
    · simp [e, h, show j < k + 1 by omega]
    · simp [e, h, show ¬ j < k + 1 by omega]
def mset (B : NF) (S : SF) (i : Nat) : Fx.Item := iMap intK (B i) (S i)
def MS (n : Nat) (B : NF) (S : SF) : World → Prop := fun w => ∀ i, i < n → MIs intK (B i) (S i) w
theorem dep_ms {n : Nat} {B : NF} {S : SF} {w : World} (h : MS n B S w) : Dep 0 w.heap.size (MS n B S) := fun w1 w2 hb hq i hi => by
  obtain ⟨es, c, h1, _⟩ := h i hi
  have hlt : B i < w.heap.size := (Array.getElem?_eq_some_iff.1 h1).1
  obtain ⟨es2, c2, h3, h4⟩ := hq i hi
  exact ⟨es2, c2, (hb _ (Nat.zero_le _) hlt).trans h3, h4⟩
theorem bg_app {nul : Nat → Bool} {F : Nat → Int → Prop} {l2 : List Int} {a : Int} : ∀ {l1 : List Int}, Ana.allG false nul l1 = true → (Ana.BG nul F (l1 ++ l2) a ↔ Ana.BG nul F l1 a ∨ Ana.BG nul F l2 a)
  | [], _ => ⟨.inr, fun h => h.elim (fun h => h.elim) id⟩
  | x :: l1, h => by
    have h1 : Ana.good false nul x = true ∧ Ana.allG false nul l1 = true := by
      unfold Ana.allG at h
      rw [List.all_cons, Bool.and_eq_true] at h
      exact h
    have hn : Ana.Nul nul x := by
      have h2 := h1.1
      unfold Ana.good at h2
      simp at h2
      exact h2
    have ih := bg_app (nul := nul) (F := F) (l2 := l2) (a := a) h1.2
    show ((0 ≤ x ∧ a = x) ∨ (x < 0 ∧ F (Ana.nt x) a) ∨ (Ana.Nul nul x ∧ Ana.BG nul F (l1 ++ l2) a)) ↔ ((0 ≤ x ∧ a = x) ∨ (x < 0 ∧ F (Ana.nt x) a) ∨ (Ana.Nul nul x ∧ Ana.BG nul F l1 a)) ∨ Ana.BG nul F l2 a
    rw [ih]
    constructor
    · rintro (h | h | ⟨_, h | h⟩)
      · exact .inl (.inl h)
      · exact .inl (.inr (.inl h))
      · exact .inl (.inr (.inr ⟨hn, h⟩))
      · exact .inr h
    · rintro ((h | h | ⟨_, h⟩) | h)
      · exact .inl h
      · exact .inr (.inl h)
      · exact .inr (.inr ⟨hn, .inl h⟩)
      · exact .inr (.inr ⟨hn, .inr h⟩)
theorem cut_at {α : Type} {l : List α} {k : Nat} {x : α} (h : l[k]? = some x) : l = l.take k ++ x :: l.drop (k + 1) := by
  obtain ⟨hk, hx⟩ := List.getElem?_eq_some_iff.1 h
  rw [← hx, ← List.drop_eq_getElem_cons hk, List.take_append_drop]
theorem bg_at {nul : Nat → Bool} {F : Nat → Int → Prop} {l : List Int} {k : Nat} {x a : Int} (hx : l[k]? = some x) (h : Ana.allG false nul (l.take k) = true) : Ana.BG nul F l a ↔ Ana.BG nul F (l.take k) a ∨ Ana.BG nul F (x :: l.drop (k + 1)) a := by
  conv => lhs; rw [cut_at hx]
  exact bg_app h
theorem allG_at {nul : Nat → Bool} {l : List Int} {k : Nat} {x : Int} (hx : l[k]? = some x) (h : Ana.good false nul x = false) : Ana.allG false nul l = false := by
  cases ha : Ana.allG false nul l with
  | false => rfl
  | true =>
    unfold Ana.allG at ha
    have := List.all_eq_true.1 ha x (List.mem_of_getElem? hx)
    rw [h] at this; cases this
/-- what add returns: whether it changed the set, and the set -/
abbrev AddR (T0 ks : List Int) := { z : Bool × List Int // (∀ a, a ∈ z.2 ↔ a ∈ T0 ∨ a ∈ ks) ∧ (z.1 = false → z.2 = T0) ∧ (z.1 = true → ∃ a, a ∈ z.2 ∧ a ∉ T0) }
def Grown (T0 ks T : List Int) : Prop := ∃ ext, T = T0 ++ ext ∧ ∀ a, a ∈ ext → a ∉ T0 ∧ a ∈ ks
theorem Grown.zero (T0 ks : List Int) : Grown T0 ks T0 := ⟨[], by simp, fun _ h => absurd h (by simp)⟩
theorem Grown.step {T0 ks T : List Int} (h : Grown T0 ks T) {k : Int} (hk : k ∈ ks) : Grown T0 ks (ins T k) := by
  obtain ⟨ext, rfl, h2⟩ := h
  by_cases hm : k ∈ T0 ++ ext
  · rw [ins, if_pos hm]; exact ⟨ext, rfl, h2⟩
  · rw [ins, if_neg hm]
    refine ⟨ext ++ [k], by simp, fun a ha => ?_⟩
    rcases List.mem_append.1 ha with h | h
    · exact h2 a h
    · rw [List.mem_singleton.1 h]; exact ⟨fun hn => hm (List.mem_append.2 (.inl hn)), hk⟩
theorem Grown.done {T0 ks T : List Int} (h : Grown T0 ks T) (hall : ∀ a, a ∈ ks → a ∈ T) {b : Bool} (hb : b = decide (T0.length < T.length)) : (∀ a, a ∈ T ↔ a ∈ T0 ∨ a ∈ ks) ∧ (b = false → T = T0) ∧ (b = true → ∃ a, a ∈ T ∧ a ∉ T0) := by
  obtain ⟨ext, rfl, h2⟩ := h
  subst hb
  refine ⟨fun a => ⟨fun ha => (List.mem_append.1 ha).imp id (fun h => (h2 a h).2), fun ha => ha.elim (fun h => List.mem_append.2 (.inl h)) (hall a)⟩, fun hb => ?_, fun hb => ?_⟩
  · rw [List.length_append] at hb
    have : ext = [] := by
      cases ext with
      | nil => rfl
      | cons y l => exact absurd (of_decide_eq_false hb) (by rw [List.length_cons]; omega)
    rw [this, List.append_nil]
  · rw [List.length_append] at hb
    cases ext with
    | nil => exact absurd (of_decide_eq_true hb) (by simp)
    | cons y l => exact ⟨y, by simp, (h2 y (by simp)).1⟩
theorem intK_inj (a b : Int) (h : intK a = intK b) : a = b := by injection h
theorem inf_61 : InfoIs Try.prog 61 1 8 (.map none) := by unfold InfoIs; kernel_rfl
theorem newsets_ok (n : Nat) (hn : n ≤ 1000) (w : World) :
   Calls Try.prog 45 #[.int .i64 (n : Int)] w (Ret fun v w' => ∃ (x : Nat × NF) (ρ' : Facts), v = .slice (some ⟨x.1, 0, none⟩) n n ∧ St w [] w' (iCells x.1 61 (mps n n x.2) :: fam n (mset x.2 (fun _ => []))) ρ') := by
 refine calls_fx (l := [.int .i64 (n : Int)]) Try.func45 rfl Try.ntmps45 (Nat.le_of_ble_eq_true rfl) (St.start w) ?_
 refine c_seq ?_
 refine c_reg ?_
 refine l_q (by decide) (p_assign rfl).q ?_
 refine l_nil ?_
 refine c_seq ?_
 refine c_reg ?_
 refine l_q (by decide) (p_move rfl).q ?_
 refine l_make (by decide) Try.underlying56 inf_61 rfl rfl rfl rfl rfl rfl (by omega) (by omega) (fun b6 => ?_)
 refine l_q (by decide) (p_assign rfl).q ?_
 refine l_nil ?_
 refine c_seq ?_
 refine c_seq ?_
 refine c_reg ?_
 refine l_q (by decide) (p_move rfl).q ?_
 refine l_q (by decide) (p_len_sl Try.underlying56 rfl).q ?_
 refine l_q (by decide) (p_move (v := .int .i64 ((0 : Nat) : Int)) rfl).q ?_
 refine l_nil ?_
 refine c_block ?_
 rw [mps_rep n (fun _ => 0)]
 refine c_loop (S := Nat × NF) (fun zs => zs.1 ≤ n) (fun zs => n - zs.1) (fun zs => [(3, .slice (some ⟨b6, 0, none⟩) n n), (8, .int .i64 (n : Int)), (9, .int .i64 (zs.1 : Int))]) (fun zs => (iCells b6 61 (mps n zs.1 zs.2) :: fam zs.1 (mset zs.2 (fun _ => [])))) (fun zs => []) (0, fun _ => 0) ?_ ?_ ?_ ?_ ?_
 · show (0) ≤ n
   exact Nat.zero_le _
 · exact ⟨rfl, rfl, rfl, trivial⟩
 · exact .refl _
 · exact fun _ h => absurd h List.not_mem_nil
 rintro ⟨k, B⟩ hinv
 have hinv : k ≤ n := hinv
 have hk := hinv
 show Cont _ _ _ _ [(3, .slice (some ⟨b6, 0, none⟩) n n), (8, .int .i64 (n : Int)), (9, .int .i64 (k : Int))] ((iCells b6 61 (mps n k B) :: fam k (mset B (fun _ => [])))) []
 refine c_seq ?_
 refine c_reg ?_
 first | refine l_q (by decide) (p_lss rfl rfl rfl rfl).q ?_ | refine l_q (by decide) (p_lssi rfl rfl).q ?_
 refine l_nil ?_
 refine c_seq ?_
 first | refine c_dec rfl (fun h10 => ?_) (fun h10 => ?_) | refine c_cond rfl (fun h10 => ?_) (fun h10 => ?_)
 ·skip
  refine c_skip ?_
  refine c_seq ?_
  refine c_block ?_
  refine c_seq ?_
  refine c_reg ?_
  refine l_q (by decide) (p_move rfl).q ?_
  refine l_q (by decide) (p_assign rfl).q ?_
  refine l_nil ?_
  have hkb : k * 1 < (mps n k B).length := by rw [mps_len]; omega
  refine c_reg ?_
  refine l_q (by decide) (p_move rfl).q ?_
  refine l_q (by decide) (p_move rfl).q ?_
  refine l_makeMap intK (by decide) (fun b14 => ?_)
  first | refine l_q (by decide) (r_index Try.underlying56 inf_61 rfl rfl rfl (by first | exact .fact (by repeat constructor) | exact .own (by repeat constructor) (by decide) (fun _ => rfl) | exact SlIn.body (by repeat constructor) (by assumption)) rfl (by omega)).q ?_ | refine l_q (by decide) (r_index Try.underlying56 inf_61 rfl rfl rfl (by first | exact .fact (by repeat constructor) | exact .own (by repeat constructor) (by decide) (fun _ => rfl) | exact SlIn.body (by repeat constructor) (by assumption)) rfl (by decide)).q ?_ | refine l_q (by decide) (p_indexo Try.underlying56 inf_61 rfl rfl rfl (by omega)).q ?_
  first | (refine l_store inf_61 rfl rfl rfl rfl (by first | decide | exact Nat.le_of_ble_eq_true rfl | (simp; done) | omega | (simp only [Nat.mul_one]; assumption)) ?_) | (refine l_perm (front1 _ _ _) ?_; refine l_store inf_61 rfl rfl rfl rfl (by first | decide | exact Nat.le_of_ble_eq_true rfl | (simp; done) | omega | (simp only [Nat.mul_one]; assumption)) ?_) | (refine l_perm (front2 _ _ _ _) ?_; refine l_store inf_61 rfl rfl rfl rfl (by first | decide | exact Nat.le_of_ble_eq_true rfl | (simp; done) | omega | (simp only [Nat.mul_one]; assumption)) ?_) | (refine l_perm (front3 _ _ _ _ _) ?_; refine l_store inf_61 rfl rfl rfl rfl (by first | decide | exact Nat.le_of_ble_eq_true rfl | (simp; done) | omega | (simp only [Nat.mul_one]; assumption)) ?_) | (refine l_perm (front4 _ _ _ _ _ _) ?_; refine l_store inf_61 rfl rfl rfl rfl (by first | decide | exact Nat.le_of_ble_eq_true rfl | (simp; done) | omega | (simp only [Nat.mul_one]; assumption)) ?_)
  refine l_nil ?_
  refine c_reg ?_
  first | refine l_q (by decide) (p_add (j := 1) rfl rfl rfl rfl (by show _ ≤ (9223372036854775807 : Nat); omega)).q ?_ | refine l_q (by decide) (p_addi rfl rfl (by show (-9223372036854775808 : Int) ≤ _; omega) (by show _ ≤ ((9223372036854775807 : Nat) : Int); omega)).q ?_
  refine l_q (by decide) (p_move rfl).q ?_
  refine l_nil ?_
  refine c_join ((k + 1), (Ana.upd B k b14)) ?_ ?_ ?_ ?_
  ·show ((k + 1) ≤ n) ∧ n - (k + 1) < n - k
   exact ⟨by omega, by omega⟩
  · exact ⟨rfl, rfl, rfl, trivial⟩
  ·show List.Perm _ ((iCells b6 61 (mps n (k + 1) (Ana.upd B k b14)) :: fam (k + 1) (mset (Ana.upd B k b14) (fun _ => []))))
   rw [mps_set]
   refine (List.Perm.swap _ _ _).trans (fam_push [_] ?_ ?_)
   · simp [mset, Ana.upd]
   · intro a ha; simp [mset, Ana.upd, show a ≠ k by omega]
  · exact fun _ h => absurd h List.not_mem_nil
 ·skip
  refine c_exit ?_
  refine c_here ?_
  refine c_seq ?_
  refine c_reg ?_
  refine l_q (by decide) (p_move rfl).q ?_
  refine l_q (by decide) (p_assign rfl).q ?_
  refine l_nil ?_
  refine c_ret ?_
  refine c_ret1 rfl rfl (fun w hs => ?_)
  obtain rfl : k = n := by omega
  exact ⟨(b6, B), _, rfl, hs⟩

theorem begin_ok (n s bo : Nat) (hn : n ≤ 1000) (B : NF) (S : SF) (nul : BF) (A : Option Addr) (c : Nat) (l : List Int) (hl : l.length ≤ 1000) (hr : ∀ x, x ∈ l → x < 0 → Ana.nt x < n) (w : World) (h1 : Sl 1 intF A l w) (h2 : (iCells s 61 (mps n n B)).holds w) (h3 : MS n B S w) (h4 : Sl 1 boolF (some ⟨bo, 0, none⟩) (Ana.mkl n nul) w) :
   Calls Try.prog 47 #[.slice A l.length c, .slice (some ⟨s, 0, none⟩) n n, .slice (some ⟨bo, 0, none⟩) n n] w (Ret fun v w' => ∃ (b : Nat) (ks : List Int), v = .tuple #[.map (some b), .bool (Ana.allG false nul l)] ∧ MIs intK b ks w' ∧ (w.heap.size ≤ b ∧ b < w'.heap.size) ∧ (∀ a, a ∈ ks ↔ Ana.BG nul (fun i a => a ∈ S i) l a) ∧ Ext [] w w') := by
 refine calls_fx (l := [.slice A l.length c, .slice (some ⟨s, 0, none⟩) n n, .slice (some ⟨bo, 0, none⟩) n n]) Try.func47 rfl Try.ntmps47 (Nat.le_of_ble_eq_true rfl) (((((St.start w).old h4 (dep_sl (by decide) h4)).old h3 (dep_ms h3)).old h2 (old_cells h2)).old h1 (dep_sl (by decide) h1)) ?_
 refine c_seq ?_
 refine c_reg ?_
 refine l_q (by decide) (p_assign rfl).q ?_
 refine l_q (by decide) (p_assign rfl).q ?_
 refine l_nil ?_
 refine c_seq ?_
 refine c_reg ?_
 refine l_makeMap intK (by decide) (fun b12 => ?_)
 refine l_q (by decide) (p_assign rfl).q ?_
 refine l_nil ?_
 refine c_seq ?_
 refine c_seq ?_
 refine c_reg ?_
 refine l_q (by decide) (p_move rfl).q ?_
 refine l_q (by decide) (p_len_sl Try.underlying39 rfl).q ?_
 refine l_q (by decide) (p_move (v := .int .i64 ((0 : Nat) : Int)) rfl).q ?_
 refine l_nil ?_
 refine c_block ?_
 refine c_loop (S := Nat × List Int) (fun zs => zs.1 ≤ l.length ∧ Ana.allG false nul (l.take zs.1) = true ∧ ∀ a, a ∈ zs.2 ↔ Ana.BG nul (fun i a => a ∈ S i) (l.take zs.1) a) (fun zs => l.length - zs.1) (fun zs => [(1, .slice (some ⟨s, 0, none⟩) n n), (2, .slice (some ⟨bo, 0, none⟩) n n), (8, .map (some b12)), (13, .slice A l.length c), (14, .int .i64 (l.length : Int)), (15, .int .i64 (zs.1 : Int))]) (fun zs => [iMap intK b12 zs.2]) (fun zs => [Sl 1 intF A l, (iCells s 61 (mps n n B)).holds, MS n B S, Sl 1 boolF (some ⟨bo, 0, none⟩) (Ana.mkl n nul)]) (0, []) ?_ ?_ ?_ ?_ ?_
 · show (0) ≤ l.length ∧ Ana.allG false nul (l.take (0)) = true ∧ ∀ a, a ∈ ([]) ↔ Ana.BG nul (fun i a => a ∈ S i) (l.take (0)) a
   exact ⟨Nat.zero_le _, rfl, fun a => by simp [Ana.BG]⟩
 · exact ⟨rfl, rfl, rfl, rfl, rfl, rfl, trivial⟩
 · exact .refl _
 · exact fun _ h => h
 rintro ⟨k, T⟩ hinv
 have hinv : k ≤ l.length ∧ Ana.allG false nul (l.take k) = true ∧ ∀ a, a ∈ T ↔ Ana.BG nul (fun i a => a ∈ S i) (l.take k) a := hinv
 obtain ⟨hJ1, hJ2, hJ3⟩ := hinv
 show Cont _ _ _ _ [(1, .slice (some ⟨s, 0, none⟩) n n), (2, .slice (some ⟨bo, 0, none⟩) n n), (8, .map (some b12)), (13, .slice A l.length c), (14, .int .i64 (l.length : Int)), (15, .int .i64 (k : Int))] ([iMap intK b12 T]) [Sl 1 intF A l, (iCells s 61 (mps n n B)).holds, MS n B S, Sl 1 boolF (some ⟨bo, 0, none⟩) (Ana.mkl n nul)]
 refine c_seq ?_
 refine c_reg ?_
 first | refine l_q (by decide) (p_lss rfl rfl rfl rfl).q ?_ | refine l_q (by decide) (p_lssi rfl rfl).q ?_
 refine l_nil ?_
 refine c_seq ?_
 first | refine c_dec rfl (fun h16 => ?_) (fun h16 => ?_) | refine c_cond rfl (fun h16 => ?_) (fun h16 => ?_)
 ·skip
  obtain ⟨x, hx⟩ := at_some (l := l) (n := k) (by omega)
  refine c_skip ?_
  refine c_seq ?_
  refine c_block ?_
  refine c_seq ?_
  refine c_reg ?_
  first | refine l_q (by decide) (r_index Try.underlying39 inf_3 rfl rfl rfl (by first | exact .fact (by repeat constructor) | exact .own (by repeat constructor) (by decide) (fun _ => rfl) | exact SlIn.body (by repeat constructor) (by assumption)) rfl (by omega)).q ?_ | refine l_q (by decide) (r_index Try.underlying39 inf_3 rfl rfl rfl (by first | exact .fact (by repeat constructor) | exact .own (by repeat constructor) (by decide) (fun _ => rfl) | exact SlIn.body (by repeat constructor) (by assumption)) rfl (by decide)).q ?_ | refine l_q (by decide) (p_indexo Try.underlying39 inf_3 rfl rfl rfl (by omega)).q ?_
  first | refine l_q (by decide) (r_loado Try.underlying3 rfl rfl (by repeat constructor) (by rfl)).q ?_ | refine l_q (by decide) (r_load1 Try.underlying3 rfl rfl (by first | exact .fact (by repeat constructor) | exact .own (by repeat constructor) (by decide) (fun _ => rfl) | exact SlIn.body (by repeat constructor) (by assumption)) (by first | assumption | rfl) (by rfl)).q ?_ | refine l_q (by decide) (r_loadf Try.underlying3 rfl rfl (by first | exact .fact (by repeat constructor) | exact .own (by repeat constructor) (by decide) (fun _ => rfl) | exact SlIn.body (by repeat constructor) (by assumption)) (by assumption) (by rfl)).q ?_
  refine l_q (by decide) (p_assign rfl).q ?_
  refine l_nil ?_
  refine c_seq ?_
  refine c_seq ?_
  refine c_reg ?_
  refine l_q (by decide) (p_move rfl).q ?_
  first | refine l_q (by decide) (p_geq (j := 0) rfl rfl rfl rfl).q ?_ | refine l_q (by decide) (p_geqi rfl rfl).q ?_
  refine l_nil ?_
  first | refine c_dec rfl (fun h20 => ?_) (fun h20 => ?_) | refine c_cond rfl (fun h20 => ?_) (fun h20 => ?_)
  ·skip
   refine c_seq ?_
   refine c_reg ?_
   refine l_q (by decide) (p_move rfl).q ?_
   refine l_q (by decide) (p_move rfl).q ?_
   first | (refine l_mapUpd (keyOk_int Try.underlying3) Try.underlying61 rfl rfl rfl rfl ?_) | (refine l_perm (front1 _ _ _) ?_; refine l_mapUpd (keyOk_int Try.underlying3) Try.underlying61 rfl rfl rfl rfl ?_) | (refine l_perm (front2 _ _ _ _) ?_; refine l_mapUpd (keyOk_int Try.underlying3) Try.underlying61 rfl rfl rfl rfl ?_) | (refine l_perm (front3 _ _ _ _ _) ?_; refine l_mapUpd (keyOk_int Try.underlying3) Try.underlying61 rfl rfl rfl rfl ?_) | (refine l_perm (front4 _ _ _ _ _ _) ?_; refine l_mapUpd (keyOk_int Try.underlying3) Try.underlying61 rfl rfl rfl rfl ?_) | (refine l_mapUpd0 (keyOk_int Try.underlying3) Try.underlying61 rfl rfl rfl rfl (by assumption) (by assumption) ?_) | (refine l_perm (front1 _ _ _) ?_; refine l_mapUpd0 (keyOk_int Try.underlying3) Try.underlying61 rfl rfl rfl rfl (by assumption) (by assumption) ?_) | (refine l_perm (front2 _ _ _ _) ?_; refine l_mapUpd0 (keyOk_int Try.underlying3) Try.underlying61 rfl rfl rfl rfl (by assumption) (by assumption) ?_) | (refine l_perm (front3 _ _ _ _ _) ?_; refine l_mapUpd0 (keyOk_int Try.underlying3) Try.underlying61 rfl rfl rfl rfl (by assumption) (by assumption) ?_) | (refine l_perm (front4 _ _ _ _ _ _) ?_; refine l_mapUpd0 (keyOk_int Try.underlying3) Try.underlying61 rfl rfl rfl rfl (by assumption) (by assumption) ?_)
   refine l_nil ?_
   refine c_seq ?_
   refine c_reg ?_
   refine l_q (by decide) (p_move rfl).q ?_
   refine l_q (by decide) (p_assign rfl).q ?_
   refine l_q (by decide) (p_assign rfl).q ?_
   refine l_nil ?_
   refine c_ret ?_
   refine c_ret2 rfl rfl rfl (fun w hs => ?_)
   have hx0 : 0 ≤ x := by omega
   have hgo := hs.own (iMap intK b12 (ins T x)) (by repeat constructor)
   have hgk := hgo.2.2 b12 (by simp [iMap])
   exact ⟨b12, _, by rw [allG_at hx (by simp [Ana.good, show ¬ x < 0 by omega])], hgo.1, ⟨by simpa using hgk.2, hgk.1⟩, fun a => by rw [mem_ins, hJ3 a, bg_at hx hJ2]; simp [Ana.BG, Ana.Nul, hx0, show ¬ x < 0 by omega], hs.ext⟩
  ·skip
   refine c_skip ?_
   refine c_seq ?_
   refine c_seq ?_
   have hx0 : x < 0 := by omega
   have hn2 := hr x (List.mem_of_getElem? hx) hx0
   have hnc : Ana.nt x = (-1 - x).toNat := rfl
   refine c_factex (q := MS n B S) (kf := intK) (b := B (Ana.nt x)) (ks := S (Ana.nt x)) (by repeat constructor) (fun w h => h _ hn2) (fun es clock hes => ?_)
   refine c_reg ?_
   refine l_q (by decide) (p_move rfl).q ?_
   refine l_q (by decide) (p_move rfl).q ?_
   first | refine l_q (by decide) (((p_sub rfl rfl rfl rfl (by omega) (by show _ ≤ (9223372036854775807 : Nat); omega))).to (u := .int .i64 ((Ana.nt x : Nat) : Int)) (by rw [Ana.nt_cast hx0])).q ?_ | refine l_q (by decide) (((p_subi rfl rfl (by show (-9223372036854775808 : Int) ≤ _; omega) (by show _ ≤ ((9223372036854775807 : Nat) : Int); omega))).to (u := .int .i64 ((Ana.nt x : Nat) : Int)) (by rw [Ana.nt_cast hx0])).q ?_
   first | refine l_q (by decide) (r_index Try.underlying56 inf_61 rfl rfl rfl (by first | exact .fact (by repeat constructor) | exact .own (by repeat constructor) (by decide) (fun _ => rfl) | exact SlIn.body (by repeat constructor) (by assumption)) rfl (by omega)).q ?_ | refine l_q (by decide) (r_index Try.underlying56 inf_61 rfl rfl rfl (by first | exact .fact (by repeat constructor) | exact .own (by repeat constructor) (by decide) (fun _ => rfl) | exact SlIn.body (by repeat constructor) (by assumption)) rfl (by decide)).q ?_ | refine l_q (by decide) (p_indexo Try.underlying56 inf_61 rfl rfl rfl (by omega)).q ?_
   refine l_q (by decide) (r_loadq (q := (iCells s 61 (mps n n B)).holds) Try.underlying61 rfl rfl (by repeat constructor) (fun w h => (cells_cell h _).trans (mps_at hn2))).q ?_
   refine l_range (by decide) Try.underlying61 rfl (by first | exact .fact (by repeat constructor) | exact .own (by repeat constructor)) (fun r29 => ?_)
   refine l_nil ?_
   refine c_block ?_
   refine c_loop (S := Array Nat × List Int) (fun zs => (∀ a, a ∈ zs.2 → a ∈ T ∨ a ∈ S (Ana.nt x)) ∧ (∀ a, a ∈ T → a ∈ zs.2) ∧ ∀ a, Seen intK es zs.1 a → a ∈ zs.2) (fun zs => (leftOf es zs.1).size) (fun zs => [(1, .slice (some ⟨s, 0, none⟩) n n), (2, .slice (some ⟨bo, 0, none⟩) n n), (8, .map (some b12)), (10, .int .i64 x), (13, .slice A l.length c), (14, .int .i64 (l.length : Int)), (15, .int .i64 (k : Int)), (29, .pointer (some ⟨r29, 0, none⟩))]) (fun zs => [iIter r29 (B (Ana.nt x)) clock zs.1 clock, iMap intK b12 zs.2]) (fun zs => (MEx (B (Ana.nt x)) es clock :: [Sl 1 intF A l, (iCells s 61 (mps n n B)).holds, MS n B S, Sl 1 boolF (some ⟨bo, 0, none⟩) (Ana.mkl n nul)])) (#[], T) ?_ ?_ ?_ ?_ ?_
   · show (∀ a, a ∈ (T) → a ∈ T ∨ a ∈ S (Ana.nt x)) ∧ (∀ a, a ∈ T → a ∈ (T)) ∧ ∀ a, Seen intK es (#[]) a → a ∈ (T)
     exact ⟨fun a h => .inl h, fun a h => h, fun a h => absurd h (seen_none es a)⟩
   · exact ⟨rfl, rfl, rfl, rfl, rfl, rfl, rfl, rfl, trivial⟩
   · exact .refl _
   · exact fun _ h => h
   rintro ⟨seen, T2⟩ hinv
   have hinv : (∀ a, a ∈ T2 → a ∈ T ∨ a ∈ S (Ana.nt x)) ∧ (∀ a, a ∈ T → a ∈ T2) ∧ ∀ a, Seen intK es seen a → a ∈ T2 := hinv
   obtain ⟨hL1, hL2, hL3⟩ := hinv
   show Cont _ _ _ _ [(1, .slice (some ⟨s, 0, none⟩) n n), (2, .slice (some ⟨bo, 0, none⟩) n n), (8, .map (some b12)), (10, .int .i64 x), (13, .slice A l.length c), (14, .int .i64 (l.length : Int)), (15, .int .i64 (k : Int)), (29, .pointer (some ⟨r29, 0, none⟩))] ([iIter r29 (B (Ana.nt x)) clock seen clock, iMap intK b12 T2]) (MEx (B (Ana.nt x)) es clock :: [Sl 1 intF A l, (iCells s 61 (mps n n B)).holds, MS n B S, Sl 1 boolF (some ⟨bo, 0, none⟩) (Ana.mkl n nul)])
   refine c_seq ?_
   refine c_reg ?_
   refine l_next (kf := intK) (by decide) rfl (by assumption) rfl (Nat.le_refl _) (by first | exact .fact (by repeat constructor) | exact .own (by repeat constructor)) ?_ ?_
   ·intro hleft30
    refine l_drop ?_
    have hT2 : ∀ a, a ∈ T2 ↔ a ∈ T ∨ a ∈ S (Ana.nt x) := fun a => ⟨hL1 a, fun h => h.elim (hL2 a) (fun h => hL3 a (seen_all hes hleft30 h))⟩
    have hfx := Ana.mkl_at (f := nul) hn2
    refine l_q (by decide) (p_extract rfl rfl).q ?_
    refine l_nil ?_
    refine c_seq ?_
    refine c_false rfl ?_
    refine c_exit ?_
    refine c_here ?_
    refine c_seq ?_
    refine c_reg ?_
    refine l_q (by decide) (p_move rfl).q ?_
    refine l_q (by decide) (p_move rfl).q ?_
    first | refine l_q (by decide) (((p_sub rfl rfl rfl rfl (by omega) (by show _ ≤ (9223372036854775807 : Nat); omega))).to (u := .int .i64 ((Ana.nt x : Nat) : Int)) (by rw [Ana.nt_cast hx0])).q ?_ | refine l_q (by decide) (((p_subi rfl rfl (by show (-9223372036854775808 : Int) ≤ _; omega) (by show _ ≤ ((9223372036854775807 : Nat) : Int); omega))).to (u := .int .i64 ((Ana.nt x : Nat) : Int)) (by rw [Ana.nt_cast hx0])).q ?_
    refine l_q (by decide) (r_index (A := some ⟨bo, 0, none⟩) (es := Ana.mkl n nul) (f := boolF) (j := Ana.nt x) Try.underlying29 inf_4 rfl rfl rfl (.fact (by repeat constructor)) (by rw [Ana.mkl_len]) (by rw [Ana.mkl_len]; exact hn2)).q ?_
    refine l_q (by decide) (r_load1 (f := boolF) (A := some ⟨bo, 0, none⟩) (es := Ana.mkl n nul) (j := Ana.nt x) Try.underlying4 rfl rfl (.fact (by repeat constructor)) hfx rfl).q ?_
    first | refine l_q (by decide) (p_notd rfl).q ?_ | refine l_q (by decide) (p_not rfl).q ?_
    refine l_nil ?_
    first | refine c_dec rfl (fun h41 => ?_) (fun h41 => ?_) | refine c_cond rfl (fun h41 => ?_) (fun h41 => ?_)
    ·skip
     refine c_seq ?_
     refine c_reg ?_
     refine l_q (by decide) (p_move rfl).q ?_
     refine l_q (by decide) (p_assign rfl).q ?_
     refine l_q (by decide) (p_assign rfl).q ?_
     refine l_nil ?_
     refine c_ret ?_
     refine c_ret2 rfl rfl rfl (fun w hs => ?_)
     have hnx : nul (Ana.nt x) = false := by simpa using h41
     have hgo := hs.own (iMap intK b12 (T2)) (by repeat constructor)
     have hgk := hgo.2.2 b12 (by simp [iMap])
     exact ⟨b12, _, by rw [allG_at hx (by simp [Ana.good, hnx])], hgo.1, ⟨by simpa using hgk.2, hgk.1⟩, fun a => by rw [hT2 a, hJ3 a, bg_at hx hJ2]; simp [Ana.BG, Ana.Nul, hx0, hnx, show ¬ 0 ≤ x by omega], hs.ext⟩
    ·skip
     refine c_skip ?_
     refine c_reg ?_
     first | refine l_q (by decide) (p_add (j := 1) rfl rfl rfl rfl (by show _ ≤ (9223372036854775807 : Nat); omega)).q ?_ | refine l_q (by decide) (p_addi rfl rfl (by show (-9223372036854775808 : Int) ≤ _; omega) (by show _ ≤ ((9223372036854775807 : Nat) : Int); omega)).q ?_
     refine l_q (by decide) (p_move rfl).q ?_
     refine l_nil ?_
     refine c_join ((k + 1), (T2)) ?_ ?_ ?_ ?_
     ·show ((k + 1) ≤ l.length ∧ Ana.allG false nul (l.take (k + 1)) = true ∧ ∀ a, a ∈ (T2) ↔ Ana.BG nul (fun i a => a ∈ S i) (l.take (k + 1)) a) ∧ l.length - (k + 1) < l.length - k
      have hnx : nul (Ana.nt x) = true := by simpa using h41
      refine ⟨⟨by omega, ?_, fun a => ?_⟩, by omega⟩
      · rw [take_at hx]; unfold Ana.allG at hJ2 ⊢; rw [List.all_append, hJ2]; simp [Ana.good, hx0, hnx]
      · rw [take_at hx, bg_app hJ2, hT2 a, hJ3 a]; simp [Ana.BG, hx0, show ¬ 0 ≤ x by omega]
     · exact ⟨rfl, rfl, rfl, rfl, rfl, rfl, trivial⟩
     ·show List.Perm _ ([iMap intK b12 (T2)])
      exact .refl _
     · exact fun _ h => List.mem_cons_of_mem _ h
   ·intro e30 k30 hl30 hm30 hk30 he30
    refine l_q (by decide) (p_extract rfl rfl).q ?_
    refine l_nil ?_
    refine c_seq ?_
    refine c_true rfl ?_
    refine c_skip ?_
    refine c_block ?_
    refine c_seq ?_
    refine c_reg ?_
    refine l_q (by decide) (r_entry rfl (by assumption) (by assumption) (by assumption) (by repeat constructor) (by first | exact .fact (by repeat constructor) | exact .own (by repeat constructor))).q ?_
    refine l_q (by decide) (p_extract rfl rfl).q ?_
    refine l_q (by decide) (p_assign rfl).q ?_
    refine l_nil ?_
    refine c_reg ?_
    refine l_q (by decide) (p_move rfl).q ?_
    refine l_q (by decide) (p_move rfl).q ?_
    first | (refine l_mapUpd (keyOk_int Try.underlying3) Try.underlying61 rfl rfl rfl rfl ?_) | (refine l_perm (front1 _ _ _) ?_; refine l_mapUpd (keyOk_int Try.underlying3) Try.underlying61 rfl rfl rfl rfl ?_) | (refine l_perm (front2 _ _ _ _) ?_; refine l_mapUpd (keyOk_int Try.underlying3) Try.underlying61 rfl rfl rfl rfl ?_) | (refine l_perm (front3 _ _ _ _ _) ?_; refine l_mapUpd (keyOk_int Try.underlying3) Try.underlying61 rfl rfl rfl rfl ?_) | (refine l_perm (front4 _ _ _ _ _ _) ?_; refine l_mapUpd (keyOk_int Try.underlying3) Try.underlying61 rfl rfl rfl rfl ?_) | (refine l_mapUpd0 (keyOk_int Try.underlying3) Try.underlying61 rfl rfl rfl rfl (by assumption) (by assumption) ?_) | (refine l_perm (front1 _ _ _) ?_; refine l_mapUpd0 (keyOk_int Try.underlying3) Try.underlying61 rfl rfl rfl rfl (by assumption) (by assumption) ?_) | (refine l_perm (front2 _ _ _ _) ?_; refine l_mapUpd0 (keyOk_int Try.underlying3) Try.underlying61 rfl rfl rfl rfl (by assumption) (by assumption) ?_) | (refine l_perm (front3 _ _ _ _ _) ?_; refine l_mapUpd0 (keyOk_int Try.underlying3) Try.underlying61 rfl rfl rfl rfl (by assumption) (by assumption) ?_) | (refine l_perm (front4 _ _ _ _ _ _) ?_; refine l_mapUpd0 (keyOk_int Try.underlying3) Try.underlying61 rfl rfl rfl rfl (by assumption) (by assumption) ?_)
    refine l_nil ?_
    refine c_join ((seen.push e30.born), (ins T2 k30)) ?_ ?_ ?_ ?_
    ·show ((∀ a, a ∈ (ins T2 k30) → a ∈ T ∨ a ∈ S (Ana.nt x)) ∧ (∀ a, a ∈ T → a ∈ (ins T2 k30)) ∧ ∀ a, Seen intK es (seen.push e30.born) a → a ∈ (ins T2 k30)) ∧ (leftOf es (seen.push e30.born)).size < (leftOf es seen).size
     refine ⟨⟨fun a ha => ?_, fun a ha => mem_ins.2 (.inl (hL2 a ha)), fun a ha => ?_⟩, left_push hl30⟩
     · rcases mem_ins.1 ha with h | rfl
       · exact hL1 a h
       · exact .inr hk30
     · rcases (seen_push hes intK_inj hm30 he30 a).1 ha with h | rfl
       · exact mem_ins.2 (.inl (hL3 a h))
       · exact mem_ins.2 (.inr rfl)
    · exact ⟨rfl, rfl, rfl, rfl, rfl, rfl, rfl, rfl, trivial⟩
    ·show List.Perm _ ([iIter r29 (B (Ana.nt x)) clock (seen.push e30.born) clock, iMap intK b12 (ins T2 k30)])
     repeat (first | exact List.Perm.refl _ | refine List.Perm.cons _ ?_ | refine (front1 _ _ _).trans (List.Perm.cons _ ?_) | refine (front2 _ _ _ _).trans (List.Perm.cons _ ?_) | refine (front3 _ _ _ _ _).trans (List.Perm.cons _ ?_) | refine (front4 _ _ _ _ _ _).trans (List.Perm.cons _ ?_))
    · exact fun _ h => h
 ·skip
  refine c_exit ?_
  refine c_here ?_
  refine c_seq ?_
  refine c_reg ?_
  refine l_q (by decide) (p_move rfl).q ?_
  refine l_q (by decide) (p_assign rfl).q ?_
  refine l_q (by decide) (p_assign rfl).q ?_
  refine l_nil ?_
  refine c_ret ?_
  refine c_ret2 rfl rfl rfl (fun w hs => ?_)
  rw [List.take_of_length_le (by omega)] at hJ2 hJ3
  have hgo := hs.own (iMap intK b12 (T)) (by repeat constructor)
  have hgk := hgo.2.2 b12 (by simp [iMap])
  exact ⟨b12, _, by rw [hJ2], hgo.1, ⟨by simpa using hgk.2, hgk.1⟩, hJ3, hs.ext⟩

theorem add_ok (n s bf i : Nat) (hn : n ≤ 1000) (B : NF) (hi : i < n) (T0 ks : List Int) (es : Array MapEntry) (clock : Nat) (hes : EntsOf intK es clock ks) (σ : Fx.Own) (ρ : Facts) (hσ : iCells s 61 (mps n n B) ∈ σ) (hx : iMEx bf es clock ∈ σ ∨ MEx bf es clock ∈ ρ) (w : World) (h : St w (keysOf (iMap intK (B i) T0 :: σ)) w (iMap intK (B i) T0 :: σ) ρ) :
   Calls Try.prog 48 #[.slice (some ⟨s, 0, none⟩) n n, .int .i64 (i : Int), .map (some bf)] w (Ret fun v w' => ∃ (z : AddR T0 ks) (ρ' : Facts), v = .bool z.1.1 ∧ St w (keysOf (iMap intK (B i) T0 :: σ)) w' (iMap intK (B i) z.1.2 :: σ) ρ') := by
 refine calls_fx (l := [.slice (some ⟨s, 0, none⟩) n n, .int .i64 (i : Int), .map (some bf)]) Try.func48 rfl Try.ntmps48 (Nat.le_of_ble_eq_true rfl) h ?_
 refine c_seq ?_
 refine c_reg ?_
 refine l_q (by decide) (p_assign rfl).q ?_
 refine l_nil ?_
 refine c_seq ?_
 refine c_reg ?_
 refine l_q (by decide) (p_move rfl).q ?_
 refine l_q (by decide) (p_move rfl).q ?_
 first | refine l_q (by decide) (r_index Try.underlying56 inf_61 rfl rfl rfl (by first | exact .fact (by repeat constructor) | exact .own (by repeat constructor) (by decide) (fun _ => rfl) | exact SlIn.body (by repeat constructor) (by assumption)) rfl (by omega)).q ?_ | refine l_q (by decide) (r_index Try.underlying56 inf_61 rfl rfl rfl (by first | exact .fact (by repeat constructor) | exact .own (by repeat constructor) (by decide) (fun _ => rfl) | exact SlIn.body (by repeat constructor) (by assumption)) rfl (by decide)).q ?_ | refine l_q (by decide) (p_indexo Try.underlying56 inf_61 rfl rfl rfl (by omega)).q ?_
 refine l_q (by decide) (r_loado Try.underlying61 rfl rfl (by first | exact List.mem_cons_of_mem _ hσ | exact List.mem_cons_of_mem _ (List.mem_cons_of_mem _ hσ)) (mps_at hi)).q ?_
 refine l_q (by decide) (r_maplen (kf := intK) Try.underlying61 rfl (by first | exact .fact (by repeat constructor) | exact .own (by repeat constructor) | exact .ex (.own (by repeat constructor)) (by assumption) | exact .ex (.fact (by repeat constructor)) (by assumption))).q ?_
 refine l_q (by decide) (p_assign rfl).q ?_
 refine l_nil ?_
 refine c_seq ?_
 refine c_seq ?_
 refine c_reg ?_
 refine l_q (by decide) (p_move rfl).q ?_
 refine l_range (by decide) Try.underlying61 rfl (by first | exact (hx.elim (fun h => ExIn.own (List.mem_cons_of_mem _ h)) ExIn.fact) | exact (hx.elim (fun h => ExIn.own (List.mem_cons_of_mem _ (List.mem_cons_of_mem _ h))) ExIn.fact)) (fun r15 => ?_)
 refine l_nil ?_
 refine c_block ?_
 refine c_loop (S := Array Nat × List Int) (fun zs => Grown T0 ks zs.2 ∧ ∀ a, Seen intK es zs.1 a → a ∈ zs.2) (fun zs => (leftOf es zs.1).size) (fun zs => [(0, .slice (some ⟨s, 0, none⟩) n n), (1, .int .i64 (i : Int)), (7, .int .i64 (T0.length : Int)), (15, .pointer (some ⟨r15, 0, none⟩))]) (fun zs => (iIter r15 bf clock zs.1 clock :: iMap intK (B i) zs.2 :: σ)) (fun zs => ρ) (#[], T0) ?_ ?_ ?_ ?_ ?_
 · show Grown T0 ks (T0) ∧ ∀ a, Seen intK es (#[]) a → a ∈ (T0)
   exact ⟨Grown.zero _ _, fun a h => absurd h (seen_none es a)⟩
 · exact ⟨rfl, rfl, rfl, rfl, trivial⟩
 · exact .refl _
 · exact fun _ h => h
 rintro ⟨seen, T⟩ hinv
 have hinv : Grown T0 ks T ∧ ∀ a, Seen intK es seen a → a ∈ T := hinv
 obtain ⟨hJ1, hJ2⟩ := hinv
 show Cont _ _ _ _ [(0, .slice (some ⟨s, 0, none⟩) n n), (1, .int .i64 (i : Int)), (7, .int .i64 (T0.length : Int)), (15, .pointer (some ⟨r15, 0, none⟩))] ((iIter r15 bf clock seen clock :: iMap intK (B i) T :: σ)) ρ
 refine c_seq ?_
 refine c_reg ?_
 refine l_next (kf := intK) (by decide) rfl (by assumption) rfl (Nat.le_refl _) (by first | exact (hx.elim (fun h => ExIn.own (List.mem_cons_of_mem _ h)) ExIn.fact) | exact (hx.elim (fun h => ExIn.own (List.mem_cons_of_mem _ (List.mem_cons_of_mem _ h))) ExIn.fact)) ?_ ?_
 ·intro hleft16
  refine l_drop ?_
  refine l_q (by decide) (p_extract rfl rfl).q ?_
  refine l_nil ?_
  refine c_seq ?_
  refine c_false rfl ?_
  refine c_exit ?_
  refine c_here ?_
  refine c_seq ?_
  refine c_reg ?_
  refine l_q (by decide) (p_move rfl).q ?_
  refine l_q (by decide) (p_move rfl).q ?_
  first | refine l_q (by decide) (r_index Try.underlying56 inf_61 rfl rfl rfl (by first | exact .fact (by repeat constructor) | exact .own (by repeat constructor) (by decide) (fun _ => rfl) | exact SlIn.body (by repeat constructor) (by assumption)) rfl (by omega)).q ?_ | refine l_q (by decide) (r_index Try.underlying56 inf_61 rfl rfl rfl (by first | exact .fact (by repeat constructor) | exact .own (by repeat constructor) (by decide) (fun _ => rfl) | exact SlIn.body (by repeat constructor) (by assumption)) rfl (by decide)).q ?_ | refine l_q (by decide) (p_indexo Try.underlying56 inf_61 rfl rfl rfl (by omega)).q ?_
  refine l_q (by decide) (r_loado Try.underlying61 rfl rfl (by first | exact List.mem_cons_of_mem _ hσ | exact List.mem_cons_of_mem _ (List.mem_cons_of_mem _ hσ)) (mps_at hi)).q ?_
  refine l_q (by decide) (r_maplen (kf := intK) Try.underlying61 rfl (by first | exact .fact (by repeat constructor) | exact .own (by repeat constructor) | exact .ex (.own (by repeat constructor)) (by assumption) | exact .ex (.fact (by repeat constructor)) (by assumption))).q ?_
  refine l_q (by decide) (p_move rfl).q ?_
  first | refine l_q (by decide) (p_gtr rfl rfl rfl rfl).q ?_ | refine l_q (by decide) (p_gtri rfl rfl).q ?_
  refine l_q (by decide) (p_assign rfl).q ?_
  refine l_nil ?_
  refine c_ret ?_
  refine c_ret1 rfl rfl (fun w hs => ?_)
  exact ⟨⟨(decide (T0.length < T.length), T), hJ1.done (fun a ha => hJ2 a (seen_all hes hleft16 ha)) rfl⟩, _, by congr 1, hs⟩
 ·intro e16 k16 hl16 hm16 hk16 he16
  refine l_q (by decide) (p_extract rfl rfl).q ?_
  refine l_nil ?_
  refine c_seq ?_
  refine c_true rfl ?_
  refine c_skip ?_
  refine c_block ?_
  refine c_seq ?_
  refine c_reg ?_
  refine l_q (by decide) (r_entry rfl (by assumption) (by assumption) (by assumption) (by repeat constructor) (by first | exact (hx.elim (fun h => ExIn.own (List.mem_cons_of_mem _ h)) ExIn.fact) | exact (hx.elim (fun h => ExIn.own (List.mem_cons_of_mem _ (List.mem_cons_of_mem _ h))) ExIn.fact))).q ?_
  refine l_q (by decide) (p_extract rfl rfl).q ?_
  refine l_q (by decide) (p_assign rfl).q ?_
  refine l_nil ?_
  refine c_reg ?_
  refine l_q (by decide) (p_move rfl).q ?_
  refine l_q (by decide) (p_move rfl).q ?_
  first | refine l_q (by decide) (r_index Try.underlying56 inf_61 rfl rfl rfl (by first | exact .fact (by repeat constructor) | exact .own (by repeat constructor) (by decide) (fun _ => rfl) | exact SlIn.body (by repeat constructor) (by assumption)) rfl (by omega)).q ?_ | refine l_q (by decide) (r_index Try.underlying56 inf_61 rfl rfl rfl (by first | exact .fact (by repeat constructor) | exact .own (by repeat constructor) (by decide) (fun _ => rfl) | exact SlIn.body (by repeat constructor) (by assumption)) rfl (by decide)).q ?_ | refine l_q (by decide) (p_indexo Try.underlying56 inf_61 rfl rfl rfl (by omega)).q ?_
  refine l_q (by decide) (r_loado Try.underlying61 rfl rfl (by first | exact List.mem_cons_of_mem _ hσ | exact List.mem_cons_of_mem _ (List.mem_cons_of_mem _ hσ)) (mps_at hi)).q ?_
  refine l_q (by decide) (p_move rfl).q ?_
  first | (refine l_mapUpd (keyOk_int Try.underlying3) Try.underlying61 rfl rfl rfl rfl ?_) | (refine l_perm (front1 _ _ _) ?_; refine l_mapUpd (keyOk_int Try.underlying3) Try.underlying61 rfl rfl rfl rfl ?_) | (refine l_perm (front2 _ _ _ _) ?_; refine l_mapUpd (keyOk_int Try.underlying3) Try.underlying61 rfl rfl rfl rfl ?_) | (refine l_perm (front3 _ _ _ _ _) ?_; refine l_mapUpd (keyOk_int Try.underlying3) Try.underlying61 rfl rfl rfl rfl ?_) | (refine l_perm (front4 _ _ _ _ _ _) ?_; refine l_mapUpd (keyOk_int Try.underlying3) Try.underlying61 rfl rfl rfl rfl ?_) | (refine l_mapUpd0 (keyOk_int Try.underlying3) Try.underlying61 rfl rfl rfl rfl (by assumption) (by assumption) ?_) | (refine l_perm (front1 _ _ _) ?_; refine l_mapUpd0 (keyOk_int Try.underlying3) Try.underlying61 rfl rfl rfl rfl (by assumption) (by assumption) ?_) | (refine l_perm (front2 _ _ _ _) ?_; refine l_mapUpd0 (keyOk_int Try.underlying3) Try.underlying61 rfl rfl rfl rfl (by assumption) (by assumption) ?_) | (refine l_perm (front3 _ _ _ _ _) ?_; refine l_mapUpd0 (keyOk_int Try.underlying3) Try.underlying61 rfl rfl rfl rfl (by assumption) (by assumption) ?_) | (refine l_perm (front4 _ _ _ _ _ _) ?_; refine l_mapUpd0 (keyOk_int Try.underlying3) Try.underlying61 rfl rfl rfl rfl (by assumption) (by assumption) ?_)
  refine l_nil ?_
  refine c_join ((seen.push e16.born), (ins T k16)) ?_ ?_ ?_ ?_
  ·show (Grown T0 ks (ins T k16) ∧ ∀ a, Seen intK es (seen.push e16.born) a → a ∈ (ins T k16)) ∧ (leftOf es (seen.push e16.born)).size < (leftOf es seen).size
   refine ⟨⟨hJ1.step hk16, fun a ha => ?_⟩, left_push hl16⟩
   rcases (seen_push hes intK_inj hm16 he16 a).1 ha with h | rfl
   · exact mem_ins.2 (.inl (hJ2 a h))
   · exact mem_ins.2 (.inr rfl)
  · exact ⟨rfl, rfl, rfl, rfl, trivial⟩
  ·show List.Perm _ ((iIter r15 bf clock (seen.push e16.born) clock :: iMap intK (B i) (ins T k16) :: σ))
   exact List.Perm.swap _ _ _
  · exact fun _ h => h

theorem add0_ok (n s i : Nat) (hn : n ≤ 1000) (B : NF) (hi : i < n) (ks : List Int) (es : Array MapEntry) (clock : Nat) (hes : EntsOf intK es clock ks) (σ : Fx.Own) (ρ : Facts) (hσ : iCells s 61 (mps n n B) ∈ σ) (w : World) (h : St w (keysOf (iMEx (B i) es clock :: σ)) w (iMEx (B i) es clock :: σ) ρ) :
   Calls Try.prog 48 #[.slice (some ⟨s, 0, none⟩) n n, .int .i64 (i : Int), .map (some (B i))] w (Ret fun v w' => ∃ (x : Unit) (ρ' : Facts), v = .bool false ∧ St w (keysOf (iMEx (B i) es clock :: σ)) w' (iMEx (B i) es clock :: σ) ρ') := by
 refine calls_fx (l := [.slice (some ⟨s, 0, none⟩) n n, .int .i64 (i : Int), .map (some (B i))]) Try.func48 rfl Try.ntmps48 (Nat.le_of_ble_eq_true rfl) h ?_
 refine c_seq ?_
 refine c_reg ?_
 refine l_q (by decide) (p_assign rfl).q ?_
 refine l_nil ?_
 refine c_seq ?_
 refine c_reg ?_
 refine l_q (by decide) (p_move rfl).q ?_
 refine l_q (by decide) (p_move rfl).q ?_
 first | refine l_q (by decide) (r_index Try.underlying56 inf_61 rfl rfl rfl (by first | exact .fact (by repeat constructor) | exact .own (by repeat constructor) (by decide) (fun _ => rfl) | exact SlIn.body (by repeat constructor) (by assumption)) rfl (by omega)).q ?_ | refine l_q (by decide) (r_index Try.underlying56 inf_61 rfl rfl rfl (by first | exact .fact (by repeat constructor) | exact .own (by repeat constructor) (by decide) (fun _ => rfl) | exact SlIn.body (by repeat constructor) (by assumption)) rfl (by decide)).q ?_ | refine l_q (by decide) (p_indexo Try.underlying56 inf_61 rfl rfl rfl (by omega)).q ?_
 refine l_q (by decide) (r_loado Try.underlying61 rfl rfl (by first | exact List.mem_cons_of_mem _ hσ | exact List.mem_cons_of_mem _ (List.mem_cons_of_mem _ hσ)) (mps_at hi)).q ?_
 refine l_q (by decide) (r_maplen (kf := intK) Try.underlying61 rfl (by first | exact .fact (by repeat constructor) | exact .own (by repeat constructor) | exact .ex (.own (by repeat constructor)) (by assumption) | exact .ex (.fact (by repeat constructor)) (by assumption))).q ?_
 refine l_q (by decide) (p_assign rfl).q ?_
 refine l_nil ?_
 refine c_seq ?_
 refine c_seq ?_
 refine c_reg ?_
 refine l_q (by decide) (p_move rfl).q ?_
 refine l_range (by decide) Try.underlying61 rfl (by first | exact ExIn.own (List.mem_cons_self ..) | exact ExIn.own (List.mem_cons_of_mem _ (List.mem_cons_self ..))) (fun r15 => ?_)
 refine l_nil ?_
 refine c_block ?_
 refine c_loop (S := Array Nat) (fun zs => True) (fun zs => (leftOf es zs).size) (fun zs => [(0, .slice (some ⟨s, 0, none⟩) n n), (1, .int .i64 (i : Int)), (7, .int .i64 (ks.length : Int)), (15, .pointer (some ⟨r15, 0, none⟩))]) (fun zs => (iIter r15 (B i) clock zs clock :: iMEx (B i) es clock :: σ)) (fun zs => ρ) (#[]) ?_ ?_ ?_ ?_ ?_
 · show True
   exact trivial
 · exact ⟨rfl, rfl, rfl, rfl, trivial⟩
 · exact .refl _
 · exact fun _ h => h
 rintro seen hinv
 have hinv : True := hinv
 have _ := hinv
 show Cont _ _ _ _ [(0, .slice (some ⟨s, 0, none⟩) n n), (1, .int .i64 (i : Int)), (7, .int .i64 (ks.length : Int)), (15, .pointer (some ⟨r15, 0, none⟩))] ((iIter r15 (B i) clock seen clock :: iMEx (B i) es clock :: σ)) ρ
 refine c_seq ?_
 refine c_reg ?_
 refine l_next (kf := intK) (by decide) rfl (by assumption) rfl (Nat.le_refl _) (by first | exact ExIn.own (List.mem_cons_self ..) | exact ExIn.own (List.mem_cons_of_mem _ (List.mem_cons_self ..))) ?_ ?_
 ·intro hleft16
  refine l_drop ?_
  refine l_q (by decide) (p_extract rfl rfl).q ?_
  refine l_nil ?_
  refine c_seq ?_
  refine c_false rfl ?_
  refine c_exit ?_
  refine c_here ?_
  refine c_seq ?_
  refine c_reg ?_
  refine l_q (by decide) (p_move rfl).q ?_
  refine l_q (by decide) (p_move rfl).q ?_
  first | refine l_q (by decide) (r_index Try.underlying56 inf_61 rfl rfl rfl (by first | exact .fact (by repeat constructor) | exact .own (by repeat constructor) (by decide) (fun _ => rfl) | exact SlIn.body (by repeat constructor) (by assumption)) rfl (by omega)).q ?_ | refine l_q (by decide) (r_index Try.underlying56 inf_61 rfl rfl rfl (by first | exact .fact (by repeat constructor) | exact .own (by repeat constructor) (by decide) (fun _ => rfl) | exact SlIn.body (by repeat constructor) (by assumption)) rfl (by decide)).q ?_ | refine l_q (by decide) (p_indexo Try.underlying56 inf_61 rfl rfl rfl (by omega)).q ?_
  refine l_q (by decide) (r_loado Try.underlying61 rfl rfl (by first | exact List.mem_cons_of_mem _ hσ | exact List.mem_cons_of_mem _ (List.mem_cons_of_mem _ hσ)) (mps_at hi)).q ?_
  refine l_q (by decide) (r_maplen (kf := intK) Try.underlying61 rfl (by first | exact .fact (by repeat constructor) | exact .own (by repeat constructor) | exact .ex (.own (by repeat constructor)) (by assumption) | exact .ex (.fact (by repeat constructor)) (by assumption))).q ?_
  refine l_q (by decide) (p_move rfl).q ?_
  first | refine l_q (by decide) (p_gtr rfl rfl rfl rfl).q ?_ | refine l_q (by decide) (p_gtri rfl rfl).q ?_
  refine l_q (by decide) (p_assign rfl).q ?_
  refine l_nil ?_
  refine c_ret ?_
  refine c_ret1 rfl rfl (fun w hs => ?_)
  exact ⟨(), _, by simp, hs⟩
 ·intro e16 k16 hl16 hm16 hk16 he16
  refine l_q (by decide) (p_extract rfl rfl).q ?_
  refine l_nil ?_
  refine c_seq ?_
  refine c_true rfl ?_
  refine c_skip ?_
  refine c_block ?_
  refine c_seq ?_
  refine c_reg ?_
  refine l_q (by decide) (r_entry rfl (by assumption) (by assumption) (by assumption) (by repeat constructor) (by first | exact ExIn.own (List.mem_cons_self ..) | exact ExIn.own (List.mem_cons_of_mem _ (List.mem_cons_self ..)))).q ?_
  refine l_q (by decide) (p_extract rfl rfl).q ?_
  refine l_q (by decide) (p_assign rfl).q ?_
  refine l_nil ?_
  refine c_reg ?_
  refine l_q (by decide) (p_move rfl).q ?_
  refine l_q (by decide) (p_move rfl).q ?_
  first | refine l_q (by decide) (r_index Try.underlying56 inf_61 rfl rfl rfl (by first | exact .fact (by repeat constructor) | exact .own (by repeat constructor) (by decide) (fun _ => rfl) | exact SlIn.body (by repeat constructor) (by assumption)) rfl (by omega)).q ?_ | refine l_q (by decide) (r_index Try.underlying56 inf_61 rfl rfl rfl (by first | exact .fact (by repeat constructor) | exact .own (by repeat constructor) (by decide) (fun _ => rfl) | exact SlIn.body (by repeat constructor) (by assumption)) rfl (by decide)).q ?_ | refine l_q (by decide) (p_indexo Try.underlying56 inf_61 rfl rfl rfl (by omega)).q ?_
  refine l_q (by decide) (r_loado Try.underlying61 rfl rfl (by first | exact List.mem_cons_of_mem _ hσ | exact List.mem_cons_of_mem _ (List.mem_cons_of_mem _ hσ)) (mps_at hi)).q ?_
  refine l_q (by decide) (p_move rfl).q ?_
  first | (refine l_mapUpd (keyOk_int Try.underlying3) Try.underlying61 rfl rfl rfl rfl ?_) | (refine l_perm (front1 _ _ _) ?_; refine l_mapUpd (keyOk_int Try.underlying3) Try.underlying61 rfl rfl rfl rfl ?_) | (refine l_perm (front2 _ _ _ _) ?_; refine l_mapUpd (keyOk_int Try.underlying3) Try.underlying61 rfl rfl rfl rfl ?_) | (refine l_perm (front3 _ _ _ _ _) ?_; refine l_mapUpd (keyOk_int Try.underlying3) Try.underlying61 rfl rfl rfl rfl ?_) | (refine l_perm (front4 _ _ _ _ _ _) ?_; refine l_mapUpd (keyOk_int Try.underlying3) Try.underlying61 rfl rfl rfl rfl ?_) | (refine l_mapUpd0 (keyOk_int Try.underlying3) Try.underlying61 rfl rfl rfl rfl (by assumption) (by assumption) ?_) | (refine l_perm (front1 _ _ _) ?_; refine l_mapUpd0 (keyOk_int Try.underlying3) Try.underlying61 rfl rfl rfl rfl (by assumption) (by assumption) ?_) | (refine l_perm (front2 _ _ _ _) ?_; refine l_mapUpd0 (keyOk_int Try.underlying3) Try.underlying61 rfl rfl rfl rfl (by assumption) (by assumption) ?_) | (refine l_perm (front3 _ _ _ _ _) ?_; refine l_mapUpd0 (keyOk_int Try.underlying3) Try.underlying61 rfl rfl rfl rfl (by assumption) (by assumption) ?_) | (refine l_perm (front4 _ _ _ _ _ _) ?_; refine l_mapUpd0 (keyOk_int Try.underlying3) Try.underlying61 rfl rfl rfl rfl (by assumption) (by assumption) ?_)
  refine l_nil ?_
  refine c_join ((seen.push e16.born)) ?_ ?_ ?_ ?_
  ·show (True) ∧ (leftOf es (seen.push e16.born)).size < (leftOf es seen).size
   exact ⟨trivial, left_push hl16⟩
  · exact ⟨rfl, rfl, rfl, rfl, trivial⟩
  ·show List.Perm _ ((iIter r15 (B i) clock (seen.push e16.born) clock :: iMEx (B i) es clock :: σ))
   exact List.Perm.swap _ _ _
  · exact fun _ h => h
end Go.Proofs.Ytidbhgolhiaijaa
