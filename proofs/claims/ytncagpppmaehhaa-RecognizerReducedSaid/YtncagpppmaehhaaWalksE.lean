/- The walks of the recognizer, fifth part; conditions: lengths. -/
import Derived.Test.YtncagpppmaehhaaWalksD
namespace Go.Proofs.Ytncagpppmaehhaa
open Go Go.Fx Go.Proofs

def knownB (X : GI) (s : List Int) : Bool := s.all fun t => decide (0 ≤ t) && decide (t < (X.terms.length : Int))
theorem all_take {p : Int → Bool} {l : List Int} {k : Nat} {x : Int} (hx : l[k]? = some x) (h : (l.take k).all p = true) (hp : p x = true) : (l.take (k + 1)).all p = true := by
  rw [Go.Proofs.Rec.take_at hx, List.all_append, h, Bool.true_and]
  simp [hp]
theorem all_no {p : Int → Bool} {l : List Int} {k : Nat} {x : Int} (hx : l[k]? = some x) (hp : p x = false) : l.all p = false := by
  cases h : l.all p with
  | false => rfl
  | true => have := List.all_eq_true.1 h x (List.mem_of_getElem? hx); rw [hp] at this; cases this
theorem call_31 : Callable Try.prog 31 := ⟨_, Try.func31, by kernel_rfl, rfl⟩
theorem prodl_ok (A B : Option Addr) (c d : Nat) (l : List Int) (n : Nat) (f : Nat → Bool) (hl : l.length ≤ 1000) (hn : n ≤ 1000) (hr : ∀ x, x ∈ l → x < 0 → Ana.nt x < n) (w : World) (hq : Sl 1 intF A l w) (hp : Sl 1 boolF B (Ana.mkl n f) w) :
   Calls Try.prog 31 #[.slice B n d, .slice A l.length c] w (Ret fun v w' => v = .bool (Ana.allG true f l) ∧ Ext [] w w') := by
 refine calls_fx (l := [.slice B n d, .slice A l.length c]) Try.func31 rfl Try.ntmps31 (Nat.le_of_ble_eq_true rfl) (Holds.two hp (dep_sl (by decide) hp) hq (dep_sl (by decide) hq)) ?_
 refine c_seq ?_
 refine c_reg ?_
 refine l_q (by decide) (p_assign rfl).q ?_
 refine l_nil ?_
 refine c_seq ?_
 refine c_seq ?_
 refine c_reg ?_
 refine l_q (by decide) (p_assign (v := .int .i64 ((0 : Nat) : Int)) rfl).q ?_
 refine l_nil ?_
 refine c_block ?_
 refine c_loop (S := Nat) (fun zs => zs ≤ l.length ∧ (l.take zs).all (Ana.good true f) = true) (fun zs => l.length - zs) (fun zs => [(0, .slice B n d), (1, .slice A l.length c), (5, .int .i64 (zs : Int))]) (fun zs => []) (fun zs => [Sl 1 boolF B (Ana.mkl n f), Sl 1 intF A l]) (0) ?_ ?_ ?_ ?_ ?_
 · show (0) ≤ l.length ∧ (l.take (0)).all (Ana.good true f) = true
   exact ⟨Nat.zero_le _, rfl⟩
 · exact ⟨rfl, rfl, rfl, trivial⟩
 · exact .refl _
 · exact fun _ h => h
 rintro k hinv
 have hinv : k ≤ l.length ∧ (l.take k).all (Ana.good true f) = true := hinv
 obtain ⟨hk, he⟩ := hinv
 show Cont _ _ _ _ [(0, .slice B n d), (1, .slice A l.length c), (5, .int .i64 (k : Int))] ([]) [Sl 1 boolF B (Ana.mkl n f), Sl 1 intF A l]
 refine c_seq ?_
 refine c_seq ?_
 refine c_reg ?_
 refine l_q (by decide) (p_move rfl).q ?_
 refine l_q (by decide) (p_move rfl).q ?_
 refine l_q (by decide) (p_len_sl Try.underlying26 rfl).q ?_
 refine l_q (by decide) (p_lss rfl rfl rfl rfl).q ?_
 refine l_nil ?_
 refine c_dec rfl (fun h9 => ?_) (fun h9 => ?_)
 ·skip
  obtain ⟨x, hx⟩ := at_some (l := l) (n := k) (by omega)
  refine c_skip ?_
  refine c_seq ?_
  refine c_block ?_
  refine c_seq ?_
  refine c_reg ?_
  refine l_q (by decide) (p_move rfl).q ?_
  refine l_q (by decide) (p_move rfl).q ?_
  refine l_q (by decide) (r_index Try.underlying26 inf_3 rfl rfl rfl (by exact .fact (by repeat constructor)) rfl (by omega)).q ?_
  refine l_q (by decide) (r_load1 Try.underlying3 rfl rfl (by exact .fact (by repeat constructor)) (by assumption) (by rfl)).q ?_
  refine l_q (by decide) (p_lssi rfl rfl).q ?_
  refine l_q (by decide) (p_move rfl).q ?_
  refine l_splitd (t := 17) rfl (fun h17 => ?_) (fun h17 => ?_)
  ·skip
   have hn2 := hr x (List.mem_of_getElem? hx) h17
   have hnc : Ana.nt x = (-1 - x).toNat := rfl
   have hfx := Ana.mkl_at (f := f) hn2
   refine l_g (j := 5) rfl rfl (by decide) (p_move rfl).q ?_
   refine l_g (j := 5) rfl rfl (by decide) (p_move rfl).q ?_
   refine l_g (j := 5) rfl rfl (by decide) (p_move rfl).q ?_
   refine l_g (j := 5) rfl rfl (by decide) (r_index Try.underlying26 inf_3 rfl rfl rfl (by exact .fact (by repeat constructor)) rfl (by omega)).q ?_
   refine l_g (j := 5) rfl rfl (by decide) (r_load1 Try.underlying3 rfl rfl (by exact .fact (by repeat constructor)) (by assumption) (by rfl)).q ?_
   refine l_g (j := 5) rfl rfl (by decide) (((p_subi rfl rfl (by show (-9223372036854775808 : Int) ≤ _; omega) (by show _ ≤ ((9223372036854775807 : Nat) : Int); omega))).to (u := .int .i64 ((Ana.nt x : Nat) : Int)) (by rw [Ana.nt_cast h17])).q ?_
   refine l_g (j := 5) rfl rfl (by decide) (r_index (A := B) (f := boolF) (es := Ana.mkl n f) (j := Ana.nt x) Try.underlying42 inf_4 rfl rfl rfl (.fact (by repeat constructor)) (by rw [Ana.mkl_len]) (by rw [Ana.mkl_len]; exact hn2)).q ?_
   refine l_g (j := 5) rfl rfl (by decide) (r_load1 (f := boolF) (A := B) (es := Ana.mkl n f) (j := Ana.nt x) Try.underlying4 rfl rfl (.fact (by repeat constructor)) hfx rfl).q ?_
   refine l_g (j := 5) rfl rfl (by decide) (p_not rfl).q ?_
   refine l_q (by decide) (p_pick rfl rfl).q ?_
   refine l_nil ?_
   refine c_cond rfl (fun h27 => ?_) (fun h27 => ?_)
   ·skip
    refine c_seq ?_
    refine c_reg ?_
    refine l_q (by decide) (p_assign rfl).q ?_
    refine l_nil ?_
    refine c_ret ?_
    refine c_ret1 rfl rfl (fun w hs => ?_)
    exact ⟨by rw [show Ana.allG true f l = false from all_no hx (by rw [good_non h17]; simpa using h27)], hs.ext⟩
   ·skip
    refine c_skip ?_
    refine c_reg ?_
    refine l_q (by decide) (p_move rfl).q ?_
    refine l_q (by decide) (p_add (j := 1) rfl rfl rfl rfl (by show _ ≤ (9223372036854775807 : Nat); omega)).q ?_
    refine l_q (by decide) (p_assign rfl).q ?_
    refine l_nil ?_
    refine c_join ((k + 1)) ?_ ?_ ?_ ?_
    ·show ((k + 1) ≤ l.length ∧ (l.take (k + 1)).all (Ana.good true f) = true) ∧ l.length - (k + 1) < l.length - k
     exact ⟨⟨by omega, all_take hx he (by rw [good_non h17]; simpa using h27)⟩, by omega⟩
    · exact ⟨rfl, rfl, rfl, trivial⟩
    ·show List.Perm _ ([])
     exact .refl _
    · exact fun _ h => h
  ·skip
   refine l_off (j := 5) rfl rfl (by (simp; done)) (by decide) ?_
   refine l_off (j := 5) rfl rfl (by (simp; done)) (by decide) ?_
   refine l_off (j := 5) rfl rfl (by (simp; done)) (by decide) ?_
   refine l_off (j := 5) rfl rfl (by (simp; done)) (by decide) ?_
   refine l_off (j := 5) rfl rfl (by (simp; done)) (by decide) ?_
   refine l_off (j := 5) rfl rfl (by (simp; done)) (by decide) ?_
   refine l_off (j := 5) rfl rfl (by (simp; done)) (by decide) ?_
   refine l_off (j := 5) rfl rfl (by (simp; done)) (by decide) ?_
   refine l_off (j := 5) rfl rfl (by (simp; done)) (by decide) ?_
   refine l_q (by decide) (p_pick rfl rfl).q ?_
   refine l_nil ?_
   refine c_false rfl ?_
   refine c_skip ?_
   refine c_reg ?_
   refine l_q (by decide) (p_move rfl).q ?_
   refine l_q (by decide) (p_add (j := 1) rfl rfl rfl rfl (by show _ ≤ (9223372036854775807 : Nat); omega)).q ?_
   refine l_q (by decide) (p_assign rfl).q ?_
   refine l_nil ?_
   refine c_join ((k + 1)) ?_ ?_ ?_ ?_
   ·show ((k + 1) ≤ l.length ∧ (l.take (k + 1)).all (Ana.good true f) = true) ∧ l.length - (k + 1) < l.length - k
    exact ⟨⟨by omega, all_take hx he (by rw [good_term (by omega)])⟩, by omega⟩
   · exact ⟨rfl, rfl, rfl, trivial⟩
   ·show List.Perm _ ([])
    exact .refl _
   · exact fun _ h => h
 ·skip
  refine c_exit ?_
  refine c_here ?_
  refine c_seq ?_
  refine c_reg ?_
  refine l_q (by decide) (p_assign rfl).q ?_
  refine l_nil ?_
  refine c_ret ?_
  refine c_ret1 rfl rfl (fun w hs => ?_)
  rw [List.take_of_length_le (by omega)] at he
  exact ⟨by rw [show Ana.allG true f l = true from he], hs.ext⟩

theorem known_ok (X : GI) (A : Option Addr) (c : Nat) (s : List Int) (hl : s.length ≤ 140737488355328) (w : World) (hM : X.mem w) (hq : Sl 1 intF A s w) :
   Calls Try.prog 25 #[.agg #[.slice X.At X.terms.length X.ct, .slice X.An X.nts.length X.cn, .int .i64 X.start, .slice X.Ar X.xs.length X.cr], .slice A s.length c] w (Ret fun v w' => v = .bool (knownB X s) ∧ Ext [] w w') := by
 refine calls_fx (l := [.agg #[.slice X.At X.terms.length X.ct, .slice X.An X.nts.length X.cn, .int .i64 X.start, .slice X.Ar X.xs.length X.cr], .slice A s.length c]) Try.func25 rfl Try.ntmps25 (Nat.le_of_ble_eq_true rfl) ((X.begin hM).old hq (dep_sl (by decide) hq)) ?_
 refine c_seq ?_
 refine c_reg ?_
 refine l_box (by decide) rfl _ rfl (fun b2 => ?_)
 refine l_q (by decide) (p_assign rfl).q ?_
 refine l_nil ?_
 refine c_seq ?_
 refine c_seq ?_
 refine c_reg ?_
 refine l_q (by decide) (p_assign (v := .int .i64 ((0 : Nat) : Int)) rfl).q ?_
 refine l_nil ?_
 refine c_block ?_
 refine c_loop (S := Nat) (fun zs => zs ≤ s.length ∧ knownB X (s.take zs) = true) (fun zs => s.length - zs) (fun zs => [(1, .slice A s.length c), (2, .pointer (some ⟨b2, 0, none⟩)), (5, .int .i64 (zs : Int))]) (fun zs => [iCells b2 25 [.slice X.At X.terms.length X.ct, .slice X.An X.nts.length X.cn, .int .i64 X.start, .slice X.Ar X.xs.length X.cr]]) (fun zs => (Sl 1 intF A s :: [Bd X.xs, Sl 3 ruF X.Ar X.xs, Sl 1 strF X.An X.nts, Sl 1 strF X.At X.terms])) (0) ?_ ?_ ?_ ?_ ?_
 · show (0) ≤ s.length ∧ knownB X (s.take (0)) = true
   exact ⟨Nat.zero_le _, rfl⟩
 · exact ⟨rfl, rfl, rfl, trivial⟩
 · exact .refl _
 · exact fun _ h => h
 rintro k hinv
 have hinv : k ≤ s.length ∧ knownB X (s.take k) = true := hinv
 obtain ⟨hk, he⟩ := hinv
 show Cont _ _ _ _ [(1, .slice A s.length c), (2, .pointer (some ⟨b2, 0, none⟩)), (5, .int .i64 (k : Int))] ([iCells b2 25 [.slice X.At X.terms.length X.ct, .slice X.An X.nts.length X.cn, .int .i64 X.start, .slice X.Ar X.xs.length X.cr]]) (Sl 1 intF A s :: [Bd X.xs, Sl 3 ruF X.Ar X.xs, Sl 1 strF X.An X.nts, Sl 1 strF X.At X.terms])
 refine c_seq ?_
 refine c_seq ?_
 refine c_reg ?_
 refine l_q (by decide) (p_move rfl).q ?_
 refine l_q (by decide) (p_move rfl).q ?_
 refine l_q (by decide) (p_len_sl Try.underlying26 rfl).q ?_
 refine l_q (by decide) (p_lss rfl rfl rfl rfl).q ?_
 refine l_nil ?_
 refine c_dec rfl (fun h9 => ?_) (fun h9 => ?_)
 ·skip
  obtain ⟨x, hx⟩ := at_some (l := s) (n := k) (by omega)
  refine c_skip ?_
  refine c_seq ?_
  refine c_block ?_
  refine c_seq ?_
  refine c_draw mixed (by decide +kernel) ?_
  refine q_q (by decide) (p_move rfl).q ?_
  refine q_q (by decide) (p_move rfl).q ?_
  refine q_q (by decide) (r_index Try.underlying26 inf_3 rfl rfl rfl (by exact .fact (by repeat constructor)) rfl (by omega)).q ?_
  refine q_q (by decide) (r_load1 Try.underlying3 rfl rfl (by exact .fact (by repeat constructor)) (by assumption) (by rfl)).q ?_
  refine q_q (by decide) (p_lssi rfl rfl).q ?_
  refine q_q (by decide) (p_move rfl).q ?_
  refine q_splitd (t := 17) rfl (fun h17 => ?_) (fun h17 => ?_)
  ·skip
   refine q_off (j := 5) rfl rfl (by (simp; done)) (by decide) ?_
   refine q_off (j := 5) rfl rfl (by (simp; done)) (by decide) ?_
   refine q_off (j := 5) rfl rfl (by (simp; done)) (by decide) ?_
   refine q_off (j := 5) rfl rfl (by (simp; done)) (by decide) ?_
   refine q_off (j := 5) rfl rfl (by (simp; done)) (by decide) ?_
   refine q_off (j := 5) rfl rfl (by (simp; done)) (by decide) ?_
   refine q_off (j := 5) rfl rfl (by (simp; done)) (by decide) ?_
   refine q_off (j := 5) rfl rfl (by (simp; done)) (by decide) ?_
   refine q_q (by decide) (p_pick rfl rfl).q ?_
   refine q_nil ?_
   refine c_true rfl ?_
   refine c_seq ?_
   refine c_reg ?_
   refine l_q (by decide) (p_assign rfl).q ?_
   refine l_nil ?_
   refine c_ret ?_
   refine c_ret1 rfl rfl (fun w hs => ?_)
   exact ⟨by rw [show knownB X s = false from all_no hx (by simp; omega)], hs.ext⟩
  ·skip
   refine q_g (j := 5) rfl rfl (by decide) (p_move rfl).q ?_
   refine q_g (j := 5) rfl rfl (by decide) (p_move rfl).q ?_
   refine q_g (j := 5) rfl rfl (by decide) (r_index Try.underlying26 inf_3 rfl rfl rfl (by exact .fact (by repeat constructor)) rfl (by omega)).q ?_
   refine q_g (j := 5) rfl rfl (by decide) (r_load1 Try.underlying3 rfl rfl (by exact .fact (by repeat constructor)) (by assumption) (by rfl)).q ?_
   refine q_g (j := 5) rfl rfl (by decide) (p_faddro (i := 0) 0 Try.underlying25 rfl inf_22 (by decide) rfl rfl).q ?_
   refine q_g (j := 5) rfl rfl (by decide) (r_loado Try.underlying22 rfl rfl (by repeat constructor) (by rfl)).q ?_
   refine q_g (j := 5) rfl rfl (by decide) (p_len_sl Try.underlying22 rfl).q ?_
   refine q_g (j := 5) rfl rfl (by decide) (p_geqi rfl rfl).q ?_
   refine q_q (by decide) (p_pick rfl rfl).q ?_
   refine q_nil ?_
   refine c_dec rfl (fun h26 => ?_) (fun h26 => ?_)
   ·skip
    refine c_seq ?_
    refine c_reg ?_
    refine l_q (by decide) (p_assign rfl).q ?_
    refine l_nil ?_
    refine c_ret ?_
    refine c_ret1 rfl rfl (fun w hs => ?_)
    exact ⟨by rw [show knownB X s = false from all_no hx (by simp; omega)], hs.ext⟩
   ·skip
    refine c_skip ?_
    refine c_reg ?_
    refine l_q (by decide) (p_move rfl).q ?_
    refine l_q (by decide) (p_add (j := 1) rfl rfl rfl rfl (by show _ ≤ (9223372036854775807 : Nat); omega)).q ?_
    refine l_q (by decide) (p_assign rfl).q ?_
    refine l_nil ?_
    refine c_join ((k + 1)) ?_ ?_ ?_ ?_
    ·show ((k + 1) ≤ s.length ∧ knownB X (s.take (k + 1)) = true) ∧ s.length - (k + 1) < s.length - k
     exact ⟨⟨by omega, all_take hx he (by simp; omega)⟩, by omega⟩
    · exact ⟨rfl, rfl, rfl, trivial⟩
    ·show List.Perm _ ([iCells b2 25 [.slice X.At X.terms.length X.ct, .slice X.An X.nts.length X.cn, .int .i64 X.start, .slice X.Ar X.xs.length X.cr]])
     exact .refl _
    · exact fun _ h => h
 ·skip
  refine c_exit ?_
  refine c_here ?_
  refine c_seq ?_
  refine c_reg ?_
  refine l_q (by decide) (p_assign rfl).q ?_
  refine l_nil ?_
  refine c_ret ?_
  refine c_ret1 rfl rfl (fun w hs => ?_)
  rw [List.take_of_length_le (by omega)] at he
  exact ⟨by rw [he], hs.ext⟩

theorem rprod_ok (X : GI) (hX : X.small) (w : World) (hM : X.mem w) (ok : Ana.Ok2 X.g) :
   Calls Try.prog 29 #[.agg #[.slice X.At X.terms.length X.ct, .slice X.An X.nts.length X.cn, .int .i64 X.start, .slice X.Ar X.xs.length X.cr]] w (Ret fun v w' => ∃ bo : Nat, v = .slice (some ⟨bo, 0, none⟩) X.g.n X.g.n ∧ Sl 1 boolF (some ⟨bo, 0, none⟩) (Ana.mkl X.g.n (Ana.pn X.g true)) w' ∧ (w.heap.size ≤ bo ∧ bo < w'.heap.size) ∧ Ext [] w w') := by
 have hnl := ok.nl
 have hnn : X.nts.length ≤ 16 := hnl
 have hxl := hX.x
 refine calls_fx (l := [.agg #[.slice X.At X.terms.length X.ct, .slice X.An X.nts.length X.cn, .int .i64 X.start, .slice X.Ar X.xs.length X.cr]]) Try.func29 rfl Try.ntmps29 (Nat.le_of_ble_eq_true rfl) (X.begin hM) ?_
 refine c_seq ?_
 refine c_reg ?_
 refine l_box (by decide) rfl _ rfl (fun b1 => ?_)
 refine l_q (by decide) (p_assign rfl).q ?_
 refine l_nil ?_
 refine c_seq ?_
 refine c_reg ?_
 refine l_q (by decide) (p_faddro (i := 1) 1 Try.underlying25 rfl inf_22 (by decide) rfl rfl).q ?_
 refine l_q (by decide) (r_loado Try.underlying22 rfl rfl (by repeat constructor) (by rfl)).q ?_
 refine l_q (by decide) (p_len_sl Try.underlying22 rfl).q ?_
 refine l_make (by decide) Try.underlying42 inf_4 rfl rfl rfl rfl rfl rfl (by omega) (by omega) (fun b9 => ?_)
 refine l_q (by decide) (p_assign rfl).q ?_
 refine l_nil ?_
 refine c_seq ?_
 refine c_seq ?_
 refine c_reg ?_
 refine l_q (by decide) (p_assign rfl).q ?_
 refine l_nil ?_
 refine c_block ?_
 rw [show List.replicate X.nts.length (Value.bool false) = bl X.g.n (fun _ => false) from bl_rep _]
 refine c_loop (S := BF × Bool) (fun zs => Ana.Sound X.g true zs.1 ∧ (zs.2 = false → ∀ zz, zz ∈ X.xs → GoodH X true zz zs.1)) (fun zs => 2 * Ana.lack X.g.n zs.1 + zs.2.toNat) (fun zs => [(1, .pointer (some ⟨b1, 0, none⟩)), (3, .slice (some ⟨b9, 0, none⟩) X.g.n X.g.n), (4, .bool zs.2)]) (fun zs => [iCells b9 4 (bl X.g.n zs.1), iCells b1 25 [.slice X.At X.terms.length X.ct, .slice X.An X.nts.length X.cn, .int .i64 X.start, .slice X.Ar X.xs.length X.cr]]) (fun zs => [Bd X.xs, Sl 3 ruF X.Ar X.xs, Sl 1 strF X.An X.nts, Sl 1 strF X.At X.terms]) (fun _ => false, true) ?_ ?_ ?_ ?_ ?_
 · show Ana.Sound X.g true (fun _ => false) ∧ ((true) = false → ∀ zz, zz ∈ X.xs → GoodH X true zz (fun _ => false))
   exact ⟨Ana.Sound.zero _ _, fun h => by cases h⟩
 · exact ⟨rfl, rfl, rfl, trivial⟩
 · exact .refl _
 · exact fun _ h => h
 rintro ⟨f, ch⟩ hinv
 have hinv : Ana.Sound X.g true f ∧ (ch = false → ∀ zz, zz ∈ X.xs → GoodH X true zz f) := hinv
 obtain ⟨hI1, hI2⟩ := hinv
 show Cont _ _ _ _ [(1, .pointer (some ⟨b1, 0, none⟩)), (3, .slice (some ⟨b9, 0, none⟩) X.g.n X.g.n), (4, .bool ch)] ([iCells b9 4 (bl X.g.n f), iCells b1 25 [.slice X.At X.terms.length X.ct, .slice X.An X.nts.length X.cn, .int .i64 X.start, .slice X.Ar X.xs.length X.cr]]) [Bd X.xs, Sl 3 ruF X.Ar X.xs, Sl 1 strF X.An X.nts, Sl 1 strF X.At X.terms]
 refine c_seq ?_
 refine c_seq ?_
 refine c_reg ?_
 refine l_q (by decide) (p_move rfl).q ?_
 refine l_nil ?_
 refine c_cond rfl (fun h10 => ?_) (fun h10 => ?_)
 ·skip
  refine c_skip ?_
  refine c_block ?_
  refine c_seq ?_
  refine c_reg ?_
  refine l_q (by decide) (p_assign rfl).q ?_
  refine l_nil ?_
  refine c_seq ?_
  refine c_reg ?_
  refine l_q (by decide) (p_assign (v := .int .i64 ((0 : Nat) : Int)) rfl).q ?_
  refine l_nil ?_
  refine c_block ?_
  refine c_loop (S := Nat × BF × Bool) (fun zs => zs.1 ≤ X.xs.length ∧ Ana.Sound X.g true zs.2.1 ∧ (zs.2.2 = true → Ana.lack X.g.n zs.2.1 < Ana.lack X.g.n f) ∧ (zs.2.2 = false → zs.2.1 = f ∧ ∀ zz, zz ∈ X.xs.take zs.1 → GoodH X true zz zs.2.1)) (fun zs => X.xs.length - zs.1) (fun zs => [(1, .pointer (some ⟨b1, 0, none⟩)), (3, .slice (some ⟨b9, 0, none⟩) X.g.n X.g.n), (4, .bool zs.2.2), (5, .int .i64 (zs.1 : Int))]) (fun zs => [iCells b9 4 (bl X.g.n zs.2.1), iCells b1 25 [.slice X.At X.terms.length X.ct, .slice X.An X.nts.length X.cn, .int .i64 X.start, .slice X.Ar X.xs.length X.cr]]) (fun zs => [Bd X.xs, Sl 3 ruF X.Ar X.xs, Sl 1 strF X.An X.nts, Sl 1 strF X.At X.terms]) (0, f, false) ?_ ?_ ?_ ?_ ?_
  · show (0) ≤ X.xs.length ∧ Ana.Sound X.g true (f) ∧ ((false) = true → Ana.lack X.g.n (f) < Ana.lack X.g.n f) ∧ ((false) = false → (f) = f ∧ ∀ zz, zz ∈ X.xs.take (0) → GoodH X true zz (f))
    exact ⟨Nat.zero_le _, hI1, fun h => (by cases h), fun _ => ⟨rfl, fun x h => absurd h (by simp)⟩⟩
  · exact ⟨rfl, rfl, rfl, rfl, trivial⟩
  · exact .refl _
  · exact fun _ h => h
  rintro ⟨k, g, cg⟩ hinv
  have hinv : k ≤ X.xs.length ∧ Ana.Sound X.g true g ∧ (cg = true → Ana.lack X.g.n g < Ana.lack X.g.n f) ∧ (cg = false → g = f ∧ ∀ zz, zz ∈ X.xs.take k → GoodH X true zz g) := hinv
  obtain ⟨hJ1, hJ2, hJ3, hJ4⟩ := hinv
  show Cont _ _ _ _ [(1, .pointer (some ⟨b1, 0, none⟩)), (3, .slice (some ⟨b9, 0, none⟩) X.g.n X.g.n), (4, .bool cg), (5, .int .i64 (k : Int))] ([iCells b9 4 (bl X.g.n g), iCells b1 25 [.slice X.At X.terms.length X.ct, .slice X.An X.nts.length X.cn, .int .i64 X.start, .slice X.Ar X.xs.length X.cr]]) [Bd X.xs, Sl 3 ruF X.Ar X.xs, Sl 1 strF X.An X.nts, Sl 1 strF X.At X.terms]
  refine c_seq ?_
  refine c_seq ?_
  refine c_reg ?_
  refine l_q (by decide) (p_move rfl).q ?_
  refine l_q (by decide) (p_faddro (i := 3) 3 Try.underlying25 rfl inf_23 (by decide) rfl rfl).q ?_
  refine l_q (by decide) (r_loado Try.underlying23 rfl rfl (by repeat constructor) (by rfl)).q ?_
  refine l_q (by decide) (p_len_sl Try.underlying23 rfl).q ?_
  refine l_q (by decide) (p_lss rfl rfl rfl rfl).q ?_
  refine l_nil ?_
  refine c_dec rfl (fun h15 => ?_) (fun h15 => ?_)
  ·skip
   obtain ⟨x, hx⟩ := at_some (l := X.xs) (n := k) (by omega)
   obtain ⟨hh1, hh2⟩ := ok.hd (rule_mem hx)
   have hkb : x.r.head.toNat * 1 < (bl X.g.n g).length := by rw [bl_len, Nat.mul_one]; exact hh2
   refine c_skip ?_
   refine c_seq ?_
   refine c_block ?_
   refine c_seq ?_
   refine c_reg ?_
   refine l_q (by decide) (p_move rfl).q ?_
   refine l_q (by decide) (p_faddro (i := 3) 3 Try.underlying25 rfl inf_23 (by decide) rfl rfl).q ?_
   refine l_q (by decide) (r_loado Try.underlying23 rfl rfl (by repeat constructor) (by rfl)).q ?_
   refine l_q (by decide) (p_move rfl).q ?_
   refine l_q (by decide) (r_index Try.underlying23 inf_49 rfl rfl rfl (by exact .fact (by repeat constructor)) rfl (by omega)).q ?_
   refine l_q (by decide) (p_faddr (i := 0) 0 Try.underlying49 rfl inf_3 (by decide) rfl rfl).q ?_
   refine l_q (by decide) (((r_loadf Try.underlying3 rfl rfl (by exact .fact (by repeat constructor)) (by assumption) (by rfl))).to (u := .int .i64 ((x.r.head.toNat : Nat) : Int)) (by rw [hh1])).q ?_
   refine l_q (by decide) (p_indexo Try.underlying42 inf_4 rfl rfl rfl (by omega)).q ?_
   refine l_q (by decide) (r_loado Try.underlying4 rfl rfl (by repeat constructor) (bl_at hh2)).q ?_
   refine l_q (by decide) (p_not rfl).q ?_
   refine l_q (by decide) (p_move rfl).q ?_
   refine l_splitb (t := 28) rfl (fun h28 => ?_) (fun h28 => ?_)
   ·skip
    refine l_g (j := 10) rfl rfl (by decide) (p_move rfl).q ?_
    refine l_g (j := 10) rfl rfl (by decide) (p_faddro (i := 3) 3 Try.underlying25 rfl inf_23 (by decide) rfl rfl).q ?_
    refine l_g (j := 10) rfl rfl (by decide) (r_loado Try.underlying23 rfl rfl (by repeat constructor) (by rfl)).q ?_
    refine l_g (j := 10) rfl rfl (by decide) (p_move rfl).q ?_
    refine l_g (j := 10) rfl rfl (by decide) (r_index Try.underlying23 inf_49 rfl rfl rfl (by exact .fact (by repeat constructor)) rfl (by omega)).q ?_
    refine l_g (j := 10) rfl rfl (by decide) (p_faddr (i := 1) 1 Try.underlying49 rfl inf_26 (by decide) rfl rfl).q ?_
    refine l_g (j := 10) rfl rfl (by decide) (r_loadf Try.underlying26 rfl rfl (by exact .fact (by repeat constructor)) (by assumption) (by rfl)).q ?_
    refine l_g (j := 10) rfl rfl (by decide) (q_call call_31 rfl (fun w hs => prodl_ok x.A (some ⟨b9, 0, none⟩) x.c X.g.n x.r.body X.g.n g (by have := ok.bl x.r (rule_mem hx); omega) (by show X.nts.length ≤ 1000; omega) (fun y hy h0 => ok.nt_lt (rule_mem hx) hy h0) w ((hs.facts (Bd X.xs) (by repeat constructor)).1 k x hx) (cells_sl (e := 4) (fun _ => rfl) (by have := (hs.own (iCells b9 4 (bl X.g.n g)) (by repeat constructor)).1; rw [bl_flat] at this; exact this)))) ?_
    refine l_q (by decide) (p_pick rfl rfl).q ?_
    refine l_nil ?_
    refine c_cond rfl (fun h37 => ?_) (fun h37 => ?_)
    ·skip
     refine c_reg ?_
     refine l_q (by decide) (p_move rfl).q ?_
     refine l_q (by decide) (p_faddro (i := 3) 3 Try.underlying25 rfl inf_23 (by decide) rfl rfl).q ?_
     refine l_q (by decide) (r_loado Try.underlying23 rfl rfl (by repeat constructor) (by rfl)).q ?_
     refine l_q (by decide) (p_move rfl).q ?_
     refine l_q (by decide) (r_index Try.underlying23 inf_49 rfl rfl rfl (by exact .fact (by repeat constructor)) rfl (by omega)).q ?_
     refine l_q (by decide) (p_faddr (i := 0) 0 Try.underlying49 rfl inf_3 (by decide) rfl rfl).q ?_
     refine l_q (by decide) (((r_loadf Try.underlying3 rfl rfl (by exact .fact (by repeat constructor)) (by assumption) (by rfl))).to (u := .int .i64 ((x.r.head.toNat : Nat) : Int)) (by rw [hh1])).q ?_
     refine l_q (by decide) (p_indexo Try.underlying42 inf_4 rfl rfl rfl (by omega)).q ?_
     (refine l_store inf_4 rfl rfl rfl rfl (by omega) ?_)
     refine l_q (by decide) (p_assign rfl).q ?_
     refine l_nil ?_
     refine c_reg ?_
     refine l_q (by decide) (p_move rfl).q ?_
     refine l_q (by decide) (p_add (j := 1) rfl rfl rfl rfl (by show _ ≤ (9223372036854775807 : Nat); omega)).q ?_
     refine l_q (by decide) (p_assign rfl).q ?_
     refine l_nil ?_
     refine c_join ((k + 1), (Ana.upd g x.r.head.toNat true), (true)) ?_ ?_ ?_ ?_
     ·show ((k + 1) ≤ X.xs.length ∧ Ana.Sound X.g true (Ana.upd g x.r.head.toNat true) ∧ ((true) = true → Ana.lack X.g.n (Ana.upd g x.r.head.toNat true) < Ana.lack X.g.n f) ∧ ((true) = false → (Ana.upd g x.r.head.toNat true) = f ∧ ∀ zz, zz ∈ X.xs.take (k + 1) → GoodH X true zz (Ana.upd g x.r.head.toNat true))) ∧ X.xs.length - (k + 1) < X.xs.length - k
      refine ⟨⟨by omega, hJ2.step (rule_mem hx) h37, fun _ => ?_, fun h => (by cases h)⟩, by omega⟩
      have hl := Ana.lack_upd hh2 (by simpa using h28)
      cases cg with
      | true => have := hJ3 rfl; omega
      | false => rw [(hJ4 rfl).1] at hl ⊢; exact hl
     · exact ⟨rfl, rfl, rfl, rfl, trivial⟩
     ·show List.Perm _ ([iCells b9 4 (bl X.g.n (Ana.upd g x.r.head.toNat true)), iCells b1 25 [.slice X.At X.terms.length X.ct, .slice X.An X.nts.length X.cn, .int .i64 X.start, .slice X.Ar X.xs.length X.cr]])
      rw [bl_set]
      repeat (first | exact List.Perm.refl _ | refine List.Perm.cons _ ?_ | refine (front1 _ _ _).trans (List.Perm.cons _ ?_) | refine (front2 _ _ _ _).trans (List.Perm.cons _ ?_) | refine (front3 _ _ _ _ _).trans (List.Perm.cons _ ?_) | refine (front4 _ _ _ _ _ _).trans (List.Perm.cons _ ?_))
     · exact fun _ h => h
    ·skip
     refine c_skip ?_
     refine c_reg ?_
     refine l_q (by decide) (p_move rfl).q ?_
     refine l_q (by decide) (p_add (j := 1) rfl rfl rfl rfl (by show _ ≤ (9223372036854775807 : Nat); omega)).q ?_
     refine l_q (by decide) (p_assign rfl).q ?_
     refine l_nil ?_
     refine c_join ((k + 1), (g), (cg)) ?_ ?_ ?_ ?_
     ·show ((k + 1) ≤ X.xs.length ∧ Ana.Sound X.g true (g) ∧ ((cg) = true → Ana.lack X.g.n (g) < Ana.lack X.g.n f) ∧ ((cg) = false → (g) = f ∧ ∀ zz, zz ∈ X.xs.take (k + 1) → GoodH X true zz (g))) ∧ X.xs.length - (k + 1) < X.xs.length - k
      refine ⟨⟨by omega, hJ2, hJ3, fun hc => ⟨(hJ4 hc).1, fun y hy => ?_⟩⟩, by omega⟩
      rw [take_at hx] at hy
      rcases List.mem_append.1 hy with h | h
      · exact (hJ4 hc).2 y h
      · rw [List.mem_singleton.1 h]; exact fun ha => by rw [ha] at h37; cases h37
     · exact ⟨rfl, rfl, rfl, rfl, trivial⟩
     ·show List.Perm _ ([iCells b9 4 (bl X.g.n (g)), iCells b1 25 [.slice X.At X.terms.length X.ct, .slice X.An X.nts.length X.cn, .int .i64 X.start, .slice X.Ar X.xs.length X.cr]])
      repeat (first | exact List.Perm.refl _ | refine List.Perm.cons _ ?_ | refine (front1 _ _ _).trans (List.Perm.cons _ ?_) | refine (front2 _ _ _ _).trans (List.Perm.cons _ ?_) | refine (front3 _ _ _ _ _).trans (List.Perm.cons _ ?_) | refine (front4 _ _ _ _ _ _).trans (List.Perm.cons _ ?_))
     · exact fun _ h => h
   ·skip
    refine l_off (j := 10) rfl rfl (by (simp; done)) (by decide) ?_
    refine l_off (j := 10) rfl rfl (by (simp; done)) (by decide) ?_
    refine l_off (j := 10) rfl rfl (by (simp; done)) (by decide) ?_
    refine l_off (j := 10) rfl rfl (by (simp; done)) (by decide) ?_
    refine l_off (j := 10) rfl rfl (by (simp; done)) (by decide) ?_
    refine l_off (j := 10) rfl rfl (by (simp; done)) (by decide) ?_
    refine l_off (j := 10) rfl rfl (by (simp; done)) (by decide) ?_
    refine l_off (j := 10) rfl rfl (by (simp; done)) (by decide) ?_
    refine l_q (by decide) (p_pick rfl rfl).q ?_
    refine l_nil ?_
    refine c_false rfl ?_
    refine c_skip ?_
    refine c_reg ?_
    refine l_q (by decide) (p_move rfl).q ?_
    refine l_q (by decide) (p_add (j := 1) rfl rfl rfl rfl (by show _ ≤ (9223372036854775807 : Nat); omega)).q ?_
    refine l_q (by decide) (p_assign rfl).q ?_
    refine l_nil ?_
    refine c_join ((k + 1), (g), (cg)) ?_ ?_ ?_ ?_
    ·show ((k + 1) ≤ X.xs.length ∧ Ana.Sound X.g true (g) ∧ ((cg) = true → Ana.lack X.g.n (g) < Ana.lack X.g.n f) ∧ ((cg) = false → (g) = f ∧ ∀ zz, zz ∈ X.xs.take (k + 1) → GoodH X true zz (g))) ∧ X.xs.length - (k + 1) < X.xs.length - k
     refine ⟨⟨by omega, hJ2, hJ3, fun hc => ⟨(hJ4 hc).1, fun y hy => ?_⟩⟩, by omega⟩
     rw [take_at hx] at hy
     rcases List.mem_append.1 hy with h | h
     · exact (hJ4 hc).2 y h
     · rw [List.mem_singleton.1 h]; exact fun _ => by simpa using h28
    · exact ⟨rfl, rfl, rfl, rfl, trivial⟩
    ·show List.Perm _ ([iCells b9 4 (bl X.g.n (g)), iCells b1 25 [.slice X.At X.terms.length X.ct, .slice X.An X.nts.length X.cn, .int .i64 X.start, .slice X.Ar X.xs.length X.cr]])
     repeat (first | exact List.Perm.refl _ | refine List.Perm.cons _ ?_ | refine (front1 _ _ _).trans (List.Perm.cons _ ?_) | refine (front2 _ _ _ _).trans (List.Perm.cons _ ?_) | refine (front3 _ _ _ _ _).trans (List.Perm.cons _ ?_) | refine (front4 _ _ _ _ _ _).trans (List.Perm.cons _ ?_))
    · exact fun _ h => h
  ·skip
   refine c_exit ?_
   refine c_here ?_
   rw [List.take_of_length_le (by omega)] at hJ4
   refine c_join ((g), (cg)) ?_ ?_ ?_ ?_
   ·show (Ana.Sound X.g true (g) ∧ ((cg) = false → ∀ zz, zz ∈ X.xs → GoodH X true zz (g))) ∧ 2 * Ana.lack X.g.n (g) + (cg).toNat < 2 * Ana.lack X.g.n f + ch.toNat
    subst h10
    refine ⟨⟨hJ2, fun hc => (hJ4 hc).2⟩, ?_⟩
    cases cg with
    | true => have := hJ3 rfl; simp only [Bool.toNat_true]; omega
    | false => have := (hJ4 rfl).1; subst this; simp only [Bool.toNat_true, Bool.toNat_false]; omega
   · exact ⟨rfl, rfl, rfl, trivial⟩
   ·show List.Perm _ ([iCells b9 4 (bl X.g.n (g)), iCells b1 25 [.slice X.At X.terms.length X.ct, .slice X.An X.nts.length X.cn, .int .i64 X.start, .slice X.Ar X.xs.length X.cr]])
    exact .refl _
   · exact fun _ h => h
 ·skip
  refine c_exit ?_
  refine c_here ?_
  refine c_seq ?_
  refine c_reg ?_
  refine l_q (by decide) (p_move rfl).q ?_
  refine l_q (by decide) (p_assign rfl).q ?_
  refine l_nil ?_
  refine c_ret ?_
  refine c_ret1 rfl rfl (fun w hs => ?_)
  rw [heads_full hI1 (hI2 (by simpa using h10))] at hs
  have hgo := hs.own (iCells b9 4 (bl X.g.n (Ana.pn X.g true))) (by repeat constructor)
  have hgk := hgo.2.2 b9 (by simp [iCells])
  have hgh := hgo.1
  rw [bl_flat] at hgh
  exact ⟨b9, rfl, cells_sl (fun _ => rfl) hgh, ⟨by simpa using hgk.2, hgk.1⟩, hs.ext⟩
end Go.Proofs.Ytncagpppmaehhaa
