/- The walks of ropes, fifth part; conditions: lengths. -/
import Derived.Test.YtdpocfkbnfhcfaaWalksD
namespace Go.Proofs.Ytdpocfkbnfhcfaa
open Go Go.Fx Go.Proofs

def repT (s : List UInt8) (x y : Int) (r : List UInt8) : List UInt8 × Int := if (0 ≤ x ∧ 0 ≤ y ∧ x ≤ ((s.length : Nat) : Int) ∧ y ≤ ((s.length : Nat) : Int) - x) then (s.take x.toNat ++ r ++ s.drop (x.toNat + y.toNat), 0) else ([], 2)
def slcT (s : List UInt8) (x y : Int) : List UInt8 × Int := if 0 ≤ x ∧ x ≤ y ∧ y ≤ ((s.length : Nat) : Int) then ((s.drop x.toNat).take (y.toNat - x.toNat), 0) else ([], 2)
def bytT (s : List UInt8) (x : Int) : Int × Int := if 0 ≤ x ∧ x < ((s.length : Nat) : Int) then (((s[x.toNat]?.getD 0).toNat : Int), 0) else (0, 2)
theorem repT_pos {s : List UInt8} {x y : Nat} {r : List UInt8} (h : (0 ≤ (x : Int) ∧ 0 ≤ (y : Int) ∧ (x : Int) ≤ ((s.length : Nat) : Int) ∧ (y : Int) ≤ ((s.length : Nat) : Int) - (x : Int))) : repT s x y r = (s.take x ++ r ++ s.drop (x + y), 0) := by unfold repT; rw [if_pos h]; simp only [Int.toNat_natCast]
theorem repT_neg {s : List UInt8} {x y : Int} {r : List UInt8} (h : ¬ (0 ≤ x ∧ 0 ≤ y ∧ x ≤ ((s.length : Nat) : Int) ∧ y ≤ ((s.length : Nat) : Int) - x)) : repT s x y r = ([], 2) := if_neg h
theorem slcT_pos {s : List UInt8} {x y : Nat} (h : 0 ≤ (x : Int) ∧ (x : Int) ≤ (y : Int) ∧ (y : Int) ≤ ((s.length : Nat) : Int)) : slcT s x y = ((s.drop x).take (y - x), 0) := by unfold slcT; rw [if_pos h]; simp only [Int.toNat_natCast]
theorem slcT_neg {s : List UInt8} {x y : Int} (h : ¬ (0 ≤ x ∧ x ≤ y ∧ y ≤ ((s.length : Nat) : Int))) : slcT s x y = ([], 2) := if_neg h
theorem bytT_pos {s : List UInt8} {x : Nat} {u : UInt8} (hu : s[x]? = some u) : bytT s x = ((u.toNat : Int), 0) := by
  have := (List.getElem?_eq_some_iff.1 hu).1
  unfold bytT; rw [if_pos (by omega)]; simp only [Int.toNat_natCast, hu, Option.getD_some]
theorem bytT_neg {s : List UInt8} {x : Int} (h : ¬ (0 ≤ x ∧ x < ((s.length : Nat) : Int))) : bytT s x = (0, 2) := if_neg h
abbrev RP (t : Option T) (x y : Int) (r : List UInt8) := { p : Option T × Int // Rope.GoodO (plO p.1) ∧ txO p.1 = (repT (txO t) x y r).1 ∧ p.2 = (repT (txO t) x y r).2 }
theorem joined_text {a b x : Option T} {n m : Option Rope.N} (hx : plO x = Rope.join (plO a) (plO b)) (ha : plO a = n) (hb : plO b = m) : txO x = Rope.textO n ++ Rope.textO m := by rw [txO, hx, Rope.join_text, ha, hb]
theorem joined_good {a b x : Option T} (hx : plO x = Rope.join (plO a) (plO b)) (ha : Rope.GoodO (plO a)) (hb : Rope.GoodO (plO b)) : Rope.GoodO (plO x) := hx ▸ Rope.join_good ha hb
theorem TO.text {t : Option T} {n : Option Rope.N} (h : plO t = n) : txO t = Rope.textO n := by rw [txO, h]
theorem pow_lt_blen {b k : Nat} (hb : 0 < b) : 2 ^ k < b ↔ k < Rope.blen (b - 1) := by
  have := Rope.blen_pow (b - 1) k
  omega
theorem pow_le8 {k : Nat} (h : k ≤ 8) : 1 * 2 ^ k ≤ 256 := by have := Nat.pow_le_pow_right (n := 2) (by decide) h; omega
theorem inf_26 : InfoIs Try.prog 26 1 8 (.agg #[.pointer none]) := by unfold InfoIs; kernel_rfl
theorem inf_32 : InfoIs Try.prog 32 3 32 (.agg #[.int .i64 0, .int .i64 0, .string ⟨#[]⟩]) := by unfold InfoIs; kernel_rfl
theorem pl_26 : PlacesIs Try.prog 26 [(0, 1)] := ⟨_, Try.underlying26, by kernel_rfl⟩
theorem call_21 : Callable Try.prog 21 := ⟨_, Try.func21, by kernel_rfl, rfl⟩
theorem call_23 : Callable Try.prog 23 := ⟨_, Try.func23, by kernel_rfl, rfl⟩
theorem new_ok (s : List UInt8) (hl : s.length ≤ 16000) (σ : Fx.Own) (w : World) (h : St w (keysOf σ) w σ []) :
   Calls Try.prog 13 #[str s] w (Ret fun v w' => ∃ x : TO (Rope.build s), v = .agg #[ptrO x.1] ∧ St w (keysOf σ) w' σ [liesO x.1]) := by
 refine calls_fx (l := [str s]) Try.func13 rfl Try.ntmps13 (Nat.le_of_ble_eq_true rfl) h ?_
 refine c_seq ?_
 refine c_reg ?_
 refine l_alloc (by decide) inf_26 _ rfl (fun b2 => ?_)
 refine l_nil ?_
 refine c_seq ?_
 refine c_reg ?_
 refine l_q (by decide) (p_move rfl).q ?_
 refine l_callf [] (X := TO (Rope.build s)) (fun x => ptrO x.1) (fun x => [liesO x.1]) (by decide) call_28 rfl (fun _ h => by cases h) (fun w hs => build_ok s hl _ w hs) (fun x4 => ?_)
 refine l_q (by decide) (p_build (cells := #[_]) inf_26 pl_26 rfl rfl).q ?_
 first | (refine l_storew inf_26 rfl rfl rfl rfl rfl ?_) | (refine l_perm (front1 _ _ _) ?_; refine l_storew inf_26 rfl rfl rfl rfl rfl ?_) | (refine l_perm (front2 _ _ _ _) ?_; refine l_storew inf_26 rfl rfl rfl rfl rfl ?_) | (refine l_perm (front3 _ _ _ _ _) ?_; refine l_storew inf_26 rfl rfl rfl rfl rfl ?_) | (refine l_perm (front4 _ _ _ _ _ _) ?_; refine l_storew inf_26 rfl rfl rfl rfl rfl ?_) | (refine l_storea inf_26 rfl rfl rfl rfl (by decide) ?_) | (refine l_perm (front1 _ _ _) ?_; refine l_storea inf_26 rfl rfl rfl rfl (by decide) ?_) | (refine l_perm (front2 _ _ _ _) ?_; refine l_storea inf_26 rfl rfl rfl rfl (by decide) ?_)
 refine l_nil ?_
 refine c_ret ?_
 refine c_retcw rfl rfl Try.underlying26 rfl inf_26 (by repeat constructor) (by rfl) (fun w hs => ?_)
 exact ⟨x4, rfl, St.sel hs.drop (by repeat constructor)⟩

theorem concat_ok (a b : Option T) (ga : Rope.GoodO (plO a)) (gb : Rope.GoodO (plO b)) (hl : szO a + szO b ≤ 16000) (σ : Fx.Own) (w : World) (h : St w (keysOf σ) w σ [liesO a, liesO b]) :
   Calls Try.prog 14 #[.agg #[ptrO a], .agg #[ptrO b]] w (Ret fun v w' => ∃ x : TO (Rope.join (plO a) (plO b)), v = .agg #[ptrO x.1] ∧ St w (keysOf σ) w' σ [liesO x.1]) := by
 refine calls_fx (l := [.agg #[ptrO a], .agg #[ptrO b]]) Try.func14 rfl Try.ntmps14 (Nat.le_of_ble_eq_true rfl) h ?_
 refine c_seq ?_
 refine c_reg ?_
 refine l_box (by decide) rfl _ rfl (fun b2 => ?_)
 refine l_box (by decide) rfl _ rfl (fun b3 => ?_)
 refine l_alloc (by decide) inf_26 _ rfl (fun b4 => ?_)
 refine l_nil ?_
 refine c_seq ?_
 refine c_reg ?_
 first | refine l_q (by decide) (p_faddr (i := 0) 0 Try.underlying26 rfl inf_24 (by decide) rfl rfl).q ?_ | refine l_q (by decide) (p_faddro (i := 0) 0 Try.underlying26 rfl inf_24 (by decide) rfl rfl).q ?_
 first | refine l_q (by decide) (r_loado Try.underlying24 rfl rfl (by repeat constructor) (by rfl)).q ?_ | refine l_q (by decide) (r_load1 Try.underlying24 rfl rfl (by first | exact .fact (by repeat constructor) | exact .own (by repeat constructor) (by decide) (fun _ => rfl)) (by first | assumption | rfl) (by rfl)).q ?_ | refine l_q (by decide) (r_loadf Try.underlying24 rfl rfl (by first | exact .fact (by repeat constructor) | exact .own (by repeat constructor) (by decide) (fun _ => rfl)) (by assumption) (by rfl)).q ?_
 first | refine l_q (by decide) (p_faddr (i := 0) 0 Try.underlying26 rfl inf_24 (by decide) rfl rfl).q ?_ | refine l_q (by decide) (p_faddro (i := 0) 0 Try.underlying26 rfl inf_24 (by decide) rfl rfl).q ?_
 first | refine l_q (by decide) (r_loado Try.underlying24 rfl rfl (by repeat constructor) (by rfl)).q ?_ | refine l_q (by decide) (r_load1 Try.underlying24 rfl rfl (by first | exact .fact (by repeat constructor) | exact .own (by repeat constructor) (by decide) (fun _ => rfl)) (by first | assumption | rfl) (by rfl)).q ?_ | refine l_q (by decide) (r_loadf Try.underlying24 rfl rfl (by first | exact .fact (by repeat constructor) | exact .own (by repeat constructor) (by decide) (fun _ => rfl)) (by assumption) (by rfl)).q ?_
 refine l_callf [liesO a, liesO b] (X := TO (Rope.join (plO a) (plO b))) (fun x => ptrO x.1) (fun x => [liesO x.1]) (by decide) call_29 rfl (by intro p hp; simp only [List.mem_cons, List.not_mem_nil, or_false] at hp; rcases hp with rfl | rfl <;> repeat constructor) (fun w hs => join_ok a b ga gb hl _ w hs) (fun x9 => ?_)
 refine l_q (by decide) (p_build (cells := #[_]) inf_26 pl_26 rfl rfl).q ?_
 first | (refine l_storew inf_26 rfl rfl rfl rfl rfl ?_) | (refine l_perm (front1 _ _ _) ?_; refine l_storew inf_26 rfl rfl rfl rfl rfl ?_) | (refine l_perm (front2 _ _ _ _) ?_; refine l_storew inf_26 rfl rfl rfl rfl rfl ?_) | (refine l_perm (front3 _ _ _ _ _) ?_; refine l_storew inf_26 rfl rfl rfl rfl rfl ?_) | (refine l_perm (front4 _ _ _ _ _ _) ?_; refine l_storew inf_26 rfl rfl rfl rfl rfl ?_) | (refine l_storea inf_26 rfl rfl rfl rfl (by decide) ?_) | (refine l_perm (front1 _ _ _) ?_; refine l_storea inf_26 rfl rfl rfl rfl (by decide) ?_) | (refine l_perm (front2 _ _ _ _) ?_; refine l_storea inf_26 rfl rfl rfl rfl (by decide) ?_)
 refine l_nil ?_
 refine c_ret ?_
 refine c_retcw rfl rfl Try.underlying26 rfl inf_26 (by repeat constructor) (by rfl) (fun w hs => ?_)
 exact ⟨x9, rfl, St.sel hs.drop.drop.drop (by repeat constructor)⟩

theorem string_m (t : Option T) (hl : szO t ≤ 16000) (w : World) (h : liesO t w) :
   Calls Try.prog 22 #[.agg #[ptrO t]] w (Ret fun v w' => v = str (txO t) ∧ Ext [] w w') := by
 refine calls_fx (l := [.agg #[ptrO t]]) Try.func22 rfl Try.ntmps22 (Nat.le_of_ble_eq_true rfl) (startO h) ?_
 refine c_seq ?_
 refine c_reg ?_
 refine l_box (by decide) rfl _ rfl (fun b1 => ?_)
 refine l_q (by decide) (p_assign (v := str []) rfl).q ?_
 refine l_nil ?_
 refine c_seq ?_
 refine c_reg ?_
 first | refine l_q (by decide) (p_faddr (i := 0) 0 Try.underlying26 rfl inf_24 (by decide) rfl rfl).q ?_ | refine l_q (by decide) (p_faddro (i := 0) 0 Try.underlying26 rfl inf_24 (by decide) rfl rfl).q ?_
 first | refine l_q (by decide) (r_loado Try.underlying24 rfl rfl (by repeat constructor) (by rfl)).q ?_ | refine l_q (by decide) (r_load1 Try.underlying24 rfl rfl (by first | exact .fact (by repeat constructor) | exact .own (by repeat constructor) (by decide) (fun _ => rfl)) (by first | assumption | rfl) (by rfl)).q ?_ | refine l_q (by decide) (r_loadf Try.underlying24 rfl rfl (by first | exact .fact (by repeat constructor) | exact .own (by repeat constructor) (by decide) (fun _ => rfl)) (by assumption) (by rfl)).q ?_
 refine l_q (by decide) (q_call call_31 rfl (fun w hs => text_ok t hl w (hs.facts (liesO (t)) (by repeat constructor)).1)) ?_
 refine l_q (by decide) (p_assign rfl).q ?_
 refine l_nil ?_
 refine c_ret ?_
 refine c_ret1 rfl rfl (fun w hs => ?_)
 exact ⟨rfl, hs.ext⟩

theorem replace_ok (t : Option T) (x y : Int) (r : List UInt8) (hg : Rope.GoodO (plO t)) (hsz : szO t ≤ 8000) (hr : r.length ≤ 8000) (σ : Fx.Own) (w : World) (h : St w (keysOf σ) w σ [liesO t]) :
   Calls Try.prog 15 #[.agg #[ptrO t], .agg #[.int .i64 x, .int .i64 y, str r]] w (Ret fun v w' => ∃ p : RP t x y r, v = .tuple #[.agg #[ptrO p.1.1], .int .i64 p.1.2] ∧ St w (keysOf σ) w' σ [liesO p.1.1]) := by
 refine calls_fx (l := [.agg #[ptrO t], .agg #[.int .i64 x, .int .i64 y, str r]]) Try.func15 rfl Try.ntmps15 (Nat.le_of_ble_eq_true rfl) h ?_
 refine c_seq ?_
 refine c_reg ?_
 refine l_box (by decide) rfl _ rfl (fun b2 => ?_)
 refine l_box (by decide) rfl _ rfl (fun b3 => ?_)
 refine l_alloc (by decide) inf_26 _ rfl (fun b4 => ?_)
 refine l_q (by decide) (p_assign (v := .int .i64 ((0 : Nat) : Int)) rfl).q ?_
 refine l_nil ?_
 refine c_seq ?_
 refine c_reg ?_
 first | refine l_q (by decide) (r_loada Try.underlying26 rfl inf_26 rfl (by first | exact .fact (by repeat constructor) | exact .own (by repeat constructor) (by decide) (fun _ => rfl)) (by assumption)).q ?_ | refine l_q (by decide) (r_loadow Try.underlying26 rfl inf_26 rfl (by repeat constructor) (by rfl)).q ?_ | refine l_q (by decide) (r_loadoa Try.underlying26 rfl inf_26 rfl (by repeat constructor) (by rfl) (fun j u h => h)).q ?_
 refine l_q (by decide) (q_call call_23 rfl (fun w hs => len_m t w (hs.facts (liesO (t)) (by repeat constructor)).1)) ?_
 refine l_q (by decide) (p_assign rfl).q ?_
 refine l_nil ?_
 refine c_seq ?_
 refine c_seq ?_
 refine c_meetn (S := Unit) (fun zs => True) (fun zs => [(2, .pointer (some ⟨b2, 0, none⟩)), (3, .pointer (some ⟨b3, 0, none⟩)), (4, .pointer (some ⟨b4, 0, none⟩)), (6, .int .i64 ((szO t : Nat) : Int)), (32, .bool (decide (¬ (0 ≤ x ∧ 0 ≤ y ∧ x ≤ ((szO t : Nat) : Int) ∧ y ≤ ((szO t : Nat) : Int) - x))))]) (fun zs => [iCells b4 26 [.pointer none], iCells b3 32 [.int .i64 x, .int .i64 y, str r], iCells b2 26 [ptrO t]] ++ σ) (fun zs => [liesO t]) ?_ ?_
 ·skip
  refine c_reg ?_
  first | refine l_q (by decide) (p_faddr (i := 0) 0 Try.underlying32 rfl inf_3 (by decide) rfl rfl).q ?_ | refine l_q (by decide) (p_faddro (i := 0) 0 Try.underlying32 rfl inf_3 (by decide) rfl rfl).q ?_
  first | refine l_q (by decide) (r_loado Try.underlying3 rfl rfl (by repeat constructor) (by rfl)).q ?_ | refine l_q (by decide) (r_load1 Try.underlying3 rfl rfl (by first | exact .fact (by repeat constructor) | exact .own (by repeat constructor) (by decide) (fun _ => rfl)) (by first | assumption | rfl) (by rfl)).q ?_ | refine l_q (by decide) (r_loadf Try.underlying3 rfl rfl (by first | exact .fact (by repeat constructor) | exact .own (by repeat constructor) (by decide) (fun _ => rfl)) (by assumption) (by rfl)).q ?_
  first | refine l_q (by decide) (p_lss (j := 0) rfl rfl rfl rfl).q ?_ | refine l_q (by decide) (p_lssi rfl rfl).q ?_
  refine l_q (by decide) (p_move rfl).q ?_
  first | refine l_splitd (t := 13) rfl (fun h13 => ?_) (fun h13 => ?_) | refine l_splitb (t := 13) rfl (fun h13 => ?_) (fun h13 => ?_)
  ·skip
   refine l_off (j := 3) rfl rfl (by first | (simp; done) | (simp [undef]; done)) (by decide) ?_
   refine l_off (j := 3) rfl rfl (by first | (simp; done) | (simp [undef]; done)) (by decide) ?_
   refine l_off (j := 3) rfl rfl (by first | (simp; done) | (simp [undef]; done)) (by decide) ?_
   refine l_q (by decide) (p_pick rfl rfl).q ?_
   refine l_q (by decide) (p_move rfl).q ?_
   refine l_off (j := 8) rfl rfl (by first | (simp; done) | (simp [undef]; done)) (by decide) ?_
   refine l_off (j := 8) rfl rfl (by first | (simp; done) | (simp [undef]; done)) (by decide) ?_
   refine l_off (j := 8) rfl rfl (by first | (simp; done) | (simp [undef]; done)) (by decide) ?_
   refine l_off (j := 8) rfl rfl (by first | (simp; done) | (simp [undef]; done)) (by decide) ?_
   refine l_q (by decide) (p_pick rfl rfl).q ?_
   refine l_q (by decide) (p_move rfl).q ?_
   refine l_off (j := 14) rfl rfl (by first | (simp; done) | (simp [undef]; done)) (by decide) ?_
   refine l_off (j := 14) rfl rfl (by first | (simp; done) | (simp [undef]; done)) (by decide) ?_
   refine l_off (j := 14) rfl rfl (by first | (simp; done) | (simp [undef]; done)) (by decide) ?_
   refine l_off (j := 14) rfl rfl (by first | (simp; done) | (simp [undef]; done)) (by decide) ?_
   refine l_off (j := 14) rfl rfl (by first | (simp; done) | (simp [undef]; done)) (by decide) ?_
   refine l_off (j := 14) rfl rfl (by first | (simp; done) | (simp [undef]; done)) (by decide) ?_
   refine l_off (j := 14) rfl rfl (by first | (simp; done) | (simp [undef]; done)) (by decide) ?_
   refine l_q (by decide) (p_pick rfl rfl).q ?_
   refine l_nil ?_
   refine c_join (()) ?inv ?sub ?perm ?facts
   case sub => exact ⟨rfl, rfl, rfl, rfl, (by first | rfl | exact congrArg (fun b => some (Value.bool b)) (decide_eq_true (by omega)).symm | exact congrArg (fun b => some (Value.bool b)) (decide_eq_false (by omega)).symm | exact congrArg (fun b => some (Value.bool b)) (decide_eq_decide.2 (by omega))), trivial⟩
   case perm =>
    exact .refl _
   case facts => exact fun _ h => h
   case inv =>
    trivial
  ·skip
   first | refine l_g (j := 3) rfl rfl (by decide) (p_faddr (i := 1) 1 Try.underlying32 rfl inf_3 (by decide) rfl rfl).q ?_ | refine l_g (j := 3) rfl rfl (by decide) (p_faddro (i := 1) 1 Try.underlying32 rfl inf_3 (by decide) rfl rfl).q ?_
   first | refine l_g (j := 3) rfl rfl (by decide) (r_loado Try.underlying3 rfl rfl (by repeat constructor) (by rfl)).q ?_ | refine l_g (j := 3) rfl rfl (by decide) (r_load1 Try.underlying3 rfl rfl (by first | exact .fact (by repeat constructor) | exact .own (by repeat constructor) (by decide) (fun _ => rfl)) (by first | assumption | rfl) (by rfl)).q ?_ | refine l_g (j := 3) rfl rfl (by decide) (r_loadf Try.underlying3 rfl rfl (by first | exact .fact (by repeat constructor) | exact .own (by repeat constructor) (by decide) (fun _ => rfl)) (by assumption) (by rfl)).q ?_
   first | refine l_g (j := 3) rfl rfl (by decide) (p_lss (j := 0) rfl rfl rfl rfl).q ?_ | refine l_g (j := 3) rfl rfl (by decide) (p_lssi rfl rfl).q ?_
   refine l_q (by decide) (p_pick rfl rfl).q ?_
   refine l_q (by decide) (p_move rfl).q ?_
   first | refine l_splitd (t := 18) rfl (fun h18 => ?_) (fun h18 => ?_) | refine l_splitb (t := 18) rfl (fun h18 => ?_) (fun h18 => ?_)
   ·skip
    refine l_off (j := 8) rfl rfl (by first | (simp; done) | (simp [undef]; done)) (by decide) ?_
    refine l_off (j := 8) rfl rfl (by first | (simp; done) | (simp [undef]; done)) (by decide) ?_
    refine l_off (j := 8) rfl rfl (by first | (simp; done) | (simp [undef]; done)) (by decide) ?_
    refine l_off (j := 8) rfl rfl (by first | (simp; done) | (simp [undef]; done)) (by decide) ?_
    refine l_q (by decide) (p_pick rfl rfl).q ?_
    refine l_q (by decide) (p_move rfl).q ?_
    refine l_off (j := 14) rfl rfl (by first | (simp; done) | (simp [undef]; done)) (by decide) ?_
    refine l_off (j := 14) rfl rfl (by first | (simp; done) | (simp [undef]; done)) (by decide) ?_
    refine l_off (j := 14) rfl rfl (by first | (simp; done) | (simp [undef]; done)) (by decide) ?_
    refine l_off (j := 14) rfl rfl (by first | (simp; done) | (simp [undef]; done)) (by decide) ?_
    refine l_off (j := 14) rfl rfl (by first | (simp; done) | (simp [undef]; done)) (by decide) ?_
    refine l_off (j := 14) rfl rfl (by first | (simp; done) | (simp [undef]; done)) (by decide) ?_
    refine l_off (j := 14) rfl rfl (by first | (simp; done) | (simp [undef]; done)) (by decide) ?_
    refine l_q (by decide) (p_pick rfl rfl).q ?_
    refine l_nil ?_
    refine c_join (()) ?inv ?sub ?perm ?facts
    case sub => exact ⟨rfl, rfl, rfl, rfl, (by first | rfl | exact congrArg (fun b => some (Value.bool b)) (decide_eq_true (by omega)).symm | exact congrArg (fun b => some (Value.bool b)) (decide_eq_false (by omega)).symm | exact congrArg (fun b => some (Value.bool b)) (decide_eq_decide.2 (by omega))), trivial⟩
    case perm =>
     exact .refl _
    case facts => exact fun _ h => h
    case inv =>
     trivial
   ·skip
    first | refine l_g (j := 8) rfl rfl (by decide) (p_faddr (i := 0) 0 Try.underlying32 rfl inf_3 (by decide) rfl rfl).q ?_ | refine l_g (j := 8) rfl rfl (by decide) (p_faddro (i := 0) 0 Try.underlying32 rfl inf_3 (by decide) rfl rfl).q ?_
    first | refine l_g (j := 8) rfl rfl (by decide) (r_loado Try.underlying3 rfl rfl (by repeat constructor) (by rfl)).q ?_ | refine l_g (j := 8) rfl rfl (by decide) (r_load1 Try.underlying3 rfl rfl (by first | exact .fact (by repeat constructor) | exact .own (by repeat constructor) (by decide) (fun _ => rfl)) (by first | assumption | rfl) (by rfl)).q ?_ | refine l_g (j := 8) rfl rfl (by decide) (r_loadf Try.underlying3 rfl rfl (by first | exact .fact (by repeat constructor) | exact .own (by repeat constructor) (by decide) (fun _ => rfl)) (by assumption) (by rfl)).q ?_
    refine l_g (j := 8) rfl rfl (by decide) (p_move rfl).q ?_
    first | refine l_g (j := 8) rfl rfl (by decide) (p_gtr rfl rfl rfl rfl).q ?_ | refine l_g (j := 8) rfl rfl (by decide) (p_gtri rfl rfl).q ?_
    refine l_q (by decide) (p_pick rfl rfl).q ?_
    refine l_q (by decide) (p_move rfl).q ?_
    first | refine l_splitd (t := 24) rfl (fun h24 => ?_) (fun h24 => ?_) | refine l_splitb (t := 24) rfl (fun h24 => ?_) (fun h24 => ?_)
    ·skip
     refine l_off (j := 14) rfl rfl (by first | (simp; done) | (simp [undef]; done)) (by decide) ?_
     refine l_off (j := 14) rfl rfl (by first | (simp; done) | (simp [undef]; done)) (by decide) ?_
     refine l_off (j := 14) rfl rfl (by first | (simp; done) | (simp [undef]; done)) (by decide) ?_
     refine l_off (j := 14) rfl rfl (by first | (simp; done) | (simp [undef]; done)) (by decide) ?_
     refine l_off (j := 14) rfl rfl (by first | (simp; done) | (simp [undef]; done)) (by decide) ?_
     refine l_off (j := 14) rfl rfl (by first | (simp; done) | (simp [undef]; done)) (by decide) ?_
     refine l_off (j := 14) rfl rfl (by first | (simp; done) | (simp [undef]; done)) (by decide) ?_
     refine l_q (by decide) (p_pick rfl rfl).q ?_
     refine l_nil ?_
     refine c_join (()) ?inv ?sub ?perm ?facts
     case sub => exact ⟨rfl, rfl, rfl, rfl, (by first | rfl | exact congrArg (fun b => some (Value.bool b)) (decide_eq_true (by omega)).symm | exact congrArg (fun b => some (Value.bool b)) (decide_eq_false (by omega)).symm | exact congrArg (fun b => some (Value.bool b)) (decide_eq_decide.2 (by omega))), trivial⟩
     case perm =>
      exact .refl _
     case facts => exact fun _ h => h
     case inv =>
      trivial
    ·skip
     first | refine l_g (j := 14) rfl rfl (by decide) (p_faddr (i := 1) 1 Try.underlying32 rfl inf_3 (by decide) rfl rfl).q ?_ | refine l_g (j := 14) rfl rfl (by decide) (p_faddro (i := 1) 1 Try.underlying32 rfl inf_3 (by decide) rfl rfl).q ?_
     first | refine l_g (j := 14) rfl rfl (by decide) (r_loado Try.underlying3 rfl rfl (by repeat constructor) (by rfl)).q ?_ | refine l_g (j := 14) rfl rfl (by decide) (r_load1 Try.underlying3 rfl rfl (by first | exact .fact (by repeat constructor) | exact .own (by repeat constructor) (by decide) (fun _ => rfl)) (by first | assumption | rfl) (by rfl)).q ?_ | refine l_g (j := 14) rfl rfl (by decide) (r_loadf Try.underlying3 rfl rfl (by first | exact .fact (by repeat constructor) | exact .own (by repeat constructor) (by decide) (fun _ => rfl)) (by assumption) (by rfl)).q ?_
     refine l_g (j := 14) rfl rfl (by decide) (p_move rfl).q ?_
     first | refine l_g (j := 14) rfl rfl (by decide) (p_faddr (i := 0) 0 Try.underlying32 rfl inf_3 (by decide) rfl rfl).q ?_ | refine l_g (j := 14) rfl rfl (by decide) (p_faddro (i := 0) 0 Try.underlying32 rfl inf_3 (by decide) rfl rfl).q ?_
     first | refine l_g (j := 14) rfl rfl (by decide) (r_loado Try.underlying3 rfl rfl (by repeat constructor) (by rfl)).q ?_ | refine l_g (j := 14) rfl rfl (by decide) (r_load1 Try.underlying3 rfl rfl (by first | exact .fact (by repeat constructor) | exact .own (by repeat constructor) (by decide) (fun _ => rfl)) (by first | assumption | rfl) (by rfl)).q ?_ | refine l_g (j := 14) rfl rfl (by decide) (r_loadf Try.underlying3 rfl rfl (by first | exact .fact (by repeat constructor) | exact .own (by repeat constructor) (by decide) (fun _ => rfl)) (by assumption) (by rfl)).q ?_
     first | refine l_g (j := 14) rfl rfl (by decide) (p_sub rfl rfl rfl rfl (by omega) (by show _ ≤ (9223372036854775807 : Nat); omega)).q ?_ | refine l_g (j := 14) rfl rfl (by decide) (p_subi rfl rfl (by show (-9223372036854775808 : Int) ≤ _; omega) (by show _ ≤ ((9223372036854775807 : Nat) : Int); omega)).q ?_
     first | refine l_g (j := 14) rfl rfl (by decide) (p_gtr rfl rfl rfl rfl).q ?_ | refine l_g (j := 14) rfl rfl (by decide) (p_gtri rfl rfl).q ?_
     refine l_q (by decide) (p_pick rfl rfl).q ?_
     refine l_nil ?_
     refine c_join (()) ?inv ?sub ?perm ?facts
     case sub => exact ⟨rfl, rfl, rfl, rfl, (by first | rfl | exact congrArg (fun b => some (Value.bool b)) (decide_eq_true (by omega)).symm | exact congrArg (fun b => some (Value.bool b)) (decide_eq_false (by omega)).symm | exact congrArg (fun b => some (Value.bool b)) (decide_eq_decide.2 (by omega))), trivial⟩
     case perm =>
      exact .refl _
     case facts => exact fun _ h => h
     case inv =>
      trivial
 rintro uu hmeet
 show Cont _ _ _ _ [(2, .pointer (some ⟨b2, 0, none⟩)), (3, .pointer (some ⟨b3, 0, none⟩)), (4, .pointer (some ⟨b4, 0, none⟩)), (6, .int .i64 ((szO t : Nat) : Int)), (32, .bool (decide (¬ (0 ≤ x ∧ 0 ≤ y ∧ x ≤ ((szO t : Nat) : Int) ∧ y ≤ ((szO t : Nat) : Int) - x))))] ([iCells b4 26 [.pointer none], iCells b3 32 [.int .i64 x, .int .i64 y, str r], iCells b2 26 [ptrO t]] ++ σ) [liesO t]
 first | refine c_dec rfl (fun h32 => ?_) (fun h32 => ?_) | refine c_cond rfl (fun h32 => ?_) (fun h32 => ?_)
 ·skip
  refine c_seq ?_
  refine c_reg ?_
  refine l_q (by decide) (p_build (cells := #[_]) inf_26 pl_26 rfl rfl).q ?_
  first | (refine l_storew inf_26 rfl rfl rfl rfl rfl ?_) | (refine l_perm (front1 _ _ _) ?_; refine l_storew inf_26 rfl rfl rfl rfl rfl ?_) | (refine l_perm (front2 _ _ _ _) ?_; refine l_storew inf_26 rfl rfl rfl rfl rfl ?_) | (refine l_perm (front3 _ _ _ _ _) ?_; refine l_storew inf_26 rfl rfl rfl rfl rfl ?_) | (refine l_perm (front4 _ _ _ _ _ _) ?_; refine l_storew inf_26 rfl rfl rfl rfl rfl ?_) | (refine l_storea inf_26 rfl rfl rfl rfl (by decide) ?_) | (refine l_perm (front1 _ _ _) ?_; refine l_storea inf_26 rfl rfl rfl rfl (by decide) ?_) | (refine l_perm (front2 _ _ _ _) ?_; refine l_storea inf_26 rfl rfl rfl rfl (by decide) ?_)
  refine l_q (by decide) (p_assign (v := .int .i64 ((2 : Nat) : Int)) rfl).q ?_
  refine l_nil ?_
  refine c_ret ?_
  refine c_retcw2 rfl rfl rfl Try.underlying26 rfl inf_26 (by repeat constructor) (by rfl) (fun w hs => ?_)
  exact ⟨⟨(none, 2), trivial, by rw [repT_neg h32]; rfl, by rw [repT_neg h32]⟩, rfl, (hs.drop.drop.drop.sure (q := liesO none) fun _ => trivial).weak (fun p hp => by rw [List.mem_singleton.1 hp]; exact List.mem_cons_self ..)⟩
 ·skip
  have hfit : (0 ≤ x ∧ 0 ≤ y ∧ x ≤ ((szO t : Nat) : Int) ∧ y ≤ ((szO t : Nat) : Int) - x) := by omega
  clear h32
  obtain ⟨x, rfl⟩ := Int.eq_ofNat_of_zero_le hfit.1
  obtain ⟨y, rfl⟩ := Int.eq_ofNat_of_zero_le hfit.2.1
  have hxn : x ≤ szO t ∧ y ≤ szO t - x := by omega
  have hsl : (Rope.textO (plO t)).length = szO t := rfl
  refine c_skip ?_
  refine c_seq ?_
  refine m_draw [] mixed ?_
  first | refine m_takep 0 rfl (by kernel_rfl) (by decide) (p_faddr (i := 0) 0 Try.underlying26 rfl inf_24 (by decide) rfl rfl) ?_ | refine m_takep 0 rfl (by kernel_rfl) (by decide) (p_faddro (i := 0) 0 Try.underlying26 rfl inf_24 (by decide) rfl rfl) ?_
  first | refine m_take 1 rfl (by kernel_rfl) (by decide) (by first | exact (List.Perm.refl _ : List.Perm _ ([] ++ _)) | exact (List.Perm.refl _ : List.Perm _ ([_] ++ _)) | exact (List.Perm.refl _ : List.Perm _ ([_, _] ++ _)) | exact (List.Perm.refl _ : List.Perm _ ([_, _, _] ++ _)) | exact (List.Perm.refl _ : List.Perm _ ([_, _, _, _] ++ _)) | exact (List.Perm.refl _ : List.Perm _ ([_, _, _, _, _] ++ _))) (by first | exact fun _ h => h | exact fun _ h => List.mem_cons_of_mem _ h | exact fun _ h => List.mem_cons_of_mem _ (List.mem_cons_of_mem _ h) | exact fun _ h => List.mem_cons_of_mem _ (List.mem_cons_of_mem _ (List.mem_cons_of_mem _ h)) | exact fun _ h => List.mem_cons_of_mem _ (List.mem_cons_of_mem _ (List.mem_cons_of_mem _ (List.mem_cons_of_mem _ h))) | exact fun _ h => List.mem_cons_of_mem _ (List.mem_cons_of_mem _ (List.mem_cons_of_mem _ (List.mem_cons_of_mem _ (List.mem_cons_of_mem _ h))))) (r_loado Try.underlying24 rfl rfl (by repeat constructor) (by rfl)).r ?_ | refine m_take 1 rfl (by kernel_rfl) (by decide) (by first | exact (List.Perm.refl _ : List.Perm _ ([] ++ _)) | exact (List.Perm.refl _ : List.Perm _ ([_] ++ _)) | exact (List.Perm.refl _ : List.Perm _ ([_, _] ++ _)) | exact (List.Perm.refl _ : List.Perm _ ([_, _, _] ++ _)) | exact (List.Perm.refl _ : List.Perm _ ([_, _, _, _] ++ _)) | exact (List.Perm.refl _ : List.Perm _ ([_, _, _, _, _] ++ _))) (by first | exact fun _ h => h | exact fun _ h => List.mem_cons_of_mem _ h | exact fun _ h => List.mem_cons_of_mem _ (List.mem_cons_of_mem _ h) | exact fun _ h => List.mem_cons_of_mem _ (List.mem_cons_of_mem _ (List.mem_cons_of_mem _ h)) | exact fun _ h => List.mem_cons_of_mem _ (List.mem_cons_of_mem _ (List.mem_cons_of_mem _ (List.mem_cons_of_mem _ h))) | exact fun _ h => List.mem_cons_of_mem _ (List.mem_cons_of_mem _ (List.mem_cons_of_mem _ (List.mem_cons_of_mem _ (List.mem_cons_of_mem _ h))))) (r_load1 Try.underlying24 rfl rfl (by first | exact .fact (by repeat constructor) | exact .own (by repeat constructor) (by decide) (fun _ => rfl)) (by first | assumption | rfl) (by rfl)).r ?_ | refine m_take 1 rfl (by kernel_rfl) (by decide) (by first | exact (List.Perm.refl _ : List.Perm _ ([] ++ _)) | exact (List.Perm.refl _ : List.Perm _ ([_] ++ _)) | exact (List.Perm.refl _ : List.Perm _ ([_, _] ++ _)) | exact (List.Perm.refl _ : List.Perm _ ([_, _, _] ++ _)) | exact (List.Perm.refl _ : List.Perm _ ([_, _, _, _] ++ _)) | exact (List.Perm.refl _ : List.Perm _ ([_, _, _, _, _] ++ _))) (by first | exact fun _ h => h | exact fun _ h => List.mem_cons_of_mem _ h | exact fun _ h => List.mem_cons_of_mem _ (List.mem_cons_of_mem _ h) | exact fun _ h => List.mem_cons_of_mem _ (List.mem_cons_of_mem _ (List.mem_cons_of_mem _ h)) | exact fun _ h => List.mem_cons_of_mem _ (List.mem_cons_of_mem _ (List.mem_cons_of_mem _ (List.mem_cons_of_mem _ h))) | exact fun _ h => List.mem_cons_of_mem _ (List.mem_cons_of_mem _ (List.mem_cons_of_mem _ (List.mem_cons_of_mem _ (List.mem_cons_of_mem _ h))))) (r_loadf Try.underlying24 rfl rfl (by first | exact .fact (by repeat constructor) | exact .own (by repeat constructor) (by decide) (fun _ => rfl)) (by assumption) (by rfl)).r ?_
  first | refine m_takep 2 rfl (by kernel_rfl) (by decide) (p_faddr (i := 0) 0 Try.underlying32 rfl inf_3 (by decide) rfl rfl) ?_ | refine m_takep 2 rfl (by kernel_rfl) (by decide) (p_faddro (i := 0) 0 Try.underlying32 rfl inf_3 (by decide) rfl rfl) ?_
  first | refine m_take 3 rfl (by kernel_rfl) (by decide) (by first | exact (List.Perm.refl _ : List.Perm _ ([] ++ _)) | exact (List.Perm.refl _ : List.Perm _ ([_] ++ _)) | exact (List.Perm.refl _ : List.Perm _ ([_, _] ++ _)) | exact (List.Perm.refl _ : List.Perm _ ([_, _, _] ++ _)) | exact (List.Perm.refl _ : List.Perm _ ([_, _, _, _] ++ _)) | exact (List.Perm.refl _ : List.Perm _ ([_, _, _, _, _] ++ _))) (by first | exact fun _ h => h | exact fun _ h => List.mem_cons_of_mem _ h | exact fun _ h => List.mem_cons_of_mem _ (List.mem_cons_of_mem _ h) | exact fun _ h => List.mem_cons_of_mem _ (List.mem_cons_of_mem _ (List.mem_cons_of_mem _ h)) | exact fun _ h => List.mem_cons_of_mem _ (List.mem_cons_of_mem _ (List.mem_cons_of_mem _ (List.mem_cons_of_mem _ h))) | exact fun _ h => List.mem_cons_of_mem _ (List.mem_cons_of_mem _ (List.mem_cons_of_mem _ (List.mem_cons_of_mem _ (List.mem_cons_of_mem _ h))))) (r_loado Try.underlying3 rfl rfl (by repeat constructor) (by rfl)).r ?_ | refine m_take 3 rfl (by kernel_rfl) (by decide) (by first | exact (List.Perm.refl _ : List.Perm _ ([] ++ _)) | exact (List.Perm.refl _ : List.Perm _ ([_] ++ _)) | exact (List.Perm.refl _ : List.Perm _ ([_, _] ++ _)) | exact (List.Perm.refl _ : List.Perm _ ([_, _, _] ++ _)) | exact (List.Perm.refl _ : List.Perm _ ([_, _, _, _] ++ _)) | exact (List.Perm.refl _ : List.Perm _ ([_, _, _, _, _] ++ _))) (by first | exact fun _ h => h | exact fun _ h => List.mem_cons_of_mem _ h | exact fun _ h => List.mem_cons_of_mem _ (List.mem_cons_of_mem _ h) | exact fun _ h => List.mem_cons_of_mem _ (List.mem_cons_of_mem _ (List.mem_cons_of_mem _ h)) | exact fun _ h => List.mem_cons_of_mem _ (List.mem_cons_of_mem _ (List.mem_cons_of_mem _ (List.mem_cons_of_mem _ h))) | exact fun _ h => List.mem_cons_of_mem _ (List.mem_cons_of_mem _ (List.mem_cons_of_mem _ (List.mem_cons_of_mem _ (List.mem_cons_of_mem _ h))))) (r_load1 Try.underlying3 rfl rfl (by first | exact .fact (by repeat constructor) | exact .own (by repeat constructor) (by decide) (fun _ => rfl)) (by first | assumption | rfl) (by rfl)).r ?_ | refine m_take 3 rfl (by kernel_rfl) (by decide) (by first | exact (List.Perm.refl _ : List.Perm _ ([] ++ _)) | exact (List.Perm.refl _ : List.Perm _ ([_] ++ _)) | exact (List.Perm.refl _ : List.Perm _ ([_, _] ++ _)) | exact (List.Perm.refl _ : List.Perm _ ([_, _, _] ++ _)) | exact (List.Perm.refl _ : List.Perm _ ([_, _, _, _] ++ _)) | exact (List.Perm.refl _ : List.Perm _ ([_, _, _, _, _] ++ _))) (by first | exact fun _ h => h | exact fun _ h => List.mem_cons_of_mem _ h | exact fun _ h => List.mem_cons_of_mem _ (List.mem_cons_of_mem _ h) | exact fun _ h => List.mem_cons_of_mem _ (List.mem_cons_of_mem _ (List.mem_cons_of_mem _ h)) | exact fun _ h => List.mem_cons_of_mem _ (List.mem_cons_of_mem _ (List.mem_cons_of_mem _ (List.mem_cons_of_mem _ h))) | exact fun _ h => List.mem_cons_of_mem _ (List.mem_cons_of_mem _ (List.mem_cons_of_mem _ (List.mem_cons_of_mem _ (List.mem_cons_of_mem _ h))))) (r_loadf Try.underlying3 rfl rfl (by first | exact .fact (by repeat constructor) | exact .own (by repeat constructor) (by decide) (fun _ => rfl)) (by assumption) (by rfl)).r ?_
  first | refine m_takep 5 rfl (by kernel_rfl) (by decide) (p_faddr (i := 2) 2 Try.underlying32 rfl inf_9 (by decide) rfl rfl) ?_ | refine m_takep 5 rfl (by kernel_rfl) (by decide) (p_faddro (i := 2) 2 Try.underlying32 rfl inf_9 (by decide) rfl rfl) ?_
  first | refine m_take 6 rfl (by kernel_rfl) (by decide) (by first | exact (List.Perm.refl _ : List.Perm _ ([] ++ _)) | exact (List.Perm.refl _ : List.Perm _ ([_] ++ _)) | exact (List.Perm.refl _ : List.Perm _ ([_, _] ++ _)) | exact (List.Perm.refl _ : List.Perm _ ([_, _, _] ++ _)) | exact (List.Perm.refl _ : List.Perm _ ([_, _, _, _] ++ _)) | exact (List.Perm.refl _ : List.Perm _ ([_, _, _, _, _] ++ _))) (by first | exact fun _ h => h | exact fun _ h => List.mem_cons_of_mem _ h | exact fun _ h => List.mem_cons_of_mem _ (List.mem_cons_of_mem _ h) | exact fun _ h => List.mem_cons_of_mem _ (List.mem_cons_of_mem _ (List.mem_cons_of_mem _ h)) | exact fun _ h => List.mem_cons_of_mem _ (List.mem_cons_of_mem _ (List.mem_cons_of_mem _ (List.mem_cons_of_mem _ h))) | exact fun _ h => List.mem_cons_of_mem _ (List.mem_cons_of_mem _ (List.mem_cons_of_mem _ (List.mem_cons_of_mem _ (List.mem_cons_of_mem _ h))))) (r_loado Try.underlying9 rfl rfl (by repeat constructor) (by rfl)).r ?_ | refine m_take 6 rfl (by kernel_rfl) (by decide) (by first | exact (List.Perm.refl _ : List.Perm _ ([] ++ _)) | exact (List.Perm.refl _ : List.Perm _ ([_] ++ _)) | exact (List.Perm.refl _ : List.Perm _ ([_, _] ++ _)) | exact (List.Perm.refl _ : List.Perm _ ([_, _, _] ++ _)) | exact (List.Perm.refl _ : List.Perm _ ([_, _, _, _] ++ _)) | exact (List.Perm.refl _ : List.Perm _ ([_, _, _, _, _] ++ _))) (by first | exact fun _ h => h | exact fun _ h => List.mem_cons_of_mem _ h | exact fun _ h => List.mem_cons_of_mem _ (List.mem_cons_of_mem _ h) | exact fun _ h => List.mem_cons_of_mem _ (List.mem_cons_of_mem _ (List.mem_cons_of_mem _ h)) | exact fun _ h => List.mem_cons_of_mem _ (List.mem_cons_of_mem _ (List.mem_cons_of_mem _ (List.mem_cons_of_mem _ h))) | exact fun _ h => List.mem_cons_of_mem _ (List.mem_cons_of_mem _ (List.mem_cons_of_mem _ (List.mem_cons_of_mem _ (List.mem_cons_of_mem _ h))))) (r_load1 Try.underlying9 rfl rfl (by first | exact .fact (by repeat constructor) | exact .own (by repeat constructor) (by decide) (fun _ => rfl)) (by first | assumption | rfl) (by rfl)).r ?_ | refine m_take 6 rfl (by kernel_rfl) (by decide) (by first | exact (List.Perm.refl _ : List.Perm _ ([] ++ _)) | exact (List.Perm.refl _ : List.Perm _ ([_] ++ _)) | exact (List.Perm.refl _ : List.Perm _ ([_, _] ++ _)) | exact (List.Perm.refl _ : List.Perm _ ([_, _, _] ++ _)) | exact (List.Perm.refl _ : List.Perm _ ([_, _, _, _] ++ _)) | exact (List.Perm.refl _ : List.Perm _ ([_, _, _, _, _] ++ _))) (by first | exact fun _ h => h | exact fun _ h => List.mem_cons_of_mem _ h | exact fun _ h => List.mem_cons_of_mem _ (List.mem_cons_of_mem _ h) | exact fun _ h => List.mem_cons_of_mem _ (List.mem_cons_of_mem _ (List.mem_cons_of_mem _ h)) | exact fun _ h => List.mem_cons_of_mem _ (List.mem_cons_of_mem _ (List.mem_cons_of_mem _ (List.mem_cons_of_mem _ h))) | exact fun _ h => List.mem_cons_of_mem _ (List.mem_cons_of_mem _ (List.mem_cons_of_mem _ (List.mem_cons_of_mem _ (List.mem_cons_of_mem _ h))))) (r_loadf Try.underlying9 rfl rfl (by first | exact .fact (by repeat constructor) | exact .own (by repeat constructor) (by decide) (fun _ => rfl)) (by assumption) (by rfl)).r ?_
  refine m_run 4 rfl (by kernel_rfl) ?_
  refine l_callf [liesO t] (X := TO (slO (plO t) (0) (x))) (fun x => ptrO x.1) (fun x => [liesO x.1]) (by decide) call_30 rfl (by intro p hp; simp only [List.mem_cons, List.not_mem_nil, or_false] at hp; rcases hp with rfl <;> repeat constructor) (fun w hs => slice_ok t (0) (x) (by omega) hg (by omega) _ w hs) (fun x38 => ?_)
  refine l_nil ?_
  refine m_next _ (by first | exact (List.Perm.refl _ : List.Perm _ ([] ++ _)) | exact (List.Perm.refl _ : List.Perm _ ([_] ++ _)) | exact (List.Perm.refl _ : List.Perm _ ([_, _] ++ _)) | exact (List.Perm.refl _ : List.Perm _ ([_, _, _] ++ _)) | exact (List.Perm.refl _ : List.Perm _ ([_, _, _, _] ++ _)) | exact (List.Perm.refl _ : List.Perm _ ([_, _, _, _, _] ++ _))) (by first | exact fun _ h => h | exact fun _ h => List.mem_cons_of_mem _ h | exact fun _ h => List.mem_cons_of_mem _ (List.mem_cons_of_mem _ h) | exact fun _ h => List.mem_cons_of_mem _ (List.mem_cons_of_mem _ (List.mem_cons_of_mem _ h)) | exact fun _ h => List.mem_cons_of_mem _ (List.mem_cons_of_mem _ (List.mem_cons_of_mem _ (List.mem_cons_of_mem _ h))) | exact fun _ h => List.mem_cons_of_mem _ (List.mem_cons_of_mem _ (List.mem_cons_of_mem _ (List.mem_cons_of_mem _ (List.mem_cons_of_mem _ h))))) ?_
  refine m_run 7 rfl (by kernel_rfl) ?_
  refine l_callf [] (X := TO (Rope.build r)) (fun x => ptrO x.1) (fun x => [liesO x.1]) (by decide) call_28 rfl (fun _ h => by cases h) (fun w hs => build_ok r (by omega) _ w hs) (fun x41 => ?_)
  refine l_nil ?_
  refine m_next _ (by first | exact (List.Perm.refl _ : List.Perm _ ([] ++ _)) | exact (List.Perm.refl _ : List.Perm _ ([_] ++ _)) | exact (List.Perm.refl _ : List.Perm _ ([_, _] ++ _)) | exact (List.Perm.refl _ : List.Perm _ ([_, _, _] ++ _)) | exact (List.Perm.refl _ : List.Perm _ ([_, _, _, _] ++ _)) | exact (List.Perm.refl _ : List.Perm _ ([_, _, _, _, _] ++ _))) (by first | exact fun _ h => h | exact fun _ h => List.mem_cons_of_mem _ h | exact fun _ h => List.mem_cons_of_mem _ (List.mem_cons_of_mem _ h) | exact fun _ h => List.mem_cons_of_mem _ (List.mem_cons_of_mem _ (List.mem_cons_of_mem _ h)) | exact fun _ h => List.mem_cons_of_mem _ (List.mem_cons_of_mem _ (List.mem_cons_of_mem _ (List.mem_cons_of_mem _ h))) | exact fun _ h => List.mem_cons_of_mem _ (List.mem_cons_of_mem _ (List.mem_cons_of_mem _ (List.mem_cons_of_mem _ (List.mem_cons_of_mem _ h))))) ?_
  have hg38 := TO.good x38.2 (slO_good hg _ _ (show x ≤ szO t by omega))
  have hg41 := TO.good x41.2 (Rope.build_good r)
  have hl38 : szO x38.1 = x := by rw [slO_len x38.2 (show x ≤ szO t by omega)]; omega
  have ht41 := TO.text x41.2
  rw [Rope.build_text] at ht41
  have hl41 : szO x41.1 = r.length := congrArg List.length ht41
  refine m_run 8 rfl (by kernel_rfl) ?_
  refine l_callf [liesO x38.1, liesO x41.1] (X := TO (Rope.join (plO x38.1) (plO x41.1))) (fun x => ptrO x.1) (fun x => [liesO x.1]) (by decide) call_29 rfl (by intro p hp; simp only [List.mem_cons, List.not_mem_nil, or_false] at hp; rcases hp with rfl | rfl <;> repeat constructor) (fun w hs => join_ok x38.1 x41.1 hg38 hg41 (by omega) _ w hs) (fun x42 => ?_)
  refine l_nil ?_
  refine m_next _ (by first | exact (List.Perm.refl _ : List.Perm _ ([] ++ _)) | exact (List.Perm.refl _ : List.Perm _ ([_] ++ _)) | exact (List.Perm.refl _ : List.Perm _ ([_, _] ++ _)) | exact (List.Perm.refl _ : List.Perm _ ([_, _, _] ++ _)) | exact (List.Perm.refl _ : List.Perm _ ([_, _, _, _] ++ _)) | exact (List.Perm.refl _ : List.Perm _ ([_, _, _, _, _] ++ _))) (by first | exact fun _ h => h | exact fun _ h => List.mem_cons_of_mem _ h | exact fun _ h => List.mem_cons_of_mem _ (List.mem_cons_of_mem _ h) | exact fun _ h => List.mem_cons_of_mem _ (List.mem_cons_of_mem _ (List.mem_cons_of_mem _ h)) | exact fun _ h => List.mem_cons_of_mem _ (List.mem_cons_of_mem _ (List.mem_cons_of_mem _ (List.mem_cons_of_mem _ h))) | exact fun _ h => List.mem_cons_of_mem _ (List.mem_cons_of_mem _ (List.mem_cons_of_mem _ (List.mem_cons_of_mem _ (List.mem_cons_of_mem _ h))))) ?_
  refine m_takep 9 rfl (by kernel_rfl) (by decide) (p_assign rfl) ?_
  refine m_done (by kernel_rfl) ?_
  refine c_seq ?_
  refine c_reg ?_
  refine l_q (by decide) (p_move rfl).q ?_
  first | refine l_q (by decide) (p_faddr (i := 0) 0 Try.underlying26 rfl inf_24 (by decide) rfl rfl).q ?_ | refine l_q (by decide) (p_faddro (i := 0) 0 Try.underlying26 rfl inf_24 (by decide) rfl rfl).q ?_
  have hg42 := joined_good x42.2 hg38 hg41
  have ht42 := joined_text x42.2 x38.2 x41.2
  rw [Rope.build_text, slO_text _ _ _ (show x ≤ szO t by omega)] at ht42
  have hl42 : szO x42.1 = x + r.length := by have := congrArg List.length ht42; simp only [List.length_append, List.length_take, List.length_drop] at this; show (txO x42.1).length = _; omega
  first | refine l_q (by decide) (r_loado Try.underlying24 rfl rfl (by repeat constructor) (by rfl)).q ?_ | refine l_q (by decide) (r_load1 Try.underlying24 rfl rfl (by first | exact .fact (by repeat constructor) | exact .own (by repeat constructor) (by decide) (fun _ => rfl)) (by first | assumption | rfl) (by rfl)).q ?_ | refine l_q (by decide) (r_loadf Try.underlying24 rfl rfl (by first | exact .fact (by repeat constructor) | exact .own (by repeat constructor) (by decide) (fun _ => rfl)) (by assumption) (by rfl)).q ?_
  first | refine l_q (by decide) (p_faddr (i := 0) 0 Try.underlying32 rfl inf_3 (by decide) rfl rfl).q ?_ | refine l_q (by decide) (p_faddro (i := 0) 0 Try.underlying32 rfl inf_3 (by decide) rfl rfl).q ?_
  first | refine l_q (by decide) (r_loado Try.underlying3 rfl rfl (by repeat constructor) (by rfl)).q ?_ | refine l_q (by decide) (r_load1 Try.underlying3 rfl rfl (by first | exact .fact (by repeat constructor) | exact .own (by repeat constructor) (by decide) (fun _ => rfl)) (by first | assumption | rfl) (by rfl)).q ?_ | refine l_q (by decide) (r_loadf Try.underlying3 rfl rfl (by first | exact .fact (by repeat constructor) | exact .own (by repeat constructor) (by decide) (fun _ => rfl)) (by assumption) (by rfl)).q ?_
  first | refine l_q (by decide) (p_faddr (i := 1) 1 Try.underlying32 rfl inf_3 (by decide) rfl rfl).q ?_ | refine l_q (by decide) (p_faddro (i := 1) 1 Try.underlying32 rfl inf_3 (by decide) rfl rfl).q ?_
  first | refine l_q (by decide) (r_loado Try.underlying3 rfl rfl (by repeat constructor) (by rfl)).q ?_ | refine l_q (by decide) (r_load1 Try.underlying3 rfl rfl (by first | exact .fact (by repeat constructor) | exact .own (by repeat constructor) (by decide) (fun _ => rfl)) (by first | assumption | rfl) (by rfl)).q ?_ | refine l_q (by decide) (r_loadf Try.underlying3 rfl rfl (by first | exact .fact (by repeat constructor) | exact .own (by repeat constructor) (by decide) (fun _ => rfl)) (by assumption) (by rfl)).q ?_
  first | refine l_q (by decide) (p_add rfl rfl rfl rfl (by show _ ≤ (9223372036854775807 : Nat); omega)).q ?_ | refine l_q (by decide) (p_addi rfl rfl (by show (-9223372036854775808 : Int) ≤ _; omega) (by show _ ≤ ((9223372036854775807 : Nat) : Int); omega)).q ?_
  refine l_q (by decide) (p_move rfl).q ?_
  refine l_callf [liesO t] (X := TO (slO (plO t) (x + y) (szO t))) (fun x => ptrO x.1) (fun x => [liesO x.1]) (by decide) call_30 rfl (by intro p hp; simp only [List.mem_cons, List.not_mem_nil, or_false] at hp; rcases hp with rfl <;> repeat constructor) (fun w hs => slice_ok t (x + y) (szO t) (by omega) hg (by omega) _ w hs) (fun x52 => ?_)
  have hg52 := TO.good x52.2 (slO_good hg _ _ (Nat.le_refl (szO t)))
  have hl52 : szO x52.1 = szO t - (x + y) := by rw [slO_len x52.2 (Nat.le_refl (szO t))]; omega
  refine l_callf [liesO x42.1, liesO x52.1] (X := TO (Rope.join (plO x42.1) (plO x52.1))) (fun x => ptrO x.1) (fun x => [liesO x.1]) (by decide) call_29 rfl (by intro p hp; simp only [List.mem_cons, List.not_mem_nil, or_false] at hp; rcases hp with rfl | rfl <;> repeat constructor) (fun w hs => join_ok x42.1 x52.1 hg42 hg52 (by omega) _ w hs) (fun x53 => ?_)
  refine l_q (by decide) (p_build (cells := #[_]) inf_26 pl_26 rfl rfl).q ?_
  first | (refine l_storew inf_26 rfl rfl rfl rfl rfl ?_) | (refine l_perm (front1 _ _ _) ?_; refine l_storew inf_26 rfl rfl rfl rfl rfl ?_) | (refine l_perm (front2 _ _ _ _) ?_; refine l_storew inf_26 rfl rfl rfl rfl rfl ?_) | (refine l_perm (front3 _ _ _ _ _) ?_; refine l_storew inf_26 rfl rfl rfl rfl rfl ?_) | (refine l_perm (front4 _ _ _ _ _ _) ?_; refine l_storew inf_26 rfl rfl rfl rfl rfl ?_) | (refine l_storea inf_26 rfl rfl rfl rfl (by decide) ?_) | (refine l_perm (front1 _ _ _) ?_; refine l_storea inf_26 rfl rfl rfl rfl (by decide) ?_) | (refine l_perm (front2 _ _ _ _) ?_; refine l_storea inf_26 rfl rfl rfl rfl (by decide) ?_)
  refine l_q (by decide) (p_assign (v := .int .i64 ((0 : Nat) : Int)) rfl).q ?_
  refine l_nil ?_
  refine c_ret ?_
  refine c_retcw2 rfl rfl rfl Try.underlying26 rfl inf_26 (by repeat constructor) (by rfl) (fun w hs => ?_)
  exact ⟨⟨(x53.1, 0), joined_good x53.2 hg42 hg52, by
      have h1 := joined_text x53.2 rfl x52.2
      have h2 : Rope.textO (plO x42.1) = _ := ht42
      rw [h1, h2, slO_text _ _ (szO t) (Nat.le_refl _)]
      rw [repT_pos hfit]
      simp only [List.drop_zero, Nat.sub_zero]
      rw [List.take_of_length_le (l := List.drop (x + y) _) (by rw [List.length_drop]; show szO t - _ ≤ _; omega)]
      rfl, by rw [repT_pos hfit]⟩, rfl, St.sel hs.drop.drop.drop (by repeat constructor)⟩

theorem fits_ok (n : Nat) (hn : n ≤ 1000000) (x y : Int) (r : List UInt8) (w : World) :
   Calls Try.prog 21 #[.int .i64 (n : Int), .agg #[.int .i64 x, .int .i64 y, str r]] w (Ret fun v w' => v = .bool (decide (0 ≤ x ∧ 0 ≤ y ∧ x ≤ ((n : Nat) : Int) ∧ y ≤ ((n : Nat) : Int) - x)) ∧ Ext [] w w') := by
 refine calls_fx (l := [.int .i64 (n : Int), .agg #[.int .i64 x, .int .i64 y, str r]]) Try.func21 rfl Try.ntmps21 (Nat.le_of_ble_eq_true rfl) (St.start w) ?_
 refine c_seq ?_
 refine c_reg ?_
 refine l_box (by decide) rfl _ rfl (fun b3 => ?_)
 refine l_q (by decide) (p_assign rfl).q ?_
 refine l_nil ?_
 refine c_seq ?_
 refine c_meetn (S := Unit) (fun zs => True) (fun zs => [(4, .bool (decide ((0 ≤ x ∧ 0 ≤ y ∧ x ≤ ((n : Nat) : Int) ∧ y ≤ ((n : Nat) : Int) - x))))]) (fun zs => [iCells b3 32 [.int .i64 x, .int .i64 y, str r]]) (fun zs => []) ?_ ?_
 ·skip
  refine c_reg ?_
  first | refine l_q (by decide) (p_faddr (i := 0) 0 Try.underlying32 rfl inf_3 (by decide) rfl rfl).q ?_ | refine l_q (by decide) (p_faddro (i := 0) 0 Try.underlying32 rfl inf_3 (by decide) rfl rfl).q ?_
  first | refine l_q (by decide) (r_loado Try.underlying3 rfl rfl (by repeat constructor) (by rfl)).q ?_ | refine l_q (by decide) (r_load1 Try.underlying3 rfl rfl (by first | exact .fact (by repeat constructor) | exact .own (by repeat constructor) (by decide) (fun _ => rfl)) (by first | assumption | rfl) (by rfl)).q ?_ | refine l_q (by decide) (r_loadf Try.underlying3 rfl rfl (by first | exact .fact (by repeat constructor) | exact .own (by repeat constructor) (by decide) (fun _ => rfl)) (by assumption) (by rfl)).q ?_
  first | refine l_q (by decide) (p_geq (j := 0) rfl rfl rfl rfl).q ?_ | refine l_q (by decide) (p_geqi rfl rfl).q ?_
  refine l_q (by decide) (p_move rfl).q ?_
  first | refine l_splitd (t := 8) rfl (fun h8 => ?_) (fun h8 => ?_) | refine l_splitb (t := 8) rfl (fun h8 => ?_) (fun h8 => ?_)
  ·skip
   first | refine l_g (j := 3) rfl rfl (by decide) (p_faddr (i := 1) 1 Try.underlying32 rfl inf_3 (by decide) rfl rfl).q ?_ | refine l_g (j := 3) rfl rfl (by decide) (p_faddro (i := 1) 1 Try.underlying32 rfl inf_3 (by decide) rfl rfl).q ?_
   first | refine l_g (j := 3) rfl rfl (by decide) (r_loado Try.underlying3 rfl rfl (by repeat constructor) (by rfl)).q ?_ | refine l_g (j := 3) rfl rfl (by decide) (r_load1 Try.underlying3 rfl rfl (by first | exact .fact (by repeat constructor) | exact .own (by repeat constructor) (by decide) (fun _ => rfl)) (by first | assumption | rfl) (by rfl)).q ?_ | refine l_g (j := 3) rfl rfl (by decide) (r_loadf Try.underlying3 rfl rfl (by first | exact .fact (by repeat constructor) | exact .own (by repeat constructor) (by decide) (fun _ => rfl)) (by assumption) (by rfl)).q ?_
   first | refine l_g (j := 3) rfl rfl (by decide) (p_geq (j := 0) rfl rfl rfl rfl).q ?_ | refine l_g (j := 3) rfl rfl (by decide) (p_geqi rfl rfl).q ?_
   refine l_q (by decide) (p_pick rfl rfl).q ?_
   refine l_q (by decide) (p_move rfl).q ?_
   first | refine l_splitd (t := 13) rfl (fun h13 => ?_) (fun h13 => ?_) | refine l_splitb (t := 13) rfl (fun h13 => ?_) (fun h13 => ?_)
   ·skip
    first | refine l_g (j := 8) rfl rfl (by decide) (p_faddr (i := 0) 0 Try.underlying32 rfl inf_3 (by decide) rfl rfl).q ?_ | refine l_g (j := 8) rfl rfl (by decide) (p_faddro (i := 0) 0 Try.underlying32 rfl inf_3 (by decide) rfl rfl).q ?_
    first | refine l_g (j := 8) rfl rfl (by decide) (r_loado Try.underlying3 rfl rfl (by repeat constructor) (by rfl)).q ?_ | refine l_g (j := 8) rfl rfl (by decide) (r_load1 Try.underlying3 rfl rfl (by first | exact .fact (by repeat constructor) | exact .own (by repeat constructor) (by decide) (fun _ => rfl)) (by first | assumption | rfl) (by rfl)).q ?_ | refine l_g (j := 8) rfl rfl (by decide) (r_loadf Try.underlying3 rfl rfl (by first | exact .fact (by repeat constructor) | exact .own (by repeat constructor) (by decide) (fun _ => rfl)) (by assumption) (by rfl)).q ?_
    refine l_g (j := 8) rfl rfl (by decide) (p_move rfl).q ?_
    first | refine l_g (j := 8) rfl rfl (by decide) (p_leq rfl rfl rfl rfl).q ?_ | refine l_g (j := 8) rfl rfl (by decide) (p_leqi rfl rfl).q ?_
    refine l_q (by decide) (p_pick rfl rfl).q ?_
    refine l_q (by decide) (p_move rfl).q ?_
    first | refine l_splitd (t := 19) rfl (fun h19 => ?_) (fun h19 => ?_) | refine l_splitb (t := 19) rfl (fun h19 => ?_) (fun h19 => ?_)
    ·skip
     first | refine l_g (j := 14) rfl rfl (by decide) (p_faddr (i := 1) 1 Try.underlying32 rfl inf_3 (by decide) rfl rfl).q ?_ | refine l_g (j := 14) rfl rfl (by decide) (p_faddro (i := 1) 1 Try.underlying32 rfl inf_3 (by decide) rfl rfl).q ?_
     first | refine l_g (j := 14) rfl rfl (by decide) (r_loado Try.underlying3 rfl rfl (by repeat constructor) (by rfl)).q ?_ | refine l_g (j := 14) rfl rfl (by decide) (r_load1 Try.underlying3 rfl rfl (by first | exact .fact (by repeat constructor) | exact .own (by repeat constructor) (by decide) (fun _ => rfl)) (by first | assumption | rfl) (by rfl)).q ?_ | refine l_g (j := 14) rfl rfl (by decide) (r_loadf Try.underlying3 rfl rfl (by first | exact .fact (by repeat constructor) | exact .own (by repeat constructor) (by decide) (fun _ => rfl)) (by assumption) (by rfl)).q ?_
     refine l_g (j := 14) rfl rfl (by decide) (p_move rfl).q ?_
     first | refine l_g (j := 14) rfl rfl (by decide) (p_faddr (i := 0) 0 Try.underlying32 rfl inf_3 (by decide) rfl rfl).q ?_ | refine l_g (j := 14) rfl rfl (by decide) (p_faddro (i := 0) 0 Try.underlying32 rfl inf_3 (by decide) rfl rfl).q ?_
     first | refine l_g (j := 14) rfl rfl (by decide) (r_loado Try.underlying3 rfl rfl (by repeat constructor) (by rfl)).q ?_ | refine l_g (j := 14) rfl rfl (by decide) (r_load1 Try.underlying3 rfl rfl (by first | exact .fact (by repeat constructor) | exact .own (by repeat constructor) (by decide) (fun _ => rfl)) (by first | assumption | rfl) (by rfl)).q ?_ | refine l_g (j := 14) rfl rfl (by decide) (r_loadf Try.underlying3 rfl rfl (by first | exact .fact (by repeat constructor) | exact .own (by repeat constructor) (by decide) (fun _ => rfl)) (by assumption) (by rfl)).q ?_
     first | refine l_g (j := 14) rfl rfl (by decide) (p_sub rfl rfl rfl rfl (by omega) (by show _ ≤ (9223372036854775807 : Nat); omega)).q ?_ | refine l_g (j := 14) rfl rfl (by decide) (p_subi rfl rfl (by show (-9223372036854775808 : Int) ≤ _; omega) (by show _ ≤ ((9223372036854775807 : Nat) : Int); omega)).q ?_
     first | refine l_g (j := 14) rfl rfl (by decide) (p_leq rfl rfl rfl rfl).q ?_ | refine l_g (j := 14) rfl rfl (by decide) (p_leqi rfl rfl).q ?_
     refine l_q (by decide) (p_pick rfl rfl).q ?_
     refine l_q (by decide) (p_assign rfl).q ?_
     refine l_nil ?_
     refine c_join (()) ?inv ?sub ?perm ?facts
     case sub => exact ⟨(by first | rfl | exact congrArg (fun b => some (Value.bool b)) (decide_eq_true (by omega)).symm | exact congrArg (fun b => some (Value.bool b)) (decide_eq_false (by omega)).symm | exact congrArg (fun b => some (Value.bool b)) (decide_eq_decide.2 (by omega))), trivial⟩
     case perm =>
      exact .refl _
     case facts => exact fun _ h => h
     case inv =>
      trivial
    ·skip
     refine l_off (j := 14) rfl rfl (by first | (simp; done) | (simp [undef]; done)) (by decide) ?_
     refine l_off (j := 14) rfl rfl (by first | (simp; done) | (simp [undef]; done)) (by decide) ?_
     refine l_off (j := 14) rfl rfl (by first | (simp; done) | (simp [undef]; done)) (by decide) ?_
     refine l_off (j := 14) rfl rfl (by first | (simp; done) | (simp [undef]; done)) (by decide) ?_
     refine l_off (j := 14) rfl rfl (by first | (simp; done) | (simp [undef]; done)) (by decide) ?_
     refine l_off (j := 14) rfl rfl (by first | (simp; done) | (simp [undef]; done)) (by decide) ?_
     refine l_off (j := 14) rfl rfl (by first | (simp; done) | (simp [undef]; done)) (by decide) ?_
     refine l_q (by decide) (p_pick rfl rfl).q ?_
     refine l_q (by decide) (p_assign rfl).q ?_
     refine l_nil ?_
     refine c_join (()) ?inv ?sub ?perm ?facts
     case sub => exact ⟨(by first | rfl | exact congrArg (fun b => some (Value.bool b)) (decide_eq_true (by omega)).symm | exact congrArg (fun b => some (Value.bool b)) (decide_eq_false (by omega)).symm | exact congrArg (fun b => some (Value.bool b)) (decide_eq_decide.2 (by omega))), trivial⟩
     case perm =>
      exact .refl _
     case facts => exact fun _ h => h
     case inv =>
      trivial
   ·skip
    refine l_off (j := 8) rfl rfl (by first | (simp; done) | (simp [undef]; done)) (by decide) ?_
    refine l_off (j := 8) rfl rfl (by first | (simp; done) | (simp [undef]; done)) (by decide) ?_
    refine l_off (j := 8) rfl rfl (by first | (simp; done) | (simp [undef]; done)) (by decide) ?_
    refine l_off (j := 8) rfl rfl (by first | (simp; done) | (simp [undef]; done)) (by decide) ?_
    refine l_q (by decide) (p_pick rfl rfl).q ?_
    refine l_q (by decide) (p_move rfl).q ?_
    refine l_off (j := 14) rfl rfl (by first | (simp; done) | (simp [undef]; done)) (by decide) ?_
    refine l_off (j := 14) rfl rfl (by first | (simp; done) | (simp [undef]; done)) (by decide) ?_
    refine l_off (j := 14) rfl rfl (by first | (simp; done) | (simp [undef]; done)) (by decide) ?_
    refine l_off (j := 14) rfl rfl (by first | (simp; done) | (simp [undef]; done)) (by decide) ?_
    refine l_off (j := 14) rfl rfl (by first | (simp; done) | (simp [undef]; done)) (by decide) ?_
    refine l_off (j := 14) rfl rfl (by first | (simp; done) | (simp [undef]; done)) (by decide) ?_
    refine l_off (j := 14) rfl rfl (by first | (simp; done) | (simp [undef]; done)) (by decide) ?_
    refine l_q (by decide) (p_pick rfl rfl).q ?_
    refine l_q (by decide) (p_assign rfl).q ?_
    refine l_nil ?_
    refine c_join (()) ?inv ?sub ?perm ?facts
    case sub => exact ⟨(by first | rfl | exact congrArg (fun b => some (Value.bool b)) (decide_eq_true (by omega)).symm | exact congrArg (fun b => some (Value.bool b)) (decide_eq_false (by omega)).symm | exact congrArg (fun b => some (Value.bool b)) (decide_eq_decide.2 (by omega))), trivial⟩
    case perm =>
     exact .refl _
    case facts => exact fun _ h => h
    case inv =>
     trivial
  ·skip
   refine l_off (j := 3) rfl rfl (by first | (simp; done) | (simp [undef]; done)) (by decide) ?_
   refine l_off (j := 3) rfl rfl (by first | (simp; done) | (simp [undef]; done)) (by decide) ?_
   refine l_off (j := 3) rfl rfl (by first | (simp; done) | (simp [undef]; done)) (by decide) ?_
   refine l_q (by decide) (p_pick rfl rfl).q ?_
   refine l_q (by decide) (p_move rfl).q ?_
   refine l_off (j := 8) rfl rfl (by first | (simp; done) | (simp [undef]; done)) (by decide) ?_
   refine l_off (j := 8) rfl rfl (by first | (simp; done) | (simp [undef]; done)) (by decide) ?_
   refine l_off (j := 8) rfl rfl (by first | (simp; done) | (simp [undef]; done)) (by decide) ?_
   refine l_off (j := 8) rfl rfl (by first | (simp; done) | (simp [undef]; done)) (by decide) ?_
   refine l_q (by decide) (p_pick rfl rfl).q ?_
   refine l_q (by decide) (p_move rfl).q ?_
   refine l_off (j := 14) rfl rfl (by first | (simp; done) | (simp [undef]; done)) (by decide) ?_
   refine l_off (j := 14) rfl rfl (by first | (simp; done) | (simp [undef]; done)) (by decide) ?_
   refine l_off (j := 14) rfl rfl (by first | (simp; done) | (simp [undef]; done)) (by decide) ?_
   refine l_off (j := 14) rfl rfl (by first | (simp; done) | (simp [undef]; done)) (by decide) ?_
   refine l_off (j := 14) rfl rfl (by first | (simp; done) | (simp [undef]; done)) (by decide) ?_
   refine l_off (j := 14) rfl rfl (by first | (simp; done) | (simp [undef]; done)) (by decide) ?_
   refine l_off (j := 14) rfl rfl (by first | (simp; done) | (simp [undef]; done)) (by decide) ?_
   refine l_q (by decide) (p_pick rfl rfl).q ?_
   refine l_q (by decide) (p_assign rfl).q ?_
   refine l_nil ?_
   refine c_join (()) ?inv ?sub ?perm ?facts
   case sub => exact ⟨(by first | rfl | exact congrArg (fun b => some (Value.bool b)) (decide_eq_true (by omega)).symm | exact congrArg (fun b => some (Value.bool b)) (decide_eq_false (by omega)).symm | exact congrArg (fun b => some (Value.bool b)) (decide_eq_decide.2 (by omega))), trivial⟩
   case perm =>
    exact .refl _
   case facts => exact fun _ h => h
   case inv =>
    trivial
 rintro uu hmeet
 show Cont _ _ _ _ [(4, .bool (decide ((0 ≤ x ∧ 0 ≤ y ∧ x ≤ ((n : Nat) : Int) ∧ y ≤ ((n : Nat) : Int) - x))))] ([iCells b3 32 [.int .i64 x, .int .i64 y, str r]]) []
 refine c_ret ?_
 refine c_ret1 rfl rfl (fun w hs => ?_)
 exact ⟨rfl, hs.ext⟩

theorem refrep_ok (s : List UInt8) (hl : s.length ≤ 16000) (x y : Int) (r : List UInt8) (hr : r.length ≤ 16000) (w : World) :
   Calls Try.prog 16 #[str s, .agg #[.int .i64 x, .int .i64 y, str r]] w (Ret fun v w' => v = .tuple #[str (repT s x y r).1, .int .i64 (repT s x y r).2] ∧ Ext [] w w') := by
 refine calls_fx (l := [str s, .agg #[.int .i64 x, .int .i64 y, str r]]) Try.func16 rfl Try.ntmps16 (Nat.le_of_ble_eq_true rfl) (St.start w) ?_
 refine c_seq ?_
 refine c_reg ?_
 refine l_box (by decide) rfl _ rfl (fun b3 => ?_)
 refine l_q (by decide) (p_assign (v := str []) rfl).q ?_
 refine l_q (by decide) (p_assign (v := .int .i64 ((0 : Nat) : Int)) rfl).q ?_
 refine l_nil ?_
 refine c_seq ?_
 refine c_seq ?_
 refine c_reg ?_
 refine l_q (by decide) (p_move rfl).q ?_
 refine l_q (by decide) (p_len_str Try.underlying9 rfl).q ?_
 first | refine l_q (by decide) (r_loada Try.underlying32 rfl inf_32 rfl (by first | exact .fact (by repeat constructor) | exact .own (by repeat constructor) (by decide) (fun _ => rfl)) (by assumption)).q ?_ | refine l_q (by decide) (r_loadow Try.underlying32 rfl inf_32 rfl (by repeat constructor) (by rfl)).q ?_ | refine l_q (by decide) (r_loadoa Try.underlying32 rfl inf_32 rfl (by repeat constructor) (by rfl) (fun j u h => h)).q ?_
 refine l_q (by decide) (q_call call_21 rfl (fun w hs => fits_ok s.length (by omega) x y r w)) ?_
 first | refine l_q (by decide) (p_notd rfl).q ?_ | refine l_q (by decide) (p_not rfl).q ?_
 refine l_nil ?_
 first | refine c_dec rfl (fun h10 => ?_) (fun h10 => ?_) | refine c_cond rfl (fun h10 => ?_) (fun h10 => ?_)
 ·skip
  refine c_seq ?_
  refine c_reg ?_
  refine l_q (by decide) (p_assign (v := str []) rfl).q ?_
  refine l_q (by decide) (p_assign (v := .int .i64 ((2 : Nat) : Int)) rfl).q ?_
  refine l_nil ?_
  refine c_ret ?_
  refine c_ret2 rfl rfl rfl (fun w hs => ?_)
  exact ⟨by rw [repT_neg h10]; rfl, hs.ext⟩
 ·skip
  have hfit : (0 ≤ x ∧ 0 ≤ y ∧ x ≤ ((s.length : Nat) : Int) ∧ y ≤ ((s.length : Nat) : Int) - x) := Classical.byContradiction fun h => h10 h
  obtain ⟨x, rfl⟩ := Int.eq_ofNat_of_zero_le hfit.1
  obtain ⟨y, rfl⟩ := Int.eq_ofNat_of_zero_le hfit.2.1
  refine c_skip ?_
  refine c_seq ?_
  refine c_draw mixed (by decide +kernel) ?_
  refine q_q (by decide) (p_move rfl).q ?_
  first | refine q_q (by decide) (p_faddr (i := 0) 0 Try.underlying32 rfl inf_3 (by decide) rfl rfl).q ?_ | refine q_q (by decide) (p_faddro (i := 0) 0 Try.underlying32 rfl inf_3 (by decide) rfl rfl).q ?_
  first | refine q_q (by decide) (r_loado Try.underlying3 rfl rfl (by repeat constructor) (by rfl)).q ?_ | refine q_q (by decide) (r_load1 Try.underlying3 rfl rfl (by first | exact .fact (by repeat constructor) | exact .own (by repeat constructor) (by decide) (fun _ => rfl)) (by first | assumption | rfl) (by rfl)).q ?_ | refine q_q (by decide) (r_loadf Try.underlying3 rfl rfl (by first | exact .fact (by repeat constructor) | exact .own (by repeat constructor) (by decide) (fun _ => rfl)) (by assumption) (by rfl)).q ?_
  first | refine q_q (by decide) (p_slice_h Try.underlying9 rfl rfl rfl (by omega)).q ?_ | refine q_q (by decide) (p_slice_h Try.underlying9 rfl rfl rfl (by simp; omega)).q ?_
  first | refine q_q (by decide) (p_faddr (i := 2) 2 Try.underlying32 rfl inf_9 (by decide) rfl rfl).q ?_ | refine q_q (by decide) (p_faddro (i := 2) 2 Try.underlying32 rfl inf_9 (by decide) rfl rfl).q ?_
  first | refine q_q (by decide) (r_loado Try.underlying9 rfl rfl (by repeat constructor) (by rfl)).q ?_ | refine q_q (by decide) (r_load1 Try.underlying9 rfl rfl (by first | exact .fact (by repeat constructor) | exact .own (by repeat constructor) (by decide) (fun _ => rfl)) (by first | assumption | rfl) (by rfl)).q ?_ | refine q_q (by decide) (r_loadf Try.underlying9 rfl rfl (by first | exact .fact (by repeat constructor) | exact .own (by repeat constructor) (by decide) (fun _ => rfl)) (by assumption) (by rfl)).q ?_
  first | refine q_q (by decide) (p_cat rfl rfl (by omega)).q ?_ | refine q_q (by decide) (p_cat rfl rfl (by simp; omega)).q ?_
  refine q_q (by decide) (p_move rfl).q ?_
  first | refine q_q (by decide) (p_faddr (i := 0) 0 Try.underlying32 rfl inf_3 (by decide) rfl rfl).q ?_ | refine q_q (by decide) (p_faddro (i := 0) 0 Try.underlying32 rfl inf_3 (by decide) rfl rfl).q ?_
  first | refine q_q (by decide) (r_loado Try.underlying3 rfl rfl (by repeat constructor) (by rfl)).q ?_ | refine q_q (by decide) (r_load1 Try.underlying3 rfl rfl (by first | exact .fact (by repeat constructor) | exact .own (by repeat constructor) (by decide) (fun _ => rfl)) (by first | assumption | rfl) (by rfl)).q ?_ | refine q_q (by decide) (r_loadf Try.underlying3 rfl rfl (by first | exact .fact (by repeat constructor) | exact .own (by repeat constructor) (by decide) (fun _ => rfl)) (by assumption) (by rfl)).q ?_
  first | refine q_q (by decide) (p_faddr (i := 1) 1 Try.underlying32 rfl inf_3 (by decide) rfl rfl).q ?_ | refine q_q (by decide) (p_faddro (i := 1) 1 Try.underlying32 rfl inf_3 (by decide) rfl rfl).q ?_
  first | refine q_q (by decide) (r_loado Try.underlying3 rfl rfl (by repeat constructor) (by rfl)).q ?_ | refine q_q (by decide) (r_load1 Try.underlying3 rfl rfl (by first | exact .fact (by repeat constructor) | exact .own (by repeat constructor) (by decide) (fun _ => rfl)) (by first | assumption | rfl) (by rfl)).q ?_ | refine q_q (by decide) (r_loadf Try.underlying3 rfl rfl (by first | exact .fact (by repeat constructor) | exact .own (by repeat constructor) (by decide) (fun _ => rfl)) (by assumption) (by rfl)).q ?_
  first | refine q_q (by decide) (p_add rfl rfl rfl rfl (by show _ ≤ (9223372036854775807 : Nat); omega)).q ?_ | refine q_q (by decide) (p_addi rfl rfl (by show (-9223372036854775808 : Int) ≤ _; omega) (by show _ ≤ ((9223372036854775807 : Nat) : Int); omega)).q ?_
  first | refine q_q (by decide) (p_slice_l Try.underlying9 rfl rfl rfl (by omega)).q ?_ | refine q_q (by decide) (p_slice_l Try.underlying9 rfl rfl rfl (by simp; omega)).q ?_
  first | refine q_q (by decide) (p_cat rfl rfl (by omega)).q ?_ | refine q_q (by decide) (p_cat rfl rfl (by simp; omega)).q ?_
  refine q_q (by decide) (p_assign rfl).q ?_
  refine q_q (by decide) (p_assign (v := .int .i64 ((0 : Nat) : Int)) rfl).q ?_
  refine q_nil ?_
  refine c_ret ?_
  refine c_ret2 rfl rfl rfl (fun w hs => ?_)
  exact ⟨by rw [repT_pos hfit]; rfl, hs.ext⟩

theorem slice_m (t : Option T) (x y : Int) (hg : Rope.GoodO (plO t)) (hsz : szO t ≤ 16000) (w : World) (h : liesO t w) :
   Calls Try.prog 17 #[.agg #[ptrO t], .int .i64 x, .int .i64 y] w (Ret fun v w' => v = .tuple #[str (slcT (txO t) x y).1, .int .i64 (slcT (txO t) x y).2] ∧ Ext [] w w') := by
 refine calls_fx (l := [.agg #[ptrO t], .int .i64 x, .int .i64 y]) Try.func17 rfl Try.ntmps17 (Nat.le_of_ble_eq_true rfl) (startO h) ?_
 refine c_seq ?_
 refine c_reg ?_
 refine l_box (by decide) rfl _ rfl (fun b3 => ?_)
 refine l_q (by decide) (p_assign (v := str []) rfl).q ?_
 refine l_q (by decide) (p_assign (v := .int .i64 ((0 : Nat) : Int)) rfl).q ?_
 refine l_nil ?_
 refine c_seq ?_
 refine c_seq ?_
 refine c_meetn (S := Unit) (fun zs => True) (fun zs => [(1, .int .i64 x), (2, .int .i64 y), (3, .pointer (some ⟨b3, 0, none⟩)), (20, .bool (decide (¬ (0 ≤ x ∧ x ≤ y ∧ y ≤ ((szO t : Nat) : Int)))))]) (fun zs => [iCells b3 26 [ptrO t]]) (fun zs => [liesO t]) ?_ ?_
 ·skip
  refine c_reg ?_
  refine l_q (by decide) (p_move rfl).q ?_
  first | refine l_q (by decide) (p_lss (j := 0) rfl rfl rfl rfl).q ?_ | refine l_q (by decide) (p_lssi rfl rfl).q ?_
  refine l_q (by decide) (p_move rfl).q ?_
  first | refine l_splitd (t := 10) rfl (fun h10 => ?_) (fun h10 => ?_) | refine l_splitb (t := 10) rfl (fun h10 => ?_) (fun h10 => ?_)
  ·skip
   refine l_off (j := 2) rfl rfl (by first | (simp; done) | (simp [undef]; done)) (by decide) ?_
   refine l_off (j := 2) rfl rfl (by first | (simp; done) | (simp [undef]; done)) (by decide) ?_
   refine l_off (j := 2) rfl rfl (by first | (simp; done) | (simp [undef]; done)) (by decide) ?_
   refine l_q (by decide) (p_pick rfl rfl).q ?_
   refine l_q (by decide) (p_move rfl).q ?_
   refine l_off (j := 7) rfl rfl (by first | (simp; done) | (simp [undef]; done)) (by decide) ?_
   refine l_off (j := 7) rfl rfl (by first | (simp; done) | (simp [undef]; done)) (by decide) ?_
   refine l_off (j := 7) rfl rfl (by first | (simp; done) | (simp [undef]; done)) (by decide) ?_
   refine l_off (j := 7) rfl rfl (by first | (simp; done) | (simp [undef]; done)) (by decide) ?_
   refine l_q (by decide) (p_pick rfl rfl).q ?_
   refine l_nil ?_
   refine c_join (()) ?inv ?sub ?perm ?facts
   case sub => exact ⟨rfl, rfl, rfl, (by first | rfl | exact congrArg (fun b => some (Value.bool b)) (decide_eq_true (by omega)).symm | exact congrArg (fun b => some (Value.bool b)) (decide_eq_false (by omega)).symm | exact congrArg (fun b => some (Value.bool b)) (decide_eq_decide.2 (by omega))), trivial⟩
   case perm =>
    exact .refl _
   case facts => exact fun _ h => h
   case inv =>
    trivial
  ·skip
   refine l_g (j := 2) rfl rfl (by decide) (p_move rfl).q ?_
   refine l_g (j := 2) rfl rfl (by decide) (p_move rfl).q ?_
   first | refine l_g (j := 2) rfl rfl (by decide) (p_gtr rfl rfl rfl rfl).q ?_ | refine l_g (j := 2) rfl rfl (by decide) (p_gtri rfl rfl).q ?_
   refine l_q (by decide) (p_pick rfl rfl).q ?_
   refine l_q (by decide) (p_move rfl).q ?_
   first | refine l_splitd (t := 15) rfl (fun h15 => ?_) (fun h15 => ?_) | refine l_splitb (t := 15) rfl (fun h15 => ?_) (fun h15 => ?_)
   ·skip
    refine l_off (j := 7) rfl rfl (by first | (simp; done) | (simp [undef]; done)) (by decide) ?_
    refine l_off (j := 7) rfl rfl (by first | (simp; done) | (simp [undef]; done)) (by decide) ?_
    refine l_off (j := 7) rfl rfl (by first | (simp; done) | (simp [undef]; done)) (by decide) ?_
    refine l_off (j := 7) rfl rfl (by first | (simp; done) | (simp [undef]; done)) (by decide) ?_
    refine l_q (by decide) (p_pick rfl rfl).q ?_
    refine l_nil ?_
    refine c_join (()) ?inv ?sub ?perm ?facts
    case sub => exact ⟨rfl, rfl, rfl, (by first | rfl | exact congrArg (fun b => some (Value.bool b)) (decide_eq_true (by omega)).symm | exact congrArg (fun b => some (Value.bool b)) (decide_eq_false (by omega)).symm | exact congrArg (fun b => some (Value.bool b)) (decide_eq_decide.2 (by omega))), trivial⟩
    case perm =>
     exact .refl _
    case facts => exact fun _ h => h
    case inv =>
     trivial
   ·skip
    refine l_g (j := 7) rfl rfl (by decide) (p_move rfl).q ?_
    first | refine l_g (j := 7) rfl rfl (by decide) (r_loada Try.underlying26 rfl inf_26 rfl (by first | exact .fact (by repeat constructor) | exact .own (by repeat constructor) (by decide) (fun _ => rfl)) (by assumption)).q ?_ | refine l_g (j := 7) rfl rfl (by decide) (r_loadow Try.underlying26 rfl inf_26 rfl (by repeat constructor) (by rfl)).q ?_ | refine l_g (j := 7) rfl rfl (by decide) (r_loadoa Try.underlying26 rfl inf_26 rfl (by repeat constructor) (by rfl) (fun j u h => h)).q ?_
    refine l_g (j := 7) rfl rfl (by decide) (q_call call_23 rfl (fun w hs => len_m t w (hs.facts (liesO (t)) (by repeat constructor)).1)) ?_
    first | refine l_g (j := 7) rfl rfl (by decide) (p_gtr rfl rfl rfl rfl).q ?_ | refine l_g (j := 7) rfl rfl (by decide) (p_gtri rfl rfl).q ?_
    refine l_q (by decide) (p_pick rfl rfl).q ?_
    refine l_nil ?_
    refine c_join (()) ?inv ?sub ?perm ?facts
    case sub => exact ⟨rfl, rfl, rfl, (by first | rfl | exact congrArg (fun b => some (Value.bool b)) (decide_eq_true (by omega)).symm | exact congrArg (fun b => some (Value.bool b)) (decide_eq_false (by omega)).symm | exact congrArg (fun b => some (Value.bool b)) (decide_eq_decide.2 (by omega))), trivial⟩
    case perm =>
     exact .refl _
    case facts => exact fun _ h => h
    case inv =>
     trivial
 rintro uu hmeet
 show Cont _ _ _ _ [(1, .int .i64 x), (2, .int .i64 y), (3, .pointer (some ⟨b3, 0, none⟩)), (20, .bool (decide (¬ (0 ≤ x ∧ x ≤ y ∧ y ≤ ((szO t : Nat) : Int)))))] ([iCells b3 26 [ptrO t]]) [liesO t]
 first | refine c_dec rfl (fun h20 => ?_) (fun h20 => ?_) | refine c_cond rfl (fun h20 => ?_) (fun h20 => ?_)
 ·skip
  refine c_seq ?_
  refine c_reg ?_
  refine l_q (by decide) (p_assign (v := str []) rfl).q ?_
  refine l_q (by decide) (p_assign (v := .int .i64 ((2 : Nat) : Int)) rfl).q ?_
  refine l_nil ?_
  refine c_ret ?_
  refine c_ret2 rfl rfl rfl (fun w hs => ?_)
  exact ⟨by rw [slcT_neg (s := txO t) h20]; rfl, hs.ext⟩
 ·skip
  have hfit : (0 ≤ x ∧ x ≤ y ∧ y ≤ ((szO t : Nat) : Int)) := by omega
  clear h20
  obtain ⟨x, rfl⟩ := Int.eq_ofNat_of_zero_le hfit.1
  obtain ⟨y, rfl⟩ := Int.eq_ofNat_of_zero_le (show 0 ≤ y by omega)
  have hsl : (Rope.textO (plO t)).length = szO t := rfl
  refine c_skip ?_
  refine c_seq ?_
  refine c_reg ?_
  first | refine l_q (by decide) (p_faddr (i := 0) 0 Try.underlying26 rfl inf_24 (by decide) rfl rfl).q ?_ | refine l_q (by decide) (p_faddro (i := 0) 0 Try.underlying26 rfl inf_24 (by decide) rfl rfl).q ?_
  first | refine l_q (by decide) (r_loado Try.underlying24 rfl rfl (by repeat constructor) (by rfl)).q ?_ | refine l_q (by decide) (r_load1 Try.underlying24 rfl rfl (by first | exact .fact (by repeat constructor) | exact .own (by repeat constructor) (by decide) (fun _ => rfl)) (by first | assumption | rfl) (by rfl)).q ?_ | refine l_q (by decide) (r_loadf Try.underlying24 rfl rfl (by first | exact .fact (by repeat constructor) | exact .own (by repeat constructor) (by decide) (fun _ => rfl)) (by assumption) (by rfl)).q ?_
  refine l_q (by decide) (p_move rfl).q ?_
  refine l_q (by decide) (p_move rfl).q ?_
  refine l_callf [liesO t] (X := TO (slO (plO t) (x) (y))) (fun x => ptrO x.1) (fun x => [liesO x.1]) (by decide) call_30 rfl (by intro p hp; simp only [List.mem_cons, List.not_mem_nil, or_false] at hp; rcases hp with rfl <;> repeat constructor) (fun w hs => slice_ok t (x) (y) (by omega) hg (by omega) _ w hs) (fun x25 => ?_)
  have hl25 := slO_len x25.2 (show y ≤ szO t by omega)
  refine l_q (by decide) (q_call call_31 rfl (fun w hs => text_ok x25.1 (by rw [hl25]; omega) w (hs.facts (liesO (x25.1)) (by repeat constructor)).1)) ?_
  refine l_q (by decide) (p_assign rfl).q ?_
  refine l_q (by decide) (p_assign (v := .int .i64 ((0 : Nat) : Int)) rfl).q ?_
  refine l_nil ?_
  refine c_ret ?_
  refine c_ret2 rfl rfl rfl (fun w hs => ?_)
  exact ⟨by rw [slcT_pos (s := txO t) hfit, TO.text x25.2, slO_text _ _ _ (show y ≤ szO t by omega)]; rfl, hs.ext⟩

theorem refslc_ok (s : List UInt8) (hl : s.length ≤ 16000) (x y : Int) (w : World) :
   Calls Try.prog 18 #[str s, .int .i64 x, .int .i64 y] w (Ret fun v w' => v = .tuple #[str (slcT s x y).1, .int .i64 (slcT s x y).2] ∧ Ext [] w w') := by
 refine calls_fx (l := [str s, .int .i64 x, .int .i64 y]) Try.func18 rfl Try.ntmps18 (Nat.le_of_ble_eq_true rfl) (St.start w) ?_
 refine c_seq ?_
 refine c_reg ?_
 refine l_q (by decide) (p_assign (v := str []) rfl).q ?_
 refine l_q (by decide) (p_assign (v := .int .i64 ((0 : Nat) : Int)) rfl).q ?_
 refine l_nil ?_
 refine c_seq ?_
 refine c_seq ?_
 refine c_meetn (S := Unit) (fun zs => True) (fun zs => [(0, str s), (1, .int .i64 x), (2, .int .i64 y), (20, .bool (decide (¬ (0 ≤ x ∧ x ≤ y ∧ y ≤ ((s.length : Nat) : Int)))))]) (fun zs => []) (fun zs => []) ?_ ?_
 ·skip
  refine c_reg ?_
  refine l_q (by decide) (p_move rfl).q ?_
  first | refine l_q (by decide) (p_lss (j := 0) rfl rfl rfl rfl).q ?_ | refine l_q (by decide) (p_lssi rfl rfl).q ?_
  refine l_q (by decide) (p_move rfl).q ?_
  first | refine l_splitd (t := 10) rfl (fun h10 => ?_) (fun h10 => ?_) | refine l_splitb (t := 10) rfl (fun h10 => ?_) (fun h10 => ?_)
  ·skip
   refine l_off (j := 2) rfl rfl (by first | (simp; done) | (simp [undef]; done)) (by decide) ?_
   refine l_off (j := 2) rfl rfl (by first | (simp; done) | (simp [undef]; done)) (by decide) ?_
   refine l_off (j := 2) rfl rfl (by first | (simp; done) | (simp [undef]; done)) (by decide) ?_
   refine l_q (by decide) (p_pick rfl rfl).q ?_
   refine l_q (by decide) (p_move rfl).q ?_
   refine l_off (j := 7) rfl rfl (by first | (simp; done) | (simp [undef]; done)) (by decide) ?_
   refine l_off (j := 7) rfl rfl (by first | (simp; done) | (simp [undef]; done)) (by decide) ?_
   refine l_off (j := 7) rfl rfl (by first | (simp; done) | (simp [undef]; done)) (by decide) ?_
   refine l_off (j := 7) rfl rfl (by first | (simp; done) | (simp [undef]; done)) (by decide) ?_
   refine l_q (by decide) (p_pick rfl rfl).q ?_
   refine l_nil ?_
   refine c_join (()) ?inv ?sub ?perm ?facts
   case sub => exact ⟨rfl, rfl, rfl, (by first | rfl | exact congrArg (fun b => some (Value.bool b)) (decide_eq_true (by omega)).symm | exact congrArg (fun b => some (Value.bool b)) (decide_eq_false (by omega)).symm | exact congrArg (fun b => some (Value.bool b)) (decide_eq_decide.2 (by omega))), trivial⟩
   case perm =>
    exact .refl _
   case facts => exact fun _ h => h
   case inv =>
    trivial
  ·skip
   refine l_g (j := 2) rfl rfl (by decide) (p_move rfl).q ?_
   refine l_g (j := 2) rfl rfl (by decide) (p_move rfl).q ?_
   first | refine l_g (j := 2) rfl rfl (by decide) (p_lss rfl rfl rfl rfl).q ?_ | refine l_g (j := 2) rfl rfl (by decide) (p_lssi rfl rfl).q ?_
   refine l_q (by decide) (p_pick rfl rfl).q ?_
   refine l_q (by decide) (p_move rfl).q ?_
   first | refine l_splitd (t := 15) rfl (fun h15 => ?_) (fun h15 => ?_) | refine l_splitb (t := 15) rfl (fun h15 => ?_) (fun h15 => ?_)
   ·skip
    refine l_off (j := 7) rfl rfl (by first | (simp; done) | (simp [undef]; done)) (by decide) ?_
    refine l_off (j := 7) rfl rfl (by first | (simp; done) | (simp [undef]; done)) (by decide) ?_
    refine l_off (j := 7) rfl rfl (by first | (simp; done) | (simp [undef]; done)) (by decide) ?_
    refine l_off (j := 7) rfl rfl (by first | (simp; done) | (simp [undef]; done)) (by decide) ?_
    refine l_q (by decide) (p_pick rfl rfl).q ?_
    refine l_nil ?_
    refine c_join (()) ?inv ?sub ?perm ?facts
    case sub => exact ⟨rfl, rfl, rfl, (by first | rfl | exact congrArg (fun b => some (Value.bool b)) (decide_eq_true (by omega)).symm | exact congrArg (fun b => some (Value.bool b)) (decide_eq_false (by omega)).symm | exact congrArg (fun b => some (Value.bool b)) (decide_eq_decide.2 (by omega))), trivial⟩
    case perm =>
     exact .refl _
    case facts => exact fun _ h => h
    case inv =>
     trivial
   ·skip
    refine l_g (j := 7) rfl rfl (by decide) (p_move rfl).q ?_
    refine l_g (j := 7) rfl rfl (by decide) (p_move rfl).q ?_
    refine l_g (j := 7) rfl rfl (by decide) (p_len_str Try.underlying9 rfl).q ?_
    first | refine l_g (j := 7) rfl rfl (by decide) (p_gtr rfl rfl rfl rfl).q ?_ | refine l_g (j := 7) rfl rfl (by decide) (p_gtri rfl rfl).q ?_
    refine l_q (by decide) (p_pick rfl rfl).q ?_
    refine l_nil ?_
    refine c_join (()) ?inv ?sub ?perm ?facts
    case sub => exact ⟨rfl, rfl, rfl, (by first | rfl | exact congrArg (fun b => some (Value.bool b)) (decide_eq_true (by omega)).symm | exact congrArg (fun b => some (Value.bool b)) (decide_eq_false (by omega)).symm | exact congrArg (fun b => some (Value.bool b)) (decide_eq_decide.2 (by omega))), trivial⟩
    case perm =>
     exact .refl _
    case facts => exact fun _ h => h
    case inv =>
     trivial
 rintro uu hmeet
 show Cont _ _ _ _ [(0, str s), (1, .int .i64 x), (2, .int .i64 y), (20, .bool (decide (¬ (0 ≤ x ∧ x ≤ y ∧ y ≤ ((s.length : Nat) : Int)))))] ([]) []
 first | refine c_dec rfl (fun h20 => ?_) (fun h20 => ?_) | refine c_cond rfl (fun h20 => ?_) (fun h20 => ?_)
 ·skip
  refine c_seq ?_
  refine c_reg ?_
  refine l_q (by decide) (p_assign (v := str []) rfl).q ?_
  refine l_q (by decide) (p_assign (v := .int .i64 ((2 : Nat) : Int)) rfl).q ?_
  refine l_nil ?_
  refine c_ret ?_
  refine c_ret2 rfl rfl rfl (fun w hs => ?_)
  exact ⟨by rw [slcT_neg h20]; rfl, hs.ext⟩
 ·skip
  have hfit : (0 ≤ x ∧ x ≤ y ∧ y ≤ ((s.length : Nat) : Int)) := by omega
  clear h20
  obtain ⟨x, rfl⟩ := Int.eq_ofNat_of_zero_le hfit.1
  obtain ⟨y, rfl⟩ := Int.eq_ofNat_of_zero_le (show 0 ≤ y by omega)
  refine c_skip ?_
  refine c_seq ?_
  refine c_reg ?_
  refine l_q (by decide) (p_move rfl).q ?_
  refine l_q (by decide) (p_move rfl).q ?_
  refine l_q (by decide) (p_move rfl).q ?_
  first | refine l_q (by decide) (p_slice_lh Try.underlying9 rfl rfl rfl rfl rfl (by omega) (by omega)).q ?_ | refine l_q (by decide) (p_slice_lh Try.underlying9 rfl rfl rfl rfl rfl (by omega) (by simp; omega)).q ?_
  refine l_q (by decide) (p_assign rfl).q ?_
  refine l_q (by decide) (p_assign (v := .int .i64 ((0 : Nat) : Int)) rfl).q ?_
  refine l_nil ?_
  refine c_ret ?_
  refine c_ret2 rfl rfl rfl (fun w hs => ?_)
  exact ⟨by rw [slcT_pos hfit]; rfl, hs.ext⟩

theorem refbyt_ok (s : List UInt8) (hl : s.length ≤ 16000) (x : Int) (w : World) :
   Calls Try.prog 20 #[str s, .int .i64 x] w (Ret fun v w' => v = .tuple #[.int .u8 (bytT s x).1, .int .i64 (bytT s x).2] ∧ Ext [] w w') := by
 refine calls_fx (l := [str s, .int .i64 x]) Try.func20 rfl Try.ntmps20 (Nat.le_of_ble_eq_true rfl) (St.start w) ?_
 refine c_seq ?_
 refine c_reg ?_
 refine l_q (by decide) (p_assign (v := .int .u8 ((0 : Nat) : Int)) rfl).q ?_
 refine l_q (by decide) (p_assign (v := .int .i64 ((0 : Nat) : Int)) rfl).q ?_
 refine l_nil ?_
 refine c_seq ?_
 refine c_seq ?_
 refine c_meetn (S := Unit) (fun zs => True) (fun zs => [(0, str s), (1, .int .i64 x), (13, .bool (decide (¬ (0 ≤ x ∧ x < ((s.length : Nat) : Int)))))]) (fun zs => []) (fun zs => []) ?_ ?_
 ·skip
  refine c_reg ?_
  refine l_q (by decide) (p_move rfl).q ?_
  first | refine l_q (by decide) (p_lss (j := 0) rfl rfl rfl rfl).q ?_ | refine l_q (by decide) (p_lssi rfl rfl).q ?_
  refine l_q (by decide) (p_move rfl).q ?_
  first | refine l_splitd (t := 8) rfl (fun h8 => ?_) (fun h8 => ?_) | refine l_splitb (t := 8) rfl (fun h8 => ?_) (fun h8 => ?_)
  ·skip
   refine l_off (j := 2) rfl rfl (by first | (simp; done) | (simp [undef]; done)) (by decide) ?_
   refine l_off (j := 2) rfl rfl (by first | (simp; done) | (simp [undef]; done)) (by decide) ?_
   refine l_off (j := 2) rfl rfl (by first | (simp; done) | (simp [undef]; done)) (by decide) ?_
   refine l_off (j := 2) rfl rfl (by first | (simp; done) | (simp [undef]; done)) (by decide) ?_
   refine l_q (by decide) (p_pick rfl rfl).q ?_
   refine l_nil ?_
   refine c_join (()) ?inv ?sub ?perm ?facts
   case sub => exact ⟨rfl, rfl, (by first | rfl | exact congrArg (fun b => some (Value.bool b)) (decide_eq_true (by omega)).symm | exact congrArg (fun b => some (Value.bool b)) (decide_eq_false (by omega)).symm | exact congrArg (fun b => some (Value.bool b)) (decide_eq_decide.2 (by omega))), trivial⟩
   case perm =>
    exact .refl _
   case facts => exact fun _ h => h
   case inv =>
    trivial
  ·skip
   refine l_g (j := 2) rfl rfl (by decide) (p_move rfl).q ?_
   refine l_g (j := 2) rfl rfl (by decide) (p_move rfl).q ?_
   refine l_g (j := 2) rfl rfl (by decide) (p_len_str Try.underlying9 rfl).q ?_
   first | refine l_g (j := 2) rfl rfl (by decide) (p_geq rfl rfl rfl rfl).q ?_ | refine l_g (j := 2) rfl rfl (by decide) (p_geqi rfl rfl).q ?_
   refine l_q (by decide) (p_pick rfl rfl).q ?_
   refine l_nil ?_
   refine c_join (()) ?inv ?sub ?perm ?facts
   case sub => exact ⟨rfl, rfl, (by first | rfl | exact congrArg (fun b => some (Value.bool b)) (decide_eq_true (by omega)).symm | exact congrArg (fun b => some (Value.bool b)) (decide_eq_false (by omega)).symm | exact congrArg (fun b => some (Value.bool b)) (decide_eq_decide.2 (by omega))), trivial⟩
   case perm =>
    exact .refl _
   case facts => exact fun _ h => h
   case inv =>
    trivial
 rintro uu hmeet
 show Cont _ _ _ _ [(0, str s), (1, .int .i64 x), (13, .bool (decide (¬ (0 ≤ x ∧ x < ((s.length : Nat) : Int)))))] ([]) []
 first | refine c_dec rfl (fun h13 => ?_) (fun h13 => ?_) | refine c_cond rfl (fun h13 => ?_) (fun h13 => ?_)
 ·skip
  refine c_seq ?_
  refine c_reg ?_
  refine l_q (by decide) (p_assign (v := .int .u8 ((0 : Nat) : Int)) rfl).q ?_
  refine l_q (by decide) (p_assign (v := .int .i64 ((2 : Nat) : Int)) rfl).q ?_
  refine l_nil ?_
  refine c_ret ?_
  refine c_ret2 rfl rfl rfl (fun w hs => ?_)
  exact ⟨by rw [bytT_neg h13]; rfl, hs.ext⟩
 ·skip
  have hfit : (0 ≤ x ∧ x < ((s.length : Nat) : Int)) := by omega
  clear h13
  obtain ⟨x, rfl⟩ := Int.eq_ofNat_of_zero_le hfit.1
  obtain ⟨u, hu⟩ : ∃ u, s[x]? = some u := ⟨_, List.getElem?_eq_getElem (by omega)⟩
  refine c_skip ?_
  refine c_seq ?_
  refine c_reg ?_
  refine l_q (by decide) (p_move rfl).q ?_
  refine l_q (by decide) (p_move rfl).q ?_
  first | refine l_q (by decide) (p_index_str Try.underlying9 rfl rfl rfl (by assumption)).q ?_ | refine l_q (by decide) (p_index_str Try.underlying9 rfl rfl rfl (by simp; rfl)).q ?_
  refine l_q (by decide) (p_assign rfl).q ?_
  refine l_q (by decide) (p_assign (v := .int .i64 ((0 : Nat) : Int)) rfl).q ?_
  refine l_nil ?_
  refine c_ret ?_
  refine c_ret2 rfl rfl rfl (fun w hs => ?_)
  exact ⟨by rw [bytT_pos hu]; rfl, hs.ext⟩

theorem refbound_ok (n : Nat) (hn : n ≤ 16000) (w : World) :
   Calls Try.prog 25 #[.int .i64 (n : Int)] w (Ret fun v w' => v = .int .i64 ((Rope.bound n : Nat) : Int) ∧ Ext [] w w') := by
 refine calls_fx (l := [.int .i64 (n : Int)]) Try.func25 rfl Try.ntmps25 (Nat.le_of_ble_eq_true rfl) (St.start w) ?_
 refine c_seq ?_
 refine c_reg ?_
 refine l_q (by decide) (p_assign (v := .int .i64 ((0 : Nat) : Int)) rfl).q ?_
 refine l_nil ?_
 refine c_seq ?_
 refine c_seq ?_
 refine c_reg ?_
 refine l_q (by decide) (p_move rfl).q ?_
 first | refine l_q (by decide) (p_leq (j := 64) rfl rfl rfl rfl).q ?_ | refine l_q (by decide) (p_leqi rfl rfl).q ?_
 refine l_nil ?_
 first | refine c_dec rfl (fun h6 => ?_) (fun h6 => ?_) | refine c_cond rfl (fun h6 => ?_) (fun h6 => ?_)
 ·skip
  refine c_seq ?_
  refine c_reg ?_
  refine l_q (by decide) (p_assign (v := .int .i64 ((0 : Nat) : Int)) rfl).q ?_
  refine l_nil ?_
  refine c_ret ?_
  refine c_ret1 rfl rfl (fun w hs => ?_)
  exact ⟨by unfold Rope.bound; rw [if_pos (by omega)], hs.ext⟩
 ·skip
  have hb8 := blen_le8 hn
  have hbk : 1 ≤ Rope.blocks n ∧ Rope.blocks n ≤ 300 := by unfold Rope.blocks; omega
  refine c_skip ?_
  refine c_seq ?_
  refine c_reg ?_
  refine l_q (by decide) (p_move rfl).q ?_
  first | refine l_q (by decide) (p_add (j := 63) rfl rfl rfl rfl (by show _ ≤ (9223372036854775807 : Nat); omega)).q ?_ | refine l_q (by decide) (p_addi rfl rfl (by show (-9223372036854775808 : Int) ≤ _; omega) (by show _ ≤ ((9223372036854775807 : Nat) : Int); omega)).q ?_
  refine l_q (by decide) (p_quo (j := 64) rfl rfl rfl rfl (by omega) (by show _ ≤ (9223372036854775807 : Nat); omega)).q ?_
  refine l_q (by decide) (((p_assign rfl)).to (u := .int .i64 ((Rope.blocks n : Nat) : Int)) (rfl)).q ?_
  refine l_q (by decide) (p_assign (v := .int .i64 ((0 : Nat) : Int)) rfl).q ?_
  refine l_nil ?_
  refine c_seq ?_
  refine c_block ?_
  refine c_loop (S := Nat) (fun zs => zs ≤ Rope.blen (Rope.blocks n - 1)) (fun zs => Rope.blen (Rope.blocks n - 1) - zs) (fun zs => [(3, .int .i64 ((Rope.blocks n : Nat) : Int)), (4, .int .i64 (zs : Int))]) (fun zs => []) (fun zs => []) (0) ?_ ?_ ?_ ?_ ?_
  · show (0) ≤ Rope.blen (Rope.blocks n - 1)
    exact Nat.zero_le _
  · exact ⟨rfl, rfl, trivial⟩
  · exact .refl _
  · exact fun _ h => absurd h List.not_mem_nil
  rintro k hinv
  have hinv : k ≤ Rope.blen (Rope.blocks n - 1) := hinv
  have hk := hinv
  show Cont _ _ _ _ [(3, .int .i64 ((Rope.blocks n : Nat) : Int)), (4, .int .i64 (k : Int))] ([]) []
  refine c_seq ?_
  refine c_seq ?_
  refine c_reg ?_
  refine l_q (by decide) (p_move rfl).q ?_
  first | refine l_q (by decide) (p_convn Try.underlying3 Try.underlying65 rfl rfl (by show _ ≤ (18446744073709551615 : Nat); omega)).q ?_ | refine l_q (by decide) (p_convm Try.underlying3 Try.underlying65 rfl rfl rfl).q ?_
  refine l_q (by decide) (p_shl (i := 1) rfl rfl rfl rfl (by show _ ≤ 64; omega) (by have := pow_le8 (k := k) (by omega); show _ ≤ (9223372036854775807 : Nat); omega)).q ?_
  refine l_q (by decide) (p_move rfl).q ?_
  first | refine l_q (by decide) (p_lss rfl rfl rfl rfl).q ?_ | refine l_q (by decide) (p_lssi rfl rfl).q ?_
  refine l_nil ?_
  first | refine c_dec rfl (fun h14 => ?_) (fun h14 => ?_) | refine c_cond rfl (fun h14 => ?_) (fun h14 => ?_)
  ·skip
   refine c_skip ?_
   refine c_block ?_
   refine c_reg ?_
   refine l_q (by decide) (p_move rfl).q ?_
   first | refine l_q (by decide) (p_add (j := 1) rfl rfl rfl rfl (by show _ ≤ (9223372036854775807 : Nat); omega)).q ?_ | refine l_q (by decide) (p_addi rfl rfl (by show (-9223372036854775808 : Int) ≤ _; omega) (by show _ ≤ ((9223372036854775807 : Nat) : Int); omega)).q ?_
   refine l_q (by decide) (p_assign rfl).q ?_
   refine l_nil ?_
   refine c_join ((k + 1)) ?_ ?_ ?_ ?_
   ·show ((k + 1) ≤ Rope.blen (Rope.blocks n - 1)) ∧ Rope.blen (Rope.blocks n - 1) - (k + 1) < Rope.blen (Rope.blocks n - 1) - k
    have := (pow_lt_blen (b := Rope.blocks n) (k := k) (by omega)).1 (by omega)
    exact ⟨by omega, by omega⟩
   · exact ⟨rfl, rfl, trivial⟩
   ·show List.Perm _ ([])
    exact .refl _
   · exact fun _ h => absurd h List.not_mem_nil
  ·skip
   refine c_exit ?_
   refine c_here ?_
   refine c_seq ?_
   refine c_reg ?_
   refine l_q (by decide) (p_move rfl).q ?_
   refine l_q (by decide) (p_mul (i := 2) rfl rfl rfl rfl (by show _ ≤ (9223372036854775807 : Nat); omega)).q ?_
   first | refine l_q (by decide) (p_add (j := 2) rfl rfl rfl rfl (by show _ ≤ (9223372036854775807 : Nat); omega)).q ?_ | refine l_q (by decide) (p_addi rfl rfl (by show (-9223372036854775808 : Int) ≤ _; omega) (by show _ ≤ ((9223372036854775807 : Nat) : Int); omega)).q ?_
   refine l_q (by decide) (p_assign rfl).q ?_
   refine l_nil ?_
   refine c_ret ?_
   refine c_ret1 rfl rfl (fun w hs => ?_)
   exact ⟨by
      have := (pow_lt_blen (b := Rope.blocks n) (k := k) (by omega)).2
      have e : k = Rope.blen (Rope.blocks n - 1) := by omega
      unfold Rope.bound; rw [if_neg (by omega), ← e], hs.ext⟩
end Go.Proofs.Ytdpocfkbnfhcfaa
