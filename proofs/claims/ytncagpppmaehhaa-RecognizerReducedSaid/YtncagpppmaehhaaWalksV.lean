/- The walks of the recognizer: Name, names and Valid exactly; conditions: lengths. -/
import Derived.Test.YtncagpppmaehhaaWalks
namespace Go.Proofs.Ytncagpppmaehhaa
open Go Go.Fx Go.Proofs

def okc (k : Nat) (u : UInt8) : Prop := ¬ (¬ ((97 ≤ u.toNat ∧ u.toNat ≤ 122) ∨ (65 ≤ u.toNat ∧ u.toNat ≤ 90)) ∧ (k = 0 ∨ ¬ (((((48 ≤ u.toNat ∧ u.toNat ≤ 57) ∨ u.toNat = 95) ∨ u.toNat = 46) ∨ u.toNat = 64))))
structure nameP (s : List UInt8) : Prop where
  l : 1 ≤ s.length
  m : s.length ≤ 48
  c : ∀ j u, s[j]? = some u → okc j u
noncomputable def nameB (s : List UInt8) : Bool := Ana.dec (nameP s)
def namesP (l : List (List UInt8)) : Prop := ∀ (k : Nat) (s : List UInt8), l[k]? = some s → nameB s = true ∧ ∀ (j : Nat) (t : List UInt8), j < k → l[j]? = some t → t ≠ s
noncomputable def namesB (l : List (List UInt8)) : Bool := Ana.dec (namesP l)
structure validP (X : GI) : Prop where
  v : OkV X.g
  x : 1 ≤ X.xs.length
  n : namesB (X.terms ++ X.nts) = true
  p : ∀ x, x ∈ X.xs → 0 ≤ x.r.price ∧ x.r.price ≤ 1000
noncomputable def validB (X : GI) : Bool := Ana.dec (validP X)
theorem valid_okv {X : GI} (h : validB X = true) : OkV X.g := (Ana.dec_iff.1 h).v
structure okX (X : GI) (x : XR) : Prop where
  r : okR X.g x.r
  p : 0 ≤ x.r.price ∧ x.r.price ≤ 1000
theorem validP.xx {X : GI} (h : validP X) {x : XR} (hx : x ∈ X.xs) : okX X x := ⟨h.v.r x.r (List.mem_map.2 ⟨x, hx, rfl⟩), h.p x hx⟩
theorem inf_3 : InfoIs Try.prog 3 1 8 (.int .i64 0) := by unfold InfoIs; kernel_rfl
theorem inf_9 : InfoIs Try.prog 9 1 16 (.string ⟨#[]⟩) := by unfold InfoIs; kernel_rfl
theorem inf_22 : InfoIs Try.prog 22 1 24 (.slice none 0 0) := by unfold InfoIs; kernel_rfl
theorem inf_23 : InfoIs Try.prog 23 1 24 (.slice none 0 0) := by unfold InfoIs; kernel_rfl
theorem inf_26 : InfoIs Try.prog 26 1 24 (.slice none 0 0) := by unfold InfoIs; kernel_rfl
theorem inf_49 : InfoIs Try.prog 49 3 40 (.agg #[.int .i64 0, .slice none 0 0, .int .i64 0]) := by unfold InfoIs; kernel_rfl
theorem call_32 : Callable Try.prog 32 := ⟨_, Try.func32, by kernel_rfl, rfl⟩
theorem call_41 : Callable Try.prog 41 := ⟨_, Try.func41, by kernel_rfl, rfl⟩
theorem name_eq (s : List UInt8) (w : World) :
   Calls Try.prog 41 #[str s] w (Ret fun v w' => v = .bool (nameB s) ∧ Ext [] w w') := by
 refine calls_fx (l := [str s]) Try.func41 rfl Try.ntmps41 (Nat.le_of_ble_eq_true rfl) (St.start w) ?_
 refine c_seq ?_
 refine c_reg ?_
 refine l_q (by decide) (p_assign rfl).q ?_
 refine l_nil ?_
 refine c_seq ?_
 refine c_seq ?_
 refine c_reg ?_
 refine l_q (by decide) (p_move rfl).q ?_
 refine l_q (by decide) (p_len_str Try.underlying9 rfl).q ?_
 refine l_q (by decide) (p_lss (j := 1) rfl rfl rfl rfl).q ?_
 refine l_q (by decide) (p_move rfl).q ?_
 refine l_splitd (t := 9) rfl (fun h9 => ?_) (fun h9 => ?_)
 ·skip
  refine l_off (j := 3) rfl rfl (by (simp; done)) (by decide) ?_
  refine l_off (j := 3) rfl rfl (by (simp; done)) (by decide) ?_
  refine l_off (j := 3) rfl rfl (by (simp; done)) (by decide) ?_
  refine l_q (by decide) (p_pick rfl rfl).q ?_
  refine l_nil ?_
  refine c_true rfl ?_
  refine c_seq ?_
  refine c_reg ?_
  refine l_q (by decide) (p_assign rfl).q ?_
  refine l_nil ?_
  refine c_ret ?_
  refine c_ret1 rfl rfl (fun w hs => ?_)
  exact ⟨by rw [show nameB s = false from Ana.dec_false (fun h => by have := h.l; omega)], hs.ext⟩
 ·skip
  refine l_g (j := 3) rfl rfl (by decide) (p_move rfl).q ?_
  refine l_g (j := 3) rfl rfl (by decide) (p_len_str Try.underlying9 rfl).q ?_
  refine l_g (j := 3) rfl rfl (by decide) (p_gtr (j := 48) rfl rfl rfl rfl).q ?_
  refine l_q (by decide) (p_pick rfl rfl).q ?_
  refine l_nil ?_
  refine c_dec rfl (fun h13 => ?_) (fun h13 => ?_)
  ·skip
   refine c_seq ?_
   refine c_reg ?_
   refine l_q (by decide) (p_assign rfl).q ?_
   refine l_nil ?_
   refine c_ret ?_
   refine c_ret1 rfl rfl (fun w hs => ?_)
   exact ⟨by rw [show nameB s = false from Ana.dec_false (fun h => by have := h.m; omega)], hs.ext⟩
  ·skip
   refine c_skip ?_
   refine c_seq ?_
   refine c_seq ?_
   refine c_reg ?_
   refine l_q (by decide) (p_assign (v := .int .i64 ((0 : Nat) : Int)) rfl).q ?_
   refine l_nil ?_
   refine c_block ?_
   refine c_loop (S := Nat) (fun zs => zs ≤ s.length ∧ ∀ j u, j < zs → s[j]? = some u → okc j u) (fun zs => s.length - zs) (fun zs => [(0, str s), (3, .int .i64 (zs : Int))]) (fun zs => []) (fun zs => []) (0) ?_ ?_ ?_ ?_ ?_
   · show (0) ≤ s.length ∧ ∀ j u, j < (0) → s[j]? = some u → okc j u
     exact ⟨Nat.zero_le _, fun j u h => absurd h (by omega)⟩
   · exact ⟨rfl, rfl, trivial⟩
   · exact .refl _
   · exact fun _ h => absurd h List.not_mem_nil
   rintro k hinv
   have hinv : k ≤ s.length ∧ ∀ j u, j < k → s[j]? = some u → okc j u := hinv
   obtain ⟨hk, hc⟩ := hinv
   show Cont _ _ _ _ [(0, str s), (3, .int .i64 (k : Int))] ([]) []
   refine c_seq ?_
   refine c_seq ?_
   refine c_reg ?_
   refine l_q (by decide) (p_move rfl).q ?_
   refine l_q (by decide) (p_move rfl).q ?_
   refine l_q (by decide) (p_len_str Try.underlying9 rfl).q ?_
   refine l_q (by decide) (p_lss rfl rfl rfl rfl).q ?_
   refine l_nil ?_
   refine c_dec rfl (fun h17 => ?_) (fun h17 => ?_)
   ·skip
    obtain ⟨u, hu⟩ := at_some (l := s) (n := k) (by omega)
    have hu8 := UInt8.toNat_lt u
    refine c_skip ?_
    refine c_seq ?_
    refine c_block ?_
    refine c_seq ?_
    refine c_reg ?_
    refine l_q (by decide) (p_move rfl).q ?_
    refine l_q (by decide) (p_move rfl).q ?_
    refine l_q (by decide) (p_index_str Try.underlying9 rfl rfl rfl (by assumption)).q ?_
    refine l_q (by decide) (p_assign rfl).q ?_
    refine l_nil ?_
    refine c_seq ?_
    refine c_meetn (S := Unit) (fun zs => True) (fun zs => [(0, str s), (3, .int .i64 (k : Int)), (4, .int .u8 (u.toNat : Int)), (5, .bool (decide ((97 ≤ u.toNat ∧ u.toNat ≤ 122) ∨ (65 ≤ u.toNat ∧ u.toNat ≤ 90))))]) (fun zs => []) (fun zs => []) ?_ ?_
    ·skip
     refine c_reg ?_
     refine l_q (by decide) (p_move rfl).q ?_
     refine l_q (by decide) (p_geq (j := 97) rfl rfl rfl rfl).q ?_
     refine l_q (by decide) (p_move rfl).q ?_
     refine l_splitd (t := 25) rfl (fun h25 => ?_) (fun h25 => ?_)
     ·skip
      refine l_g (j := 2) rfl rfl (by decide) (p_move rfl).q ?_
      refine l_g (j := 2) rfl rfl (by decide) (p_leq (j := 122) rfl rfl rfl rfl).q ?_
      refine l_q (by decide) (p_pick rfl rfl).q ?_
      refine l_q (by decide) (p_move rfl).q ?_
      refine l_splitd (t := 29) rfl (fun h29 => ?_) (fun h29 => ?_)
      ·skip
       refine l_off (j := 6) rfl rfl (by (simp; done)) (by decide) ?_
       refine l_off (j := 6) rfl rfl (by (simp; done)) (by decide) ?_
       refine l_off (j := 6) rfl rfl (by (simp; done)) (by decide) ?_
       refine l_off (j := 9) rfl rfl (by (simp [undef]; done)) (by decide) ?_
       refine l_off (j := 9) rfl rfl (by (simp [undef]; done)) (by decide) ?_
       refine l_off (j := 6) rfl rfl (by (simp; done)) (by decide) ?_
       refine l_q (by decide) (p_pick rfl rfl).q ?_
       refine l_q (by decide) (p_assign rfl).q ?_
       refine l_nil ?_
       refine c_join (()) ?inv ?sub ?perm ?facts
       case sub => exact ⟨rfl, rfl, rfl, (by exact congrArg (fun b => some (Value.bool b)) (decide_eq_true (by omega)).symm), trivial⟩
       case perm =>
        exact .refl _
       case facts => exact fun _ h => h
       case inv =>
        trivial
      ·skip
       refine l_g (j := 6) rfl rfl (by decide) (p_move rfl).q ?_
       refine l_g (j := 6) rfl rfl (by decide) (p_geq (j := 65) rfl rfl rfl rfl).q ?_
       refine l_g (j := 6) rfl rfl (by decide) (p_move rfl).q ?_
       refine l_splitd (t := 32) rfl (fun h32 => ?_) (fun h32 => ?_)
       ·skip
        refine l_g (j := 9) rfl rfl (by decide) (p_move rfl).q ?_
        refine l_g (j := 9) rfl rfl (by decide) (p_leq (j := 90) rfl rfl rfl rfl).q ?_
        refine l_g (j := 6) rfl rfl (by decide) (p_pick rfl rfl).q ?_
        refine l_q (by decide) (p_pick rfl rfl).q ?_
        refine l_q (by decide) (p_assign rfl).q ?_
        refine l_nil ?_
        refine c_join (()) ?inv ?sub ?perm ?facts
        case sub => exact ⟨rfl, rfl, rfl, (by exact congrArg (fun b => some (Value.bool b)) (decide_eq_decide.2 (by omega))), trivial⟩
        case perm =>
         exact .refl _
        case facts => exact fun _ h => h
        case inv =>
         trivial
       ·skip
        refine l_off (j := 9) rfl rfl (by (simp; done)) (by decide) ?_
        refine l_off (j := 9) rfl rfl (by (simp; done)) (by decide) ?_
        refine l_g (j := 6) rfl rfl (by decide) (p_pick rfl rfl).q ?_
        refine l_q (by decide) (p_pick rfl rfl).q ?_
        refine l_q (by decide) (p_assign rfl).q ?_
        refine l_nil ?_
        refine c_join (()) ?inv ?sub ?perm ?facts
        case sub => exact ⟨rfl, rfl, rfl, (by exact congrArg (fun b => some (Value.bool b)) (decide_eq_false (by omega)).symm), trivial⟩
        case perm =>
         exact .refl _
        case facts => exact fun _ h => h
        case inv =>
         trivial
     ·skip
      refine l_off (j := 2) rfl rfl (by (simp; done)) (by decide) ?_
      refine l_off (j := 2) rfl rfl (by (simp; done)) (by decide) ?_
      refine l_q (by decide) (p_pick rfl rfl).q ?_
      refine l_q (by decide) (p_move rfl).q ?_
      refine l_g (j := 6) rfl rfl (by decide) (p_move rfl).q ?_
      refine l_g (j := 6) rfl rfl (by decide) (p_geq (j := 65) rfl rfl rfl rfl).q ?_
      refine l_g (j := 6) rfl rfl (by decide) (p_move rfl).q ?_
      refine l_splitd (t := 32) rfl (fun h32 => ?_) (fun h32 => ?_)
      ·skip
       refine l_g (j := 9) rfl rfl (by decide) (p_move rfl).q ?_
       refine l_g (j := 9) rfl rfl (by decide) (p_leq (j := 90) rfl rfl rfl rfl).q ?_
       refine l_g (j := 6) rfl rfl (by decide) (p_pick rfl rfl).q ?_
       refine l_q (by decide) (p_pick rfl rfl).q ?_
       refine l_q (by decide) (p_assign rfl).q ?_
       refine l_nil ?_
       refine c_join (()) ?inv ?sub ?perm ?facts
       case sub => exact ⟨rfl, rfl, rfl, (by exact congrArg (fun b => some (Value.bool b)) (decide_eq_decide.2 (by omega))), trivial⟩
       case perm =>
        exact .refl _
       case facts => exact fun _ h => h
       case inv =>
        trivial
      ·skip
       refine l_off (j := 9) rfl rfl (by (simp; done)) (by decide) ?_
       refine l_off (j := 9) rfl rfl (by (simp; done)) (by decide) ?_
       refine l_g (j := 6) rfl rfl (by decide) (p_pick rfl rfl).q ?_
       refine l_q (by decide) (p_pick rfl rfl).q ?_
       refine l_q (by decide) (p_assign rfl).q ?_
       refine l_nil ?_
       refine c_join (()) ?inv ?sub ?perm ?facts
       case sub => exact ⟨rfl, rfl, rfl, (by exact congrArg (fun b => some (Value.bool b)) (decide_eq_false (by omega)).symm), trivial⟩
       case perm =>
        exact .refl _
       case facts => exact fun _ h => h
       case inv =>
        trivial
    rintro uu hmeet
    show Cont _ _ _ _ [(0, str s), (3, .int .i64 (k : Int)), (4, .int .u8 (u.toNat : Int)), (5, .bool (decide ((97 ≤ u.toNat ∧ u.toNat ≤ 122) ∨ (65 ≤ u.toNat ∧ u.toNat ≤ 90))))] ([]) []
    refine c_seq ?_
    refine c_meetn (S := Unit) (fun zs => True) (fun zs => [(0, str s), (3, .int .i64 (k : Int)), (63, .bool (decide (¬ ((97 ≤ u.toNat ∧ u.toNat ≤ 122) ∨ (65 ≤ u.toNat ∧ u.toNat ≤ 90)) ∧ (k = 0 ∨ ¬ (((((48 ≤ u.toNat ∧ u.toNat ≤ 57) ∨ u.toNat = 95) ∨ u.toNat = 46) ∨ u.toNat = 64))))))]) (fun zs => []) (fun zs => []) ?_ ?_
    ·skip
     refine c_reg ?_
     refine l_q (by decide) (p_move rfl).q ?_
     refine l_q (by decide) (p_notd rfl).q ?_
     refine l_q (by decide) (p_move rfl).q ?_
     refine l_splitd (t := 39) rfl (fun h39 => ?_) (fun h39 => ?_)
     ·skip
      refine l_g (j := 2) rfl rfl (by decide) (p_move rfl).q ?_
      refine l_g (j := 2) rfl rfl (by decide) (p_eql (j := 0) rfl rfl rfl rfl).q ?_
      refine l_g (j := 2) rfl rfl (by decide) (p_move rfl).q ?_
      refine l_splitd (t := 42) rfl (fun h42 => ?_) (fun h42 => ?_)
      ·skip
       refine l_off (j := 5) rfl rfl (by (simp; done)) (by decide) ?_
       refine l_off (j := 5) rfl rfl (by (simp; done)) (by decide) ?_
       refine l_off (j := 5) rfl rfl (by (simp; done)) (by decide) ?_
       refine l_off (j := 8) rfl rfl (by (simp [undef]; done)) (by decide) ?_
       refine l_off (j := 8) rfl rfl (by (simp [undef]; done)) (by decide) ?_
       refine l_off (j := 5) rfl rfl (by (simp; done)) (by decide) ?_
       refine l_off (j := 5) rfl rfl (by (simp; done)) (by decide) ?_
       refine l_off (j := 12) rfl rfl (by (simp [undef]; done)) (by decide) ?_
       refine l_off (j := 12) rfl rfl (by (simp [undef]; done)) (by decide) ?_
       refine l_off (j := 5) rfl rfl (by (simp; done)) (by decide) ?_
       refine l_off (j := 5) rfl rfl (by (simp; done)) (by decide) ?_
       refine l_off (j := 16) rfl rfl (by (simp [undef]; done)) (by decide) ?_
       refine l_off (j := 16) rfl rfl (by (simp [undef]; done)) (by decide) ?_
       refine l_off (j := 5) rfl rfl (by (simp; done)) (by decide) ?_
       refine l_off (j := 5) rfl rfl (by (simp; done)) (by decide) ?_
       refine l_off (j := 20) rfl rfl (by (simp [undef]; done)) (by decide) ?_
       refine l_off (j := 20) rfl rfl (by (simp [undef]; done)) (by decide) ?_
       refine l_off (j := 5) rfl rfl (by (simp; done)) (by decide) ?_
       refine l_off (j := 5) rfl rfl (by (simp; done)) (by decide) ?_
       refine l_g (j := 2) rfl rfl (by decide) (p_pick rfl rfl).q ?_
       refine l_q (by decide) (p_pick rfl rfl).q ?_
       refine l_nil ?_
       refine c_join (()) ?inv ?sub ?perm ?facts
       case sub => exact ⟨rfl, rfl, (by exact congrArg (fun b => some (Value.bool b)) (decide_eq_true (by omega)).symm), trivial⟩
       case perm =>
        exact .refl _
       case facts => exact fun _ h => h
       case inv =>
        trivial
      ·skip
       refine l_g (j := 5) rfl rfl (by decide) (p_move rfl).q ?_
       refine l_g (j := 5) rfl rfl (by decide) (p_geq (j := 48) rfl rfl rfl rfl).q ?_
       refine l_g (j := 5) rfl rfl (by decide) (p_move rfl).q ?_
       refine l_splitd (t := 45) rfl (fun h45 => ?_) (fun h45 => ?_)
       ·skip
        refine l_g (j := 8) rfl rfl (by decide) (p_move rfl).q ?_
        refine l_g (j := 8) rfl rfl (by decide) (p_leq (j := 57) rfl rfl rfl rfl).q ?_
        refine l_g (j := 5) rfl rfl (by decide) (p_pick rfl rfl).q ?_
        refine l_g (j := 5) rfl rfl (by decide) (p_move rfl).q ?_
        refine l_splitd (t := 49) rfl (fun h49 => ?_) (fun h49 => ?_)
        ·skip
         refine l_off (j := 12) rfl rfl (by (simp; done)) (by decide) ?_
         refine l_off (j := 12) rfl rfl (by (simp; done)) (by decide) ?_
         refine l_g (j := 5) rfl rfl (by decide) (p_pick rfl rfl).q ?_
         refine l_g (j := 5) rfl rfl (by decide) (p_move rfl).q ?_
         refine l_off (j := 16) rfl rfl (by (simp; done)) (by decide) ?_
         refine l_off (j := 16) rfl rfl (by (simp; done)) (by decide) ?_
         refine l_g (j := 5) rfl rfl (by decide) (p_pick rfl rfl).q ?_
         refine l_g (j := 5) rfl rfl (by decide) (p_move rfl).q ?_
         refine l_off (j := 20) rfl rfl (by (simp; done)) (by decide) ?_
         refine l_off (j := 20) rfl rfl (by (simp; done)) (by decide) ?_
         refine l_g (j := 5) rfl rfl (by decide) (p_pick rfl rfl).q ?_
         refine l_g (j := 5) rfl rfl (by decide) (p_not rfl).q ?_
         refine l_g (j := 2) rfl rfl (by decide) (p_pick rfl rfl).q ?_
         refine l_q (by decide) (p_pick rfl rfl).q ?_
         refine l_nil ?_
         refine c_join (()) ?inv ?sub ?perm ?facts
         case sub => exact ⟨rfl, rfl, (by exact congrArg (fun b => some (Value.bool b)) (decide_eq_false (by omega)).symm), trivial⟩
         case perm =>
          exact .refl _
         case facts => exact fun _ h => h
         case inv =>
          trivial
        ·skip
         refine l_g (j := 12) rfl rfl (by decide) (p_move rfl).q ?_
         refine l_g (j := 12) rfl rfl (by decide) (p_eql (j := 95) rfl rfl rfl rfl).q ?_
         refine l_g (j := 5) rfl rfl (by decide) (p_pick rfl rfl).q ?_
         refine l_g (j := 5) rfl rfl (by decide) (p_move rfl).q ?_
         refine l_splitd (t := 53) rfl (fun h53 => ?_) (fun h53 => ?_)
         ·skip
          refine l_off (j := 16) rfl rfl (by (simp; done)) (by decide) ?_
          refine l_off (j := 16) rfl rfl (by (simp; done)) (by decide) ?_
          refine l_g (j := 5) rfl rfl (by decide) (p_pick rfl rfl).q ?_
          refine l_g (j := 5) rfl rfl (by decide) (p_move rfl).q ?_
          refine l_off (j := 20) rfl rfl (by (simp; done)) (by decide) ?_
          refine l_off (j := 20) rfl rfl (by (simp; done)) (by decide) ?_
          refine l_g (j := 5) rfl rfl (by decide) (p_pick rfl rfl).q ?_
          refine l_g (j := 5) rfl rfl (by decide) (p_not rfl).q ?_
          refine l_g (j := 2) rfl rfl (by decide) (p_pick rfl rfl).q ?_
          refine l_q (by decide) (p_pick rfl rfl).q ?_
          refine l_nil ?_
          refine c_join (()) ?inv ?sub ?perm ?facts
          case sub => exact ⟨rfl, rfl, (by exact congrArg (fun b => some (Value.bool b)) (decide_eq_false (by omega)).symm), trivial⟩
          case perm =>
           exact .refl _
          case facts => exact fun _ h => h
          case inv =>
           trivial
         ·skip
          refine l_g (j := 16) rfl rfl (by decide) (p_move rfl).q ?_
          refine l_g (j := 16) rfl rfl (by decide) (p_eql (j := 46) rfl rfl rfl rfl).q ?_
          refine l_g (j := 5) rfl rfl (by decide) (p_pick rfl rfl).q ?_
          refine l_g (j := 5) rfl rfl (by decide) (p_move rfl).q ?_
          refine l_splitd (t := 57) rfl (fun h57 => ?_) (fun h57 => ?_)
          ·skip
           refine l_off (j := 20) rfl rfl (by (simp; done)) (by decide) ?_
           refine l_off (j := 20) rfl rfl (by (simp; done)) (by decide) ?_
           refine l_g (j := 5) rfl rfl (by decide) (p_pick rfl rfl).q ?_
           refine l_g (j := 5) rfl rfl (by decide) (p_not rfl).q ?_
           refine l_g (j := 2) rfl rfl (by decide) (p_pick rfl rfl).q ?_
           refine l_q (by decide) (p_pick rfl rfl).q ?_
           refine l_nil ?_
           refine c_join (()) ?inv ?sub ?perm ?facts
           case sub => exact ⟨rfl, rfl, (by exact congrArg (fun b => some (Value.bool b)) (decide_eq_false (by omega)).symm), trivial⟩
           case perm =>
            exact .refl _
           case facts => exact fun _ h => h
           case inv =>
            trivial
          ·skip
           refine l_g (j := 20) rfl rfl (by decide) (p_move rfl).q ?_
           refine l_g (j := 20) rfl rfl (by decide) (p_eql (j := 64) rfl rfl rfl rfl).q ?_
           refine l_g (j := 5) rfl rfl (by decide) (p_pick rfl rfl).q ?_
           refine l_g (j := 5) rfl rfl (by decide) (p_notd rfl).q ?_
           refine l_g (j := 2) rfl rfl (by decide) (p_pick rfl rfl).q ?_
           refine l_q (by decide) (p_pick rfl rfl).q ?_
           refine l_nil ?_
           refine c_join (()) ?inv ?sub ?perm ?facts
           case sub => exact ⟨rfl, rfl, (by exact congrArg (fun b => some (Value.bool b)) (decide_eq_decide.2 (by omega))), trivial⟩
           case perm =>
            exact .refl _
           case facts => exact fun _ h => h
           case inv =>
            trivial
       ·skip
        refine l_off (j := 8) rfl rfl (by (simp; done)) (by decide) ?_
        refine l_off (j := 8) rfl rfl (by (simp; done)) (by decide) ?_
        refine l_g (j := 5) rfl rfl (by decide) (p_pick rfl rfl).q ?_
        refine l_g (j := 5) rfl rfl (by decide) (p_move rfl).q ?_
        refine l_g (j := 12) rfl rfl (by decide) (p_move rfl).q ?_
        refine l_g (j := 12) rfl rfl (by decide) (p_eql (j := 95) rfl rfl rfl rfl).q ?_
        refine l_g (j := 5) rfl rfl (by decide) (p_pick rfl rfl).q ?_
        refine l_g (j := 5) rfl rfl (by decide) (p_move rfl).q ?_
        refine l_splitd (t := 53) rfl (fun h53 => ?_) (fun h53 => ?_)
        ·skip
         refine l_off (j := 16) rfl rfl (by (simp; done)) (by decide) ?_
         refine l_off (j := 16) rfl rfl (by (simp; done)) (by decide) ?_
         refine l_g (j := 5) rfl rfl (by decide) (p_pick rfl rfl).q ?_
         refine l_g (j := 5) rfl rfl (by decide) (p_move rfl).q ?_
         refine l_off (j := 20) rfl rfl (by (simp; done)) (by decide) ?_
         refine l_off (j := 20) rfl rfl (by (simp; done)) (by decide) ?_
         refine l_g (j := 5) rfl rfl (by decide) (p_pick rfl rfl).q ?_
         refine l_g (j := 5) rfl rfl (by decide) (p_not rfl).q ?_
         refine l_g (j := 2) rfl rfl (by decide) (p_pick rfl rfl).q ?_
         refine l_q (by decide) (p_pick rfl rfl).q ?_
         refine l_nil ?_
         refine c_join (()) ?inv ?sub ?perm ?facts
         case sub => exact ⟨rfl, rfl, (by exact congrArg (fun b => some (Value.bool b)) (decide_eq_false (by omega)).symm), trivial⟩
         case perm =>
          exact .refl _
         case facts => exact fun _ h => h
         case inv =>
          trivial
        ·skip
         refine l_g (j := 16) rfl rfl (by decide) (p_move rfl).q ?_
         refine l_g (j := 16) rfl rfl (by decide) (p_eql (j := 46) rfl rfl rfl rfl).q ?_
         refine l_g (j := 5) rfl rfl (by decide) (p_pick rfl rfl).q ?_
         refine l_g (j := 5) rfl rfl (by decide) (p_move rfl).q ?_
         refine l_splitd (t := 57) rfl (fun h57 => ?_) (fun h57 => ?_)
         ·skip
          refine l_off (j := 20) rfl rfl (by (simp; done)) (by decide) ?_
          refine l_off (j := 20) rfl rfl (by (simp; done)) (by decide) ?_
          refine l_g (j := 5) rfl rfl (by decide) (p_pick rfl rfl).q ?_
          refine l_g (j := 5) rfl rfl (by decide) (p_not rfl).q ?_
          refine l_g (j := 2) rfl rfl (by decide) (p_pick rfl rfl).q ?_
          refine l_q (by decide) (p_pick rfl rfl).q ?_
          refine l_nil ?_
          refine c_join (()) ?inv ?sub ?perm ?facts
          case sub => exact ⟨rfl, rfl, (by exact congrArg (fun b => some (Value.bool b)) (decide_eq_false (by omega)).symm), trivial⟩
          case perm =>
           exact .refl _
          case facts => exact fun _ h => h
          case inv =>
           trivial
         ·skip
          refine l_g (j := 20) rfl rfl (by decide) (p_move rfl).q ?_
          refine l_g (j := 20) rfl rfl (by decide) (p_eql (j := 64) rfl rfl rfl rfl).q ?_
          refine l_g (j := 5) rfl rfl (by decide) (p_pick rfl rfl).q ?_
          refine l_g (j := 5) rfl rfl (by decide) (p_notd rfl).q ?_
          refine l_g (j := 2) rfl rfl (by decide) (p_pick rfl rfl).q ?_
          refine l_q (by decide) (p_pick rfl rfl).q ?_
          refine l_nil ?_
          refine c_join (()) ?inv ?sub ?perm ?facts
          case sub => exact ⟨rfl, rfl, (by exact congrArg (fun b => some (Value.bool b)) (decide_eq_decide.2 (by omega))), trivial⟩
          case perm =>
           exact .refl _
          case facts => exact fun _ h => h
          case inv =>
           trivial
     ·skip
      refine l_off (j := 2) rfl rfl (by (simp; done)) (by decide) ?_
      refine l_off (j := 2) rfl rfl (by (simp; done)) (by decide) ?_
      refine l_off (j := 2) rfl rfl (by (simp; done)) (by decide) ?_
      refine l_off (j := 5) rfl rfl (by (simp [undef]; done)) (by decide) ?_
      refine l_off (j := 5) rfl rfl (by (simp [undef]; done)) (by decide) ?_
      refine l_off (j := 5) rfl rfl (by (simp [undef]; done)) (by decide) ?_
      refine l_off (j := 8) rfl rfl (by (simp [undef]; done)) (by decide) ?_
      refine l_off (j := 8) rfl rfl (by (simp [undef]; done)) (by decide) ?_
      refine l_off (j := 5) rfl rfl (by (simp [undef]; done)) (by decide) ?_
      refine l_off (j := 5) rfl rfl (by (simp [undef]; done)) (by decide) ?_
      refine l_off (j := 12) rfl rfl (by (simp [undef]; done)) (by decide) ?_
      refine l_off (j := 12) rfl rfl (by (simp [undef]; done)) (by decide) ?_
      refine l_off (j := 5) rfl rfl (by (simp [undef]; done)) (by decide) ?_
      refine l_off (j := 5) rfl rfl (by (simp [undef]; done)) (by decide) ?_
      refine l_off (j := 16) rfl rfl (by (simp [undef]; done)) (by decide) ?_
      refine l_off (j := 16) rfl rfl (by (simp [undef]; done)) (by decide) ?_
      refine l_off (j := 5) rfl rfl (by (simp [undef]; done)) (by decide) ?_
      refine l_off (j := 5) rfl rfl (by (simp [undef]; done)) (by decide) ?_
      refine l_off (j := 20) rfl rfl (by (simp [undef]; done)) (by decide) ?_
      refine l_off (j := 20) rfl rfl (by (simp [undef]; done)) (by decide) ?_
      refine l_off (j := 5) rfl rfl (by (simp [undef]; done)) (by decide) ?_
      refine l_off (j := 5) rfl rfl (by (simp [undef]; done)) (by decide) ?_
      refine l_off (j := 2) rfl rfl (by (simp; done)) (by decide) ?_
      refine l_q (by decide) (p_pick rfl rfl).q ?_
      refine l_nil ?_
      refine c_join (()) ?inv ?sub ?perm ?facts
      case sub => exact ⟨rfl, rfl, (by exact congrArg (fun b => some (Value.bool b)) (decide_eq_false (by omega)).symm), trivial⟩
      case perm =>
       exact .refl _
      case facts => exact fun _ h => h
      case inv =>
       trivial
    rintro uu hmeet
    show Cont _ _ _ _ [(0, str s), (3, .int .i64 (k : Int)), (63, .bool (decide (¬ ((97 ≤ u.toNat ∧ u.toNat ≤ 122) ∨ (65 ≤ u.toNat ∧ u.toNat ≤ 90)) ∧ (k = 0 ∨ ¬ (((((48 ≤ u.toNat ∧ u.toNat ≤ 57) ∨ u.toNat = 95) ∨ u.toNat = 46) ∨ u.toNat = 64))))))] ([]) []
    refine c_dec rfl (fun h63 => ?_) (fun h63 => ?_)
    ·skip
     refine c_seq ?_
     refine c_reg ?_
     refine l_q (by decide) (p_assign rfl).q ?_
     refine l_nil ?_
     refine c_ret ?_
     refine c_ret1 rfl rfl (fun w hs => ?_)
     exact ⟨by rw [show nameB s = false from Ana.dec_false (fun h => h.c k u hu h63)], hs.ext⟩
    ·skip
     refine c_skip ?_
     refine c_reg ?_
     refine l_q (by decide) (p_move rfl).q ?_
     refine l_q (by decide) (p_add (j := 1) rfl rfl rfl rfl (by show _ ≤ (9223372036854775807 : Nat); omega)).q ?_
     refine l_q (by decide) (p_assign rfl).q ?_
     refine l_nil ?_
     refine c_join ((k + 1)) ?_ ?_ ?_ ?_
     ·show ((k + 1) ≤ s.length ∧ ∀ j u, j < (k + 1) → s[j]? = some u → okc j u) ∧ s.length - (k + 1) < s.length - k
      refine ⟨⟨by omega, fun j v hj hv => ?_⟩, by omega⟩
      by_cases e : j = k
      · subst e; rw [hu] at hv; injection hv with hv; subst hv; exact h63
      · exact hc j v (by omega) hv
     · exact ⟨rfl, rfl, trivial⟩
     ·show List.Perm _ ([])
      exact .refl _
     · exact fun _ h => absurd h List.not_mem_nil
   ·skip
    refine c_exit ?_
    refine c_here ?_
    refine c_seq ?_
    refine c_reg ?_
    refine l_q (by decide) (p_assign rfl).q ?_
    refine l_nil ?_
    refine c_ret ?_
    refine c_ret1 rfl rfl (fun w hs => ?_)
    exact ⟨by rw [show nameB s = true from Ana.dec_true ⟨by omega, by omega, fun j u h => hc j u (by have := (List.getElem?_eq_some_iff.1 h).1; omega) h⟩], hs.ext⟩

theorem names_eq (A B : Option Addr) (c d : Nat) (l m : List (List UInt8)) (hl : l.length ≤ 120) (hm : m.length ≤ 120) (w : World) (hq : Sl 1 strF A l w) (hp : Sl 1 strF B m w) :
   Calls Try.prog 32 #[.slice A l.length c, .slice B m.length d] w (Ret fun v w' => v = .bool (namesB (l ++ m)) ∧ Ext [] w w') := by
 refine calls_fx (l := [.slice A l.length c, .slice B m.length d]) Try.func32 rfl Try.ntmps32 (Nat.le_of_ble_eq_true rfl) (Holds.two hq (dep_sl (by decide) hq) hp (dep_sl (by decide) hp)) ?_
 refine c_seq ?_
 refine c_reg ?_
 refine l_q (by decide) (p_assign rfl).q ?_
 refine l_nil ?_
 refine c_seq ?_
 refine c_reg ?_
 refine l_q (by decide) (p_assign rfl).q ?_
 refine l_nil ?_
 refine c_seq ?_
 refine c_reg ?_
 refine l_q (by decide) (p_move rfl).q ?_
 refine l_q (by decide) (p_move rfl).q ?_
 refine l_sl0 9 1 strF ?_
 refine l_appendsl (f := strF) l (by decide) Try.underlying22 inf_9 rfl (by decide) rfl rfl rfl rfl (by repeat constructor) (fun e u h => by rw [List.mem_singleton.1 h]; rfl) (by simp only [List.length_nil]; omega) (by simp only [List.length_nil]; omega) (fun A10 c10 => ?_)
 refine l_q (by decide) (p_assign rfl).q ?_
 refine l_nil ?_
 refine c_seq ?_
 refine c_reg ?_
 refine l_q (by decide) (p_move rfl).q ?_
 refine l_q (by decide) (p_move rfl).q ?_
 refine l_appendsl (f := strF) m (by decide) Try.underlying22 inf_9 rfl (by decide) rfl rfl rfl rfl (by repeat constructor) (fun e u h => by rw [List.mem_singleton.1 h]; rfl) (by simp only [List.length_append, List.length_nil]; omega) (by simp only [List.length_append, List.length_nil]; omega) (fun A13 c13 => ?_)
 refine l_q (by decide) (p_assign rfl).q ?_
 refine l_nil ?_
 refine c_seq ?_
 refine c_seq ?_
 refine c_reg ?_
 refine l_q (by decide) (p_assign (v := .int .i64 ((0 : Nat) : Int)) rfl).q ?_
 refine l_nil ?_
 refine c_block ?_
 refine c_loop (S := Nat) (fun zs => zs ≤ (([] ++ l) ++ m).length ∧ ∀ i s, i < zs → (([] ++ l) ++ m)[i]? = some s → nameB s = true ∧ ∀ j t, j < i → (([] ++ l) ++ m)[j]? = some t → t ≠ s) (fun zs => (([] ++ l) ++ m).length - zs) (fun zs => [(5, .slice A13 ((([] ++ l) ++ m)).length c13), (6, .int .i64 (zs : Int))]) (fun zs => [iSl 9 1 strF A13 c13 (([] ++ l) ++ m)]) (fun zs => [Sl 1 strF A l, Sl 1 strF B m]) (0) ?_ ?_ ?_ ?_ ?_
 · show (0) ≤ (([] ++ l) ++ m).length ∧ ∀ i s, i < (0) → (([] ++ l) ++ m)[i]? = some s → nameB s = true ∧ ∀ j t, j < i → (([] ++ l) ++ m)[j]? = some t → t ≠ s
   exact ⟨Nat.zero_le _, fun i s h => absurd h (by omega)⟩
 · exact ⟨rfl, rfl, trivial⟩
 · exact .refl _
 · exact fun _ h => h
 rintro k hinv
 have hinv : k ≤ (([] ++ l) ++ m).length ∧ ∀ i s, i < k → (([] ++ l) ++ m)[i]? = some s → nameB s = true ∧ ∀ j t, j < i → (([] ++ l) ++ m)[j]? = some t → t ≠ s := hinv
 obtain ⟨hk, hn⟩ := hinv
 show Cont _ _ _ _ [(5, .slice A13 ((([] ++ l) ++ m)).length c13), (6, .int .i64 (k : Int))] ([iSl 9 1 strF A13 c13 (([] ++ l) ++ m)]) [Sl 1 strF A l, Sl 1 strF B m]
 refine c_seq ?_
 refine c_seq ?_
 refine c_reg ?_
 refine l_q (by decide) (p_move rfl).q ?_
 refine l_q (by decide) (p_move rfl).q ?_
 refine l_q (by decide) (p_len_sl Try.underlying22 rfl).q ?_
 refine l_q (by decide) (p_lss rfl rfl rfl rfl).q ?_
 refine l_nil ?_
 refine c_dec rfl (fun h17 => ?_) (fun h17 => ?_)
 ·skip
  obtain ⟨u, hu⟩ := at_some (l := ([] ++ l) ++ m) (n := k) (by omega)
  have hkl : (([] ++ l) ++ m).length = l.length + m.length := by simp only [List.length_append, List.length_nil]; omega
  refine c_skip ?_
  refine c_seq ?_
  refine c_block ?_
  refine c_seq ?_
  refine c_seq ?_
  refine c_reg ?_
  refine l_q (by decide) (p_move rfl).q ?_
  refine l_q (by decide) (p_move rfl).q ?_
  refine l_q (by decide) (r_index Try.underlying22 inf_9 rfl rfl rfl (by exact .own (by repeat constructor) (by decide) (fun _ => rfl)) rfl (by omega)).q ?_
  refine l_q (by decide) (r_load1 Try.underlying9 rfl rfl (by exact .own (by repeat constructor) (by decide) (fun _ => rfl)) (by assumption) (by rfl)).q ?_
  refine l_q (by decide) (q_call call_41 rfl (fun w hs => name_eq u w)) ?_
  refine l_q (by decide) (p_not rfl).q ?_
  refine l_nil ?_
  refine c_cond rfl (fun h25 => ?_) (fun h25 => ?_)
  ·skip
   refine c_seq ?_
   refine c_reg ?_
   refine l_q (by decide) (p_assign rfl).q ?_
   refine l_nil ?_
   refine c_ret ?_
   refine c_ret1 rfl rfl (fun w hs => ?_)
   exact ⟨by rw [show namesB (l ++ m) = false from Ana.dec_false (fun h => by have := (h k u hu).1; simp [this] at h25)], hs.ext⟩
  ·skip
   refine c_skip ?_
   refine c_seq ?_
   refine c_reg ?_
   refine l_q (by decide) (p_assign (v := .int .i64 ((0 : Nat) : Int)) rfl).q ?_
   refine l_nil ?_
   refine c_block ?_
   refine c_loop (S := Nat) (fun zs => zs ≤ k ∧ ∀ i t, i < zs → (([] ++ l) ++ m)[i]? = some t → t ≠ u) (fun zs => k - zs) (fun zs => [(5, .slice A13 ((([] ++ l) ++ m)).length c13), (6, .int .i64 (k : Int)), (7, .int .i64 (zs : Int))]) (fun zs => [iSl 9 1 strF A13 c13 (([] ++ l) ++ m)]) (fun zs => [Sl 1 strF A l, Sl 1 strF B m]) (0) ?_ ?_ ?_ ?_ ?_
   · show (0) ≤ k ∧ ∀ i t, i < (0) → (([] ++ l) ++ m)[i]? = some t → t ≠ u
     exact ⟨Nat.zero_le _, fun i t h => absurd h (by omega)⟩
   · exact ⟨rfl, rfl, rfl, trivial⟩
   · exact .refl _
   · exact fun _ h => h
   rintro j hinv
   have hinv : j ≤ k ∧ ∀ i t, i < j → (([] ++ l) ++ m)[i]? = some t → t ≠ u := hinv
   obtain ⟨hj, hd⟩ := hinv
   show Cont _ _ _ _ [(5, .slice A13 ((([] ++ l) ++ m)).length c13), (6, .int .i64 (k : Int)), (7, .int .i64 (j : Int))] ([iSl 9 1 strF A13 c13 (([] ++ l) ++ m)]) [Sl 1 strF A l, Sl 1 strF B m]
   refine c_seq ?_
   refine c_seq ?_
   refine c_reg ?_
   refine l_q (by decide) (p_move rfl).q ?_
   refine l_q (by decide) (p_move rfl).q ?_
   refine l_q (by decide) (p_lss rfl rfl rfl rfl).q ?_
   refine l_nil ?_
   refine c_dec rfl (fun h28 => ?_) (fun h28 => ?_)
   ·skip
    obtain ⟨u2, hu2⟩ := at_some (l := ([] ++ l) ++ m) (n := j) (by omega)
    refine c_skip ?_
    refine c_seq ?_
    refine c_block ?_
    refine c_seq ?_
    refine c_draw mixed (by decide +kernel) ?_
    refine q_q (by decide) (p_move rfl).q ?_
    refine q_q (by decide) (p_move rfl).q ?_
    refine q_q (by decide) (r_index Try.underlying22 inf_9 rfl rfl rfl (by exact .own (by repeat constructor) (by decide) (fun _ => rfl)) rfl (by omega)).q ?_
    refine q_q (by decide) (r_load1 Try.underlying9 rfl rfl (by exact .own (by repeat constructor) (by decide) (fun _ => rfl)) (by assumption) (by rfl)).q ?_
    refine q_q (by decide) (p_move rfl).q ?_
    refine q_q (by decide) (p_move rfl).q ?_
    refine q_q (by decide) (r_index Try.underlying22 inf_9 rfl rfl rfl (by exact .own (by repeat constructor) (by decide) (fun _ => rfl)) rfl (by omega)).q ?_
    refine q_q (by decide) (r_load1 Try.underlying9 rfl rfl (by exact .own (by repeat constructor) (by decide) (fun _ => rfl)) (by assumption) (by rfl)).q ?_
    refine q_q (by decide) (p_eqs rfl rfl).q ?_
    refine q_nil ?_
    refine c_dec rfl (fun h39 => ?_) (fun h39 => ?_)
    ·skip
     refine c_seq ?_
     refine c_reg ?_
     refine l_q (by decide) (p_assign rfl).q ?_
     refine l_nil ?_
     refine c_ret ?_
     refine c_ret1 rfl rfl (fun w hs => ?_)
     exact ⟨by rw [show namesB (l ++ m) = false from Ana.dec_false (fun h => (h k u hu).2 j u2 (by omega) hu2 (by simpa using h39))], hs.ext⟩
    ·skip
     refine c_skip ?_
     refine c_reg ?_
     refine l_q (by decide) (p_move rfl).q ?_
     refine l_q (by decide) (p_add (j := 1) rfl rfl rfl rfl (by show _ ≤ (9223372036854775807 : Nat); omega)).q ?_
     refine l_q (by decide) (p_assign rfl).q ?_
     refine l_nil ?_
     refine c_join ((j + 1)) ?_ ?_ ?_ ?_
     ·show ((j + 1) ≤ k ∧ ∀ i t, i < (j + 1) → (([] ++ l) ++ m)[i]? = some t → t ≠ u) ∧ k - (j + 1) < k - j
      refine ⟨⟨by omega, fun i t hi ht => ?_⟩, by omega⟩
      by_cases e : i = j
      · subst e; rw [hu2] at ht; injection ht with ht; subst ht; simpa using h39
      · exact hd i t (by omega) ht
     · exact ⟨rfl, rfl, rfl, trivial⟩
     ·show List.Perm _ ([iSl 9 1 strF A13 c13 (([] ++ l) ++ m)])
      exact .refl _
     · exact fun _ h => h
   ·skip
    refine c_exit ?_
    refine c_here ?_
    refine c_reg ?_
    refine l_q (by decide) (p_move rfl).q ?_
    refine l_q (by decide) (p_add (j := 1) rfl rfl rfl rfl (by show _ ≤ (9223372036854775807 : Nat); omega)).q ?_
    refine l_q (by decide) (p_assign rfl).q ?_
    refine l_nil ?_
    refine c_join ((k + 1)) ?_ ?_ ?_ ?_
    ·show ((k + 1) ≤ (([] ++ l) ++ m).length ∧ ∀ i s, i < (k + 1) → (([] ++ l) ++ m)[i]? = some s → nameB s = true ∧ ∀ j t, j < i → (([] ++ l) ++ m)[j]? = some t → t ≠ s) ∧ (([] ++ l) ++ m).length - (k + 1) < (([] ++ l) ++ m).length - k
     refine ⟨⟨by omega, fun i s hi hs2 => ?_⟩, by omega⟩
     by_cases e : i = k
     · subst e; rw [hu] at hs2; injection hs2 with hs2; subst hs2; exact ⟨by simpa using h25, fun j t hj => hd j t (by omega)⟩
     · exact hn i s (by omega) hs2
    · exact ⟨rfl, rfl, trivial⟩
    ·show List.Perm _ ([iSl 9 1 strF A13 c13 (([] ++ l) ++ m)])
     exact .refl _
    · exact fun _ h => h
 ·skip
  refine c_exit ?_
  refine c_here ?_
  refine c_seq ?_
  refine c_reg ?_
  refine l_q (by decide) (p_assign rfl).q ?_
  refine l_nil ?_
  refine c_ret ?_
  refine c_ret1 rfl rfl (fun w hs => ?_)
  exact ⟨by rw [show namesB (l ++ m) = true from Ana.dec_true (fun k s hk => hn k s (by have := (List.getElem?_eq_some_iff.1 hk).1; have e : l ++ m = ([] ++ l) ++ m := rfl; rw [e] at this; omega) hk)], hs.ext⟩

theorem valid_eq (X : GI) (hX : X.small) (w : World) (hM : X.mem w) :
   Calls Try.prog 22 #[.agg #[.slice X.At X.terms.length X.ct, .slice X.An X.nts.length X.cn, .int .i64 X.start, .slice X.Ar X.xs.length X.cr]] w (Ret fun v w' => v = .bool (validB X) ∧ Ext [] w w') := by
 refine calls_fx (l := [.agg #[.slice X.At X.terms.length X.ct, .slice X.An X.nts.length X.cn, .int .i64 X.start, .slice X.Ar X.xs.length X.cr]]) Try.func22 rfl Try.ntmps22 (Nat.le_of_ble_eq_true rfl) (X.begin hM) ?_
 refine c_seq ?_
 refine c_reg ?_
 refine l_box (by decide) rfl _ rfl (fun b1 => ?_)
 refine l_q (by decide) (p_assign rfl).q ?_
 refine l_nil ?_
 refine c_seq ?_
 refine c_seq ?_
 refine c_meetn (S := Unit) (fun zs => True) (fun zs => [(1, .pointer (some ⟨b1, 0, none⟩)), (33, .bool (decide (((((120 < X.terms.length ∨ X.nts.length < 1) ∨ 120 < X.nts.length) ∨ X.xs.length < 1) ∨ 120 < X.xs.length))))]) (fun zs => [iCells b1 25 [.slice X.At X.terms.length X.ct, .slice X.An X.nts.length X.cn, .int .i64 X.start, .slice X.Ar X.xs.length X.cr]]) (fun zs => [Bd X.xs, Sl 3 ruF X.Ar X.xs, Sl 1 strF X.An X.nts, Sl 1 strF X.At X.terms]) ?_ ?_
 ·skip
  refine c_reg ?_
  refine l_q (by decide) (p_faddro (i := 0) 0 Try.underlying25 rfl inf_22 (by decide) rfl rfl).q ?_
  refine l_q (by decide) (r_loado Try.underlying22 rfl rfl (by repeat constructor) (by rfl)).q ?_
  refine l_q (by decide) (p_len_sl Try.underlying22 rfl).q ?_
  refine l_q (by decide) (p_gtr (j := 120) rfl rfl rfl rfl).q ?_
  refine l_q (by decide) (p_move rfl).q ?_
  refine l_splitd (t := 10) rfl (fun h10 => ?_) (fun h10 => ?_)
  ·skip
   refine l_off (j := 4) rfl rfl (by (simp; done)) (by decide) ?_
   refine l_off (j := 4) rfl rfl (by (simp; done)) (by decide) ?_
   refine l_off (j := 4) rfl rfl (by (simp; done)) (by decide) ?_
   refine l_off (j := 4) rfl rfl (by (simp; done)) (by decide) ?_
   refine l_q (by decide) (p_pick rfl rfl).q ?_
   refine l_q (by decide) (p_move rfl).q ?_
   refine l_off (j := 10) rfl rfl (by (simp; done)) (by decide) ?_
   refine l_off (j := 10) rfl rfl (by (simp; done)) (by decide) ?_
   refine l_off (j := 10) rfl rfl (by (simp; done)) (by decide) ?_
   refine l_off (j := 10) rfl rfl (by (simp; done)) (by decide) ?_
   refine l_q (by decide) (p_pick rfl rfl).q ?_
   refine l_q (by decide) (p_move rfl).q ?_
   refine l_off (j := 16) rfl rfl (by (simp; done)) (by decide) ?_
   refine l_off (j := 16) rfl rfl (by (simp; done)) (by decide) ?_
   refine l_off (j := 16) rfl rfl (by (simp; done)) (by decide) ?_
   refine l_off (j := 16) rfl rfl (by (simp; done)) (by decide) ?_
   refine l_q (by decide) (p_pick rfl rfl).q ?_
   refine l_q (by decide) (p_move rfl).q ?_
   refine l_off (j := 22) rfl rfl (by (simp; done)) (by decide) ?_
   refine l_off (j := 22) rfl rfl (by (simp; done)) (by decide) ?_
   refine l_off (j := 22) rfl rfl (by (simp; done)) (by decide) ?_
   refine l_off (j := 22) rfl rfl (by (simp; done)) (by decide) ?_
   refine l_q (by decide) (p_pick rfl rfl).q ?_
   refine l_nil ?_
   refine c_join (()) ?inv ?sub ?perm ?facts
   case sub => exact ⟨rfl, (by exact congrArg (fun b => some (Value.bool b)) (decide_eq_true (by omega)).symm), trivial⟩
   case perm =>
    exact .refl _
   case facts => exact fun _ h => h
   case inv =>
    trivial
  ·skip
   refine l_g (j := 4) rfl rfl (by decide) (p_faddro (i := 1) 1 Try.underlying25 rfl inf_22 (by decide) rfl rfl).q ?_
   refine l_g (j := 4) rfl rfl (by decide) (r_loado Try.underlying22 rfl rfl (by repeat constructor) (by rfl)).q ?_
   refine l_g (j := 4) rfl rfl (by decide) (p_len_sl Try.underlying22 rfl).q ?_
   refine l_g (j := 4) rfl rfl (by decide) (p_lss (j := 1) rfl rfl rfl rfl).q ?_
   refine l_q (by decide) (p_pick rfl rfl).q ?_
   refine l_q (by decide) (p_move rfl).q ?_
   refine l_splitd (t := 16) rfl (fun h16 => ?_) (fun h16 => ?_)
   ·skip
    refine l_off (j := 10) rfl rfl (by (simp; done)) (by decide) ?_
    refine l_off (j := 10) rfl rfl (by (simp; done)) (by decide) ?_
    refine l_off (j := 10) rfl rfl (by (simp; done)) (by decide) ?_
    refine l_off (j := 10) rfl rfl (by (simp; done)) (by decide) ?_
    refine l_q (by decide) (p_pick rfl rfl).q ?_
    refine l_q (by decide) (p_move rfl).q ?_
    refine l_off (j := 16) rfl rfl (by (simp; done)) (by decide) ?_
    refine l_off (j := 16) rfl rfl (by (simp; done)) (by decide) ?_
    refine l_off (j := 16) rfl rfl (by (simp; done)) (by decide) ?_
    refine l_off (j := 16) rfl rfl (by (simp; done)) (by decide) ?_
    refine l_q (by decide) (p_pick rfl rfl).q ?_
    refine l_q (by decide) (p_move rfl).q ?_
    refine l_off (j := 22) rfl rfl (by (simp; done)) (by decide) ?_
    refine l_off (j := 22) rfl rfl (by (simp; done)) (by decide) ?_
    refine l_off (j := 22) rfl rfl (by (simp; done)) (by decide) ?_
    refine l_off (j := 22) rfl rfl (by (simp; done)) (by decide) ?_
    refine l_q (by decide) (p_pick rfl rfl).q ?_
    refine l_nil ?_
    refine c_join (()) ?inv ?sub ?perm ?facts
    case sub => exact ⟨rfl, (by exact congrArg (fun b => some (Value.bool b)) (decide_eq_true (by omega)).symm), trivial⟩
    case perm =>
     exact .refl _
    case facts => exact fun _ h => h
    case inv =>
     trivial
   ·skip
    refine l_g (j := 10) rfl rfl (by decide) (p_faddro (i := 1) 1 Try.underlying25 rfl inf_22 (by decide) rfl rfl).q ?_
    refine l_g (j := 10) rfl rfl (by decide) (r_loado Try.underlying22 rfl rfl (by repeat constructor) (by rfl)).q ?_
    refine l_g (j := 10) rfl rfl (by decide) (p_len_sl Try.underlying22 rfl).q ?_
    refine l_g (j := 10) rfl rfl (by decide) (p_gtr (j := 120) rfl rfl rfl rfl).q ?_
    refine l_q (by decide) (p_pick rfl rfl).q ?_
    refine l_q (by decide) (p_move rfl).q ?_
    refine l_splitd (t := 22) rfl (fun h22 => ?_) (fun h22 => ?_)
    ·skip
     refine l_off (j := 16) rfl rfl (by (simp; done)) (by decide) ?_
     refine l_off (j := 16) rfl rfl (by (simp; done)) (by decide) ?_
     refine l_off (j := 16) rfl rfl (by (simp; done)) (by decide) ?_
     refine l_off (j := 16) rfl rfl (by (simp; done)) (by decide) ?_
     refine l_q (by decide) (p_pick rfl rfl).q ?_
     refine l_q (by decide) (p_move rfl).q ?_
     refine l_off (j := 22) rfl rfl (by (simp; done)) (by decide) ?_
     refine l_off (j := 22) rfl rfl (by (simp; done)) (by decide) ?_
     refine l_off (j := 22) rfl rfl (by (simp; done)) (by decide) ?_
     refine l_off (j := 22) rfl rfl (by (simp; done)) (by decide) ?_
     refine l_q (by decide) (p_pick rfl rfl).q ?_
     refine l_nil ?_
     refine c_join (()) ?inv ?sub ?perm ?facts
     case sub => exact ⟨rfl, (by exact congrArg (fun b => some (Value.bool b)) (decide_eq_true (by omega)).symm), trivial⟩
     case perm =>
      exact .refl _
     case facts => exact fun _ h => h
     case inv =>
      trivial
    ·skip
     refine l_g (j := 16) rfl rfl (by decide) (p_faddro (i := 3) 3 Try.underlying25 rfl inf_23 (by decide) rfl rfl).q ?_
     refine l_g (j := 16) rfl rfl (by decide) (r_loado Try.underlying23 rfl rfl (by repeat constructor) (by rfl)).q ?_
     refine l_g (j := 16) rfl rfl (by decide) (p_len_sl Try.underlying23 rfl).q ?_
     refine l_g (j := 16) rfl rfl (by decide) (p_lss (j := 1) rfl rfl rfl rfl).q ?_
     refine l_q (by decide) (p_pick rfl rfl).q ?_
     refine l_q (by decide) (p_move rfl).q ?_
     refine l_splitd (t := 28) rfl (fun h28 => ?_) (fun h28 => ?_)
     ·skip
      refine l_off (j := 22) rfl rfl (by (simp; done)) (by decide) ?_
      refine l_off (j := 22) rfl rfl (by (simp; done)) (by decide) ?_
      refine l_off (j := 22) rfl rfl (by (simp; done)) (by decide) ?_
      refine l_off (j := 22) rfl rfl (by (simp; done)) (by decide) ?_
      refine l_q (by decide) (p_pick rfl rfl).q ?_
      refine l_nil ?_
      refine c_join (()) ?inv ?sub ?perm ?facts
      case sub => exact ⟨rfl, (by exact congrArg (fun b => some (Value.bool b)) (decide_eq_true (by omega)).symm), trivial⟩
      case perm =>
       exact .refl _
      case facts => exact fun _ h => h
      case inv =>
       trivial
     ·skip
      refine l_g (j := 22) rfl rfl (by decide) (p_faddro (i := 3) 3 Try.underlying25 rfl inf_23 (by decide) rfl rfl).q ?_
      refine l_g (j := 22) rfl rfl (by decide) (r_loado Try.underlying23 rfl rfl (by repeat constructor) (by rfl)).q ?_
      refine l_g (j := 22) rfl rfl (by decide) (p_len_sl Try.underlying23 rfl).q ?_
      refine l_g (j := 22) rfl rfl (by decide) (p_gtr (j := 120) rfl rfl rfl rfl).q ?_
      refine l_q (by decide) (p_pick rfl rfl).q ?_
      refine l_nil ?_
      refine c_join (()) ?inv ?sub ?perm ?facts
      case sub => exact ⟨rfl, (by exact congrArg (fun b => some (Value.bool b)) (decide_eq_decide.2 (by omega))), trivial⟩
      case perm =>
       exact .refl _
      case facts => exact fun _ h => h
      case inv =>
       trivial
 rintro uu hmeet
 show Cont _ _ _ _ [(1, .pointer (some ⟨b1, 0, none⟩)), (33, .bool (decide (((((120 < X.terms.length ∨ X.nts.length < 1) ∨ 120 < X.nts.length) ∨ X.xs.length < 1) ∨ 120 < X.xs.length))))] ([iCells b1 25 [.slice X.At X.terms.length X.ct, .slice X.An X.nts.length X.cn, .int .i64 X.start, .slice X.Ar X.xs.length X.cr]]) [Bd X.xs, Sl 3 ruF X.Ar X.xs, Sl 1 strF X.An X.nts, Sl 1 strF X.At X.terms]
 refine c_dec rfl (fun h33 => ?_) (fun h33 => ?_)
 ·skip
  refine c_seq ?_
  refine c_reg ?_
  refine l_q (by decide) (p_assign rfl).q ?_
  refine l_nil ?_
  refine c_ret ?_
  refine c_ret1 rfl rfl (fun w hs => ?_)
  exact ⟨by rw [show validB X = false from Ana.dec_false (fun h => by
    have hv := h.v
    have e1 : X.terms.length ≤ 120 := hv.t
    have e2 : 1 ≤ X.nts.length := hv.n1
    have e3 : X.nts.length ≤ 120 := hv.n
    have e4 : X.xs.length ≤ 120 := by have := hv.x; rwa [show X.g.rules.length = X.xs.length from List.length_map ..] at this
    have e5 := h.x
    omega)], hs.ext⟩
 ·skip
  refine c_skip ?_
  refine c_seq ?_
  refine c_seq ?_
  refine c_reg ?_
  refine l_q (by decide) (p_faddro (i := 2) 2 Try.underlying25 rfl inf_3 (by decide) rfl rfl).q ?_
  refine l_q (by decide) (r_loado Try.underlying3 rfl rfl (by repeat constructor) (by rfl)).q ?_
  refine l_q (by decide) (p_lssi rfl rfl).q ?_
  refine l_q (by decide) (p_move rfl).q ?_
  refine l_splitd (t := 37) rfl (fun h37 => ?_) (fun h37 => ?_)
  ·skip
   refine l_off (j := 3) rfl rfl (by (simp; done)) (by decide) ?_
   refine l_off (j := 3) rfl rfl (by (simp; done)) (by decide) ?_
   refine l_off (j := 3) rfl rfl (by (simp; done)) (by decide) ?_
   refine l_off (j := 3) rfl rfl (by (simp; done)) (by decide) ?_
   refine l_off (j := 3) rfl rfl (by (simp; done)) (by decide) ?_
   refine l_off (j := 3) rfl rfl (by (simp; done)) (by decide) ?_
   refine l_q (by decide) (p_pick rfl rfl).q ?_
   refine l_q (by decide) (p_move rfl).q ?_
   refine l_off (j := 11) rfl rfl (by (simp; done)) (by decide) ?_
   refine l_off (j := 11) rfl rfl (by (simp; done)) (by decide) ?_
   refine l_off (j := 11) rfl rfl (by (simp; done)) (by decide) ?_
   refine l_off (j := 11) rfl rfl (by (simp; done)) (by decide) ?_
   refine l_off (j := 11) rfl rfl (by (simp; done)) (by decide) ?_
   refine l_off (j := 11) rfl rfl (by (simp; done)) (by decide) ?_
   refine l_q (by decide) (p_pick rfl rfl).q ?_
   refine l_nil ?_
   refine c_true rfl ?_
   refine c_seq ?_
   refine c_reg ?_
   refine l_q (by decide) (p_assign rfl).q ?_
   refine l_nil ?_
   refine c_ret ?_
   refine c_ret1 rfl rfl (fun w hs => ?_)
   exact ⟨by rw [show validB X = false from Ana.dec_false (fun h => by have h1 : 0 ≤ X.start := h.v.s0; omega)], hs.ext⟩
  ·skip
   refine l_g (j := 3) rfl rfl (by decide) (p_faddro (i := 2) 2 Try.underlying25 rfl inf_3 (by decide) rfl rfl).q ?_
   refine l_g (j := 3) rfl rfl (by decide) (r_loado Try.underlying3 rfl rfl (by repeat constructor) (by rfl)).q ?_
   refine l_g (j := 3) rfl rfl (by decide) (p_faddro (i := 1) 1 Try.underlying25 rfl inf_22 (by decide) rfl rfl).q ?_
   refine l_g (j := 3) rfl rfl (by decide) (r_loado Try.underlying22 rfl rfl (by repeat constructor) (by rfl)).q ?_
   refine l_g (j := 3) rfl rfl (by decide) (p_len_sl Try.underlying22 rfl).q ?_
   refine l_g (j := 3) rfl rfl (by decide) (p_geqi rfl rfl).q ?_
   refine l_q (by decide) (p_pick rfl rfl).q ?_
   refine l_q (by decide) (p_move rfl).q ?_
   refine l_splitd (t := 45) rfl (fun h45 => ?_) (fun h45 => ?_)
   ·skip
    refine l_off (j := 11) rfl rfl (by (simp; done)) (by decide) ?_
    refine l_off (j := 11) rfl rfl (by (simp; done)) (by decide) ?_
    refine l_off (j := 11) rfl rfl (by (simp; done)) (by decide) ?_
    refine l_off (j := 11) rfl rfl (by (simp; done)) (by decide) ?_
    refine l_off (j := 11) rfl rfl (by (simp; done)) (by decide) ?_
    refine l_off (j := 11) rfl rfl (by (simp; done)) (by decide) ?_
    refine l_q (by decide) (p_pick rfl rfl).q ?_
    refine l_nil ?_
    refine c_true rfl ?_
    refine c_seq ?_
    refine c_reg ?_
    refine l_q (by decide) (p_assign rfl).q ?_
    refine l_nil ?_
    refine c_ret ?_
    refine c_ret1 rfl rfl (fun w hs => ?_)
    exact ⟨by rw [show validB X = false from Ana.dec_false (fun h => by have h1 : X.start < (X.nts.length : Int) := h.v.s1; omega)], hs.ext⟩
   ·skip
    refine l_g (j := 11) rfl rfl (by decide) (p_faddro (i := 0) 0 Try.underlying25 rfl inf_22 (by decide) rfl rfl).q ?_
    refine l_g (j := 11) rfl rfl (by decide) (r_loado Try.underlying22 rfl rfl (by repeat constructor) (by rfl)).q ?_
    refine l_g (j := 11) rfl rfl (by decide) (p_faddro (i := 1) 1 Try.underlying25 rfl inf_22 (by decide) rfl rfl).q ?_
    refine l_g (j := 11) rfl rfl (by decide) (r_loado Try.underlying22 rfl rfl (by repeat constructor) (by rfl)).q ?_
    refine l_g (j := 11) rfl rfl (by decide) (q_call call_32 rfl (fun w hs => names_eq X.At X.An X.ct X.cn X.terms X.nts (by omega) (by omega) w (hs.facts (Sl 1 strF X.At X.terms) (by repeat constructor)).1 (hs.facts (Sl 1 strF X.An X.nts) (by repeat constructor)).1)) ?_
    refine l_g (j := 11) rfl rfl (by decide) (p_not rfl).q ?_
    refine l_q (by decide) (p_pick rfl rfl).q ?_
    refine l_nil ?_
    refine c_cond rfl (fun h52 => ?_) (fun h52 => ?_)
    ·skip
     refine c_seq ?_
     refine c_reg ?_
     refine l_q (by decide) (p_assign rfl).q ?_
     refine l_nil ?_
     refine c_ret ?_
     refine c_ret1 rfl rfl (fun w hs => ?_)
     exact ⟨by rw [show validB X = false from Ana.dec_false (fun h => by have h1 := h.n; simp [h1] at h52)], hs.ext⟩
    ·skip
     refine c_skip ?_
     refine c_seq ?_
     refine c_seq ?_
     refine c_reg ?_
     refine l_q (by decide) (p_assign (v := .int .i64 ((0 : Nat) : Int)) rfl).q ?_
     refine l_nil ?_
     refine c_block ?_
     refine c_loop (S := Nat) (fun zs => zs ≤ X.xs.length ∧ ∀ z, z ∈ X.xs.take zs → okX X z) (fun zs => X.xs.length - zs) (fun zs => [(1, .pointer (some ⟨b1, 0, none⟩)), (3, .int .i64 (zs : Int))]) (fun zs => [iCells b1 25 [.slice X.At X.terms.length X.ct, .slice X.An X.nts.length X.cn, .int .i64 X.start, .slice X.Ar X.xs.length X.cr]]) (fun zs => [Bd X.xs, Sl 3 ruF X.Ar X.xs, Sl 1 strF X.An X.nts, Sl 1 strF X.At X.terms]) (0) ?_ ?_ ?_ ?_ ?_
     · show (0) ≤ X.xs.length ∧ ∀ z, z ∈ X.xs.take (0) → okX X z
       exact ⟨Nat.zero_le _, fun z h => absurd h (by simp)⟩
     · exact ⟨rfl, rfl, trivial⟩
     · exact .refl _
     · exact fun _ h => h
     rintro k hinv
     have hinv : k ≤ X.xs.length ∧ ∀ z, z ∈ X.xs.take k → okX X z := hinv
     obtain ⟨hk, he⟩ := hinv
     show Cont _ _ _ _ [(1, .pointer (some ⟨b1, 0, none⟩)), (3, .int .i64 (k : Int))] ([iCells b1 25 [.slice X.At X.terms.length X.ct, .slice X.An X.nts.length X.cn, .int .i64 X.start, .slice X.Ar X.xs.length X.cr]]) [Bd X.xs, Sl 3 ruF X.Ar X.xs, Sl 1 strF X.An X.nts, Sl 1 strF X.At X.terms]
     refine c_seq ?_
     refine c_seq ?_
     refine c_reg ?_
     refine l_q (by decide) (p_move rfl).q ?_
     refine l_q (by decide) (p_faddro (i := 3) 3 Try.underlying25 rfl inf_23 (by decide) rfl rfl).q ?_
     refine l_q (by decide) (r_loado Try.underlying23 rfl rfl (by repeat constructor) (by rfl)).q ?_
     refine l_q (by decide) (p_len_sl Try.underlying23 rfl).q ?_
     refine l_q (by decide) (p_lss rfl rfl rfl rfl).q ?_
     refine l_nil ?_
     refine c_dec rfl (fun h57 => ?_) (fun h57 => ?_)
     ·skip
      obtain ⟨x, hx⟩ := at_some (l := X.xs) (n := k) (by omega)
      have hxb := hX.b x (List.mem_of_getElem? hx)
      refine c_skip ?_
      refine c_seq ?_
      refine c_block ?_
      refine c_seq ?_
      refine c_reg ?_
      refine l_q (by decide) (p_faddro (i := 3) 3 Try.underlying25 rfl inf_23 (by decide) rfl rfl).q ?_
      refine l_q (by decide) (r_loado Try.underlying23 rfl rfl (by repeat constructor) (by rfl)).q ?_
      refine l_q (by decide) (p_move rfl).q ?_
      refine l_q (by decide) (r_index Try.underlying23 inf_49 rfl rfl rfl (by exact .fact (by repeat constructor)) rfl (by omega)).q ?_
      refine l_q (by decide) (r_loada Try.underlying49 rfl inf_49 rfl (by exact .fact (by repeat constructor)) (by assumption)).q ?_
      refine l_alloc (by decide) inf_49 _ rfl (fun b4 => ?_)
      (refine l_storew inf_49 rfl rfl rfl rfl rfl ?_)
      refine l_nil ?_
      refine c_seq ?_
      refine c_seq ?_
      refine c_meetn (S := Unit) (fun zs => True) (fun zs => [(1, .pointer (some ⟨b1, 0, none⟩)), (3, .int .i64 (k : Int)), (4, .pointer (some ⟨b4, 0, none⟩)), (91, .bool (decide (((((x.r.head < 0 ∨ x.r.head ≥ (X.nts.length : Int)) ∨ 12 < x.r.body.length) ∨ x.r.price < 0) ∨ x.r.price > 1000))))]) (fun zs => [iCells b4 49 (ruF x), iCells b1 25 [.slice X.At X.terms.length X.ct, .slice X.An X.nts.length X.cn, .int .i64 X.start, .slice X.Ar X.xs.length X.cr]]) (fun zs => [Bd X.xs, Sl 3 ruF X.Ar X.xs, Sl 1 strF X.An X.nts, Sl 1 strF X.At X.terms]) ?_ ?_
      ·skip
       refine c_reg ?_
       refine l_q (by decide) (p_faddro (i := 0) 0 Try.underlying49 rfl inf_3 (by decide) rfl rfl).q ?_
       refine l_q (by decide) (r_loado Try.underlying3 rfl rfl (by repeat constructor) (by rfl)).q ?_
       refine l_q (by decide) (p_lssi rfl rfl).q ?_
       refine l_q (by decide) (p_move rfl).q ?_
       refine l_splitd (t := 68) rfl (fun h68 => ?_) (fun h68 => ?_)
       ·skip
        refine l_off (j := 3) rfl rfl (by (simp; done)) (by decide) ?_
        refine l_off (j := 3) rfl rfl (by (simp; done)) (by decide) ?_
        refine l_off (j := 3) rfl rfl (by (simp; done)) (by decide) ?_
        refine l_off (j := 3) rfl rfl (by (simp; done)) (by decide) ?_
        refine l_off (j := 3) rfl rfl (by (simp; done)) (by decide) ?_
        refine l_off (j := 3) rfl rfl (by (simp; done)) (by decide) ?_
        refine l_q (by decide) (p_pick rfl rfl).q ?_
        refine l_q (by decide) (p_move rfl).q ?_
        refine l_off (j := 11) rfl rfl (by (simp; done)) (by decide) ?_
        refine l_off (j := 11) rfl rfl (by (simp; done)) (by decide) ?_
        refine l_off (j := 11) rfl rfl (by (simp; done)) (by decide) ?_
        refine l_off (j := 11) rfl rfl (by (simp; done)) (by decide) ?_
        refine l_q (by decide) (p_pick rfl rfl).q ?_
        refine l_q (by decide) (p_move rfl).q ?_
        refine l_off (j := 17) rfl rfl (by (simp; done)) (by decide) ?_
        refine l_off (j := 17) rfl rfl (by (simp; done)) (by decide) ?_
        refine l_off (j := 17) rfl rfl (by (simp; done)) (by decide) ?_
        refine l_q (by decide) (p_pick rfl rfl).q ?_
        refine l_q (by decide) (p_move rfl).q ?_
        refine l_off (j := 22) rfl rfl (by (simp; done)) (by decide) ?_
        refine l_off (j := 22) rfl rfl (by (simp; done)) (by decide) ?_
        refine l_off (j := 22) rfl rfl (by (simp; done)) (by decide) ?_
        refine l_q (by decide) (p_pick rfl rfl).q ?_
        refine l_nil ?_
        refine c_join (()) ?inv ?sub ?perm ?facts
        case sub => exact ⟨rfl, rfl, rfl, (by exact congrArg (fun b => some (Value.bool b)) (decide_eq_true (by omega)).symm), trivial⟩
        case perm =>
         exact .refl _
        case facts => exact fun _ h => h
        case inv =>
         trivial
       ·skip
        refine l_g (j := 3) rfl rfl (by decide) (p_faddro (i := 0) 0 Try.underlying49 rfl inf_3 (by decide) rfl rfl).q ?_
        refine l_g (j := 3) rfl rfl (by decide) (r_loado Try.underlying3 rfl rfl (by repeat constructor) (by rfl)).q ?_
        refine l_g (j := 3) rfl rfl (by decide) (p_faddro (i := 1) 1 Try.underlying25 rfl inf_22 (by decide) rfl rfl).q ?_
        refine l_g (j := 3) rfl rfl (by decide) (r_loado Try.underlying22 rfl rfl (by repeat constructor) (by rfl)).q ?_
        refine l_g (j := 3) rfl rfl (by decide) (p_len_sl Try.underlying22 rfl).q ?_
        refine l_g (j := 3) rfl rfl (by decide) (p_geqi rfl rfl).q ?_
        refine l_q (by decide) (p_pick rfl rfl).q ?_
        refine l_q (by decide) (p_move rfl).q ?_
        refine l_splitd (t := 76) rfl (fun h76 => ?_) (fun h76 => ?_)
        ·skip
         refine l_off (j := 11) rfl rfl (by (simp; done)) (by decide) ?_
         refine l_off (j := 11) rfl rfl (by (simp; done)) (by decide) ?_
         refine l_off (j := 11) rfl rfl (by (simp; done)) (by decide) ?_
         refine l_off (j := 11) rfl rfl (by (simp; done)) (by decide) ?_
         refine l_q (by decide) (p_pick rfl rfl).q ?_
         refine l_q (by decide) (p_move rfl).q ?_
         refine l_off (j := 17) rfl rfl (by (simp; done)) (by decide) ?_
         refine l_off (j := 17) rfl rfl (by (simp; done)) (by decide) ?_
         refine l_off (j := 17) rfl rfl (by (simp; done)) (by decide) ?_
         refine l_q (by decide) (p_pick rfl rfl).q ?_
         refine l_q (by decide) (p_move rfl).q ?_
         refine l_off (j := 22) rfl rfl (by (simp; done)) (by decide) ?_
         refine l_off (j := 22) rfl rfl (by (simp; done)) (by decide) ?_
         refine l_off (j := 22) rfl rfl (by (simp; done)) (by decide) ?_
         refine l_q (by decide) (p_pick rfl rfl).q ?_
         refine l_nil ?_
         refine c_join (()) ?inv ?sub ?perm ?facts
         case sub => exact ⟨rfl, rfl, rfl, (by exact congrArg (fun b => some (Value.bool b)) (decide_eq_true (by omega)).symm), trivial⟩
         case perm =>
          exact .refl _
         case facts => exact fun _ h => h
         case inv =>
          trivial
        ·skip
         refine l_g (j := 11) rfl rfl (by decide) (p_faddro (i := 1) 1 Try.underlying49 rfl inf_26 (by decide) rfl rfl).q ?_
         refine l_g (j := 11) rfl rfl (by decide) (r_loado Try.underlying26 rfl rfl (by repeat constructor) (by rfl)).q ?_
         refine l_g (j := 11) rfl rfl (by decide) (p_len_sl Try.underlying26 rfl).q ?_
         refine l_g (j := 11) rfl rfl (by decide) (p_gtr (j := 12) rfl rfl rfl rfl).q ?_
         refine l_q (by decide) (p_pick rfl rfl).q ?_
         refine l_q (by decide) (p_move rfl).q ?_
         refine l_splitd (t := 82) rfl (fun h82 => ?_) (fun h82 => ?_)
         ·skip
          refine l_off (j := 17) rfl rfl (by (simp; done)) (by decide) ?_
          refine l_off (j := 17) rfl rfl (by (simp; done)) (by decide) ?_
          refine l_off (j := 17) rfl rfl (by (simp; done)) (by decide) ?_
          refine l_q (by decide) (p_pick rfl rfl).q ?_
          refine l_q (by decide) (p_move rfl).q ?_
          refine l_off (j := 22) rfl rfl (by (simp; done)) (by decide) ?_
          refine l_off (j := 22) rfl rfl (by (simp; done)) (by decide) ?_
          refine l_off (j := 22) rfl rfl (by (simp; done)) (by decide) ?_
          refine l_q (by decide) (p_pick rfl rfl).q ?_
          refine l_nil ?_
          refine c_join (()) ?inv ?sub ?perm ?facts
          case sub => exact ⟨rfl, rfl, rfl, (by exact congrArg (fun b => some (Value.bool b)) (decide_eq_true (by omega)).symm), trivial⟩
          case perm =>
           exact .refl _
          case facts => exact fun _ h => h
          case inv =>
           trivial
         ·skip
          refine l_g (j := 17) rfl rfl (by decide) (p_faddro (i := 2) 2 Try.underlying49 rfl inf_3 (by decide) rfl rfl).q ?_
          refine l_g (j := 17) rfl rfl (by decide) (r_loado Try.underlying3 rfl rfl (by repeat constructor) (by rfl)).q ?_
          refine l_g (j := 17) rfl rfl (by decide) (p_lssi rfl rfl).q ?_
          refine l_q (by decide) (p_pick rfl rfl).q ?_
          refine l_q (by decide) (p_move rfl).q ?_
          refine l_splitd (t := 87) rfl (fun h87 => ?_) (fun h87 => ?_)
          ·skip
           refine l_off (j := 22) rfl rfl (by (simp; done)) (by decide) ?_
           refine l_off (j := 22) rfl rfl (by (simp; done)) (by decide) ?_
           refine l_off (j := 22) rfl rfl (by (simp; done)) (by decide) ?_
           refine l_q (by decide) (p_pick rfl rfl).q ?_
           refine l_nil ?_
           refine c_join (()) ?inv ?sub ?perm ?facts
           case sub => exact ⟨rfl, rfl, rfl, (by exact congrArg (fun b => some (Value.bool b)) (decide_eq_true (by omega)).symm), trivial⟩
           case perm =>
            exact .refl _
           case facts => exact fun _ h => h
           case inv =>
            trivial
          ·skip
           refine l_g (j := 22) rfl rfl (by decide) (p_faddro (i := 2) 2 Try.underlying49 rfl inf_3 (by decide) rfl rfl).q ?_
           refine l_g (j := 22) rfl rfl (by decide) (r_loado Try.underlying3 rfl rfl (by repeat constructor) (by rfl)).q ?_
           refine l_g (j := 22) rfl rfl (by decide) (p_gtri rfl rfl).q ?_
           refine l_q (by decide) (p_pick rfl rfl).q ?_
           refine l_nil ?_
           refine c_join (()) ?inv ?sub ?perm ?facts
           case sub => exact ⟨rfl, rfl, rfl, (by exact congrArg (fun b => some (Value.bool b)) (decide_eq_decide.2 (by omega))), trivial⟩
           case perm =>
            exact .refl _
           case facts => exact fun _ h => h
           case inv =>
            trivial
      rintro uu hmeet
      show Cont _ _ _ _ [(1, .pointer (some ⟨b1, 0, none⟩)), (3, .int .i64 (k : Int)), (4, .pointer (some ⟨b4, 0, none⟩)), (91, .bool (decide (((((x.r.head < 0 ∨ x.r.head ≥ (X.nts.length : Int)) ∨ 12 < x.r.body.length) ∨ x.r.price < 0) ∨ x.r.price > 1000))))] ([iCells b4 49 (ruF x), iCells b1 25 [.slice X.At X.terms.length X.ct, .slice X.An X.nts.length X.cn, .int .i64 X.start, .slice X.Ar X.xs.length X.cr]]) [Bd X.xs, Sl 3 ruF X.Ar X.xs, Sl 1 strF X.An X.nts, Sl 1 strF X.At X.terms]
      refine c_dec rfl (fun h91 => ?_) (fun h91 => ?_)
      ·skip
       refine c_seq ?_
       refine c_reg ?_
       refine l_q (by decide) (p_assign rfl).q ?_
       refine l_nil ?_
       refine c_ret ?_
       refine c_ret1 rfl rfl (fun w hs => ?_)
       exact ⟨by rw [show validB X = false from Ana.dec_false (fun h => by
         have h1 := (h.xx (List.mem_of_getElem? hx)).r.1
         have h2 := (h.xx (List.mem_of_getElem? hx)).p
         have h3 : x.r.head < (X.nts.length : Int) := h1.2.1
         omega)], hs.ext⟩
      ·skip
       refine c_skip ?_
       refine c_seq ?_
       refine c_reg ?_
       refine l_q (by decide) (p_assign (v := .int .i64 ((0 : Nat) : Int)) rfl).q ?_
       refine l_nil ?_
       refine c_block ?_
       refine c_loop (S := Nat) (fun zs => zs ≤ x.r.body.length ∧ ∀ y, y ∈ x.r.body.take zs → y < (X.terms.length : Int) ∧ -(X.nts.length : Int) ≤ y) (fun zs => x.r.body.length - zs) (fun zs => [(1, .pointer (some ⟨b1, 0, none⟩)), (3, .int .i64 (k : Int)), (4, .pointer (some ⟨b4, 0, none⟩)), (5, .int .i64 (zs : Int))]) (fun zs => [iCells b4 49 (ruF x), iCells b1 25 [.slice X.At X.terms.length X.ct, .slice X.An X.nts.length X.cn, .int .i64 X.start, .slice X.Ar X.xs.length X.cr]]) (fun zs => [Bd X.xs, Sl 3 ruF X.Ar X.xs, Sl 1 strF X.An X.nts, Sl 1 strF X.At X.terms]) (0) ?_ ?_ ?_ ?_ ?_
       · show (0) ≤ x.r.body.length ∧ ∀ y, y ∈ x.r.body.take (0) → y < (X.terms.length : Int) ∧ -(X.nts.length : Int) ≤ y
         exact ⟨Nat.zero_le _, fun z h => absurd h (by simp)⟩
       · exact ⟨rfl, rfl, rfl, rfl, trivial⟩
       · exact .refl _
       · exact fun _ h => h
       rintro j hinv
       have hinv : j ≤ x.r.body.length ∧ ∀ y, y ∈ x.r.body.take j → y < (X.terms.length : Int) ∧ -(X.nts.length : Int) ≤ y := hinv
       obtain ⟨hj, hej⟩ := hinv
       show Cont _ _ _ _ [(1, .pointer (some ⟨b1, 0, none⟩)), (3, .int .i64 (k : Int)), (4, .pointer (some ⟨b4, 0, none⟩)), (5, .int .i64 (j : Int))] ([iCells b4 49 (ruF x), iCells b1 25 [.slice X.At X.terms.length X.ct, .slice X.An X.nts.length X.cn, .int .i64 X.start, .slice X.Ar X.xs.length X.cr]]) [Bd X.xs, Sl 3 ruF X.Ar X.xs, Sl 1 strF X.An X.nts, Sl 1 strF X.At X.terms]
       refine c_seq ?_
       refine c_seq ?_
       refine c_reg ?_
       refine l_q (by decide) (p_move rfl).q ?_
       refine l_q (by decide) (p_faddro (i := 1) 1 Try.underlying49 rfl inf_26 (by decide) rfl rfl).q ?_
       refine l_q (by decide) (r_loado Try.underlying26 rfl rfl (by repeat constructor) (by rfl)).q ?_
       refine l_q (by decide) (p_len_sl Try.underlying26 rfl).q ?_
       refine l_q (by decide) (p_lss rfl rfl rfl rfl).q ?_
       refine l_nil ?_
       refine c_dec rfl (fun h96 => ?_) (fun h96 => ?_)
       ·skip
        obtain ⟨y, hy⟩ := at_some (l := x.r.body) (n := j) (by omega)
        refine c_skip ?_
        refine c_seq ?_
        refine c_block ?_
        refine c_seq ?_
        refine c_meetn (S := Unit) (fun zs => True) (fun zs => [(1, .pointer (some ⟨b1, 0, none⟩)), (3, .int .i64 (k : Int)), (4, .pointer (some ⟨b4, 0, none⟩)), (5, .int .i64 (j : Int)), (119, .bool (decide ((y ≥ (X.terms.length : Int) ∨ y < -(X.nts.length : Int)))))]) (fun zs => [iCells b4 49 (ruF x), iCells b1 25 [.slice X.At X.terms.length X.ct, .slice X.An X.nts.length X.cn, .int .i64 X.start, .slice X.Ar X.xs.length X.cr]]) (fun zs => [Bd X.xs, Sl 3 ruF X.Ar X.xs, Sl 1 strF X.An X.nts, Sl 1 strF X.At X.terms]) ?_ ?_
        ·skip
         refine c_draw mixed (by decide +kernel) ?_
         refine q_q (by decide) (p_faddro (i := 1) 1 Try.underlying49 rfl inf_26 (by decide) rfl rfl).q ?_
         refine q_q (by decide) (r_loado Try.underlying26 rfl rfl (by repeat constructor) (by rfl)).q ?_
         refine q_q (by decide) (p_move rfl).q ?_
         refine q_q (by decide) (r_index Try.underlying26 inf_3 rfl rfl rfl (by exact SlIn.body (by repeat constructor) (by assumption)) rfl (by omega)).q ?_
         refine q_q (by decide) (r_load1 Try.underlying3 rfl rfl (by exact SlIn.body (by repeat constructor) (by assumption)) (by assumption) (by rfl)).q ?_
         refine q_q (by decide) (p_faddro (i := 0) 0 Try.underlying25 rfl inf_22 (by decide) rfl rfl).q ?_
         refine q_q (by decide) (r_loado Try.underlying22 rfl rfl (by repeat constructor) (by rfl)).q ?_
         refine q_q (by decide) (p_len_sl Try.underlying22 rfl).q ?_
         refine q_q (by decide) (p_geqi rfl rfl).q ?_
         refine q_q (by decide) (p_move rfl).q ?_
         refine q_splitd (t := 108) rfl (fun h108 => ?_) (fun h108 => ?_)
         ·skip
          refine q_off (j := 9) rfl rfl (by (simp; done)) (by decide) ?_
          refine q_off (j := 9) rfl rfl (by (simp; done)) (by decide) ?_
          refine q_off (j := 9) rfl rfl (by (simp; done)) (by decide) ?_
          refine q_off (j := 9) rfl rfl (by (simp; done)) (by decide) ?_
          refine q_off (j := 9) rfl rfl (by (simp; done)) (by decide) ?_
          refine q_off (j := 9) rfl rfl (by (simp; done)) (by decide) ?_
          refine q_off (j := 9) rfl rfl (by (simp; done)) (by decide) ?_
          refine q_off (j := 9) rfl rfl (by (simp; done)) (by decide) ?_
          refine q_off (j := 9) rfl rfl (by (simp; done)) (by decide) ?_
          refine q_off (j := 9) rfl rfl (by (simp; done)) (by decide) ?_
          refine q_q (by decide) (p_pick rfl rfl).q ?_
          refine q_nil ?_
          refine c_join (()) ?inv ?sub ?perm ?facts
          case sub => exact ⟨rfl, rfl, rfl, rfl, (by exact congrArg (fun b => some (Value.bool b)) (decide_eq_true (by omega)).symm), trivial⟩
          case perm =>
           exact .refl _
          case facts => exact fun _ h => h
          case inv =>
           trivial
         ·skip
          refine q_g (j := 9) rfl rfl (by decide) (p_faddro (i := 1) 1 Try.underlying49 rfl inf_26 (by decide) rfl rfl).q ?_
          refine q_g (j := 9) rfl rfl (by decide) (r_loado Try.underlying26 rfl rfl (by repeat constructor) (by rfl)).q ?_
          refine q_g (j := 9) rfl rfl (by decide) (p_move rfl).q ?_
          refine q_g (j := 9) rfl rfl (by decide) (r_index Try.underlying26 inf_3 rfl rfl rfl (by exact SlIn.body (by repeat constructor) (by assumption)) rfl (by omega)).q ?_
          refine q_g (j := 9) rfl rfl (by decide) (r_load1 Try.underlying3 rfl rfl (by exact SlIn.body (by repeat constructor) (by assumption)) (by assumption) (by rfl)).q ?_
          refine q_g (j := 9) rfl rfl (by decide) (p_faddro (i := 1) 1 Try.underlying25 rfl inf_22 (by decide) rfl rfl).q ?_
          refine q_g (j := 9) rfl rfl (by decide) (r_loado Try.underlying22 rfl rfl (by repeat constructor) (by rfl)).q ?_
          refine q_g (j := 9) rfl rfl (by decide) (p_len_sl Try.underlying22 rfl).q ?_
          refine q_g (j := 9) rfl rfl (by decide) (p_neg rfl (by show (-9223372036854775808 : Int) ≤ _; omega) (by show _ ≤ ((9223372036854775807 : Nat) : Int); omega)).q ?_
          refine q_g (j := 9) rfl rfl (by decide) (p_lssi rfl rfl).q ?_
          refine q_q (by decide) (p_pick rfl rfl).q ?_
          refine q_nil ?_
          refine c_join (()) ?inv ?sub ?perm ?facts
          case sub => exact ⟨rfl, rfl, rfl, rfl, (by exact congrArg (fun b => some (Value.bool b)) (decide_eq_decide.2 (by omega))), trivial⟩
          case perm =>
           exact .refl _
          case facts => exact fun _ h => h
          case inv =>
           trivial
        rintro uu hmeet
        show Cont _ _ _ _ [(1, .pointer (some ⟨b1, 0, none⟩)), (3, .int .i64 (k : Int)), (4, .pointer (some ⟨b4, 0, none⟩)), (5, .int .i64 (j : Int)), (119, .bool (decide ((y ≥ (X.terms.length : Int) ∨ y < -(X.nts.length : Int)))))] ([iCells b4 49 (ruF x), iCells b1 25 [.slice X.At X.terms.length X.ct, .slice X.An X.nts.length X.cn, .int .i64 X.start, .slice X.Ar X.xs.length X.cr]]) [Bd X.xs, Sl 3 ruF X.Ar X.xs, Sl 1 strF X.An X.nts, Sl 1 strF X.At X.terms]
        refine c_dec rfl (fun h119 => ?_) (fun h119 => ?_)
        ·skip
         refine c_seq ?_
         refine c_reg ?_
         refine l_q (by decide) (p_assign rfl).q ?_
         refine l_nil ?_
         refine c_ret ?_
         refine c_ret1 rfl rfl (fun w hs => ?_)
         exact ⟨by rw [show validB X = false from Ana.dec_false (fun h => by
           have h1 := (h.xx (List.mem_of_getElem? hx)).r.2 y (List.mem_of_getElem? hy)
           have h2 : y < (X.terms.length : Int) := h1.1
           have h3 : -(X.nts.length : Int) ≤ y := h1.2
           omega)], hs.ext⟩
        ·skip
         refine c_skip ?_
         refine c_reg ?_
         refine l_q (by decide) (p_move rfl).q ?_
         refine l_q (by decide) (p_add (j := 1) rfl rfl rfl rfl (by show _ ≤ (9223372036854775807 : Nat); omega)).q ?_
         refine l_q (by decide) (p_assign rfl).q ?_
         refine l_nil ?_
         refine c_join ((j + 1)) ?_ ?_ ?_ ?_
         ·show ((j + 1) ≤ x.r.body.length ∧ ∀ y, y ∈ x.r.body.take (j + 1) → y < (X.terms.length : Int) ∧ -(X.nts.length : Int) ≤ y) ∧ x.r.body.length - (j + 1) < x.r.body.length - j
          refine ⟨⟨by omega, fun z hz => ?_⟩, by omega⟩
          rw [take_at hy] at hz
          rcases List.mem_append.1 hz with h | h
          · exact hej z h
          · rw [List.mem_singleton.1 h]; omega
         · exact ⟨rfl, rfl, rfl, rfl, trivial⟩
         ·show List.Perm _ ([iCells b4 49 (ruF x), iCells b1 25 [.slice X.At X.terms.length X.ct, .slice X.An X.nts.length X.cn, .int .i64 X.start, .slice X.Ar X.xs.length X.cr]])
          exact .refl _
         · exact fun _ h => h
       ·skip
        refine c_exit ?_
        refine c_here ?_
        refine c_reg ?_
        refine l_q (by decide) (p_move rfl).q ?_
        refine l_q (by decide) (p_add (j := 1) rfl rfl rfl rfl (by show _ ≤ (9223372036854775807 : Nat); omega)).q ?_
        refine l_q (by decide) (p_assign rfl).q ?_
        refine l_nil ?_
        (refine c_drop (x := iCells b4 _ _) ?_)
        refine c_join ((k + 1)) ?_ ?_ ?_ ?_
        ·show ((k + 1) ≤ X.xs.length ∧ ∀ z, z ∈ X.xs.take (k + 1) → okX X z) ∧ X.xs.length - (k + 1) < X.xs.length - k
         refine ⟨⟨by omega, fun z hz => ?_⟩, by omega⟩
         rw [take_at hx] at hz
         rcases List.mem_append.1 hz with h | h
         · exact he z h
         · rw [List.mem_singleton.1 h]
           rw [List.take_of_length_le (by omega)] at hej
           exact ⟨⟨by show 0 ≤ x.r.head ∧ x.r.head < (X.nts.length : Int) ∧ x.r.body.length ≤ 12; omega, hej⟩, by omega, by omega⟩
        · exact ⟨rfl, rfl, trivial⟩
        ·show List.Perm _ ([iCells b1 25 [.slice X.At X.terms.length X.ct, .slice X.An X.nts.length X.cn, .int .i64 X.start, .slice X.Ar X.xs.length X.cr]])
         exact .refl _
        · exact fun _ h => h
     ·skip
      refine c_exit ?_
      refine c_here ?_
      refine c_seq ?_
      refine c_reg ?_
      refine l_q (by decide) (p_assign rfl).q ?_
      refine l_nil ?_
      refine c_ret ?_
      refine c_ret1 rfl rfl (fun w hs => ?_)
      rw [List.take_of_length_le (by omega)] at he
      exact ⟨by rw [show validB X = true from Ana.dec_true ⟨⟨by show X.terms.length ≤ _; omega, by show 1 ≤ X.nts.length; omega, by show X.nts.length ≤ _; omega, by show (X.xs.map _).length ≤ _; rw [List.length_map]; omega, by show 0 ≤ X.start; omega, by show X.start < (X.nts.length : Int); omega, fun r hr => by obtain ⟨z, hz, rfl⟩ := List.mem_map.1 hr; exact (he z hz).r⟩, by omega, by simpa using h52, fun z hz => (he z hz).p⟩], hs.ext⟩
end Go.Proofs.Ytncagpppmaehhaa
