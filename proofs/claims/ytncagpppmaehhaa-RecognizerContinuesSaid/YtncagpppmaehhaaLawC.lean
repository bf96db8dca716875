/- The laws of the recognizer: Continues; conditions: lengths. -/
import Derived.Test.YtncagpppmaehhaaLawA
namespace Go.Proofs.Ytncagpppmaehhaa
open Go Go.Fx Go.Proofs

open Go.Proofs.Rec
theorem expL_ext {g : Ana.Gr} {s : List Int} {t : Nat} : ∀ {n : Nat}, t ≤ n → ∃ r, expL g s n = expL g s t ++ r ∧ ∀ x, x ∈ r → (t : Int) ≤ x
  | 0, h => by
    obtain rfl : t = 0 := by omega
    exact ⟨[], by simp, fun x h => absurd h List.not_mem_nil⟩
  | n + 1, h => by
    by_cases e : t = n + 1
    · subst e; exact ⟨[], by simp, fun x h => absurd h List.not_mem_nil⟩
    · obtain ⟨r, h1, h2⟩ := expL_ext (g := g) (s := s) (show t ≤ n by omega)
      cases hb : viaB g (s ++ [((n : Nat) : Int)]) with
      | true =>
        refine ⟨r ++ [((n : Nat) : Int)], by rw [expL_yes hb, h1, List.append_assoc], fun x hx => ?_⟩
        rcases List.mem_append.1 hx with hx | hx
        · exact h2 x hx
        · rw [List.mem_singleton.1 hx]; omega
      | false => exact ⟨r, by rw [expL_no hb, h1], h2⟩
/-- where the next terminal stands -/
theorem expL_next {g : Ana.Gr} {s : List Int} {t n : Nat} (h : t < n) : (expL g s n)[(expL g s t).length]? = some ((t : Nat) : Int) ↔ viaB g (s ++ [((t : Nat) : Int)]) = true := by
  obtain ⟨r, h1, h2⟩ := expL_ext (g := g) (s := s) (t := t + 1) (n := n) h
  cases hb : viaB g (s ++ [((t : Nat) : Int)]) with
  | true =>
    rw [h1, expL_yes hb, List.append_assoc, List.getElem?_append_right (Nat.le_refl _), Nat.sub_self]
    simp
  | false =>
    rw [h1, expL_no hb, List.getElem?_append_right (Nat.le_refl _), Nat.sub_self]
    refine ⟨fun h3 => ?_, fun h3 => by cases h3⟩
    have := h2 _ (List.mem_of_getElem? h3)
    omega
theorem next_len {g : Ana.Gr} {s : List Int} {t : Nat} : (expL g s (t + 1)).length = (expL g s t).length + (if viaB g (s ++ [((t : Nat) : Int)]) = true then 1 else 0) := by
  cases hb : viaB g (s ++ [((t : Nat) : Int)]) with
  | true => rw [expL_yes hb, List.length_append]; rfl
  | false => rw [expL_no hb]; rfl
theorem via_none {g : Ana.Gr} {s : List Int} (h : viaB g s = false) (n : Nat) : expL g s n = [] := by
  induction n with
  | zero => rfl
  | succ n ih =>
    rw [expL_no, ih]
    refine Ana.dec_false fun hv => ?_
    have := via_take hv s.length
    rw [List.take_left] at this
    rw [show viaB g s = true from Ana.dec_true this] at h; cases h
theorem via_some {X : GI} (ok : Ana.Ok2 X.g) {s : List Int} (h : viaB X.g s = true) (hn : sentB X.g s = false) : 0 < (expL X.g s X.terms.length).length := by
  obtain ⟨t, h0, hv⟩ := via_on (Ana.dec_iff.1 h) (fun hs => by rw [show sentB X.g s = true from Ana.dec_true hs] at hn; cases hn)
  have ht : t < (X.terms.length : Int) := by
    obtain ⟨u, hu⟩ := hv
    have hst := ok.s0
    exact der_range (n := X.g.t) (fun r hr x hx => ok.b1 r hr x hx) hu (fun x hx => by rw [List.mem_singleton.1 hx]; omega) t (by simp)
  have h1 : viaB X.g (s ++ [((t.toNat : Nat) : Int)]) = true := by rw [Int.toNat_of_nonneg h0]; exact Ana.dec_true hv
  have h2 := (expL_next (g := X.g) (s := s) (t := t.toNat) (n := X.terms.length) (by omega)).2 h1
  have := (List.getElem?_eq_some_iff.1 h2).1
  omega
/-- what Continues asks first -/
theorem cont_no {X : GI} (ok : Ana.Ok2 X.g) (s : List Int) : (sentB X.g s = true → viaB X.g s = true) ∧ (viaB X.g s = false → sentB X.g s = false ∧ (expL X.g s X.terms.length).length = 0) ∧ (viaB X.g s = true → sentB X.g s = false → 0 < (expL X.g s X.terms.length).length) :=
  ⟨sent_viaB, fun h => ⟨by
    cases hs : sentB X.g s with
    | true => rw [sent_viaB hs] at h; cases h
    | false => rfl, by rw [via_none h]; rfl⟩, via_some ok⟩
theorem inf_5 : InfoIs Try.prog 5 1 1 (.int .u8 0) := by unfold InfoIs; kernel_rfl
theorem law_continues (X : GI) (hX : X.small) (As : Option Addr) (cs : Nat) (s : List Int) (hl : s.length ≤ 140737488355328) (hcs : s.length ≤ cs) (w : World) (hM : X.mem w) (hp : Sl 1 intF As s w) :
   Calls Try.prog 7 #[.agg #[.slice X.At X.terms.length X.ct, .slice X.An X.nts.length X.cn, .int .i64 X.start, .slice X.Ar X.xs.length X.cr], .slice As s.length cs] w (Ret fun v w' => v = .bool true ∧ Ext [] w w') := by
 refine calls_fx (l := [.agg #[.slice X.At X.terms.length X.ct, .slice X.An X.nts.length X.cn, .int .i64 X.start, .slice X.Ar X.xs.length X.cr], .slice As s.length cs]) Try.func7 rfl Try.ntmps7 (Nat.le_of_ble_eq_true rfl) ((X.begin hM).old hp (dep_sl (by decide) hp)) ?_
 refine c_seq ?_
 refine c_reg ?_
 refine l_box (by decide) rfl _ rfl (fun b2 => ?_)
 refine l_q (by decide) (p_assign rfl).q ?_
 refine l_nil ?_
 refine c_seq ?_
 refine c_seq ?_
 refine c_reg ?_
 refine l_q (by decide) (r_loadow Try.underlying25 rfl inf_25 rfl (by repeat constructor) (by rfl)).q ?_
 refine l_q (by decide) (p_move rfl).q ?_
 refine l_call (X := BW (May X s 10)) (fun x => .bool x.1) (fun _ _ => True) (by decide) call_10 rfl (fun w hs => may_ok X hX As cs s hl 10 (by omega) w (GI.of hs (by repeat constructor) (by repeat constructor) (by repeat constructor) (by repeat constructor))) (fun x13 => ?_)
 refine l_q (by decide) (p_not rfl).q ?_
 refine l_nil ?_
 refine c_cond rfl (fun h14 => ?_) (fun h14 => ?_)
 ·skip
  refine c_seq ?_
  refine c_reg ?_
  refine l_q (by decide) (q_call call_11 rfl (fun w hs => awake_ok w)) ?_
  refine l_q (by decide) (p_assign rfl).q ?_
  refine l_nil ?_
  refine c_ret ?_
  refine c_ret1 rfl rfl (fun w hs => ?_)
  exact ⟨rfl, hs.ext⟩
 ·skip
  have hmay := x13.2 (by simpa using h14)
  have ok := hmay.ok2
  have hv := hmay.val
  have hlen := hmay.len
  refine c_skip ?_
  refine c_seq ?_
  refine c_reg ?_
  refine l_q (by decide) (r_loadow Try.underlying25 rfl inf_25 rfl (by repeat constructor) (by rfl)).q ?_
  refine l_q (by decide) (p_move rfl).q ?_
  refine l_call (X := Option Addr × Nat) (fun x => .tuple #[.slice x.1 (expL X.g s X.terms.length).length x.2, .bool (sentB X.g s)]) (fun x => Sl 1 intF x.1 (expL X.g s X.terms.length)) (by decide) call_16 rfl (fun w hs => expected_ok X hX As cs s (by omega) w (GI.of hs (by repeat constructor) (by repeat constructor) (by repeat constructor) (by repeat constructor)) ok (hs.facts (Sl 1 intF As s) (by repeat constructor)).1) (fun x19 => ?_)
  refine l_q (by decide) (p_move rfl).q ?_
  refine l_q (by decide) (p_extract rfl rfl).q ?_
  refine l_q (by decide) (p_extract rfl rfl).q ?_
  refine l_q (by decide) (p_assign rfl).q ?_
  refine l_q (by decide) (p_assign rfl).q ?_
  refine l_nil ?_
  refine c_seq ?_
  obtain ⟨hc1, hc2, hc3⟩ := cont_no ok s
  have htl : X.terms.length ≤ 12 := ok.tl
  have hel := expL_len X.g s X.terms.length
  refine c_reg ?_
  refine l_q (by decide) (r_loadow Try.underlying25 rfl inf_25 rfl (by repeat constructor) (by rfl)).q ?_
  refine l_q (by decide) (p_move rfl).q ?_
  refine l_q (by decide) (q_call call_14 rfl (fun w hs => viable_ok X hX As cs s (by omega) w (GI.of hs (by repeat constructor) (by repeat constructor) (by repeat constructor) (by repeat constructor)) ok (hs.facts (Sl 1 intF As s) (by repeat constructor)).1)) ?_
  refine l_q (by decide) (p_assign rfl).q ?_
  refine l_nil ?_
  refine c_seq ?_
  refine c_seq ?_
  refine c_meetn (S := Unit) (fun zs => True) (fun zs => [(1, .slice As s.length cs), (2, .pointer (some ⟨b2, 0, none⟩)), (5, .slice x19.1 (expL X.g s X.terms.length).length x19.2), (53, .bool false)]) (fun zs => [iCells b2 25 [.slice X.At X.terms.length X.ct, .slice X.An X.nts.length X.cn, .int .i64 X.start, .slice X.Ar X.xs.length X.cr]]) (fun zs => (Sl 1 intF x19.1 (expL X.g s X.terms.length) :: (fun _ => True) :: (Sl 1 intF As s :: [Bd X.xs, Sl 3 ruF X.Ar X.xs, Sl 1 strF X.An X.nts, Sl 1 strF X.At X.terms]))) ?_ ?_
  ·skip
   refine c_reg ?_
   refine l_q (by decide) (p_move rfl).q ?_
   refine l_q (by decide) (r_loadow Try.underlying25 rfl inf_25 rfl (by repeat constructor) (by rfl)).q ?_
   refine l_q (by decide) (p_move rfl).q ?_
   refine l_q (by decide) (q_call call_12 rfl (fun w hs => recognize_ok X hX As cs s (by omega) w (GI.of hs (by repeat constructor) (by repeat constructor) (by repeat constructor) (by repeat constructor)) ok (hs.facts (Sl 1 intF As s) (by repeat constructor)).1)) ?_
   refine l_q (by decide) (((p_neqb Try.underlying4 rfl rfl)).to (u := .bool false) (by simp)).q ?_
   refine l_q (by decide) (p_move rfl).q ?_
   refine l_g (j := 5) rfl rfl (by decide) (p_move rfl).q ?_
   refine l_g (j := 5) rfl rfl (by decide) (p_not rfl).q ?_
   refine l_g (j := 5) rfl rfl (by decide) (p_move rfl).q ?_
   refine l_splitb (t := 33) rfl (fun h33 => ?_) (fun h33 => ?_)
   ·skip
    refine l_g (j := 8) rfl rfl (by decide) (p_move rfl).q ?_
    refine l_g (j := 8) rfl rfl (by decide) (p_move rfl).q ?_
    refine l_splitb (t := 35) rfl (fun h35 => ?_) (fun h35 => ?_)
    ·skip
     refine l_off (j := 10) rfl rfl (by (simp; done)) (by decide) ?_
     refine l_off (j := 10) rfl rfl (by (simp; done)) (by decide) ?_
     refine l_off (j := 10) rfl rfl (by (simp; done)) (by decide) ?_
     refine l_g (j := 8) rfl rfl (by decide) (p_pick rfl rfl).q ?_
     refine l_g (j := 5) rfl rfl (by decide) (p_pick rfl rfl).q ?_
     refine l_q (by decide) (p_pick rfl rfl).q ?_
     refine l_q (by decide) (p_move rfl).q ?_
     refine l_off (j := 17) rfl rfl (by (simp; done)) (by decide) ?_
     refine l_off (j := 17) rfl rfl (by (simp; done)) (by decide) ?_
     refine l_off (j := 19) rfl rfl (by (simp [undef]; done)) (by decide) ?_
     refine l_off (j := 19) rfl rfl (by (simp [undef]; done)) (by decide) ?_
     refine l_off (j := 17) rfl rfl (by (simp; done)) (by decide) ?_
     refine l_off (j := 17) rfl rfl (by (simp; done)) (by decide) ?_
     refine l_off (j := 23) rfl rfl (by (simp [undef]; done)) (by decide) ?_
     refine l_off (j := 23) rfl rfl (by (simp [undef]; done)) (by decide) ?_
     refine l_off (j := 23) rfl rfl (by (simp [undef]; done)) (by decide) ?_
     refine l_off (j := 17) rfl rfl (by (simp; done)) (by decide) ?_
     refine l_q (by decide) (p_pick rfl rfl).q ?_
     refine l_nil ?_
     refine c_join (()) ?inv ?sub ?perm ?facts
     case sub => exact ⟨rfl, rfl, rfl, (by (exfalso; simp_all; done)), trivial⟩
     case perm =>
      exact .refl _
     case facts => exact fun _ h => h
     case inv =>
      trivial
    ·skip
     refine l_g (j := 10) rfl rfl (by decide) (p_move rfl).q ?_
     refine l_g (j := 10) rfl rfl (by decide) (p_len_sl Try.underlying26 rfl).q ?_
     refine l_g (j := 10) rfl rfl (by decide) (p_gtr (j := 0) rfl rfl rfl rfl).q ?_
     refine l_g (j := 8) rfl rfl (by decide) (p_pick rfl rfl).q ?_
     refine l_g (j := 5) rfl rfl (by decide) (p_pick rfl rfl).q ?_
     refine l_q (by decide) (p_pick rfl rfl).q ?_
     refine l_q (by decide) (p_move rfl).q ?_
     refine l_splitd (t := 42) rfl (fun h42 => ?_) (fun h42 => ?_)
     ·skip
      refine l_off (j := 17) rfl rfl (by (simp; done)) (by decide) ?_
      refine l_off (j := 17) rfl rfl (by (simp; done)) (by decide) ?_
      refine l_off (j := 19) rfl rfl (by (simp [undef]; done)) (by decide) ?_
      refine l_off (j := 19) rfl rfl (by (simp [undef]; done)) (by decide) ?_
      refine l_off (j := 17) rfl rfl (by (simp; done)) (by decide) ?_
      refine l_off (j := 17) rfl rfl (by (simp; done)) (by decide) ?_
      refine l_off (j := 23) rfl rfl (by (simp [undef]; done)) (by decide) ?_
      refine l_off (j := 23) rfl rfl (by (simp [undef]; done)) (by decide) ?_
      refine l_off (j := 23) rfl rfl (by (simp [undef]; done)) (by decide) ?_
      refine l_off (j := 17) rfl rfl (by (simp; done)) (by decide) ?_
      refine l_q (by decide) (p_pick rfl rfl).q ?_
      refine l_nil ?_
      refine c_join (()) ?inv ?sub ?perm ?facts
      case sub => exact ⟨rfl, rfl, rfl, (by (exfalso; simp_all; done)), trivial⟩
      case perm =>
       exact .refl _
      case facts => exact fun _ h => h
      case inv =>
       trivial
     ·skip
      refine l_g (j := 17) rfl rfl (by decide) (p_move rfl).q ?_
      refine l_g (j := 17) rfl rfl (by decide) (p_move rfl).q ?_
      refine l_splitb (t := 44) rfl (fun h44 => ?_) (fun h44 => ?_)
      ·skip
       refine l_g (j := 19) rfl rfl (by decide) (p_move rfl).q ?_
       refine l_g (j := 19) rfl rfl (by decide) (p_not rfl).q ?_
       refine l_g (j := 17) rfl rfl (by decide) (p_pick rfl rfl).q ?_
       refine l_g (j := 17) rfl rfl (by decide) (p_move rfl).q ?_
       refine l_splitb (t := 48) rfl (fun h48 => ?_) (fun h48 => ?_)
       ·skip
        refine l_g (j := 23) rfl rfl (by decide) (p_move rfl).q ?_
        refine l_g (j := 23) rfl rfl (by decide) (p_len_sl Try.underlying26 rfl).q ?_
        refine l_g (j := 23) rfl rfl (by decide) (p_eql (j := 0) rfl rfl rfl rfl).q ?_
        refine l_g (j := 17) rfl rfl (by decide) (p_pick rfl rfl).q ?_
        refine l_q (by decide) (p_pick rfl rfl).q ?_
        refine l_nil ?_
        refine c_join (()) ?inv ?sub ?perm ?facts
        case sub => exact ⟨rfl, rfl, rfl, (by (exfalso; simp_all; done)), trivial⟩
        case perm =>
         exact .refl _
        case facts => exact fun _ h => h
        case inv =>
         trivial
       ·skip
        refine l_off (j := 23) rfl rfl (by (simp; done)) (by decide) ?_
        refine l_off (j := 23) rfl rfl (by (simp; done)) (by decide) ?_
        refine l_off (j := 23) rfl rfl (by (simp; done)) (by decide) ?_
        refine l_g (j := 17) rfl rfl (by decide) (p_pick rfl rfl).q ?_
        refine l_q (by decide) (p_pick rfl rfl).q ?_
        refine l_nil ?_
        refine c_join (()) ?inv ?sub ?perm ?facts
        case sub => exact ⟨rfl, rfl, rfl, (by rfl), trivial⟩
        case perm =>
         exact .refl _
        case facts => exact fun _ h => h
        case inv =>
         trivial
      ·skip
       refine l_off (j := 19) rfl rfl (by (simp; done)) (by decide) ?_
       refine l_off (j := 19) rfl rfl (by (simp; done)) (by decide) ?_
       refine l_g (j := 17) rfl rfl (by decide) (p_pick rfl rfl).q ?_
       refine l_g (j := 17) rfl rfl (by decide) (p_move rfl).q ?_
       refine l_off (j := 23) rfl rfl (by (simp; done)) (by decide) ?_
       refine l_off (j := 23) rfl rfl (by (simp; done)) (by decide) ?_
       refine l_off (j := 23) rfl rfl (by (simp; done)) (by decide) ?_
       refine l_g (j := 17) rfl rfl (by decide) (p_pick rfl rfl).q ?_
       refine l_q (by decide) (p_pick rfl rfl).q ?_
       refine l_nil ?_
       refine c_join (()) ?inv ?sub ?perm ?facts
       case sub => exact ⟨rfl, rfl, rfl, (by rfl), trivial⟩
       case perm =>
        exact .refl _
       case facts => exact fun _ h => h
       case inv =>
        trivial
   ·skip
    refine l_off (j := 8) rfl rfl (by (simp; done)) (by decide) ?_
    refine l_off (j := 8) rfl rfl (by (simp; done)) (by decide) ?_
    refine l_off (j := 10) rfl rfl (by (simp [undef]; done)) (by decide) ?_
    refine l_off (j := 10) rfl rfl (by (simp [undef]; done)) (by decide) ?_
    refine l_off (j := 10) rfl rfl (by (simp [undef]; done)) (by decide) ?_
    refine l_off (j := 8) rfl rfl (by (simp; done)) (by decide) ?_
    refine l_g (j := 5) rfl rfl (by decide) (p_pick rfl rfl).q ?_
    refine l_q (by decide) (p_pick rfl rfl).q ?_
    refine l_q (by decide) (p_move rfl).q ?_
    refine l_g (j := 17) rfl rfl (by decide) (p_move rfl).q ?_
    refine l_g (j := 17) rfl rfl (by decide) (p_move rfl).q ?_
    refine l_splitb (t := 44) rfl (fun h44 => ?_) (fun h44 => ?_)
    ·skip
     refine l_g (j := 19) rfl rfl (by decide) (p_move rfl).q ?_
     refine l_g (j := 19) rfl rfl (by decide) (p_not rfl).q ?_
     refine l_g (j := 17) rfl rfl (by decide) (p_pick rfl rfl).q ?_
     refine l_g (j := 17) rfl rfl (by decide) (p_move rfl).q ?_
     refine l_splitb (t := 48) rfl (fun h48 => ?_) (fun h48 => ?_)
     ·skip
      refine l_g (j := 23) rfl rfl (by decide) (p_move rfl).q ?_
      refine l_g (j := 23) rfl rfl (by decide) (p_len_sl Try.underlying26 rfl).q ?_
      refine l_g (j := 23) rfl rfl (by decide) (p_eql (j := 0) rfl rfl rfl rfl).q ?_
      refine l_g (j := 17) rfl rfl (by decide) (p_pick rfl rfl).q ?_
      refine l_q (by decide) (p_pick rfl rfl).q ?_
      refine l_nil ?_
      refine c_join (()) ?inv ?sub ?perm ?facts
      case sub => exact ⟨rfl, rfl, rfl, (by (show some (Value.bool (decide _)) = some (Value.bool false); congr 2; exact decide_eq_false (by have := hc3 (by simpa using h44) (by simpa using h48); omega))), trivial⟩
      case perm =>
       exact .refl _
      case facts => exact fun _ h => h
      case inv =>
       trivial
     ·skip
      refine l_off (j := 23) rfl rfl (by (simp; done)) (by decide) ?_
      refine l_off (j := 23) rfl rfl (by (simp; done)) (by decide) ?_
      refine l_off (j := 23) rfl rfl (by (simp; done)) (by decide) ?_
      refine l_g (j := 17) rfl rfl (by decide) (p_pick rfl rfl).q ?_
      refine l_q (by decide) (p_pick rfl rfl).q ?_
      refine l_nil ?_
      refine c_join (()) ?inv ?sub ?perm ?facts
      case sub => exact ⟨rfl, rfl, rfl, (by rfl), trivial⟩
      case perm =>
       exact .refl _
      case facts => exact fun _ h => h
      case inv =>
       trivial
    ·skip
     refine l_off (j := 19) rfl rfl (by (simp; done)) (by decide) ?_
     refine l_off (j := 19) rfl rfl (by (simp; done)) (by decide) ?_
     refine l_g (j := 17) rfl rfl (by decide) (p_pick rfl rfl).q ?_
     refine l_g (j := 17) rfl rfl (by decide) (p_move rfl).q ?_
     refine l_off (j := 23) rfl rfl (by (simp; done)) (by decide) ?_
     refine l_off (j := 23) rfl rfl (by (simp; done)) (by decide) ?_
     refine l_off (j := 23) rfl rfl (by (simp; done)) (by decide) ?_
     refine l_g (j := 17) rfl rfl (by decide) (p_pick rfl rfl).q ?_
     refine l_q (by decide) (p_pick rfl rfl).q ?_
     refine l_nil ?_
     refine c_join (()) ?inv ?sub ?perm ?facts
     case sub => exact ⟨rfl, rfl, rfl, (by rfl), trivial⟩
     case perm =>
      exact .refl _
     case facts => exact fun _ h => h
     case inv =>
      trivial
  rintro uu hmeet
  show Cont _ _ _ _ [(1, .slice As s.length cs), (2, .pointer (some ⟨b2, 0, none⟩)), (5, .slice x19.1 (expL X.g s X.terms.length).length x19.2), (53, .bool false)] ([iCells b2 25 [.slice X.At X.terms.length X.ct, .slice X.An X.nts.length X.cn, .int .i64 X.start, .slice X.Ar X.xs.length X.cr]]) (Sl 1 intF x19.1 (expL X.g s X.terms.length) :: (fun _ => True) :: (Sl 1 intF As s :: [Bd X.xs, Sl 3 ruF X.Ar X.xs, Sl 1 strF X.An X.nts, Sl 1 strF X.At X.terms]))
  refine c_cond rfl (fun h53 => ?_) (fun h53 => ?_)
  ·skip
   refine c_seq ?_
   refine c_reg ?_
   refine l_q (by decide) (p_assign rfl).q ?_
   refine l_nil ?_
   refine c_ret ?_
   refine c_ret1 rfl rfl (fun w hs => ?_)
   cases h53
  ·skip
   refine c_skip ?_
   refine c_seq ?_
   refine c_reg ?_
   refine l_q (by decide) (p_assign (v := .int .i64 ((0 : Nat) : Int)) rfl).q ?_
   refine l_nil ?_
   refine c_seq ?_
   refine c_seq ?_
   refine c_reg ?_
   refine l_q (by decide) (p_assign (v := .int .i64 ((0 : Nat) : Int)) rfl).q ?_
   refine l_nil ?_
   refine c_block ?_
   refine c_loop (S := Nat × Nat) (fun zs => zs.1 ≤ X.terms.length ∧ zs.2 = (expL X.g s zs.1).length) (fun zs => X.terms.length - zs.1) (fun zs => [(1, .slice As s.length cs), (2, .pointer (some ⟨b2, 0, none⟩)), (5, .slice x19.1 (expL X.g s X.terms.length).length x19.2), (8, .int .i64 (zs.2 : Int)), (9, .int .i64 (zs.1 : Int))]) (fun zs => [iCells b2 25 [.slice X.At X.terms.length X.ct, .slice X.An X.nts.length X.cn, .int .i64 X.start, .slice X.Ar X.xs.length X.cr]]) (fun zs => (Sl 1 intF x19.1 (expL X.g s X.terms.length) :: (fun _ => True) :: (Sl 1 intF As s :: [Bd X.xs, Sl 3 ruF X.Ar X.xs, Sl 1 strF X.An X.nts, Sl 1 strF X.At X.terms]))) (0, 0) ?_ ?_ ?_ ?_ ?_
   · show (0) ≤ X.terms.length ∧ (0) = (expL X.g s (0)).length
     exact ⟨Nat.zero_le _, rfl⟩
   · exact ⟨rfl, rfl, rfl, rfl, rfl, trivial⟩
   · exact .refl _
   · exact fun _ h => h
   rintro ⟨t, k⟩ hinv
   have hinv : t ≤ X.terms.length ∧ k = (expL X.g s t).length := hinv
   obtain ⟨ht, hk⟩ := hinv
   show Cont _ _ _ _ [(1, .slice As s.length cs), (2, .pointer (some ⟨b2, 0, none⟩)), (5, .slice x19.1 (expL X.g s X.terms.length).length x19.2), (8, .int .i64 (k : Int)), (9, .int .i64 (t : Int))] ([iCells b2 25 [.slice X.At X.terms.length X.ct, .slice X.An X.nts.length X.cn, .int .i64 X.start, .slice X.Ar X.xs.length X.cr]]) (Sl 1 intF x19.1 (expL X.g s X.terms.length) :: (fun _ => True) :: (Sl 1 intF As s :: [Bd X.xs, Sl 3 ruF X.Ar X.xs, Sl 1 strF X.An X.nts, Sl 1 strF X.At X.terms]))
   refine c_seq ?_
   refine c_seq ?_
   refine c_reg ?_
   refine l_q (by decide) (p_move rfl).q ?_
   refine l_q (by decide) (p_faddro (i := 0) 0 Try.underlying25 rfl inf_22 (by decide) rfl rfl).q ?_
   refine l_q (by decide) (r_loado Try.underlying22 rfl rfl (by repeat constructor) (by rfl)).q ?_
   refine l_q (by decide) (p_len_sl Try.underlying22 rfl).q ?_
   refine l_q (by decide) (p_lss rfl rfl rfl rfl).q ?_
   refine l_nil ?_
   refine c_dec rfl (fun h58 => ?_) (fun h58 => ?_)
   ·skip
    have hel2 := expL_len X.g s t
    have hnx := expL_next (g := X.g) (s := s) (t := t) (n := X.terms.length) h58
    rw [← hk] at hnx
    refine c_skip ?_
    refine c_seq ?_
    refine c_block ?_
    refine c_seq ?_
    refine c_meetn (S := Unit) (fun zs => True) (fun zs => [(1, .slice As s.length cs), (2, .pointer (some ⟨b2, 0, none⟩)), (5, .slice x19.1 (expL X.g s X.terms.length).length x19.2), (8, .int .i64 (k : Int)), (9, .int .i64 (t : Int)), (10, .bool (viaB X.g (s ++ [((t : Nat) : Int)])))]) (fun zs => [iCells b2 25 [.slice X.At X.terms.length X.ct, .slice X.An X.nts.length X.cn, .int .i64 X.start, .slice X.Ar X.xs.length X.cr]]) (fun zs => (Sl 1 intF x19.1 (expL X.g s X.terms.length) :: (fun _ => True) :: (Sl 1 intF As s :: [Bd X.xs, Sl 3 ruF X.Ar X.xs, Sl 1 strF X.An X.nts, Sl 1 strF X.At X.terms]))) ?_ ?_
    ·skip
     refine c_reg ?_
     refine l_q (by decide) (p_move rfl).q ?_
     refine l_q (by decide) (p_move rfl).q ?_
     refine l_q (by decide) (p_len_sl Try.underlying26 rfl).q ?_
     refine l_q (by decide) (p_lss rfl rfl rfl rfl).q ?_
     refine l_q (by decide) (p_move rfl).q ?_
     refine l_splitd (t := 65) rfl (fun h65 => ?_) (fun h65 => ?_)
     ·skip
      obtain ⟨u, hu⟩ := at_some (l := (expL X.g s X.terms.length)) (n := k) (by omega)
      refine l_g (j := 4) rfl rfl (by decide) (p_move rfl).q ?_
      refine l_g (j := 4) rfl rfl (by decide) (p_move rfl).q ?_
      refine l_g (j := 4) rfl rfl (by decide) (r_index Try.underlying26 inf_3 rfl rfl rfl (by exact .fact (by repeat constructor)) rfl (by omega)).q ?_
      refine l_g (j := 4) rfl rfl (by decide) (r_load1 Try.underlying3 rfl rfl (by exact .fact (by repeat constructor)) (by assumption) (by rfl)).q ?_
      refine l_g (j := 4) rfl rfl (by decide) (p_move rfl).q ?_
      refine l_g (j := 4) rfl rfl (by decide) (p_eqli rfl rfl).q ?_
      refine l_q (by decide) (p_pick rfl rfl).q ?_
      refine l_q (by decide) (p_assign rfl).q ?_
      refine l_nil ?_
      refine c_join (()) ?inv ?sub ?perm ?facts
      case sub => exact ⟨rfl, rfl, rfl, rfl, rfl, (by show some (Value.bool (decide (u = (t : Int)))) = some (Value.bool (viaB X.g (s ++ [((t : Nat) : Int)]))); congr 2; exact Bool.eq_iff_iff.2 (by rw [decide_eq_true_iff, ← hnx, hu]; exact ⟨fun h => by rw [h], fun h => by injection h⟩)), trivial⟩
      case perm =>
       exact .refl _
      case facts => exact fun _ h => h
      case inv =>
       trivial
     ·skip
      refine l_off (j := 4) rfl rfl (by (simp; done)) (by decide) ?_
      refine l_off (j := 4) rfl rfl (by (simp; done)) (by decide) ?_
      refine l_off (j := 4) rfl rfl (by (simp; done)) (by decide) ?_
      refine l_off (j := 4) rfl rfl (by (simp; done)) (by decide) ?_
      refine l_off (j := 4) rfl rfl (by (simp; done)) (by decide) ?_
      refine l_off (j := 4) rfl rfl (by (simp; done)) (by decide) ?_
      refine l_q (by decide) (p_pick rfl rfl).q ?_
      refine l_q (by decide) (p_assign rfl).q ?_
      refine l_nil ?_
      refine c_join (()) ?inv ?sub ?perm ?facts
      case sub => exact ⟨rfl, rfl, rfl, rfl, rfl, (by show some (Value.bool false) = some (Value.bool (viaB X.g (s ++ [((t : Nat) : Int)]))); congr 2; exact (Bool.eq_false_iff.2 (fun hb => h65 (List.getElem?_eq_some_iff.1 (hnx.2 hb)).1)).symm), trivial⟩
      case perm =>
       exact .refl _
      case facts => exact fun _ h => h
      case inv =>
       trivial
    rintro uu hmeet
    show Cont _ _ _ _ [(1, .slice As s.length cs), (2, .pointer (some ⟨b2, 0, none⟩)), (5, .slice x19.1 (expL X.g s X.terms.length).length x19.2), (8, .int .i64 (k : Int)), (9, .int .i64 (t : Int)), (10, .bool (viaB X.g (s ++ [((t : Nat) : Int)])))] ([iCells b2 25 [.slice X.At X.terms.length X.ct, .slice X.An X.nts.length X.cn, .int .i64 X.start, .slice X.Ar X.xs.length X.cr]]) (Sl 1 intF x19.1 (expL X.g s X.terms.length) :: (fun _ => True) :: (Sl 1 intF As s :: [Bd X.xs, Sl 3 ruF X.Ar X.xs, Sl 1 strF X.An X.nts, Sl 1 strF X.At X.terms]))
    refine c_seq ?_
    refine c_seq ?_
    refine c_reg ?_
    refine l_q (by decide) (p_move rfl).q ?_
    refine l_nil ?_
    refine c_cond rfl (fun h73 => ?_) (fun h73 => ?_)
    ·skip
     refine c_reg ?_
     refine l_q (by decide) (p_move rfl).q ?_
     refine l_q (by decide) (p_add (j := 1) rfl rfl rfl rfl (by show _ ≤ (9223372036854775807 : Nat); omega)).q ?_
     refine l_q (by decide) (p_assign rfl).q ?_
     refine l_nil ?_
     refine c_seq ?_
     refine m_draw [] mixed ?_
     refine m_takep 0 rfl (by kernel_rfl) (by decide) (p_move rfl) ?_
     refine m_take 1 rfl (by kernel_rfl) (by decide) (by exact (List.Perm.refl _ : List.Perm _ ([] ++ _))) (by exact fun _ h => h) (r_loadow Try.underlying25 rfl inf_25 rfl (by repeat constructor) (by rfl)).r ?_
     refine m_takep 3 rfl (by kernel_rfl) (by decide) (p_move rfl) ?_
     refine m_takep 5 rfl (by kernel_rfl) (by decide) (p_move rfl) ?_
     refine m_two 2 6 rfl rfl (by kernel_rfl) ?_ ?_
     ·skip
      refine l_buildSlice0 (by decide) Try.underlying26 inf_3 (fun b78 => ?_)
      refine l_nil ?_
      refine m_next _ (by exact (List.Perm.refl _ : List.Perm _ ([_] ++ _))) (by exact fun _ h => h) ?_
      refine m_two 4 6 rfl rfl (by kernel_rfl) ?_ ?_
      ·skip
       (refine l_rowc (e := 3) (size := 1) intF [] rfl rfl (by decide) ?_; refine l_appendsl (f := intF) s (by decide) Try.underlying26 inf_3 rfl (by decide) rfl rfl rfl rfl (by repeat constructor) (fun e u h => by rw [List.mem_singleton.1 h]; rfl) (by simp only [List.length_nil]; omega) (by simp only [List.length_nil]; omega) (fun A80 c80 => ?_))
       refine l_nil ?_
       refine m_next _ (by exact (List.Perm.refl _ : List.Perm _ ([_] ++ _))) (by exact fun _ h => h) ?_
       refine m_run 6 rfl (by kernel_rfl) ?_
       refine l_buildSlice (by decide) Try.underlying26 inf_3 (by decide) (by decide) rfl rfl rfl rfl (fun b82 => ?_)
       refine l_nil ?_
       refine m_next _ (by exact (List.Perm.refl _ : List.Perm _ ([_, _] ++ _))) (by exact fun _ h => h) ?_
       refine m_run 7 rfl (by kernel_rfl) ?_
       (refine l_append1 (((t : Nat) : Int)) (by decide) Try.underlying26 inf_3 rfl (by decide) rfl rfl rfl rfl rfl rfl (by simp only [List.length_append, List.length_nil]; omega) (by simp only [List.length_append, List.length_nil]; omega) (fun A83 c83 hA83 => ?_))
       refine l_nil ?_
       refine m_next _ (by exact (List.Perm.refl _ : List.Perm _ ([_] ++ _))) (by exact fun _ h => h) ?_
       refine m_run 8 rfl (by kernel_rfl) ?_
       refine l_q (by decide) (q_call call_14 rfl (fun w hs => viable_ok X hX A83 c83 (([] ++ s) ++ [((t : Nat) : Int)]) (by simp; omega) w (GI.of hs (by repeat constructor) (by repeat constructor) (by repeat constructor) (by repeat constructor)) ok (SlIn.own (e := 3) (size := 1) (f := intF) (A := A83) (c := c83) (by repeat constructor) (by decide) (fun _ => rfl) w hs))) ?_
       refine l_nil ?_
       refine m_next _ (by exact (List.Perm.refl _ : List.Perm _ ([_] ++ _))) (by exact fun _ h => h) ?_
       refine m_takep 9 rfl (by kernel_rfl) (by decide) (((p_neqb Try.underlying4 rfl rfl)).to (u := .bool false) (by show Value.bool (viaB X.g (s ++ [((t : Nat) : Int)]) != viaB X.g (s ++ [((t : Nat) : Int)])) = _; rw [bne_self_eq_false])) ?_
       refine m_done (by kernel_rfl) ?_
       refine c_false rfl ?_
       refine c_skip ?_
       refine c_drop ?_
       refine c_reg ?_
       refine l_q (by decide) (p_move rfl).q ?_
       refine l_q (by decide) (p_add (j := 1) rfl rfl rfl rfl (by show _ ≤ (9223372036854775807 : Nat); omega)).q ?_
       refine l_q (by decide) (p_assign rfl).q ?_
       refine l_nil ?_
       refine c_join ((t + 1), (k + 1)) ?_ ?_ ?_ ?_
       ·show ((t + 1) ≤ X.terms.length ∧ (k + 1) = (expL X.g s (t + 1)).length) ∧ X.terms.length - (t + 1) < X.terms.length - t
        exact ⟨⟨by omega, by rw [next_len, if_pos h73, hk]⟩, by omega⟩
       · exact ⟨rfl, rfl, rfl, rfl, rfl, trivial⟩
       ·show List.Perm _ ([iCells b2 25 [.slice X.At X.terms.length X.ct, .slice X.An X.nts.length X.cn, .int .i64 X.start, .slice X.Ar X.xs.length X.cr]])
        exact .refl _
       · exact fun _ h => h
      ·skip
       refine l_buildSlice (by decide) Try.underlying26 inf_3 (by decide) (by decide) rfl rfl rfl rfl (fun b82 => ?_)
       refine l_nil ?_
       refine m_next _ (by exact (List.Perm.refl _ : List.Perm _ ([_, _] ++ _))) (by exact fun _ h => h) ?_
       refine m_run 4 rfl (by kernel_rfl) ?_
       (refine l_perm (front1 _ _ _) ?_; refine l_rowc (e := 3) (size := 1) intF [] rfl rfl (by decide) ?_; refine l_appendsl (f := intF) s (by decide) Try.underlying26 inf_3 rfl (by decide) rfl rfl rfl rfl (by repeat constructor) (fun e u h => by rw [List.mem_singleton.1 h]; rfl) (by simp only [List.length_nil]; omega) (by simp only [List.length_nil]; omega) (fun A80 c80 => ?_))
       refine l_nil ?_
       refine m_next _ (by exact (List.Perm.refl _ : List.Perm _ ([_, _] ++ _))) (by exact fun _ h => h) ?_
       refine m_run 7 rfl (by kernel_rfl) ?_
       (refine l_perm (front1 _ _ _) ?_; refine l_append1 (((t : Nat) : Int)) (by decide) Try.underlying26 inf_3 rfl (by decide) rfl rfl rfl rfl rfl rfl (by simp only [List.length_append, List.length_nil]; omega) (by simp only [List.length_append, List.length_nil]; omega) (fun A83 c83 hA83 => ?_))
       refine l_nil ?_
       refine m_next _ (by exact (List.Perm.refl _ : List.Perm _ ([_] ++ _))) (by exact fun _ h => h) ?_
       refine m_run 8 rfl (by kernel_rfl) ?_
       refine l_q (by decide) (q_call call_14 rfl (fun w hs => viable_ok X hX A83 c83 (([] ++ s) ++ [((t : Nat) : Int)]) (by simp; omega) w (GI.of hs (by repeat constructor) (by repeat constructor) (by repeat constructor) (by repeat constructor)) ok (SlIn.own (e := 3) (size := 1) (f := intF) (A := A83) (c := c83) (by repeat constructor) (by decide) (fun _ => rfl) w hs))) ?_
       refine l_nil ?_
       refine m_next _ (by exact (List.Perm.refl _ : List.Perm _ ([_] ++ _))) (by exact fun _ h => h) ?_
       refine m_takep 9 rfl (by kernel_rfl) (by decide) (((p_neqb Try.underlying4 rfl rfl)).to (u := .bool false) (by show Value.bool (viaB X.g (s ++ [((t : Nat) : Int)]) != viaB X.g (s ++ [((t : Nat) : Int)])) = _; rw [bne_self_eq_false])) ?_
       refine m_done (by kernel_rfl) ?_
       refine c_false rfl ?_
       refine c_skip ?_
       refine c_drop ?_
       refine c_reg ?_
       refine l_q (by decide) (p_move rfl).q ?_
       refine l_q (by decide) (p_add (j := 1) rfl rfl rfl rfl (by show _ ≤ (9223372036854775807 : Nat); omega)).q ?_
       refine l_q (by decide) (p_assign rfl).q ?_
       refine l_nil ?_
       refine c_join ((t + 1), (k + 1)) ?_ ?_ ?_ ?_
       ·show ((t + 1) ≤ X.terms.length ∧ (k + 1) = (expL X.g s (t + 1)).length) ∧ X.terms.length - (t + 1) < X.terms.length - t
        exact ⟨⟨by omega, by rw [next_len, if_pos h73, hk]⟩, by omega⟩
       · exact ⟨rfl, rfl, rfl, rfl, rfl, trivial⟩
       ·show List.Perm _ ([iCells b2 25 [.slice X.At X.terms.length X.ct, .slice X.An X.nts.length X.cn, .int .i64 X.start, .slice X.Ar X.xs.length X.cr]])
        exact .refl _
       · exact fun _ h => h
     ·skip
      refine l_buildSlice (by decide) Try.underlying26 inf_3 (by decide) (by decide) rfl rfl rfl rfl (fun b82 => ?_)
      refine l_nil ?_
      refine m_next _ (by exact (List.Perm.refl _ : List.Perm _ ([_] ++ _))) (by exact fun _ h => h) ?_
      refine m_run 2 rfl (by kernel_rfl) ?_
      refine l_buildSlice0 (by decide) Try.underlying26 inf_3 (fun b78 => ?_)
      refine l_nil ?_
      refine m_next _ (by exact (List.Perm.refl _ : List.Perm _ ([_, _] ++ _))) (by exact fun _ h => h) ?_
      refine m_run 4 rfl (by kernel_rfl) ?_
      (refine l_rowc (e := 3) (size := 1) intF [] rfl rfl (by decide) ?_; refine l_appendsl (f := intF) s (by decide) Try.underlying26 inf_3 rfl (by decide) rfl rfl rfl rfl (by repeat constructor) (fun e u h => by rw [List.mem_singleton.1 h]; rfl) (by simp only [List.length_nil]; omega) (by simp only [List.length_nil]; omega) (fun A80 c80 => ?_))
      refine l_nil ?_
      refine m_next _ (by exact (List.Perm.refl _ : List.Perm _ ([_, _] ++ _))) (by exact fun _ h => h) ?_
      refine m_run 7 rfl (by kernel_rfl) ?_
      (refine l_perm (front1 _ _ _) ?_; refine l_append1 (((t : Nat) : Int)) (by decide) Try.underlying26 inf_3 rfl (by decide) rfl rfl rfl rfl rfl rfl (by simp only [List.length_append, List.length_nil]; omega) (by simp only [List.length_append, List.length_nil]; omega) (fun A83 c83 hA83 => ?_))
      refine l_nil ?_
      refine m_next _ (by exact (List.Perm.refl _ : List.Perm _ ([_] ++ _))) (by exact fun _ h => h) ?_
      refine m_run 8 rfl (by kernel_rfl) ?_
      refine l_q (by decide) (q_call call_14 rfl (fun w hs => viable_ok X hX A83 c83 (([] ++ s) ++ [((t : Nat) : Int)]) (by simp; omega) w (GI.of hs (by repeat constructor) (by repeat constructor) (by repeat constructor) (by repeat constructor)) ok (SlIn.own (e := 3) (size := 1) (f := intF) (A := A83) (c := c83) (by repeat constructor) (by decide) (fun _ => rfl) w hs))) ?_
      refine l_nil ?_
      refine m_next _ (by exact (List.Perm.refl _ : List.Perm _ ([_] ++ _))) (by exact fun _ h => h) ?_
      refine m_takep 9 rfl (by kernel_rfl) (by decide) (((p_neqb Try.underlying4 rfl rfl)).to (u := .bool false) (by show Value.bool (viaB X.g (s ++ [((t : Nat) : Int)]) != viaB X.g (s ++ [((t : Nat) : Int)])) = _; rw [bne_self_eq_false])) ?_
      refine m_done (by kernel_rfl) ?_
      refine c_false rfl ?_
      refine c_skip ?_
      refine c_drop ?_
      refine c_reg ?_
      refine l_q (by decide) (p_move rfl).q ?_
      refine l_q (by decide) (p_add (j := 1) rfl rfl rfl rfl (by show _ ≤ (9223372036854775807 : Nat); omega)).q ?_
      refine l_q (by decide) (p_assign rfl).q ?_
      refine l_nil ?_
      refine c_join ((t + 1), (k + 1)) ?_ ?_ ?_ ?_
      ·show ((t + 1) ≤ X.terms.length ∧ (k + 1) = (expL X.g s (t + 1)).length) ∧ X.terms.length - (t + 1) < X.terms.length - t
       exact ⟨⟨by omega, by rw [next_len, if_pos h73, hk]⟩, by omega⟩
      · exact ⟨rfl, rfl, rfl, rfl, rfl, trivial⟩
      ·show List.Perm _ ([iCells b2 25 [.slice X.At X.terms.length X.ct, .slice X.An X.nts.length X.cn, .int .i64 X.start, .slice X.Ar X.xs.length X.cr]])
       exact .refl _
      · exact fun _ h => h
    ·skip
     refine c_skip ?_
     refine c_seq ?_
     refine m_draw [] mixed ?_
     refine m_takep 0 rfl (by kernel_rfl) (by decide) (p_move rfl) ?_
     refine m_take 1 rfl (by kernel_rfl) (by decide) (by exact (List.Perm.refl _ : List.Perm _ ([] ++ _))) (by exact fun _ h => h) (r_loadow Try.underlying25 rfl inf_25 rfl (by repeat constructor) (by rfl)).r ?_
     refine m_takep 3 rfl (by kernel_rfl) (by decide) (p_move rfl) ?_
     refine m_takep 5 rfl (by kernel_rfl) (by decide) (p_move rfl) ?_
     refine m_two 2 6 rfl rfl (by kernel_rfl) ?_ ?_
     ·skip
      refine l_buildSlice0 (by decide) Try.underlying26 inf_3 (fun b78 => ?_)
      refine l_nil ?_
      refine m_next _ (by exact (List.Perm.refl _ : List.Perm _ ([_] ++ _))) (by exact fun _ h => h) ?_
      refine m_two 4 6 rfl rfl (by kernel_rfl) ?_ ?_
      ·skip
       (refine l_rowc (e := 3) (size := 1) intF [] rfl rfl (by decide) ?_; refine l_appendsl (f := intF) s (by decide) Try.underlying26 inf_3 rfl (by decide) rfl rfl rfl rfl (by repeat constructor) (fun e u h => by rw [List.mem_singleton.1 h]; rfl) (by simp only [List.length_nil]; omega) (by simp only [List.length_nil]; omega) (fun A80 c80 => ?_))
       refine l_nil ?_
       refine m_next _ (by exact (List.Perm.refl _ : List.Perm _ ([_] ++ _))) (by exact fun _ h => h) ?_
       refine m_run 6 rfl (by kernel_rfl) ?_
       refine l_buildSlice (by decide) Try.underlying26 inf_3 (by decide) (by decide) rfl rfl rfl rfl (fun b82 => ?_)
       refine l_nil ?_
       refine m_next _ (by exact (List.Perm.refl _ : List.Perm _ ([_, _] ++ _))) (by exact fun _ h => h) ?_
       refine m_run 7 rfl (by kernel_rfl) ?_
       (refine l_append1 (((t : Nat) : Int)) (by decide) Try.underlying26 inf_3 rfl (by decide) rfl rfl rfl rfl rfl rfl (by simp only [List.length_append, List.length_nil]; omega) (by simp only [List.length_append, List.length_nil]; omega) (fun A83 c83 hA83 => ?_))
       refine l_nil ?_
       refine m_next _ (by exact (List.Perm.refl _ : List.Perm _ ([_] ++ _))) (by exact fun _ h => h) ?_
       refine m_run 8 rfl (by kernel_rfl) ?_
       refine l_q (by decide) (q_call call_14 rfl (fun w hs => viable_ok X hX A83 c83 (([] ++ s) ++ [((t : Nat) : Int)]) (by simp; omega) w (GI.of hs (by repeat constructor) (by repeat constructor) (by repeat constructor) (by repeat constructor)) ok (SlIn.own (e := 3) (size := 1) (f := intF) (A := A83) (c := c83) (by repeat constructor) (by decide) (fun _ => rfl) w hs))) ?_
       refine l_nil ?_
       refine m_next _ (by exact (List.Perm.refl _ : List.Perm _ ([_] ++ _))) (by exact fun _ h => h) ?_
       refine m_takep 9 rfl (by kernel_rfl) (by decide) (((p_neqb Try.underlying4 rfl rfl)).to (u := .bool false) (by show Value.bool (viaB X.g (s ++ [((t : Nat) : Int)]) != viaB X.g (s ++ [((t : Nat) : Int)])) = _; rw [bne_self_eq_false])) ?_
       refine m_done (by kernel_rfl) ?_
       refine c_false rfl ?_
       refine c_skip ?_
       refine c_drop ?_
       refine c_reg ?_
       refine l_q (by decide) (p_move rfl).q ?_
       refine l_q (by decide) (p_add (j := 1) rfl rfl rfl rfl (by show _ ≤ (9223372036854775807 : Nat); omega)).q ?_
       refine l_q (by decide) (p_assign rfl).q ?_
       refine l_nil ?_
       refine c_join ((t + 1), (k)) ?_ ?_ ?_ ?_
       ·show ((t + 1) ≤ X.terms.length ∧ (k) = (expL X.g s (t + 1)).length) ∧ X.terms.length - (t + 1) < X.terms.length - t
        exact ⟨⟨by omega, by rw [next_len, if_neg (by rw [h73]; decide), hk, Nat.add_zero]⟩, by omega⟩
       · exact ⟨rfl, rfl, rfl, rfl, rfl, trivial⟩
       ·show List.Perm _ ([iCells b2 25 [.slice X.At X.terms.length X.ct, .slice X.An X.nts.length X.cn, .int .i64 X.start, .slice X.Ar X.xs.length X.cr]])
        exact .refl _
       · exact fun _ h => h
      ·skip
       refine l_buildSlice (by decide) Try.underlying26 inf_3 (by decide) (by decide) rfl rfl rfl rfl (fun b82 => ?_)
       refine l_nil ?_
       refine m_next _ (by exact (List.Perm.refl _ : List.Perm _ ([_, _] ++ _))) (by exact fun _ h => h) ?_
       refine m_run 4 rfl (by kernel_rfl) ?_
       (refine l_perm (front1 _ _ _) ?_; refine l_rowc (e := 3) (size := 1) intF [] rfl rfl (by decide) ?_; refine l_appendsl (f := intF) s (by decide) Try.underlying26 inf_3 rfl (by decide) rfl rfl rfl rfl (by repeat constructor) (fun e u h => by rw [List.mem_singleton.1 h]; rfl) (by simp only [List.length_nil]; omega) (by simp only [List.length_nil]; omega) (fun A80 c80 => ?_))
       refine l_nil ?_
       refine m_next _ (by exact (List.Perm.refl _ : List.Perm _ ([_, _] ++ _))) (by exact fun _ h => h) ?_
       refine m_run 7 rfl (by kernel_rfl) ?_
       (refine l_perm (front1 _ _ _) ?_; refine l_append1 (((t : Nat) : Int)) (by decide) Try.underlying26 inf_3 rfl (by decide) rfl rfl rfl rfl rfl rfl (by simp only [List.length_append, List.length_nil]; omega) (by simp only [List.length_append, List.length_nil]; omega) (fun A83 c83 hA83 => ?_))
       refine l_nil ?_
       refine m_next _ (by exact (List.Perm.refl _ : List.Perm _ ([_] ++ _))) (by exact fun _ h => h) ?_
       refine m_run 8 rfl (by kernel_rfl) ?_
       refine l_q (by decide) (q_call call_14 rfl (fun w hs => viable_ok X hX A83 c83 (([] ++ s) ++ [((t : Nat) : Int)]) (by simp; omega) w (GI.of hs (by repeat constructor) (by repeat constructor) (by repeat constructor) (by repeat constructor)) ok (SlIn.own (e := 3) (size := 1) (f := intF) (A := A83) (c := c83) (by repeat constructor) (by decide) (fun _ => rfl) w hs))) ?_
       refine l_nil ?_
       refine m_next _ (by exact (List.Perm.refl _ : List.Perm _ ([_] ++ _))) (by exact fun _ h => h) ?_
       refine m_takep 9 rfl (by kernel_rfl) (by decide) (((p_neqb Try.underlying4 rfl rfl)).to (u := .bool false) (by show Value.bool (viaB X.g (s ++ [((t : Nat) : Int)]) != viaB X.g (s ++ [((t : Nat) : Int)])) = _; rw [bne_self_eq_false])) ?_
       refine m_done (by kernel_rfl) ?_
       refine c_false rfl ?_
       refine c_skip ?_
       refine c_drop ?_
       refine c_reg ?_
       refine l_q (by decide) (p_move rfl).q ?_
       refine l_q (by decide) (p_add (j := 1) rfl rfl rfl rfl (by show _ ≤ (9223372036854775807 : Nat); omega)).q ?_
       refine l_q (by decide) (p_assign rfl).q ?_
       refine l_nil ?_
       refine c_join ((t + 1), (k)) ?_ ?_ ?_ ?_
       ·show ((t + 1) ≤ X.terms.length ∧ (k) = (expL X.g s (t + 1)).length) ∧ X.terms.length - (t + 1) < X.terms.length - t
        exact ⟨⟨by omega, by rw [next_len, if_neg (by rw [h73]; decide), hk, Nat.add_zero]⟩, by omega⟩
       · exact ⟨rfl, rfl, rfl, rfl, rfl, trivial⟩
       ·show List.Perm _ ([iCells b2 25 [.slice X.At X.terms.length X.ct, .slice X.An X.nts.length X.cn, .int .i64 X.start, .slice X.Ar X.xs.length X.cr]])
        exact .refl _
       · exact fun _ h => h
     ·skip
      refine l_buildSlice (by decide) Try.underlying26 inf_3 (by decide) (by decide) rfl rfl rfl rfl (fun b82 => ?_)
      refine l_nil ?_
      refine m_next _ (by exact (List.Perm.refl _ : List.Perm _ ([_] ++ _))) (by exact fun _ h => h) ?_
      refine m_run 2 rfl (by kernel_rfl) ?_
      refine l_buildSlice0 (by decide) Try.underlying26 inf_3 (fun b78 => ?_)
      refine l_nil ?_
      refine m_next _ (by exact (List.Perm.refl _ : List.Perm _ ([_, _] ++ _))) (by exact fun _ h => h) ?_
      refine m_run 4 rfl (by kernel_rfl) ?_
      (refine l_rowc (e := 3) (size := 1) intF [] rfl rfl (by decide) ?_; refine l_appendsl (f := intF) s (by decide) Try.underlying26 inf_3 rfl (by decide) rfl rfl rfl rfl (by repeat constructor) (fun e u h => by rw [List.mem_singleton.1 h]; rfl) (by simp only [List.length_nil]; omega) (by simp only [List.length_nil]; omega) (fun A80 c80 => ?_))
      refine l_nil ?_
      refine m_next _ (by exact (List.Perm.refl _ : List.Perm _ ([_, _] ++ _))) (by exact fun _ h => h) ?_
      refine m_run 7 rfl (by kernel_rfl) ?_
      (refine l_perm (front1 _ _ _) ?_; refine l_append1 (((t : Nat) : Int)) (by decide) Try.underlying26 inf_3 rfl (by decide) rfl rfl rfl rfl rfl rfl (by simp only [List.length_append, List.length_nil]; omega) (by simp only [List.length_append, List.length_nil]; omega) (fun A83 c83 hA83 => ?_))
      refine l_nil ?_
      refine m_next _ (by exact (List.Perm.refl _ : List.Perm _ ([_] ++ _))) (by exact fun _ h => h) ?_
      refine m_run 8 rfl (by kernel_rfl) ?_
      refine l_q (by decide) (q_call call_14 rfl (fun w hs => viable_ok X hX A83 c83 (([] ++ s) ++ [((t : Nat) : Int)]) (by simp; omega) w (GI.of hs (by repeat constructor) (by repeat constructor) (by repeat constructor) (by repeat constructor)) ok (SlIn.own (e := 3) (size := 1) (f := intF) (A := A83) (c := c83) (by repeat constructor) (by decide) (fun _ => rfl) w hs))) ?_
      refine l_nil ?_
      refine m_next _ (by exact (List.Perm.refl _ : List.Perm _ ([_] ++ _))) (by exact fun _ h => h) ?_
      refine m_takep 9 rfl (by kernel_rfl) (by decide) (((p_neqb Try.underlying4 rfl rfl)).to (u := .bool false) (by show Value.bool (viaB X.g (s ++ [((t : Nat) : Int)]) != viaB X.g (s ++ [((t : Nat) : Int)])) = _; rw [bne_self_eq_false])) ?_
      refine m_done (by kernel_rfl) ?_
      refine c_false rfl ?_
      refine c_skip ?_
      refine c_drop ?_
      refine c_reg ?_
      refine l_q (by decide) (p_move rfl).q ?_
      refine l_q (by decide) (p_add (j := 1) rfl rfl rfl rfl (by show _ ≤ (9223372036854775807 : Nat); omega)).q ?_
      refine l_q (by decide) (p_assign rfl).q ?_
      refine l_nil ?_
      refine c_join ((t + 1), (k)) ?_ ?_ ?_ ?_
      ·show ((t + 1) ≤ X.terms.length ∧ (k) = (expL X.g s (t + 1)).length) ∧ X.terms.length - (t + 1) < X.terms.length - t
       exact ⟨⟨by omega, by rw [next_len, if_neg (by rw [h73]; decide), hk, Nat.add_zero]⟩, by omega⟩
      · exact ⟨rfl, rfl, rfl, rfl, rfl, trivial⟩
      ·show List.Perm _ ([iCells b2 25 [.slice X.At X.terms.length X.ct, .slice X.An X.nts.length X.cn, .int .i64 X.start, .slice X.Ar X.xs.length X.cr]])
       exact .refl _
      · exact fun _ h => h
   ·skip
    refine c_exit ?_
    refine c_here ?_
    refine c_seq ?_
    have hkl : k = (expL X.g s X.terms.length).length := by rw [hk, show t = X.terms.length by omega]
    refine c_reg ?_
    refine l_q (by decide) (q_call call_11 rfl (fun w hs => awake_ok w)) ?_
    refine l_q (by decide) (p_move rfl).q ?_
    refine l_g (j := 1) rfl rfl (by decide) (p_move rfl).q ?_
    refine l_g (j := 1) rfl rfl (by decide) (p_move rfl).q ?_
    refine l_g (j := 1) rfl rfl (by decide) (p_len_sl Try.underlying26 rfl).q ?_
    refine l_g (j := 1) rfl rfl (by decide) (((p_eql rfl rfl rfl rfl)).to (u := .bool true) (by rw [decide_eq_true hkl])).q ?_
    refine l_q (by decide) (p_pick rfl rfl).q ?_
    refine l_q (by decide) (p_assign rfl).q ?_
    refine l_nil ?_
    refine c_ret ?_
    refine c_ret1 rfl rfl (fun w hs => ?_)
    exact ⟨rfl, hs.ext⟩
end Go.Proofs.Ytncagpppmaehhaa
