/- The walks of the recognizer: the example; conditions: none. -/
import Derived.Test.YtncagpppmaehhaaWalksY
namespace Go.Proofs.Ytncagpppmaehhaa
open Go Go.Fx Go.Proofs

open Go.Proofs.Rec
theorem ne_ok : Ana.Ok2 neG := by
  constructor
  case tl => decide
  case n1 => decide
  case nl => decide
  case rl => decide
  case s0 => decide
  case s1 => decide
  all_goals
    intro r hr
    rcases ne_mem hr with rfl | rfl
  all_goals first | decide | (intro x hx; revert x; decide)
theorem ne_sentB (n m : Nat) : sentB neG (anbm n m) = decide (n = m) := by
  by_cases h : n = m
  · rw [decide_eq_true h]; exact Ana.dec_true ((ne_sent_iff n m).2 h)
  · rw [decide_eq_false h]; exact Ana.dec_false (fun hs => h ((ne_sent_iff n m).1 hs))
theorem ne_viaB (n m : Nat) : viaB neG (anbm n m) = decide (m ≤ n) := by
  by_cases h : m ≤ n
  · rw [decide_eq_true h]; exact Ana.dec_true ((ne_via_iff n m).2 h)
  · rw [decide_eq_false h]; exact Ana.dec_false (fun hs => h ((ne_via_iff n m).1 hs))
theorem anbm_one {k i : Nat} (h : (anbm k k)[i]? = some 1) : k ≤ i := by
  apply Classical.byContradiction
  intro hn
  unfold anbm at h
  rw [List.getElem?_append_left (by simp; omega), List.getElem?_replicate, if_pos (by omega)] at h
  injection h with h
  omega
theorem anbm_nil {k i : Nat} (h : (anbm k k)[i]? = some 0) : i < k := by
  apply Classical.byContradiction
  intro hn
  unfold anbm at h
  rw [List.getElem?_append_right (by simp; omega), List.getElem?_replicate] at h
  split at h
  · injection h with h; omega
  · cases h
theorem ne_back : viaB neG [0, 0, 1, 0] = false := Ana.dec_false fun ⟨t, h⟩ => by
  obtain ⟨k, hk⟩ := ne_sent.1 h
  have h1 : (anbm k k)[2]? = some 1 := by rw [← hk]; rfl
  have h2 : (anbm k k)[3]? = some 0 := by rw [← hk]; rfl
  have := anbm_one h1
  have := anbm_nil h2
  omega
theorem ne_e1 : expL neG [0, 0, 1] 2 = [1] := by
  rw [expL_yes (n := 1) (show viaB neG (anbm 2 2) = true by rw [ne_viaB]; rfl), expL_no (n := 0) (show viaB neG [0, 0, 1, 0] = false from ne_back)]; rfl
theorem ne_e2 : expL neG [] 2 = [0] := by
  rw [expL_no (s := []) (n := 1) (show viaB neG (anbm 0 1) = false by rw [ne_viaB]; rfl), expL_yes (s := []) (n := 0) (show viaB neG (anbm 1 0) = true by rw [ne_viaB]; rfl)]; rfl
theorem ne_s1 : sentB neG [0, 0, 1, 1] = true := (ne_sentB 2 2).trans rfl
theorem ne_s2 : sentB neG [0, 0, 1] = false := (ne_sentB 2 1).trans rfl
theorem ne_s3 : sentB neG [] = true := (ne_sentB 0 0).trans rfl
theorem ne_v1 : viaB neG [0, 0, 1] = true := (ne_viaB 2 1).trans rfl
theorem ne_v2 : viaB neG [1] = false := (ne_viaB 0 1).trans rfl
abbrev NeG := { X : GI // X.g = neG ∧ X.small }
theorem as_bool {k : FuncId} {args : Array Value} {w : World} {b c : Bool} (hb : b = c) (h : Calls Try.prog k args w (Ret fun v w' => v = .bool b ∧ Ext [] w w')) : Calls Try.prog k args w (Ret fun v w' => v = .bool c ∧ Ext [] w w') := hb ▸ h
theorem as_exp {X : GI} {s l : List Int} {n : Nat} {b : Bool} {args : Array Value} {w : World} {k : FuncId} (h1 : expL X.g s X.terms.length = l) (h2 : sentB X.g s = b) (hn : l.length = n) (h : Calls Try.prog k args w (Ret fun v w' => ExpR X s w w' v)) : Calls Try.prog k args w (Ret fun v w' => ∃ x : Option Addr × Nat, v = .tuple #[.slice x.1 n x.2, .bool b] ∧ Sl 1 intF x.1 l w' ∧ Dep w.heap.size w'.heap.size (Sl 1 intF x.1 l) ∧ Ext [] w w') := by
  subst h1; subst h2; subst hn; exact h
theorem call_12 : Callable Try.prog 12 := ⟨_, Try.func12, by kernel_rfl, rfl⟩
theorem call_14 : Callable Try.prog 14 := ⟨_, Try.func14, by kernel_rfl, rfl⟩
theorem call_16 : Callable Try.prog 16 := ⟨_, Try.func16, by kernel_rfl, rfl⟩
theorem call_18 : Callable Try.prog 18 := ⟨_, Try.func18, by kernel_rfl, rfl⟩
theorem call_20 : Callable Try.prog 20 := ⟨_, Try.func20, by kernel_rfl, rfl⟩
theorem nested_ok (σ : Fx.Own) (w : World) (h : St w (keysOf σ) w σ []) :
   Calls Try.prog 20 #[] w (Ret fun v w' => ∃ X : NeG, v = .agg #[.slice X.1.At X.1.terms.length X.1.ct, .slice X.1.An X.1.nts.length X.1.cn, .int .i64 X.1.start, .slice X.1.Ar X.1.xs.length X.1.cr] ∧ St w (keysOf σ) w' σ [Bd X.1.xs, Sl 3 ruF X.1.Ar X.1.xs, Sl 1 strF X.1.An X.1.nts, Sl 1 strF X.1.At X.1.terms]) := by
 refine calls_fx (l := []) Try.func20 rfl Try.ntmps20 (Nat.le_of_ble_eq_true rfl) h ?_
 refine c_seq ?_
 refine c_reg ?_
 refine l_alloc (by decide) inf_25 _ rfl (fun b0 => ?_)
 refine l_nil ?_
 refine c_seq ?_
 refine c_reg ?_
 refine l_buildSlice (by decide) Try.underlying22 inf_9 (by decide) (by decide) rfl rfl rfl rfl (fun b1 => ?_)
 refine l_sealc (size := 1) strF [[97], [98]] rfl (fun _ => rfl) ?_
 refine l_buildSlice (by decide) Try.underlying22 inf_9 (by decide) (by decide) rfl rfl rfl rfl (fun b2 => ?_)
 refine l_sealc (size := 1) strF [[83]] rfl (fun _ => rfl) ?_
 refine l_buildSlice (by decide) Try.underlying26 inf_3 (by decide) (by decide) rfl rfl rfl rfl (fun b3 => ?_)
 refine l_sealc (size := 1) intF [0, -1, 1] rfl (fun _ => rfl) ?_
 refine l_q (by decide) (p_build (cells := #[_, _, _]) inf_49 pl_49 rfl rfl).q ?_
 refine l_q (by decide) (p_build (cells := #[_, _, _]) inf_49 pl_49 rfl rfl).q ?_
 refine l_buildSlice (by decide) Try.underlying23 inf_49 (by decide) (by decide) rfl rfl rfl rfl (fun b6 => ?_)
 refine l_sealc (size := 3) ruF [⟨ne0, (some ⟨b3, 0, none⟩), 3⟩, ⟨ne1, none, 0⟩] rfl (fun _ => rfl) ?_
 refine l_q (by decide) (p_build (cells := #[_, _, _, _]) inf_25 pl_25 rfl rfl).q ?_
 first | (refine l_storew inf_25 rfl rfl rfl rfl rfl ?_) | (refine l_perm (front1 _ _ _) ?_; refine l_storew inf_25 rfl rfl rfl rfl rfl ?_) | (refine l_perm (front2 _ _ _ _) ?_; refine l_storew inf_25 rfl rfl rfl rfl rfl ?_) | (refine l_perm (front3 _ _ _ _ _) ?_; refine l_storew inf_25 rfl rfl rfl rfl rfl ?_) | (refine l_perm (front4 _ _ _ _ _ _) ?_; refine l_storew inf_25 rfl rfl rfl rfl rfl ?_) | (refine l_storea inf_25 rfl rfl rfl rfl (by decide) ?_) | (refine l_perm (front1 _ _ _) ?_; refine l_storea inf_25 rfl rfl rfl rfl (by decide) ?_) | (refine l_perm (front2 _ _ _ _) ?_; refine l_storea inf_25 rfl rfl rfl rfl (by decide) ?_)
 refine l_nil ?_
 refine c_ret ?_
 refine c_retcw rfl rfl Try.underlying25 rfl inf_25 (by repeat constructor) (by rfl) (fun w hs => ?_)
 refine ⟨⟨({ At := (some ⟨b1, 0, none⟩), ct := 2, terms := [[97], [98]], An := (some ⟨b2, 0, none⟩), cn := 1, nts := [[83]], start := 0, Ar := (some ⟨b6, 0, none⟩), cr := 2, xs := [⟨ne0, (some ⟨b3, 0, none⟩), 3⟩, ⟨ne1, none, 0⟩] } : GI), rfl, ⟨(show (2 : Nat) ≤ 140737488355328 by decide), (show (1 : Nat) ≤ 140737488355328 by decide), (show (2 : Nat) ≤ 140737488355328 by decide), ?_⟩⟩, rfl, ?_⟩
 · intro x hx
   simp only [List.mem_cons, List.not_mem_nil, or_false] at hx
   rcases hx with rfl | rfl
   · exact (show (3 : Nat) ≤ 140737488355328 ∧ (3 : Nat) ≤ 3 by decide)
   · exact (show (0 : Nat) ≤ 140737488355328 ∧ (0 : Nat) ≤ 0 by decide)
 · have g0 := hs.drop.sure (q := Bd []) bd_nil
   have g1 := bd_snoc (x := ⟨ne0, (some ⟨b3, 0, none⟩), 3⟩) g0 (by repeat constructor) (by repeat constructor)
   have g2 := bd_snoc (x := ⟨ne1, none, 0⟩) (g1.sure (q := Sl 1 intF none []) (fun w => Sl.nil _ _ _ w)) (by repeat constructor) (by repeat constructor)
   exact g2.weak (by intro q hq; simp only [List.mem_cons, List.not_mem_nil, or_false] at hq; rcases hq with rfl | rfl | rfl | rfl <;> repeat constructor)

theorem awake_ok (w : World) :
   Calls Try.prog 11 #[] w (Ret fun v w' => v = .bool true ∧ Ext [] w w') := by
 refine calls_fx (l := []) Try.func11 rfl Try.ntmps11 (Nat.le_of_ble_eq_true rfl) (St.start w) ?_
 refine c_seq ?_
 refine c_reg ?_
 refine l_q (by decide) (p_assign rfl).q ?_
 refine l_nil ?_
 refine c_seq ?_
 refine c_reg ?_
 refine l_callf [] (fun X : NeG => .agg #[.slice X.1.At X.1.terms.length X.1.ct, .slice X.1.An X.1.nts.length X.1.cn, .int .i64 X.1.start, .slice X.1.Ar X.1.xs.length X.1.cr]) (fun X => [Bd X.1.xs, Sl 3 ruF X.1.Ar X.1.xs, Sl 1 strF X.1.An X.1.nts, Sl 1 strF X.1.At X.1.terms]) (by decide) call_20 rfl (fun _ h => absurd h List.not_mem_nil) (fun w hs => nested_ok _ w hs) (fun x6 => ?_)
 obtain ⟨X, hXg, hX⟩ := x6
 dsimp only
 have ok : Ana.Ok2 X.g := by rw [hXg]; exact ne_ok
 have hXt : X.terms.length = 2 := congrArg Ana.Gr.t hXg
 refine l_alloc (by decide) inf_25 _ rfl (fun b1 => ?_)
 first | (refine l_storew inf_25 rfl rfl rfl rfl rfl ?_) | (refine l_perm (front1 _ _ _) ?_; refine l_storew inf_25 rfl rfl rfl rfl rfl ?_) | (refine l_perm (front2 _ _ _ _) ?_; refine l_storew inf_25 rfl rfl rfl rfl rfl ?_) | (refine l_perm (front3 _ _ _ _ _) ?_; refine l_storew inf_25 rfl rfl rfl rfl rfl ?_) | (refine l_perm (front4 _ _ _ _ _ _) ?_; refine l_storew inf_25 rfl rfl rfl rfl rfl ?_) | (refine l_storea inf_25 rfl rfl rfl rfl (by decide) ?_) | (refine l_perm (front1 _ _ _) ?_; refine l_storea inf_25 rfl rfl rfl rfl (by decide) ?_) | (refine l_perm (front2 _ _ _ _) ?_; refine l_storea inf_25 rfl rfl rfl rfl (by decide) ?_)
 refine l_nil ?_
 refine c_seq ?_
 refine c_reg ?_
 first | refine l_q (by decide) (r_loada Try.underlying25 rfl inf_25 rfl (by first | exact .fact (by repeat constructor) | exact .own (by repeat constructor) (by decide) (fun _ => rfl) | exact SlIn.body (by repeat constructor) (by assumption)) (by assumption)).q ?_ | refine l_q (by decide) (r_loadow Try.underlying25 rfl inf_25 rfl (by repeat constructor) (by rfl)).q ?_ | refine l_q (by decide) (r_loadoa Try.underlying25 rfl inf_25 rfl (by repeat constructor) (by rfl) (fun j u h => h)).q ?_
 refine l_buildSlice (by decide) Try.underlying26 inf_3 (by decide) (by decide) rfl rfl rfl rfl (fun b9 => ?_)
 refine l_sealc (size := 1) intF [0, 0, 1] rfl (fun _ => rfl) ?_
 refine l_call (X := Option Addr × Nat) (fun x => .tuple #[.slice x.1 1 x.2, .bool false]) (fun x => Sl 1 intF x.1 [1]) (by decide) call_16 rfl (fun w hs => as_exp (l := [1]) (by rw [hXg, hXt]; exact ne_e1) (by rw [hXg]; exact ne_s2) rfl (expected_ok X hX (some ⟨b9, 0, none⟩) 3 [0, 0, 1] (by show _ ≤ 40; decide) w (GI.of (X := X) hs (by repeat constructor) (by repeat constructor) (by repeat constructor) (by repeat constructor)) ok (hs.facts (Sl 1 intF (some ⟨b9, 0, none⟩) [0, 0, 1]) (by repeat constructor)).1)) (fun x10 => ?_)
 refine l_q (by decide) (p_move rfl).q ?_
 refine l_q (by decide) (p_extract rfl rfl).q ?_
 refine l_q (by decide) (p_extract rfl rfl).q ?_
 refine l_q (by decide) (p_assign rfl).q ?_
 refine l_q (by decide) (p_assign rfl).q ?_
 refine l_nil ?_
 refine c_seq ?_
 refine c_reg ?_
 first | refine l_q (by decide) (r_loada Try.underlying25 rfl inf_25 rfl (by first | exact .fact (by repeat constructor) | exact .own (by repeat constructor) (by decide) (fun _ => rfl) | exact SlIn.body (by repeat constructor) (by assumption)) (by assumption)).q ?_ | refine l_q (by decide) (r_loadow Try.underlying25 rfl inf_25 rfl (by repeat constructor) (by rfl)).q ?_ | refine l_q (by decide) (r_loadoa Try.underlying25 rfl inf_25 rfl (by repeat constructor) (by rfl) (fun j u h => h)).q ?_
 refine l_call (X := Option Addr × Nat) (fun x => .tuple #[.slice x.1 1 x.2, .bool true]) (fun x => Sl 1 intF x.1 [0]) (by decide) call_16 rfl (fun w hs => as_exp (l := [0]) (by rw [hXg, hXt]; exact ne_e2) (by rw [hXg]; exact ne_s3) rfl (expected_ok X hX none 0 [] (by show _ ≤ 40; decide) w (GI.of (X := X) hs (by repeat constructor) (by repeat constructor) (by repeat constructor) (by repeat constructor)) ok (Sl.nil _ _ _ w))) (fun x15 => ?_)
 refine l_q (by decide) (p_move rfl).q ?_
 refine l_q (by decide) (p_extract rfl rfl).q ?_
 refine l_q (by decide) (p_extract rfl rfl).q ?_
 refine l_q (by decide) (p_assign rfl).q ?_
 refine l_q (by decide) (p_assign rfl).q ?_
 refine l_nil ?_
 refine c_seq ?_
 refine c_reg ?_
 first | refine l_q (by decide) (r_loada Try.underlying25 rfl inf_25 rfl (by first | exact .fact (by repeat constructor) | exact .own (by repeat constructor) (by decide) (fun _ => rfl) | exact SlIn.body (by repeat constructor) (by assumption)) (by assumption)).q ?_ | refine l_q (by decide) (r_loadow Try.underlying25 rfl inf_25 rfl (by repeat constructor) (by rfl)).q ?_ | refine l_q (by decide) (r_loadoa Try.underlying25 rfl inf_25 rfl (by repeat constructor) (by rfl) (fun j u h => h)).q ?_
 refine l_buildSlice (by decide) Try.underlying26 inf_3 (by decide) (by decide) rfl rfl rfl rfl (fun b19 => ?_)
 refine l_sealc (size := 1) intF [0, 0, 1, 1] rfl (fun _ => rfl) ?_
 refine l_q (by decide) (q_call call_12 rfl (fun w hs => as_bool (b := sentB X.g [0, 0, 1, 1]) (c := true) (by rw [hXg]; exact ne_s1) (recognize_ok X hX (some ⟨b19, 0, none⟩) 4 [0, 0, 1, 1] (by show _ ≤ 40; decide) w (GI.of (X := X) hs (by repeat constructor) (by repeat constructor) (by repeat constructor) (by repeat constructor)) ok (hs.facts (Sl 1 intF (some ⟨b19, 0, none⟩) [0, 0, 1, 1]) (by repeat constructor)).1))) ?_
 refine l_q (by decide) (p_move rfl).q ?_
 first | refine l_g (j := 3) rfl rfl (by decide) (r_loada Try.underlying25 rfl inf_25 rfl (by first | exact .fact (by repeat constructor) | exact .own (by repeat constructor) (by decide) (fun _ => rfl) | exact SlIn.body (by repeat constructor) (by assumption)) (by assumption)).q ?_ | refine l_g (j := 3) rfl rfl (by decide) (r_loadow Try.underlying25 rfl inf_25 rfl (by repeat constructor) (by rfl)).q ?_ | refine l_g (j := 3) rfl rfl (by decide) (r_loadoa Try.underlying25 rfl inf_25 rfl (by repeat constructor) (by rfl) (fun j u h => h)).q ?_
 refine l_strip (j := 3) rfl rfl ?_
 refine l_buildSlice (by decide) Try.underlying26 inf_3 (by decide) (by decide) rfl rfl rfl rfl (fun b23 => ?_)
 refine l_sealc (size := 1) intF [0, 0, 1] rfl (fun _ => rfl) ?_
 refine l_g (j := 3) rfl rfl (by decide) (q_call call_12 rfl (fun w hs => as_bool (b := sentB X.g [0, 0, 1]) (c := false) (by rw [hXg]; exact ne_s2) (recognize_ok X hX (some ⟨b23, 0, none⟩) 3 [0, 0, 1] (by show _ ≤ 40; decide) w (GI.of (X := X) hs (by repeat constructor) (by repeat constructor) (by repeat constructor) (by repeat constructor)) ok (hs.facts (Sl 1 intF (some ⟨b23, 0, none⟩) [0, 0, 1]) (by repeat constructor)).1))) ?_
 refine l_g (j := 3) rfl rfl (by decide) (p_not rfl).q ?_
 refine l_q (by decide) (p_pick rfl rfl).q ?_
 refine l_q (by decide) (p_move rfl).q ?_
 first | refine l_g (j := 9) rfl rfl (by decide) (r_loada Try.underlying25 rfl inf_25 rfl (by first | exact .fact (by repeat constructor) | exact .own (by repeat constructor) (by decide) (fun _ => rfl) | exact SlIn.body (by repeat constructor) (by assumption)) (by assumption)).q ?_ | refine l_g (j := 9) rfl rfl (by decide) (r_loadow Try.underlying25 rfl inf_25 rfl (by repeat constructor) (by rfl)).q ?_ | refine l_g (j := 9) rfl rfl (by decide) (r_loadoa Try.underlying25 rfl inf_25 rfl (by repeat constructor) (by rfl) (fun j u h => h)).q ?_
 refine l_strip (j := 9) rfl rfl ?_
 refine l_buildSlice (by decide) Try.underlying26 inf_3 (by decide) (by decide) rfl rfl rfl rfl (fun b29 => ?_)
 refine l_sealc (size := 1) intF [0, 0, 1] rfl (fun _ => rfl) ?_
 refine l_g (j := 9) rfl rfl (by decide) (q_call call_14 rfl (fun w hs => as_bool (b := viaB X.g [0, 0, 1]) (c := true) (by rw [hXg]; exact ne_v1) (viable_ok X hX (some ⟨b29, 0, none⟩) 3 [0, 0, 1] (by show _ ≤ 40; decide) w (GI.of (X := X) hs (by repeat constructor) (by repeat constructor) (by repeat constructor) (by repeat constructor)) ok (hs.facts (Sl 1 intF (some ⟨b29, 0, none⟩) [0, 0, 1]) (by repeat constructor)).1))) ?_
 refine l_q (by decide) (p_pick rfl rfl).q ?_
 refine l_q (by decide) (p_move rfl).q ?_
 first | refine l_g (j := 14) rfl rfl (by decide) (r_loada Try.underlying25 rfl inf_25 rfl (by first | exact .fact (by repeat constructor) | exact .own (by repeat constructor) (by decide) (fun _ => rfl) | exact SlIn.body (by repeat constructor) (by assumption)) (by assumption)).q ?_ | refine l_g (j := 14) rfl rfl (by decide) (r_loadow Try.underlying25 rfl inf_25 rfl (by repeat constructor) (by rfl)).q ?_ | refine l_g (j := 14) rfl rfl (by decide) (r_loadoa Try.underlying25 rfl inf_25 rfl (by repeat constructor) (by rfl) (fun j u h => h)).q ?_
 refine l_strip (j := 14) rfl rfl ?_
 refine l_buildSlice (by decide) Try.underlying26 inf_3 (by decide) (by decide) rfl rfl rfl rfl (fun b34 => ?_)
 refine l_sealc (size := 1) intF [1] rfl (fun _ => rfl) ?_
 refine l_g (j := 14) rfl rfl (by decide) (q_call call_14 rfl (fun w hs => as_bool (b := viaB X.g [1]) (c := false) (by rw [hXg]; exact ne_v2) (viable_ok X hX (some ⟨b34, 0, none⟩) 1 [1] (by show _ ≤ 40; decide) w (GI.of (X := X) hs (by repeat constructor) (by repeat constructor) (by repeat constructor) (by repeat constructor)) ok (hs.facts (Sl 1 intF (some ⟨b34, 0, none⟩) [1]) (by repeat constructor)).1))) ?_
 refine l_g (j := 14) rfl rfl (by decide) (p_not rfl).q ?_
 refine l_q (by decide) (p_pick rfl rfl).q ?_
 refine l_q (by decide) (p_move rfl).q ?_
 refine l_g (j := 20) rfl rfl (by decide) (p_move rfl).q ?_
 refine l_strip (j := 20) rfl rfl ?_
 refine l_buildSlice (by decide) Try.underlying26 inf_3 (by decide) (by decide) rfl rfl rfl rfl (fun b40 => ?_)
 refine l_sealc (size := 1) intF [1] rfl (fun _ => rfl) ?_
 refine l_g (j := 20) rfl rfl (by decide) (q_call call_18 rfl (fun w hs => as_bool (c := true) (decide_eq_true rfl) (ints_ok x10.1 (some ⟨b40, 0, none⟩) x10.2 1 [1] [1] (by show 1 ≤ _; decide) w (hs.facts (Sl 1 intF x10.1 [1]) (by repeat constructor)).1 (hs.facts (Sl 1 intF (some ⟨b40, 0, none⟩) [1]) (by repeat constructor)).1))) ?_
 refine l_q (by decide) (p_pick rfl rfl).q ?_
 refine l_q (by decide) (p_move rfl).q ?_
 refine l_g (j := 25) rfl rfl (by decide) (p_move rfl).q ?_
 refine l_g (j := 25) rfl rfl (by decide) (p_not rfl).q ?_
 refine l_q (by decide) (p_pick rfl rfl).q ?_
 refine l_q (by decide) (p_move rfl).q ?_
 refine l_g (j := 29) rfl rfl (by decide) (p_move rfl).q ?_
 refine l_strip (j := 29) rfl rfl ?_
 refine l_buildSlice (by decide) Try.underlying26 inf_3 (by decide) (by decide) rfl rfl rfl rfl (fun b49 => ?_)
 refine l_sealc (size := 1) intF [0] rfl (fun _ => rfl) ?_
 refine l_g (j := 29) rfl rfl (by decide) (q_call call_18 rfl (fun w hs => as_bool (c := true) (decide_eq_true rfl) (ints_ok x15.1 (some ⟨b49, 0, none⟩) x15.2 1 [0] [0] (by show 1 ≤ _; decide) w (hs.facts (Sl 1 intF x15.1 [0]) (by repeat constructor)).1 (hs.facts (Sl 1 intF (some ⟨b49, 0, none⟩) [0]) (by repeat constructor)).1))) ?_
 refine l_q (by decide) (p_pick rfl rfl).q ?_
 refine l_q (by decide) (p_move rfl).q ?_
 refine l_g (j := 34) rfl rfl (by decide) (p_move rfl).q ?_
 refine l_q (by decide) (p_pick rfl rfl).q ?_
 refine l_q (by decide) (p_assign rfl).q ?_
 refine l_nil ?_
 refine c_ret ?_
 refine c_ret1 rfl rfl (fun w hs => ?_)
 exact ⟨rfl, hs.ext⟩
end Go.Proofs.Ytncagpppmaehhaa
