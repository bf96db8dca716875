/- The walks of analysis: trees; conditions: sizes. -/
import Derived.Test.YtidbhgolhiaijaaWalksK
import Derived.Test.YtidbhgolhiaijaaWalksH
import Derived.Test.YtidbhgolhiaijaaFxY
namespace Go.Proofs.Ytidbhgolhiaijaa
open Go Go.Fx Go.Proofs

/-- a tree with the places of its parts -/
inductive XT where
  | mk (rule term : Int) (A : Option Addr) (c : Nat) (kids : List XT)
def XT.rule : XT → Int | .mk r _ _ _ _ => r
def XT.term : XT → Int | .mk _ t _ _ _ => t
def XT.A : XT → Option Addr | .mk _ _ A _ _ => A
def XT.c : XT → Nat | .mk _ _ _ c _ => c
def XT.kids : XT → List XT | .mk _ _ _ _ ks => ks
def treF (x : XT) : List Value := [.int .i64 x.rule, .int .i64 x.term, .slice x.A x.kids.length x.c]
inductive XT.In (w : World) : XT → Prop where
  | mk (x : XT) : Sl 3 treF x.A x.kids w → (∀ k, k ∈ x.kids → XT.In w k) → XT.In w x
theorem XT.In.sl {w : World} {x : XT} (h : XT.In w x) : Sl 3 treF x.A x.kids w := by cases h with | mk _ h _ => exact h
theorem XT.In.kid {w : World} {x : XT} (h : XT.In w x) : ∀ k, k ∈ x.kids → XT.In w k := by cases h with | mk _ _ h => exact h
def InF (x : XT) : World → Prop := fun w => XT.In w x
theorem dep_in {x : XT} {w : World} (h : XT.In w x) : Dep 0 w.heap.size (InF x) := by
  induction h with
  | mk x hs _ ih => exact fun w1 w2 hb hq => .mk x (dep_sl (by decide) hs w1 w2 hb hq.sl) (fun k hk => ih k hk w1 w2 hb (hq.kid k hk))
mutual
def XT.size : XT → Nat
  | .mk _ _ _ _ ks => XT.sizes ks + 1
def XT.sizes : List XT → Nat
  | [] => 0
  | k :: ks => k.size + XT.sizes ks
end
mutual
def XT.leaves : XT → List Int
  | .mk r t _ _ ks => if r = -1 then [t] else XT.leavesL ks
def XT.leavesL : List XT → List Int
  | [] => []
  | k :: ks => k.leaves ++ XT.leavesL ks
end
theorem XT.size_eq (x : XT) : x.size = XT.sizes x.kids + 1 := by cases x; simp [XT.size, XT.kids]
theorem XT.leaves_eq (x : XT) : x.leaves = if x.rule = -1 then [x.term] else XT.leavesL x.kids := by cases x; simp only [XT.leaves]; rfl
theorem sizes_nil : XT.sizes [] = 0 := by simp [XT.sizes]
theorem sizes_cons (k : XT) (ks : List XT) : XT.sizes (k :: ks) = k.size + XT.sizes ks := by simp [XT.sizes]
theorem leavesL_nil : XT.leavesL [] = [] := by simp [XT.leavesL]
theorem leavesL_cons (k : XT) (ks : List XT) : XT.leavesL (k :: ks) = k.leaves ++ XT.leavesL ks := by simp [XT.leavesL]
theorem sizes_app (l m : List XT) : XT.sizes (l ++ m) = XT.sizes l + XT.sizes m := by
  induction l with
  | nil => rw [List.nil_append, sizes_nil, Nat.zero_add]
  | cons k l ih => rw [List.cons_append, sizes_cons, sizes_cons, ih, Nat.add_assoc]
theorem leavesL_app (l m : List XT) : XT.leavesL (l ++ m) = XT.leavesL l ++ XT.leavesL m := by
  induction l with
  | nil => rw [List.nil_append, leavesL_nil, List.nil_append]
  | cons k l ih => rw [List.cons_append, leavesL_cons, leavesL_cons, ih, List.append_assoc]
theorem sizes_take {l : List XT} {i : Nat} {k : XT} (h : l[i]? = some k) : XT.sizes (l.take (i + 1)) = XT.sizes (l.take i) + k.size := by
  rw [take_at h, sizes_app, sizes_cons, sizes_nil, Nat.add_zero]
theorem leaves_take {l : List XT} {i : Nat} {k : XT} (h : l[i]? = some k) : XT.leavesL (l.take (i + 1)) = XT.leavesL (l.take i) ++ k.leaves := by
  rw [take_at h, leavesL_app, leavesL_cons, leavesL_nil, List.append_nil]
theorem sizes_take_le (l : List XT) (i : Nat) : XT.sizes (l.take i) ≤ XT.sizes l := by
  have h := sizes_app (l.take i) (l.drop i)
  rw [List.take_append_drop] at h
  omega
theorem sizes_len (l : List XT) : l.length ≤ XT.sizes l := by
  induction l with
  | nil => exact Nat.zero_le _
  | cons k l ih => rw [sizes_cons, XT.size_eq, List.length_cons]; omega
theorem size_mem {l : List XT} {k : XT} (h : k ∈ l) : k.size ≤ XT.sizes l := by
  induction l with
  | nil => cases h
  | cons x l ih =>
    rw [sizes_cons]
    rcases List.mem_cons.1 h with rfl | h
    · omega
    · have := ih h; omega
theorem kid_size {x k : XT} (h : k ∈ x.kids) : k.size < x.size := by
  have := size_mem h
  rw [XT.size_eq x]; omega
theorem leaves_len : ∀ (n : Nat) (x : XT), x.size ≤ n → x.leaves.length ≤ x.size
  | 0, x, h => by rw [XT.size_eq] at h; omega
  | n + 1, x, h => by
    rw [XT.leaves_eq]
    split
    · rw [XT.size_eq]; simp
    · have key : ∀ l : List XT, (∀ k, k ∈ l → k.size ≤ n) → (XT.leavesL l).length ≤ XT.sizes l := fun l => by
        induction l with
        | nil => intro _; rw [leavesL_nil]; exact Nat.zero_le _
        | cons k l ih =>
          intro hk
          rw [leavesL_cons, sizes_cons, List.length_append]
          have h1 := leaves_len n k (hk k (List.mem_cons_self ..))
          have h2 := ih fun z hz => hk z (List.mem_cons_of_mem _ hz)
          omega
      have := key x.kids (fun k hk => by have := kid_size hk; omega)
      rw [XT.size_eq]; omega
theorem leavesL_len (l : List XT) : (XT.leavesL l).length ≤ XT.sizes l := by
  induction l with
  | nil => rw [leavesL_nil]; exact Nat.zero_le _
  | cons k l ih =>
    rw [leavesL_cons, sizes_cons, List.length_append]
    have h1 := leaves_len k.size k (Nat.le_refl _)
    omega
/-- a syntax tree of a symbol -/
inductive TreeP (g : Ana.Gr) : Int → XT → Prop where
  | leaf (y : Int) (x : XT) : 0 ≤ y → x.rule = -1 → x.term = y → x.kids.length = 0 → TreeP g y x
  | node (y : Int) (x : XT) (q : Ana.Rl) : y < 0 → 0 ≤ x.rule → x.term = 0 → g.rules[x.rule.toNat]? = some q → q.head = -1 - y → x.kids.length = q.body.length → (∀ (i : Nat) (z : Int) (k : XT), q.body[i]? = some z → x.kids[i]? = some k → TreeP g z k) → TreeP g y x
noncomputable def treB (g : Ana.Gr) (y : Int) (x : XT) : Bool := Ana.dec (TreeP g y x)
theorem treB_leaf {g : Ana.Gr} {y : Int} {x : XT} (h : 0 ≤ y) : treB g y x = decide (x.rule = -1 ∧ x.term = y ∧ x.kids.length = 0) := by
  by_cases hp : x.rule = -1 ∧ x.term = y ∧ x.kids.length = 0
  · rw [decide_eq_true hp]; exact Ana.dec_true (.leaf y x h hp.1 hp.2.1 hp.2.2)
  · rw [decide_eq_false hp]
    refine Ana.dec_false fun ht => ?_
    cases ht with
    | leaf _ _ h0 h1 h2 h3 => exact hp ⟨h1, h2, h3⟩
    | node _ _ q h0 => omega
structure NodeP (g : Ana.Gr) (y : Int) (x : XT) (q : Ana.Rl) : Prop where
  rule : 0 ≤ x.rule
  term : x.term = 0
  at_ : g.rules[x.rule.toNat]? = some q
  head : q.head = -1 - y
  len : x.kids.length = q.body.length
  kids : ∀ (i : Nat) (z : Int) (k : XT), q.body[i]? = some z → x.kids[i]? = some k → TreeP g z k
theorem TreeP.inv {g : Ana.Gr} {y : Int} {x : XT} (h : TreeP g y x) (h0 : y < 0) : ∃ q, NodeP g y x q := by
  cases h with
  | leaf _ _ h => omega
  | node _ _ q _ h1 h2 h3 h4 h5 h6 => exact ⟨q, h1, h2, h3, h4, h5, h6⟩
theorem treB_no {g : Ana.Gr} {y : Int} {x : XT} (h0 : y < 0) (h : ∀ q, ¬ NodeP g y x q) : treB g y x = false := Ana.dec_false fun ht => by
  obtain ⟨q, hq⟩ := ht.inv h0
  exact h q hq
theorem rule_ix {X : GI} {q : XR} {k : Nat} (h : X.xs[k]? = some q) : X.g.rules[k]? = some q.r := by
  show (X.xs.map XR.r)[k]? = some q.r
  rw [List.getElem?_map, h]; rfl
theorem inf_34 : InfoIs Try.prog 34 1 24 (.slice none 0 0) := by unfold InfoIs; kernel_rfl
theorem inf_36 : InfoIs Try.prog 36 3 40 (.agg #[.int .i64 0, .int .i64 0, .slice none 0 0]) := by unfold InfoIs; kernel_rfl
theorem call_26 : Callable Try.prog 26 := ⟨_, Try.func26, by kernel_rfl, rfl⟩
theorem call_27 : Callable Try.prog 27 := ⟨_, Try.func27, by kernel_rfl, rfl⟩
theorem call_28 : Callable Try.prog 28 := ⟨_, Try.func28, by kernel_rfl, rfl⟩
theorem nodes_step (x : XT) (hsz : x.size ≤ 1048576) (ih : ∀ k, k ∈ x.kids → ∀ w2, XT.In w2 k → Calls Try.prog 26 #[.agg #[.int .i64 k.rule, .int .i64 k.term, .slice k.A k.kids.length k.c]] w2 (Ret fun v w3 => v = .int .i64 ((k.size : Nat) : Int) ∧ Ext [] w2 w3)) (w : World) (hI : XT.In w x) :
   Calls Try.prog 26 #[.agg #[.int .i64 x.rule, .int .i64 x.term, .slice x.A x.kids.length x.c]] w (Ret fun v w' => v = .int .i64 ((x.size : Nat) : Int) ∧ Ext [] w w') := by
 have hkl := sizes_len x.kids
 have hxs0 := XT.size_eq x
 refine calls_fx (l := [.agg #[.int .i64 x.rule, .int .i64 x.term, .slice x.A x.kids.length x.c]]) Try.func26 rfl Try.ntmps26 (Nat.le_of_ble_eq_true rfl) ((St.start w).old hI (dep_in hI)) ?_
 refine c_seq ?_
 refine c_reg ?_
 refine l_box (by decide) rfl _ rfl (fun b1 => ?_)
 refine l_q (by decide) (p_assign (v := .int .i64 ((0 : Nat) : Int)) rfl).q ?_
 refine l_nil ?_
 refine c_seq ?_
 refine c_reg ?_
 refine l_q (by decide) (p_assign (v := .int .i64 ((1 : Nat) : Int)) rfl).q ?_
 refine l_nil ?_
 refine c_seq ?_
 refine c_seq ?_
 refine c_reg ?_
 refine l_q (by decide) (p_assign (v := .int .i64 ((0 : Nat) : Int)) rfl).q ?_
 refine l_nil ?_
 refine c_block ?_
 refine c_loop (S := Nat) (fun zs => zs ≤ x.kids.length) (fun zs => x.kids.length - zs) (fun zs => [(1, .pointer (some ⟨b1, 0, none⟩)), (3, .int .i64 ((XT.sizes (x.kids.take zs) + 1 : Nat) : Int)), (4, .int .i64 (zs : Int))]) (fun zs => [iCells b1 36 [.int .i64 x.rule, .int .i64 x.term, .slice x.A x.kids.length x.c]]) (fun zs => [InF x]) (0) ?_ ?_ ?_ ?_ ?_
 · show (0) ≤ x.kids.length
   exact Nat.zero_le _
 · exact ⟨rfl, (by show _ = some (Value.int .i64 ((XT.sizes (x.kids.take 0) + 1 : Nat) : Int)); rw [List.take_zero, sizes_nil]; rfl), rfl, trivial⟩
 · exact .refl _
 · exact fun _ h => h
 rintro i hinv
 have hinv : i ≤ x.kids.length := hinv
 have hi := hinv
 show Cont _ _ _ _ [(1, .pointer (some ⟨b1, 0, none⟩)), (3, .int .i64 ((XT.sizes (x.kids.take i) + 1 : Nat) : Int)), (4, .int .i64 (i : Int))] ([iCells b1 36 [.int .i64 x.rule, .int .i64 x.term, .slice x.A x.kids.length x.c]]) [InF x]
 refine c_seq ?_
 refine c_seq ?_
 refine c_reg ?_
 refine l_q (by decide) (p_move rfl).q ?_
 first | refine l_q (by decide) (p_faddr (i := 2) 2 Try.underlying36 rfl inf_34 (by decide) rfl rfl).q ?_ | refine l_q (by decide) (p_faddro (i := 2) 2 Try.underlying36 rfl inf_34 (by decide) rfl rfl).q ?_
 first | refine l_q (by decide) (r_loado Try.underlying34 rfl rfl (by repeat constructor) (by rfl)).q ?_ | refine l_q (by decide) (r_load1 Try.underlying34 rfl rfl (by first | exact .fact (by repeat constructor) | exact .own (by repeat constructor) (by decide) (fun _ => rfl) | exact (fun _ hs => (hs.facts (InF x) (by repeat constructor)).1.sl) | exact SlIn.body (xs := X.xs) (by repeat constructor) (by assumption)) (by first | assumption | rfl) (by rfl)).q ?_ | refine l_q (by decide) (r_loadf Try.underlying34 rfl rfl (by first | exact .fact (by repeat constructor) | exact .own (by repeat constructor) (by decide) (fun _ => rfl) | exact (fun _ hs => (hs.facts (InF x) (by repeat constructor)).1.sl) | exact SlIn.body (xs := X.xs) (by repeat constructor) (by assumption)) (by assumption) (by rfl)).q ?_
 refine l_q (by decide) (p_len_sl Try.underlying34 rfl).q ?_
 first | refine l_q (by decide) (p_lss rfl rfl rfl rfl).q ?_ | refine l_q (by decide) (p_lssi rfl rfl).q ?_
 refine l_nil ?_
 first | refine c_dec rfl (fun h9 => ?_) (fun h9 => ?_) | refine c_cond rfl (fun h9 => ?_) (fun h9 => ?_)
 ·skip
  obtain ⟨k, hk⟩ := at_some (l := x.kids) (n := i) (by omega)
  have hks := size_mem (List.mem_of_getElem? hk)
  have hst := sizes_take_le x.kids i
  have hxs := XT.size_eq x
  refine c_skip ?_
  refine c_seq ?_
  refine c_block ?_
  refine c_reg ?_
  refine l_q (by decide) (p_move rfl).q ?_
  first | refine l_q (by decide) (p_faddr (i := 2) 2 Try.underlying36 rfl inf_34 (by decide) rfl rfl).q ?_ | refine l_q (by decide) (p_faddro (i := 2) 2 Try.underlying36 rfl inf_34 (by decide) rfl rfl).q ?_
  first | refine l_q (by decide) (r_loado Try.underlying34 rfl rfl (by repeat constructor) (by rfl)).q ?_ | refine l_q (by decide) (r_load1 Try.underlying34 rfl rfl (by first | exact .fact (by repeat constructor) | exact .own (by repeat constructor) (by decide) (fun _ => rfl) | exact (fun _ hs => (hs.facts (InF x) (by repeat constructor)).1.sl) | exact SlIn.body (xs := X.xs) (by repeat constructor) (by assumption)) (by first | assumption | rfl) (by rfl)).q ?_ | refine l_q (by decide) (r_loadf Try.underlying34 rfl rfl (by first | exact .fact (by repeat constructor) | exact .own (by repeat constructor) (by decide) (fun _ => rfl) | exact (fun _ hs => (hs.facts (InF x) (by repeat constructor)).1.sl) | exact SlIn.body (xs := X.xs) (by repeat constructor) (by assumption)) (by assumption) (by rfl)).q ?_
  refine l_q (by decide) (p_move rfl).q ?_
  first | refine l_q (by decide) (r_index Try.underlying34 inf_36 rfl rfl rfl (by first | exact .fact (by repeat constructor) | exact .own (by repeat constructor) (by decide) (fun _ => rfl) | exact (fun _ hs => (hs.facts (InF x) (by repeat constructor)).1.sl) | exact SlIn.body (xs := X.xs) (by repeat constructor) (by assumption)) rfl (by omega)).q ?_ | refine l_q (by decide) (r_index Try.underlying34 inf_36 rfl rfl rfl (by first | exact .fact (by repeat constructor) | exact .own (by repeat constructor) (by decide) (fun _ => rfl) | exact (fun _ hs => (hs.facts (InF x) (by repeat constructor)).1.sl) | exact SlIn.body (xs := X.xs) (by repeat constructor) (by assumption)) rfl (by decide)).q ?_ | refine l_q (by decide) (p_indexo Try.underlying34 inf_36 rfl rfl rfl (by omega)).q ?_
  first | refine l_q (by decide) (r_loada Try.underlying36 rfl inf_36 rfl (by first | exact .fact (by repeat constructor) | exact .own (by repeat constructor) (by decide) (fun _ => rfl) | exact (fun _ hs => (hs.facts (InF x) (by repeat constructor)).1.sl) | exact SlIn.body (xs := X.xs) (by repeat constructor) (by assumption)) (by assumption)).q ?_ | refine l_q (by decide) (r_loadow Try.underlying36 rfl inf_36 rfl (by repeat constructor) (by rfl)).q ?_ | refine l_q (by decide) (r_loadoa Try.underlying36 rfl inf_36 rfl (by repeat constructor) (by rfl) (fun j u h => h)).q ?_
  refine l_q (by decide) (q_call call_26 rfl (fun w hs => ih k (List.mem_of_getElem? hk) w ((hs.facts (InF x) (by repeat constructor)).1.kid k (List.mem_of_getElem? hk)))) ?_
  first | refine l_q (by decide) (p_add rfl rfl rfl rfl (by show _ ≤ (9223372036854775807 : Nat); omega)).q ?_ | refine l_q (by decide) (p_addi rfl rfl (by show (-9223372036854775808 : Int) ≤ _; omega) (by show _ ≤ ((9223372036854775807 : Nat) : Int); omega)).q ?_
  refine l_q (by decide) (p_assign rfl).q ?_
  refine l_nil ?_
  refine c_reg ?_
  refine l_q (by decide) (p_move rfl).q ?_
  first | refine l_q (by decide) (p_add (j := 1) rfl rfl rfl rfl (by show _ ≤ (9223372036854775807 : Nat); omega)).q ?_ | refine l_q (by decide) (p_addi rfl rfl (by show (-9223372036854775808 : Int) ≤ _; omega) (by show _ ≤ ((9223372036854775807 : Nat) : Int); omega)).q ?_
  refine l_q (by decide) (p_assign rfl).q ?_
  refine l_nil ?_
  refine c_join ((i + 1)) ?_ ?_ ?_ ?_
  ·show ((i + 1) ≤ x.kids.length) ∧ x.kids.length - (i + 1) < x.kids.length - i
   exact ⟨by omega, by omega⟩
  · exact ⟨rfl, (by show _ = some (Value.int .i64 ((XT.sizes (x.kids.take (i + 1)) + 1 : Nat) : Int)); rw [sizes_take hk, show XT.sizes (x.kids.take i) + k.size + 1 = (XT.sizes (x.kids.take i) + 1) + k.size by omega]; rfl), rfl, trivial⟩
  ·show List.Perm _ ([iCells b1 36 [.int .i64 x.rule, .int .i64 x.term, .slice x.A x.kids.length x.c]])
   exact .refl _
  · exact fun _ h => h
 ·skip
  refine c_exit ?_
  refine c_here ?_
  refine c_seq ?_
  refine c_reg ?_
  refine l_q (by decide) (p_move rfl).q ?_
  refine l_q (by decide) (p_assign rfl).q ?_
  refine l_nil ?_
  refine c_ret ?_
  refine c_ret1 rfl rfl (fun w hs => ?_)
  have hi2 : i = x.kids.length := by omega
  subst hi2
  rw [List.take_length, ← XT.size_eq]
  exact ⟨rfl, hs.ext⟩

theorem leaves_step (x : XT) (hsz : x.size ≤ 1048576) (ih : ∀ k, k ∈ x.kids → ∀ w2, XT.In w2 k → Calls Try.prog 28 #[.agg #[.int .i64 k.rule, .int .i64 k.term, .slice k.A k.kids.length k.c]] w2 (Ret fun v w3 => ∃ z : Option Addr × Nat, v = .slice z.1 k.leaves.length z.2 ∧ Sl 1 intF z.1 k.leaves w3 ∧ Dep w2.heap.size w3.heap.size (Sl 1 intF z.1 k.leaves) ∧ Ext [] w2 w3)) (w : World) (hI : XT.In w x) :
   Calls Try.prog 28 #[.agg #[.int .i64 x.rule, .int .i64 x.term, .slice x.A x.kids.length x.c]] w (Ret fun v w' => ∃ z : Option Addr × Nat, v = .slice z.1 x.leaves.length z.2 ∧ Sl 1 intF z.1 x.leaves w' ∧ Dep w.heap.size w'.heap.size (Sl 1 intF z.1 x.leaves) ∧ Ext [] w w') := by
 have hkl := sizes_len x.kids
 have hxs0 := XT.size_eq x
 refine calls_fx (l := [.agg #[.int .i64 x.rule, .int .i64 x.term, .slice x.A x.kids.length x.c]]) Try.func28 rfl Try.ntmps28 (Nat.le_of_ble_eq_true rfl) ((St.start w).old hI (dep_in hI)) ?_
 refine c_seq ?_
 refine c_reg ?_
 refine l_box (by decide) rfl _ rfl (fun b1 => ?_)
 refine l_q (by decide) (p_assign rfl).q ?_
 refine l_nil ?_
 refine c_seq ?_
 refine c_seq ?_
 refine c_reg ?_
 first | refine l_q (by decide) (p_faddr (i := 0) 0 Try.underlying36 rfl inf_3 (by decide) rfl rfl).q ?_ | refine l_q (by decide) (p_faddro (i := 0) 0 Try.underlying36 rfl inf_3 (by decide) rfl rfl).q ?_
 first | refine l_q (by decide) (r_loado Try.underlying3 rfl rfl (by repeat constructor) (by rfl)).q ?_ | refine l_q (by decide) (r_load1 Try.underlying3 rfl rfl (by first | exact .fact (by repeat constructor) | exact .own (by repeat constructor) (by decide) (fun _ => rfl) | exact (fun _ hs => (hs.facts (InF x) (by repeat constructor)).1.sl) | exact SlIn.body (xs := X.xs) (by repeat constructor) (by assumption)) (by first | assumption | rfl) (by rfl)).q ?_ | refine l_q (by decide) (r_loadf Try.underlying3 rfl rfl (by first | exact .fact (by repeat constructor) | exact .own (by repeat constructor) (by decide) (fun _ => rfl) | exact (fun _ hs => (hs.facts (InF x) (by repeat constructor)).1.sl) | exact SlIn.body (xs := X.xs) (by repeat constructor) (by assumption)) (by assumption) (by rfl)).q ?_
 first | refine l_q (by decide) (p_eql rfl rfl rfl rfl).q ?_ | refine l_q (by decide) (p_eqli rfl rfl).q ?_
 refine l_nil ?_
 first | refine c_dec rfl (fun h7 => ?_) (fun h7 => ?_) | refine c_cond rfl (fun h7 => ?_) (fun h7 => ?_)
 ·skip
  refine c_seq ?_
  refine c_reg ?_
  first | refine l_q (by decide) (p_faddr (i := 1) 1 Try.underlying36 rfl inf_3 (by decide) rfl rfl).q ?_ | refine l_q (by decide) (p_faddro (i := 1) 1 Try.underlying36 rfl inf_3 (by decide) rfl rfl).q ?_
  first | refine l_q (by decide) (r_loado Try.underlying3 rfl rfl (by repeat constructor) (by rfl)).q ?_ | refine l_q (by decide) (r_load1 Try.underlying3 rfl rfl (by first | exact .fact (by repeat constructor) | exact .own (by repeat constructor) (by decide) (fun _ => rfl) | exact (fun _ hs => (hs.facts (InF x) (by repeat constructor)).1.sl) | exact SlIn.body (xs := X.xs) (by repeat constructor) (by assumption)) (by first | assumption | rfl) (by rfl)).q ?_ | refine l_q (by decide) (r_loadf Try.underlying3 rfl rfl (by first | exact .fact (by repeat constructor) | exact .own (by repeat constructor) (by decide) (fun _ => rfl) | exact (fun _ hs => (hs.facts (InF x) (by repeat constructor)).1.sl) | exact SlIn.body (xs := X.xs) (by repeat constructor) (by assumption)) (by assumption) (by rfl)).q ?_
  refine l_buildSlice (by decide) Try.underlying39 inf_3 (by decide) (by decide) rfl rfl rfl rfl (fun b10 => ?_)
  refine l_q (by decide) (p_assign rfl).q ?_
  refine l_nil ?_
  refine c_ret ?_
  refine c_ret1 rfl rfl (fun w hs => ?_)
  have e : x.leaves = [x.term] := by rw [XT.leaves_eq, if_pos h7]
  rw [e]
  have g := give_cells (size := 1) intF [x.term] hs (List.mem_cons_self ..) rfl (fun _ => rfl)
  exact ⟨(some ⟨b10, 0, none⟩, 1), rfl, g.1, g.2, hs.ext⟩
 ·skip
  refine c_skip ?_
  refine c_seq ?_
  refine c_reg ?_
  refine l_q (by decide) (p_assign rfl).q ?_
  refine l_nil ?_
  refine c_seq ?_
  refine c_seq ?_
  refine c_reg ?_
  refine l_q (by decide) (p_assign (v := .int .i64 ((0 : Nat) : Int)) rfl).q ?_
  refine l_nil ?_
  refine c_block ?_
  refine c_sl0 3 1 intF ?_
  refine c_loop (S := Nat × Option Addr × Nat) (fun zs => zs.1 ≤ x.kids.length) (fun zs => x.kids.length - zs.1) (fun zs => [(1, .pointer (some ⟨b1, 0, none⟩)), (3, .slice zs.2.1 (XT.leavesL (x.kids.take zs.1)).length zs.2.2), (4, .int .i64 (zs.1 : Int))]) (fun zs => [iSl 3 1 intF zs.2.1 zs.2.2 (XT.leavesL (x.kids.take zs.1)), iCells b1 36 [.int .i64 x.rule, .int .i64 x.term, .slice x.A x.kids.length x.c]]) (fun zs => [InF x]) (0, none, 0) ?_ ?_ ?_ ?_ ?_
  · show (0) ≤ x.kids.length
    exact Nat.zero_le _
  · exact ⟨rfl, (by show _ = some (Value.slice none (XT.leavesL (x.kids.take 0)).length 0); rw [List.take_zero, leavesL_nil]; rfl), rfl, trivial⟩
  · exact (by show List.Perm _ [iSl 3 1 intF none 0 (XT.leavesL (x.kids.take 0)), _]; rw [List.take_zero, leavesL_nil])
  · exact fun _ h => h
  rintro ⟨i, A, c⟩ hinv
  have hinv : i ≤ x.kids.length := hinv
  have hi := hinv
  show Cont _ _ _ _ [(1, .pointer (some ⟨b1, 0, none⟩)), (3, .slice A (XT.leavesL (x.kids.take i)).length c), (4, .int .i64 (i : Int))] ([iSl 3 1 intF A c (XT.leavesL (x.kids.take i)), iCells b1 36 [.int .i64 x.rule, .int .i64 x.term, .slice x.A x.kids.length x.c]]) [InF x]
  refine c_seq ?_
  refine c_seq ?_
  refine c_reg ?_
  refine l_q (by decide) (p_move rfl).q ?_
  first | refine l_q (by decide) (p_faddr (i := 2) 2 Try.underlying36 rfl inf_34 (by decide) rfl rfl).q ?_ | refine l_q (by decide) (p_faddro (i := 2) 2 Try.underlying36 rfl inf_34 (by decide) rfl rfl).q ?_
  first | refine l_q (by decide) (r_loado Try.underlying34 rfl rfl (by repeat constructor) (by rfl)).q ?_ | refine l_q (by decide) (r_load1 Try.underlying34 rfl rfl (by first | exact .fact (by repeat constructor) | exact .own (by repeat constructor) (by decide) (fun _ => rfl) | exact (fun _ hs => (hs.facts (InF x) (by repeat constructor)).1.sl) | exact SlIn.body (xs := X.xs) (by repeat constructor) (by assumption)) (by first | assumption | rfl) (by rfl)).q ?_ | refine l_q (by decide) (r_loadf Try.underlying34 rfl rfl (by first | exact .fact (by repeat constructor) | exact .own (by repeat constructor) (by decide) (fun _ => rfl) | exact (fun _ hs => (hs.facts (InF x) (by repeat constructor)).1.sl) | exact SlIn.body (xs := X.xs) (by repeat constructor) (by assumption)) (by assumption) (by rfl)).q ?_
  refine l_q (by decide) (p_len_sl Try.underlying34 rfl).q ?_
  first | refine l_q (by decide) (p_lss rfl rfl rfl rfl).q ?_ | refine l_q (by decide) (p_lssi rfl rfl).q ?_
  refine l_nil ?_
  first | refine c_dec rfl (fun h15 => ?_) (fun h15 => ?_) | refine c_cond rfl (fun h15 => ?_) (fun h15 => ?_)
  ·skip
   obtain ⟨k, hk⟩ := at_some (l := x.kids) (n := i) (by omega)
   have hks := size_mem (List.mem_of_getElem? hk)
   have hst := sizes_take hk
   have hst2 := sizes_take_le x.kids (i + 1)
   have hll := leavesL_len (x.kids.take i)
   have hlk := leaves_len k.size k (Nat.le_refl _)
   have hxs := XT.size_eq x
   refine c_skip ?_
   refine c_seq ?_
   refine c_block ?_
   refine c_reg ?_
   refine l_q (by decide) (p_move rfl).q ?_
   first | refine l_q (by decide) (p_faddr (i := 2) 2 Try.underlying36 rfl inf_34 (by decide) rfl rfl).q ?_ | refine l_q (by decide) (p_faddro (i := 2) 2 Try.underlying36 rfl inf_34 (by decide) rfl rfl).q ?_
   first | refine l_q (by decide) (r_loado Try.underlying34 rfl rfl (by repeat constructor) (by rfl)).q ?_ | refine l_q (by decide) (r_load1 Try.underlying34 rfl rfl (by first | exact .fact (by repeat constructor) | exact .own (by repeat constructor) (by decide) (fun _ => rfl) | exact (fun _ hs => (hs.facts (InF x) (by repeat constructor)).1.sl) | exact SlIn.body (xs := X.xs) (by repeat constructor) (by assumption)) (by first | assumption | rfl) (by rfl)).q ?_ | refine l_q (by decide) (r_loadf Try.underlying34 rfl rfl (by first | exact .fact (by repeat constructor) | exact .own (by repeat constructor) (by decide) (fun _ => rfl) | exact (fun _ hs => (hs.facts (InF x) (by repeat constructor)).1.sl) | exact SlIn.body (xs := X.xs) (by repeat constructor) (by assumption)) (by assumption) (by rfl)).q ?_
   refine l_q (by decide) (p_move rfl).q ?_
   first | refine l_q (by decide) (r_index Try.underlying34 inf_36 rfl rfl rfl (by first | exact .fact (by repeat constructor) | exact .own (by repeat constructor) (by decide) (fun _ => rfl) | exact (fun _ hs => (hs.facts (InF x) (by repeat constructor)).1.sl) | exact SlIn.body (xs := X.xs) (by repeat constructor) (by assumption)) rfl (by omega)).q ?_ | refine l_q (by decide) (r_index Try.underlying34 inf_36 rfl rfl rfl (by first | exact .fact (by repeat constructor) | exact .own (by repeat constructor) (by decide) (fun _ => rfl) | exact (fun _ hs => (hs.facts (InF x) (by repeat constructor)).1.sl) | exact SlIn.body (xs := X.xs) (by repeat constructor) (by assumption)) rfl (by decide)).q ?_ | refine l_q (by decide) (p_indexo Try.underlying34 inf_36 rfl rfl rfl (by omega)).q ?_
   first | refine l_q (by decide) (r_loada Try.underlying36 rfl inf_36 rfl (by first | exact .fact (by repeat constructor) | exact .own (by repeat constructor) (by decide) (fun _ => rfl) | exact (fun _ hs => (hs.facts (InF x) (by repeat constructor)).1.sl) | exact SlIn.body (xs := X.xs) (by repeat constructor) (by assumption)) (by assumption)).q ?_ | refine l_q (by decide) (r_loadow Try.underlying36 rfl inf_36 rfl (by repeat constructor) (by rfl)).q ?_ | refine l_q (by decide) (r_loadoa Try.underlying36 rfl inf_36 rfl (by repeat constructor) (by rfl) (fun j u h => h)).q ?_
   refine l_call (X := Option Addr × Nat) (fun z => .slice z.1 k.leaves.length z.2) (fun z => Sl 1 intF z.1 k.leaves) (by decide) call_28 rfl (fun w hs => ih k (List.mem_of_getElem? hk) w ((hs.facts (InF x) (by repeat constructor)).1.kid k (List.mem_of_getElem? hk))) (fun z => ?_)
   refine l_appendsl (f := intF) k.leaves (by decide) Try.underlying39 inf_3 rfl (by decide) rfl rfl rfl rfl (List.mem_cons_self ..) (fun e u h => by rw [List.mem_singleton.1 h]; rfl) (by omega) (by omega) (fun A25 c25 => ?_)
   refine l_q (by decide) (p_assign rfl).q ?_
   refine l_nil ?_
   refine c_reg ?_
   refine l_q (by decide) (p_move rfl).q ?_
   first | refine l_q (by decide) (p_add (j := 1) rfl rfl rfl rfl (by show _ ≤ (9223372036854775807 : Nat); omega)).q ?_ | refine l_q (by decide) (p_addi rfl rfl (by show (-9223372036854775808 : Int) ≤ _; omega) (by show _ ≤ ((9223372036854775807 : Nat) : Int); omega)).q ?_
   refine l_q (by decide) (p_assign rfl).q ?_
   refine l_nil ?_
   refine c_join ((i + 1), (A25), (c25)) ?_ ?_ ?_ ?_
   ·show ((i + 1) ≤ x.kids.length) ∧ x.kids.length - (i + 1) < x.kids.length - i
    exact ⟨by omega, by omega⟩
   · exact ⟨rfl, (by show _ = some (Value.slice A25 (XT.leavesL (x.kids.take (i + 1))).length c25); rw [leaves_take hk]; rfl), rfl, trivial⟩
   ·show List.Perm _ ([iSl 3 1 intF (A25) (c25) (XT.leavesL (x.kids.take (i + 1))), iCells b1 36 [.int .i64 x.rule, .int .i64 x.term, .slice x.A x.kids.length x.c]])
    rw [leaves_take hk]
   · exact fun _ h => List.mem_cons_of_mem _ h
  ·skip
   refine c_exit ?_
   refine c_here ?_
   refine c_seq ?_
   refine c_reg ?_
   refine l_q (by decide) (p_move rfl).q ?_
   refine l_q (by decide) (p_assign rfl).q ?_
   refine l_nil ?_
   refine c_ret ?_
   refine c_ret1 rfl rfl (fun w hs => ?_)
   have hi2 : i = x.kids.length := by omega
   subst hi2
   rw [List.take_length] at hs ⊢
   have e : x.leaves = XT.leavesL x.kids := by rw [XT.leaves_eq, if_neg h7]
   rw [e]
   have g := hs.give (e := 3) (size := 1) (f := intF) (es := XT.leavesL x.kids) (A := A) (c := c) (by repeat constructor) (by decide) (fun _ => rfl)
   exact ⟨(A, c), rfl, g.1, g.2.1, hs.ext⟩

theorem in_ok (A : Option Addr) (c : Nat) (l : List Int) (hl : l.length ≤ 1000000) (a : Int) (w : World) (hq : Sl 1 intF A l w) :
   Calls Try.prog 29 #[.slice A l.length c, .int .i64 a] w (Ret fun v w' => v = .bool (decide (a ∈ l)) ∧ Ext [] w w') := by
 refine calls_fx (l := [.slice A l.length c, .int .i64 a]) Try.func29 rfl Try.ntmps29 (Nat.le_of_ble_eq_true rfl) ((St.start w).old hq (dep_sl (by decide) hq)) ?_
 refine c_seq ?_
 refine c_reg ?_
 refine l_q (by decide) (p_assign rfl).q ?_
 refine l_nil ?_
 refine c_seq ?_
 refine c_seq ?_
 refine c_reg ?_
 refine l_q (by decide) (p_assign (v := .int .i64 ((0 : Nat) : Int)) rfl).q ?_
 refine l_nil ?_
 refine c_block ?_
 refine c_loop (S := Nat) (fun zs => zs ≤ l.length ∧ ¬ a ∈ l.take zs) (fun zs => l.length - zs) (fun zs => [(0, .slice A l.length c), (1, .int .i64 a), (5, .int .i64 (zs : Int))]) (fun zs => []) (fun zs => [Sl 1 intF A l]) (0) ?_ ?_ ?_ ?_ ?_
 · show (0) ≤ l.length ∧ ¬ a ∈ l.take (0)
   exact ⟨Nat.zero_le _, by simp⟩
 · exact ⟨rfl, rfl, rfl, trivial⟩
 · exact .refl _
 · simp
 rintro k hinv
 have hinv : k ≤ l.length ∧ ¬ a ∈ l.take k := hinv
 obtain ⟨hk, he⟩ := hinv
 show Cont _ _ _ _ [(0, .slice A l.length c), (1, .int .i64 a), (5, .int .i64 (k : Int))] ([]) [Sl 1 intF A l]
 refine c_seq ?_
 refine c_seq ?_
 refine c_reg ?_
 refine l_q (by decide) (p_move rfl).q ?_
 refine l_q (by decide) (p_move rfl).q ?_
 refine l_q (by decide) (p_len_sl Try.underlying39 rfl).q ?_
 first | refine l_q (by decide) (p_lss rfl rfl rfl rfl).q ?_ | refine l_q (by decide) (p_lssi rfl rfl).q ?_
 refine l_nil ?_
 first | refine c_dec rfl (fun h9 => ?_) (fun h9 => ?_) | refine c_cond rfl (fun h9 => ?_) (fun h9 => ?_)
 ·skip
  obtain ⟨u, hu⟩ := at_some (l := l) (n := k) (by omega)
  refine c_skip ?_
  refine c_seq ?_
  refine c_block ?_
  refine c_seq ?_
  refine c_reg ?_
  refine l_q (by decide) (p_move rfl).q ?_
  refine l_q (by decide) (p_move rfl).q ?_
  first | refine l_q (by decide) (r_index Try.underlying39 inf_3 rfl rfl rfl (by first | exact .fact (by repeat constructor) | exact .own (by repeat constructor) (by decide) (fun _ => rfl) | exact (fun _ hs => (hs.facts (InF x) (by repeat constructor)).1.sl) | exact SlIn.body (xs := X.xs) (by repeat constructor) (by assumption)) rfl (by omega)).q ?_ | refine l_q (by decide) (r_index Try.underlying39 inf_3 rfl rfl rfl (by first | exact .fact (by repeat constructor) | exact .own (by repeat constructor) (by decide) (fun _ => rfl) | exact (fun _ hs => (hs.facts (InF x) (by repeat constructor)).1.sl) | exact SlIn.body (xs := X.xs) (by repeat constructor) (by assumption)) rfl (by decide)).q ?_ | refine l_q (by decide) (p_indexo Try.underlying39 inf_3 rfl rfl rfl (by omega)).q ?_
  first | refine l_q (by decide) (r_loado Try.underlying3 rfl rfl (by repeat constructor) (by rfl)).q ?_ | refine l_q (by decide) (r_load1 Try.underlying3 rfl rfl (by first | exact .fact (by repeat constructor) | exact .own (by repeat constructor) (by decide) (fun _ => rfl) | exact (fun _ hs => (hs.facts (InF x) (by repeat constructor)).1.sl) | exact SlIn.body (xs := X.xs) (by repeat constructor) (by assumption)) (by first | assumption | rfl) (by rfl)).q ?_ | refine l_q (by decide) (r_loadf Try.underlying3 rfl rfl (by first | exact .fact (by repeat constructor) | exact .own (by repeat constructor) (by decide) (fun _ => rfl) | exact (fun _ hs => (hs.facts (InF x) (by repeat constructor)).1.sl) | exact SlIn.body (xs := X.xs) (by repeat constructor) (by assumption)) (by assumption) (by rfl)).q ?_
  refine l_q (by decide) (p_move rfl).q ?_
  first | refine l_q (by decide) (p_eql rfl rfl rfl rfl).q ?_ | refine l_q (by decide) (p_eqli rfl rfl).q ?_
  refine l_nil ?_
  first | refine c_dec rfl (fun h17 => ?_) (fun h17 => ?_) | refine c_cond rfl (fun h17 => ?_) (fun h17 => ?_)
  ·skip
   refine c_seq ?_
   refine c_reg ?_
   refine l_q (by decide) (p_assign rfl).q ?_
   refine l_nil ?_
   refine c_ret ?_
   refine c_ret1 rfl rfl (fun w hs => ?_)
   exact ⟨by rw [decide_eq_true (show a ∈ l from h17 ▸ List.mem_of_getElem? hu)], hs.ext⟩
  ·skip
   refine c_skip ?_
   refine c_reg ?_
   refine l_q (by decide) (p_move rfl).q ?_
   first | refine l_q (by decide) (p_add (j := 1) rfl rfl rfl rfl (by show _ ≤ (9223372036854775807 : Nat); omega)).q ?_ | refine l_q (by decide) (p_addi rfl rfl (by show (-9223372036854775808 : Int) ≤ _; omega) (by show _ ≤ ((9223372036854775807 : Nat) : Int); omega)).q ?_
   refine l_q (by decide) (p_assign rfl).q ?_
   refine l_nil ?_
   refine c_join ((k + 1)) ?_ ?_ ?_ ?_
   ·show ((k + 1) ≤ l.length ∧ ¬ a ∈ l.take (k + 1)) ∧ l.length - (k + 1) < l.length - k
    refine ⟨⟨by omega, fun h => ?_⟩, by omega⟩
    rw [take_at hu] at h
    rcases List.mem_append.1 h with h | h
    · exact he h
    · exact h17 (List.mem_singleton.1 h).symm
   · exact ⟨rfl, rfl, rfl, trivial⟩
   ·show List.Perm _ ([])
    exact .refl _
   · exact fun _ h => h
 ·skip
  refine c_exit ?_
  refine c_here ?_
  refine c_seq ?_
  refine c_reg ?_
  refine l_q (by decide) (p_assign rfl).q ?_
  refine l_nil ?_
  refine c_ret ?_
  refine c_ret1 rfl rfl (fun w hs => ?_)
  rw [List.take_of_length_le (by omega)] at he
  exact ⟨by rw [decide_eq_false he], hs.ext⟩

theorem tree_step (X : GI) (hX : X.small) (ok : Ana.Ok X.g) (y : Int) (hy : -1000000 ≤ y) (x : XT) (hsz : x.size ≤ 1048576) (ih : ∀ k, k ∈ x.kids → ∀ z : Int, -1000000 ≤ z → z ≤ 1000000 → ∀ w2, X.mem w2 → XT.In w2 k → Calls Try.prog 27 #[.agg #[.slice X.At X.terms.length X.ct, .slice X.An X.nts.length X.cn, .int .i64 X.start, .slice X.Ar X.xs.length X.cr], .int .i64 z, .agg #[.int .i64 k.rule, .int .i64 k.term, .slice k.A k.kids.length k.c]] w2 (Ret fun v w3 => v = .bool (treB X.g z k) ∧ Ext [] w2 w3)) (w : World) (hM : X.mem w) (hI : XT.In w x) :
   Calls Try.prog 27 #[.agg #[.slice X.At X.terms.length X.ct, .slice X.An X.nts.length X.cn, .int .i64 X.start, .slice X.Ar X.xs.length X.cr], .int .i64 y, .agg #[.int .i64 x.rule, .int .i64 x.term, .slice x.A x.kids.length x.c]] w (Ret fun v w' => v = .bool (treB X.g y x) ∧ Ext [] w w') := by
 have hkl := sizes_len x.kids
 have hxs0 := XT.size_eq x
 have hnl := ok.nl
 have htl := ok.tl
 have hxl := hX.x
 refine calls_fx (l := [.agg #[.slice X.At X.terms.length X.ct, .slice X.An X.nts.length X.cn, .int .i64 X.start, .slice X.Ar X.xs.length X.cr], .int .i64 y, .agg #[.int .i64 x.rule, .int .i64 x.term, .slice x.A x.kids.length x.c]]) Try.func27 rfl Try.ntmps27 (Nat.le_of_ble_eq_true rfl) ((X.begin hM).old hI (dep_in hI)) ?_
 refine c_seq ?_
 refine c_reg ?_
 refine l_box (by decide) rfl _ rfl (fun b3 => ?_)
 refine l_box (by decide) rfl _ rfl (fun b5 => ?_)
 refine l_q (by decide) (p_assign rfl).q ?_
 refine l_nil ?_
 refine c_seq ?_
 refine c_seq ?_
 refine c_reg ?_
 refine l_q (by decide) (p_move rfl).q ?_
 first | refine l_q (by decide) (p_geq (j := 0) rfl rfl rfl rfl).q ?_ | refine l_q (by decide) (p_geqi rfl rfl).q ?_
 refine l_nil ?_
 first | refine c_dec rfl (fun h9 => ?_) (fun h9 => ?_) | refine c_cond rfl (fun h9 => ?_) (fun h9 => ?_)
 ·skip
  refine c_seq ?_
  refine c_reg ?_
  first | refine l_q (by decide) (p_faddr (i := 0) 0 Try.underlying36 rfl inf_3 (by decide) rfl rfl).q ?_ | refine l_q (by decide) (p_faddro (i := 0) 0 Try.underlying36 rfl inf_3 (by decide) rfl rfl).q ?_
  first | refine l_q (by decide) (r_loado Try.underlying3 rfl rfl (by repeat constructor) (by rfl)).q ?_ | refine l_q (by decide) (r_load1 Try.underlying3 rfl rfl (by first | exact .fact (by repeat constructor) | exact .own (by repeat constructor) (by decide) (fun _ => rfl) | exact (fun _ hs => (hs.facts (InF x) (by repeat constructor)).1.sl) | exact SlIn.body (xs := X.xs) (by repeat constructor) (by assumption)) (by first | assumption | rfl) (by rfl)).q ?_ | refine l_q (by decide) (r_loadf Try.underlying3 rfl rfl (by first | exact .fact (by repeat constructor) | exact .own (by repeat constructor) (by decide) (fun _ => rfl) | exact (fun _ hs => (hs.facts (InF x) (by repeat constructor)).1.sl) | exact SlIn.body (xs := X.xs) (by repeat constructor) (by assumption)) (by assumption) (by rfl)).q ?_
  first | refine l_q (by decide) (p_eql rfl rfl rfl rfl).q ?_ | refine l_q (by decide) (p_eqli rfl rfl).q ?_
  refine l_q (by decide) (p_move rfl).q ?_
  first | refine l_splitd (t := 13) rfl (fun h13 => ?_) (fun h13 => ?_) | refine l_splitb (t := 13) rfl (fun h13 => ?_) (fun h13 => ?_)
  ·skip
   first | refine l_g (j := 3) rfl rfl (by decide) (p_faddr (i := 1) 1 Try.underlying36 rfl inf_3 (by decide) rfl rfl).q ?_ | refine l_g (j := 3) rfl rfl (by decide) (p_faddro (i := 1) 1 Try.underlying36 rfl inf_3 (by decide) rfl rfl).q ?_
   first | refine l_g (j := 3) rfl rfl (by decide) (r_loado Try.underlying3 rfl rfl (by repeat constructor) (by rfl)).q ?_ | refine l_g (j := 3) rfl rfl (by decide) (r_load1 Try.underlying3 rfl rfl (by first | exact .fact (by repeat constructor) | exact .own (by repeat constructor) (by decide) (fun _ => rfl) | exact (fun _ hs => (hs.facts (InF x) (by repeat constructor)).1.sl) | exact SlIn.body (xs := X.xs) (by repeat constructor) (by assumption)) (by first | assumption | rfl) (by rfl)).q ?_ | refine l_g (j := 3) rfl rfl (by decide) (r_loadf Try.underlying3 rfl rfl (by first | exact .fact (by repeat constructor) | exact .own (by repeat constructor) (by decide) (fun _ => rfl) | exact (fun _ hs => (hs.facts (InF x) (by repeat constructor)).1.sl) | exact SlIn.body (xs := X.xs) (by repeat constructor) (by assumption)) (by assumption) (by rfl)).q ?_
   refine l_g (j := 3) rfl rfl (by decide) (p_move rfl).q ?_
   first | refine l_g (j := 3) rfl rfl (by decide) (p_eql rfl rfl rfl rfl).q ?_ | refine l_g (j := 3) rfl rfl (by decide) (p_eqli rfl rfl).q ?_
   refine l_q (by decide) (p_pick rfl rfl).q ?_
   refine l_q (by decide) (p_move rfl).q ?_
   first | refine l_splitd (t := 19) rfl (fun h19 => ?_) (fun h19 => ?_) | refine l_splitb (t := 19) rfl (fun h19 => ?_) (fun h19 => ?_)
   ·skip
    first | refine l_g (j := 9) rfl rfl (by decide) (p_faddr (i := 2) 2 Try.underlying36 rfl inf_34 (by decide) rfl rfl).q ?_ | refine l_g (j := 9) rfl rfl (by decide) (p_faddro (i := 2) 2 Try.underlying36 rfl inf_34 (by decide) rfl rfl).q ?_
    first | refine l_g (j := 9) rfl rfl (by decide) (r_loado Try.underlying34 rfl rfl (by repeat constructor) (by rfl)).q ?_ | refine l_g (j := 9) rfl rfl (by decide) (r_load1 Try.underlying34 rfl rfl (by first | exact .fact (by repeat constructor) | exact .own (by repeat constructor) (by decide) (fun _ => rfl) | exact (fun _ hs => (hs.facts (InF x) (by repeat constructor)).1.sl) | exact SlIn.body (xs := X.xs) (by repeat constructor) (by assumption)) (by first | assumption | rfl) (by rfl)).q ?_ | refine l_g (j := 9) rfl rfl (by decide) (r_loadf Try.underlying34 rfl rfl (by first | exact .fact (by repeat constructor) | exact .own (by repeat constructor) (by decide) (fun _ => rfl) | exact (fun _ hs => (hs.facts (InF x) (by repeat constructor)).1.sl) | exact SlIn.body (xs := X.xs) (by repeat constructor) (by assumption)) (by assumption) (by rfl)).q ?_
    refine l_g (j := 9) rfl rfl (by decide) (p_len_sl Try.underlying34 rfl).q ?_
    first | refine l_g (j := 9) rfl rfl (by decide) (p_eql (j := 0) rfl rfl rfl rfl).q ?_ | refine l_g (j := 9) rfl rfl (by decide) (p_eqli rfl rfl).q ?_
    refine l_q (by decide) (p_pick rfl rfl).q ?_
    refine l_q (by decide) (p_assign rfl).q ?_
    refine l_nil ?_
    refine c_ret ?_
    refine c_ret1 rfl rfl (fun w hs => ?_)
    exact ⟨by rw [treB_leaf h9]; exact congrArg Value.bool (decide_eq_decide.2 ⟨fun h => ⟨h13, h19, h⟩, fun h => h.2.2⟩), hs.ext⟩
   ·skip
    refine l_off (j := 9) rfl rfl (by first | (simp; done) | (simp [undef]; done)) (by decide) ?_
    refine l_off (j := 9) rfl rfl (by first | (simp; done) | (simp [undef]; done)) (by decide) ?_
    refine l_off (j := 9) rfl rfl (by first | (simp; done) | (simp [undef]; done)) (by decide) ?_
    refine l_off (j := 9) rfl rfl (by first | (simp; done) | (simp [undef]; done)) (by decide) ?_
    refine l_q (by decide) (p_pick rfl rfl).q ?_
    refine l_q (by decide) (p_assign rfl).q ?_
    refine l_nil ?_
    refine c_ret ?_
    refine c_ret1 rfl rfl (fun w hs => ?_)
    exact ⟨by rw [treB_leaf h9]; rw [decide_eq_false (fun h => h19 h.2.1)], hs.ext⟩
  ·skip
   refine l_off (j := 3) rfl rfl (by first | (simp; done) | (simp [undef]; done)) (by decide) ?_
   refine l_off (j := 3) rfl rfl (by first | (simp; done) | (simp [undef]; done)) (by decide) ?_
   refine l_off (j := 3) rfl rfl (by first | (simp; done) | (simp [undef]; done)) (by decide) ?_
   refine l_off (j := 3) rfl rfl (by first | (simp; done) | (simp [undef]; done)) (by decide) ?_
   refine l_q (by decide) (p_pick rfl rfl).q ?_
   refine l_q (by decide) (p_move rfl).q ?_
   refine l_off (j := 9) rfl rfl (by first | (simp; done) | (simp [undef]; done)) (by decide) ?_
   refine l_off (j := 9) rfl rfl (by first | (simp; done) | (simp [undef]; done)) (by decide) ?_
   refine l_off (j := 9) rfl rfl (by first | (simp; done) | (simp [undef]; done)) (by decide) ?_
   refine l_off (j := 9) rfl rfl (by first | (simp; done) | (simp [undef]; done)) (by decide) ?_
   refine l_q (by decide) (p_pick rfl rfl).q ?_
   refine l_q (by decide) (p_assign rfl).q ?_
   refine l_nil ?_
   refine c_ret ?_
   refine c_ret1 rfl rfl (fun w hs => ?_)
   exact ⟨by rw [treB_leaf h9]; rw [decide_eq_false (fun h => h13 h.1)], hs.ext⟩
 ·skip
  refine c_skip ?_
  refine c_seq ?_
  refine c_seq ?_
  refine c_draw mixed (by decide +kernel) ?_
  first | refine q_q (by decide) (p_faddr (i := 0) 0 Try.underlying36 rfl inf_3 (by decide) rfl rfl).q ?_ | refine q_q (by decide) (p_faddro (i := 0) 0 Try.underlying36 rfl inf_3 (by decide) rfl rfl).q ?_
  first | refine q_q (by decide) (r_loado Try.underlying3 rfl rfl (by repeat constructor) (by rfl)).q ?_ | refine q_q (by decide) (r_load1 Try.underlying3 rfl rfl (by first | exact .fact (by repeat constructor) | exact .own (by repeat constructor) (by decide) (fun _ => rfl) | exact (fun _ hs => (hs.facts (InF x) (by repeat constructor)).1.sl) | exact SlIn.body (xs := X.xs) (by repeat constructor) (by assumption)) (by first | assumption | rfl) (by rfl)).q ?_ | refine q_q (by decide) (r_loadf Try.underlying3 rfl rfl (by first | exact .fact (by repeat constructor) | exact .own (by repeat constructor) (by decide) (fun _ => rfl) | exact (fun _ hs => (hs.facts (InF x) (by repeat constructor)).1.sl) | exact SlIn.body (xs := X.xs) (by repeat constructor) (by assumption)) (by assumption) (by rfl)).q ?_
  first | refine q_q (by decide) (p_lss (j := 0) rfl rfl rfl rfl).q ?_ | refine q_q (by decide) (p_lssi rfl rfl).q ?_
  refine q_q (by decide) (p_move rfl).q ?_
  first | refine q_splitd (t := 28) rfl (fun h28 => ?_) (fun h28 => ?_) | refine q_splitb (t := 28) rfl (fun h28 => ?_) (fun h28 => ?_)
  ·skip
   refine q_off (j := 3) rfl rfl (by first | (simp; done) | (simp [undef]; done)) (by decide) ?_
   refine q_off (j := 3) rfl rfl (by first | (simp; done) | (simp [undef]; done)) (by decide) ?_
   refine q_off (j := 3) rfl rfl (by first | (simp; done) | (simp [undef]; done)) (by decide) ?_
   refine q_off (j := 3) rfl rfl (by first | (simp; done) | (simp [undef]; done)) (by decide) ?_
   refine q_off (j := 3) rfl rfl (by first | (simp; done) | (simp [undef]; done)) (by decide) ?_
   refine q_off (j := 3) rfl rfl (by first | (simp; done) | (simp [undef]; done)) (by decide) ?_
   refine q_q (by decide) (p_pick rfl rfl).q ?_
   refine q_q (by decide) (p_move rfl).q ?_
   refine q_off (j := 11) rfl rfl (by first | (simp; done) | (simp [undef]; done)) (by decide) ?_
   refine q_off (j := 11) rfl rfl (by first | (simp; done) | (simp [undef]; done)) (by decide) ?_
   refine q_off (j := 11) rfl rfl (by first | (simp; done) | (simp [undef]; done)) (by decide) ?_
   refine q_q (by decide) (p_pick rfl rfl).q ?_
   refine q_q (by decide) (p_move rfl).q ?_
   refine q_off (j := 16) rfl rfl (by first | (simp; done) | (simp [undef]; done)) (by decide) ?_
   refine q_off (j := 16) rfl rfl (by first | (simp; done) | (simp [undef]; done)) (by decide) ?_
   refine q_off (j := 16) rfl rfl (by first | (simp; done) | (simp [undef]; done)) (by decide) ?_
   refine q_off (j := 16) rfl rfl (by first | (simp; done) | (simp [undef]; done)) (by decide) ?_
   refine q_off (j := 16) rfl rfl (by first | (simp; done) | (simp [undef]; done)) (by decide) ?_
   refine q_off (j := 16) rfl rfl (by first | (simp; done) | (simp [undef]; done)) (by decide) ?_
   refine q_off (j := 16) rfl rfl (by first | (simp; done) | (simp [undef]; done)) (by decide) ?_
   refine q_off (j := 16) rfl rfl (by first | (simp; done) | (simp [undef]; done)) (by decide) ?_
   refine q_off (j := 16) rfl rfl (by first | (simp; done) | (simp [undef]; done)) (by decide) ?_
   refine q_off (j := 16) rfl rfl (by first | (simp; done) | (simp [undef]; done)) (by decide) ?_
   refine q_q (by decide) (p_pick rfl rfl).q ?_
   refine q_q (by decide) (p_move rfl).q ?_
   refine q_off (j := 28) rfl rfl (by first | (simp; done) | (simp [undef]; done)) (by decide) ?_
   refine q_off (j := 28) rfl rfl (by first | (simp; done) | (simp [undef]; done)) (by decide) ?_
   refine q_off (j := 28) rfl rfl (by first | (simp; done) | (simp [undef]; done)) (by decide) ?_
   refine q_off (j := 28) rfl rfl (by first | (simp; done) | (simp [undef]; done)) (by decide) ?_
   refine q_off (j := 28) rfl rfl (by first | (simp; done) | (simp [undef]; done)) (by decide) ?_
   refine q_off (j := 28) rfl rfl (by first | (simp; done) | (simp [undef]; done)) (by decide) ?_
   refine q_off (j := 28) rfl rfl (by first | (simp; done) | (simp [undef]; done)) (by decide) ?_
   refine q_off (j := 28) rfl rfl (by first | (simp; done) | (simp [undef]; done)) (by decide) ?_
   refine q_off (j := 28) rfl rfl (by first | (simp; done) | (simp [undef]; done)) (by decide) ?_
   refine q_off (j := 28) rfl rfl (by first | (simp; done) | (simp [undef]; done)) (by decide) ?_
   refine q_off (j := 28) rfl rfl (by first | (simp; done) | (simp [undef]; done)) (by decide) ?_
   refine q_off (j := 28) rfl rfl (by first | (simp; done) | (simp [undef]; done)) (by decide) ?_
   refine q_q (by decide) (p_pick rfl rfl).q ?_
   refine q_nil ?_
   refine c_true rfl ?_
   refine c_seq ?_
   refine c_reg ?_
   refine l_q (by decide) (p_assign rfl).q ?_
   refine l_nil ?_
   refine c_ret ?_
   refine c_ret1 rfl rfl (fun w hs => ?_)
   exact ⟨by rw [treB_no (by omega) (fun q2 hn => by have := hn.rule; omega)], hs.ext⟩
  ·skip
   first | refine q_g (j := 3) rfl rfl (by decide) (p_faddr (i := 0) 0 Try.underlying36 rfl inf_3 (by decide) rfl rfl).q ?_ | refine q_g (j := 3) rfl rfl (by decide) (p_faddro (i := 0) 0 Try.underlying36 rfl inf_3 (by decide) rfl rfl).q ?_
   first | refine q_g (j := 3) rfl rfl (by decide) (r_loado Try.underlying3 rfl rfl (by repeat constructor) (by rfl)).q ?_ | refine q_g (j := 3) rfl rfl (by decide) (r_load1 Try.underlying3 rfl rfl (by first | exact .fact (by repeat constructor) | exact .own (by repeat constructor) (by decide) (fun _ => rfl) | exact (fun _ hs => (hs.facts (InF x) (by repeat constructor)).1.sl) | exact SlIn.body (xs := X.xs) (by repeat constructor) (by assumption)) (by first | assumption | rfl) (by rfl)).q ?_ | refine q_g (j := 3) rfl rfl (by decide) (r_loadf Try.underlying3 rfl rfl (by first | exact .fact (by repeat constructor) | exact .own (by repeat constructor) (by decide) (fun _ => rfl) | exact (fun _ hs => (hs.facts (InF x) (by repeat constructor)).1.sl) | exact SlIn.body (xs := X.xs) (by repeat constructor) (by assumption)) (by assumption) (by rfl)).q ?_
   first | refine q_g (j := 3) rfl rfl (by decide) (p_faddr (i := 3) 3 Try.underlying25 rfl inf_23 (by decide) rfl rfl).q ?_ | refine q_g (j := 3) rfl rfl (by decide) (p_faddro (i := 3) 3 Try.underlying25 rfl inf_23 (by decide) rfl rfl).q ?_
   first | refine q_g (j := 3) rfl rfl (by decide) (r_loado Try.underlying23 rfl rfl (by repeat constructor) (by rfl)).q ?_ | refine q_g (j := 3) rfl rfl (by decide) (r_load1 Try.underlying23 rfl rfl (by first | exact .fact (by repeat constructor) | exact .own (by repeat constructor) (by decide) (fun _ => rfl) | exact (fun _ hs => (hs.facts (InF x) (by repeat constructor)).1.sl) | exact SlIn.body (xs := X.xs) (by repeat constructor) (by assumption)) (by first | assumption | rfl) (by rfl)).q ?_ | refine q_g (j := 3) rfl rfl (by decide) (r_loadf Try.underlying23 rfl rfl (by first | exact .fact (by repeat constructor) | exact .own (by repeat constructor) (by decide) (fun _ => rfl) | exact (fun _ hs => (hs.facts (InF x) (by repeat constructor)).1.sl) | exact SlIn.body (xs := X.xs) (by repeat constructor) (by assumption)) (by assumption) (by rfl)).q ?_
   refine q_g (j := 3) rfl rfl (by decide) (p_len_sl Try.underlying23 rfl).q ?_
   first | refine q_g (j := 3) rfl rfl (by decide) (p_geq rfl rfl rfl rfl).q ?_ | refine q_g (j := 3) rfl rfl (by decide) (p_geqi rfl rfl).q ?_
   refine q_q (by decide) (p_pick rfl rfl).q ?_
   refine q_q (by decide) (p_move rfl).q ?_
   first | refine q_splitd (t := 36) rfl (fun h36 => ?_) (fun h36 => ?_) | refine q_splitb (t := 36) rfl (fun h36 => ?_) (fun h36 => ?_)
   ·skip
    refine q_off (j := 11) rfl rfl (by first | (simp; done) | (simp [undef]; done)) (by decide) ?_
    refine q_off (j := 11) rfl rfl (by first | (simp; done) | (simp [undef]; done)) (by decide) ?_
    refine q_off (j := 11) rfl rfl (by first | (simp; done) | (simp [undef]; done)) (by decide) ?_
    refine q_q (by decide) (p_pick rfl rfl).q ?_
    refine q_q (by decide) (p_move rfl).q ?_
    refine q_off (j := 16) rfl rfl (by first | (simp; done) | (simp [undef]; done)) (by decide) ?_
    refine q_off (j := 16) rfl rfl (by first | (simp; done) | (simp [undef]; done)) (by decide) ?_
    refine q_off (j := 16) rfl rfl (by first | (simp; done) | (simp [undef]; done)) (by decide) ?_
    refine q_off (j := 16) rfl rfl (by first | (simp; done) | (simp [undef]; done)) (by decide) ?_
    refine q_off (j := 16) rfl rfl (by first | (simp; done) | (simp [undef]; done)) (by decide) ?_
    refine q_off (j := 16) rfl rfl (by first | (simp; done) | (simp [undef]; done)) (by decide) ?_
    refine q_off (j := 16) rfl rfl (by first | (simp; done) | (simp [undef]; done)) (by decide) ?_
    refine q_off (j := 16) rfl rfl (by first | (simp; done) | (simp [undef]; done)) (by decide) ?_
    refine q_off (j := 16) rfl rfl (by first | (simp; done) | (simp [undef]; done)) (by decide) ?_
    refine q_off (j := 16) rfl rfl (by first | (simp; done) | (simp [undef]; done)) (by decide) ?_
    refine q_q (by decide) (p_pick rfl rfl).q ?_
    refine q_q (by decide) (p_move rfl).q ?_
    refine q_off (j := 28) rfl rfl (by first | (simp; done) | (simp [undef]; done)) (by decide) ?_
    refine q_off (j := 28) rfl rfl (by first | (simp; done) | (simp [undef]; done)) (by decide) ?_
    refine q_off (j := 28) rfl rfl (by first | (simp; done) | (simp [undef]; done)) (by decide) ?_
    refine q_off (j := 28) rfl rfl (by first | (simp; done) | (simp [undef]; done)) (by decide) ?_
    refine q_off (j := 28) rfl rfl (by first | (simp; done) | (simp [undef]; done)) (by decide) ?_
    refine q_off (j := 28) rfl rfl (by first | (simp; done) | (simp [undef]; done)) (by decide) ?_
    refine q_off (j := 28) rfl rfl (by first | (simp; done) | (simp [undef]; done)) (by decide) ?_
    refine q_off (j := 28) rfl rfl (by first | (simp; done) | (simp [undef]; done)) (by decide) ?_
    refine q_off (j := 28) rfl rfl (by first | (simp; done) | (simp [undef]; done)) (by decide) ?_
    refine q_off (j := 28) rfl rfl (by first | (simp; done) | (simp [undef]; done)) (by decide) ?_
    refine q_off (j := 28) rfl rfl (by first | (simp; done) | (simp [undef]; done)) (by decide) ?_
    refine q_off (j := 28) rfl rfl (by first | (simp; done) | (simp [undef]; done)) (by decide) ?_
    refine q_q (by decide) (p_pick rfl rfl).q ?_
    refine q_nil ?_
    refine c_true rfl ?_
    refine c_seq ?_
    refine c_reg ?_
    refine l_q (by decide) (p_assign rfl).q ?_
    refine l_nil ?_
    refine c_ret ?_
    refine c_ret1 rfl rfl (fun w hs => ?_)
    exact ⟨by rw [treB_no (by omega) (fun q2 hn => by have := (List.getElem?_eq_some_iff.1 hn.at_).1; rw [show X.g.rules.length = X.xs.length from List.length_map ..] at this; have := hn.rule; omega)], hs.ext⟩
   ·skip
    obtain ⟨q, hq⟩ := at_some (l := X.xs) (n := x.rule.toNat) (by omega)
    have hbl := ok.bl _ (rule_mem hq)
    have hr0 : 0 ≤ x.rule := by omega
    have hrn : x.rule.toNat < X.xs.length := by omega
    first | refine q_g (j := 11) rfl rfl (by decide) (p_faddr (i := 1) 1 Try.underlying36 rfl inf_3 (by decide) rfl rfl).q ?_ | refine q_g (j := 11) rfl rfl (by decide) (p_faddro (i := 1) 1 Try.underlying36 rfl inf_3 (by decide) rfl rfl).q ?_
    first | refine q_g (j := 11) rfl rfl (by decide) (r_loado Try.underlying3 rfl rfl (by repeat constructor) (by rfl)).q ?_ | refine q_g (j := 11) rfl rfl (by decide) (r_load1 Try.underlying3 rfl rfl (by first | exact .fact (by repeat constructor) | exact .own (by repeat constructor) (by decide) (fun _ => rfl) | exact (fun _ hs => (hs.facts (InF x) (by repeat constructor)).1.sl) | exact SlIn.body (xs := X.xs) (by repeat constructor) (by assumption)) (by first | assumption | rfl) (by rfl)).q ?_ | refine q_g (j := 11) rfl rfl (by decide) (r_loadf Try.underlying3 rfl rfl (by first | exact .fact (by repeat constructor) | exact .own (by repeat constructor) (by decide) (fun _ => rfl) | exact (fun _ hs => (hs.facts (InF x) (by repeat constructor)).1.sl) | exact SlIn.body (xs := X.xs) (by repeat constructor) (by assumption)) (by assumption) (by rfl)).q ?_
    first | refine q_g (j := 11) rfl rfl (by decide) (p_neq (j := 0) rfl rfl rfl rfl).q ?_ | refine q_g (j := 11) rfl rfl (by decide) (p_neqi rfl rfl).q ?_
    refine q_q (by decide) (p_pick rfl rfl).q ?_
    refine q_q (by decide) (p_move rfl).q ?_
    first | refine q_splitd (t := 41) rfl (fun h41 => ?_) (fun h41 => ?_) | refine q_splitb (t := 41) rfl (fun h41 => ?_) (fun h41 => ?_)
    ·skip
     refine q_off (j := 16) rfl rfl (by first | (simp; done) | (simp [undef]; done)) (by decide) ?_
     refine q_off (j := 16) rfl rfl (by first | (simp; done) | (simp [undef]; done)) (by decide) ?_
     refine q_off (j := 16) rfl rfl (by first | (simp; done) | (simp [undef]; done)) (by decide) ?_
     refine q_off (j := 16) rfl rfl (by first | (simp; done) | (simp [undef]; done)) (by decide) ?_
     refine q_off (j := 16) rfl rfl (by first | (simp; done) | (simp [undef]; done)) (by decide) ?_
     refine q_off (j := 16) rfl rfl (by first | (simp; done) | (simp [undef]; done)) (by decide) ?_
     refine q_off (j := 16) rfl rfl (by first | (simp; done) | (simp [undef]; done)) (by decide) ?_
     refine q_off (j := 16) rfl rfl (by first | (simp; done) | (simp [undef]; done)) (by decide) ?_
     refine q_off (j := 16) rfl rfl (by first | (simp; done) | (simp [undef]; done)) (by decide) ?_
     refine q_off (j := 16) rfl rfl (by first | (simp; done) | (simp [undef]; done)) (by decide) ?_
     refine q_q (by decide) (p_pick rfl rfl).q ?_
     refine q_q (by decide) (p_move rfl).q ?_
     refine q_off (j := 28) rfl rfl (by first | (simp; done) | (simp [undef]; done)) (by decide) ?_
     refine q_off (j := 28) rfl rfl (by first | (simp; done) | (simp [undef]; done)) (by decide) ?_
     refine q_off (j := 28) rfl rfl (by first | (simp; done) | (simp [undef]; done)) (by decide) ?_
     refine q_off (j := 28) rfl rfl (by first | (simp; done) | (simp [undef]; done)) (by decide) ?_
     refine q_off (j := 28) rfl rfl (by first | (simp; done) | (simp [undef]; done)) (by decide) ?_
     refine q_off (j := 28) rfl rfl (by first | (simp; done) | (simp [undef]; done)) (by decide) ?_
     refine q_off (j := 28) rfl rfl (by first | (simp; done) | (simp [undef]; done)) (by decide) ?_
     refine q_off (j := 28) rfl rfl (by first | (simp; done) | (simp [undef]; done)) (by decide) ?_
     refine q_off (j := 28) rfl rfl (by first | (simp; done) | (simp [undef]; done)) (by decide) ?_
     refine q_off (j := 28) rfl rfl (by first | (simp; done) | (simp [undef]; done)) (by decide) ?_
     refine q_off (j := 28) rfl rfl (by first | (simp; done) | (simp [undef]; done)) (by decide) ?_
     refine q_off (j := 28) rfl rfl (by first | (simp; done) | (simp [undef]; done)) (by decide) ?_
     refine q_q (by decide) (p_pick rfl rfl).q ?_
     refine q_nil ?_
     refine c_true rfl ?_
     refine c_seq ?_
     refine c_reg ?_
     refine l_q (by decide) (p_assign rfl).q ?_
     refine l_nil ?_
     refine c_ret ?_
     refine c_ret1 rfl rfl (fun w hs => ?_)
     exact ⟨by rw [treB_no (by omega) (fun q2 hn => h41 hn.term)], hs.ext⟩
    ·skip
     first | refine q_g (j := 16) rfl rfl (by decide) (p_faddr (i := 3) 3 Try.underlying25 rfl inf_23 (by decide) rfl rfl).q ?_ | refine q_g (j := 16) rfl rfl (by decide) (p_faddro (i := 3) 3 Try.underlying25 rfl inf_23 (by decide) rfl rfl).q ?_
     first | refine q_g (j := 16) rfl rfl (by decide) (r_loado Try.underlying23 rfl rfl (by repeat constructor) (by rfl)).q ?_ | refine q_g (j := 16) rfl rfl (by decide) (r_load1 Try.underlying23 rfl rfl (by first | exact .fact (by repeat constructor) | exact .own (by repeat constructor) (by decide) (fun _ => rfl) | exact (fun _ hs => (hs.facts (InF x) (by repeat constructor)).1.sl) | exact SlIn.body (xs := X.xs) (by repeat constructor) (by assumption)) (by first | assumption | rfl) (by rfl)).q ?_ | refine q_g (j := 16) rfl rfl (by decide) (r_loadf Try.underlying23 rfl rfl (by first | exact .fact (by repeat constructor) | exact .own (by repeat constructor) (by decide) (fun _ => rfl) | exact (fun _ hs => (hs.facts (InF x) (by repeat constructor)).1.sl) | exact SlIn.body (xs := X.xs) (by repeat constructor) (by assumption)) (by assumption) (by rfl)).q ?_
     first | refine q_g (j := 16) rfl rfl (by decide) (p_faddr (i := 0) 0 Try.underlying36 rfl inf_3 (by decide) rfl rfl).q ?_ | refine q_g (j := 16) rfl rfl (by decide) (p_faddro (i := 0) 0 Try.underlying36 rfl inf_3 (by decide) rfl rfl).q ?_
     first | refine q_g (j := 16) rfl rfl (by decide) (((r_loado Try.underlying3 rfl rfl (by repeat constructor) (by rfl))).to (u := .int .i64 ((x.rule.toNat : Nat) : Int)) (by rw [Int.toNat_of_nonneg hr0])).q ?_ | refine q_g (j := 16) rfl rfl (by decide) (((r_load1 Try.underlying3 rfl rfl (by first | exact .fact (by repeat constructor) | exact .own (by repeat constructor) (by decide) (fun _ => rfl) | exact (fun _ hs => (hs.facts (InF x) (by repeat constructor)).1.sl) | exact SlIn.body (xs := X.xs) (by repeat constructor) (by assumption)) (by first | assumption | rfl) (by rfl))).to (u := .int .i64 ((x.rule.toNat : Nat) : Int)) (by rw [Int.toNat_of_nonneg hr0])).q ?_ | refine q_g (j := 16) rfl rfl (by decide) (((r_loadf Try.underlying3 rfl rfl (by first | exact .fact (by repeat constructor) | exact .own (by repeat constructor) (by decide) (fun _ => rfl) | exact (fun _ hs => (hs.facts (InF x) (by repeat constructor)).1.sl) | exact SlIn.body (xs := X.xs) (by repeat constructor) (by assumption)) (by assumption) (by rfl))).to (u := .int .i64 ((x.rule.toNat : Nat) : Int)) (by rw [Int.toNat_of_nonneg hr0])).q ?_
     first | refine q_g (j := 16) rfl rfl (by decide) (r_index Try.underlying23 inf_41 rfl rfl rfl (by first | exact .fact (by repeat constructor) | exact .own (by repeat constructor) (by decide) (fun _ => rfl) | exact (fun _ hs => (hs.facts (InF x) (by repeat constructor)).1.sl) | exact SlIn.body (xs := X.xs) (by repeat constructor) (by assumption)) rfl (by omega)).q ?_ | refine q_g (j := 16) rfl rfl (by decide) (r_index Try.underlying23 inf_41 rfl rfl rfl (by first | exact .fact (by repeat constructor) | exact .own (by repeat constructor) (by decide) (fun _ => rfl) | exact (fun _ hs => (hs.facts (InF x) (by repeat constructor)).1.sl) | exact SlIn.body (xs := X.xs) (by repeat constructor) (by assumption)) rfl (by decide)).q ?_ | refine q_g (j := 16) rfl rfl (by decide) (p_indexo Try.underlying23 inf_41 rfl rfl rfl (by omega)).q ?_
     first | refine q_g (j := 16) rfl rfl (by decide) (p_faddr (i := 0) 0 Try.underlying41 rfl inf_3 (by decide) rfl rfl).q ?_ | refine q_g (j := 16) rfl rfl (by decide) (p_faddro (i := 0) 0 Try.underlying41 rfl inf_3 (by decide) rfl rfl).q ?_
     first | refine q_g (j := 16) rfl rfl (by decide) (r_loado Try.underlying3 rfl rfl (by repeat constructor) (by rfl)).q ?_ | refine q_g (j := 16) rfl rfl (by decide) (r_load1 Try.underlying3 rfl rfl (by first | exact .fact (by repeat constructor) | exact .own (by repeat constructor) (by decide) (fun _ => rfl) | exact (fun _ hs => (hs.facts (InF x) (by repeat constructor)).1.sl) | exact SlIn.body (xs := X.xs) (by repeat constructor) (by assumption)) (by first | assumption | rfl) (by rfl)).q ?_ | refine q_g (j := 16) rfl rfl (by decide) (r_loadf Try.underlying3 rfl rfl (by first | exact .fact (by repeat constructor) | exact .own (by repeat constructor) (by decide) (fun _ => rfl) | exact (fun _ hs => (hs.facts (InF x) (by repeat constructor)).1.sl) | exact SlIn.body (xs := X.xs) (by repeat constructor) (by assumption)) (by assumption) (by rfl)).q ?_
     refine q_g (j := 16) rfl rfl (by decide) (p_move rfl).q ?_
     first | refine q_g (j := 16) rfl rfl (by decide) (p_sub rfl rfl rfl rfl (by omega) (by show _ ≤ (9223372036854775807 : Nat); omega)).q ?_ | refine q_g (j := 16) rfl rfl (by decide) (p_subi rfl rfl (by show (-9223372036854775808 : Int) ≤ _; omega) (by show _ ≤ ((9223372036854775807 : Nat) : Int); omega)).q ?_
     first | refine q_g (j := 16) rfl rfl (by decide) (p_neq rfl rfl rfl rfl).q ?_ | refine q_g (j := 16) rfl rfl (by decide) (p_neqi rfl rfl).q ?_
     refine q_q (by decide) (p_pick rfl rfl).q ?_
     refine q_q (by decide) (p_move rfl).q ?_
     first | refine q_splitd (t := 53) rfl (fun h53 => ?_) (fun h53 => ?_) | refine q_splitb (t := 53) rfl (fun h53 => ?_) (fun h53 => ?_)
     ·skip
      refine q_off (j := 28) rfl rfl (by first | (simp; done) | (simp [undef]; done)) (by decide) ?_
      refine q_off (j := 28) rfl rfl (by first | (simp; done) | (simp [undef]; done)) (by decide) ?_
      refine q_off (j := 28) rfl rfl (by first | (simp; done) | (simp [undef]; done)) (by decide) ?_
      refine q_off (j := 28) rfl rfl (by first | (simp; done) | (simp [undef]; done)) (by decide) ?_
      refine q_off (j := 28) rfl rfl (by first | (simp; done) | (simp [undef]; done)) (by decide) ?_
      refine q_off (j := 28) rfl rfl (by first | (simp; done) | (simp [undef]; done)) (by decide) ?_
      refine q_off (j := 28) rfl rfl (by first | (simp; done) | (simp [undef]; done)) (by decide) ?_
      refine q_off (j := 28) rfl rfl (by first | (simp; done) | (simp [undef]; done)) (by decide) ?_
      refine q_off (j := 28) rfl rfl (by first | (simp; done) | (simp [undef]; done)) (by decide) ?_
      refine q_off (j := 28) rfl rfl (by first | (simp; done) | (simp [undef]; done)) (by decide) ?_
      refine q_off (j := 28) rfl rfl (by first | (simp; done) | (simp [undef]; done)) (by decide) ?_
      refine q_off (j := 28) rfl rfl (by first | (simp; done) | (simp [undef]; done)) (by decide) ?_
      refine q_q (by decide) (p_pick rfl rfl).q ?_
      refine q_nil ?_
      refine c_true rfl ?_
      refine c_seq ?_
      refine c_reg ?_
      refine l_q (by decide) (p_assign rfl).q ?_
      refine l_nil ?_
      refine c_ret ?_
      refine c_ret1 rfl rfl (fun w hs => ?_)
      exact ⟨by rw [treB_no (by omega) (fun q2 hn => by
        have h1 := hn.at_
        rw [rule_ix hq] at h1
        injection h1 with h1
        subst h1
        exact h53 hn.head)], hs.ext⟩
     ·skip
      first | refine q_g (j := 28) rfl rfl (by decide) (p_faddr (i := 2) 2 Try.underlying36 rfl inf_34 (by decide) rfl rfl).q ?_ | refine q_g (j := 28) rfl rfl (by decide) (p_faddro (i := 2) 2 Try.underlying36 rfl inf_34 (by decide) rfl rfl).q ?_
      first | refine q_g (j := 28) rfl rfl (by decide) (r_loado Try.underlying34 rfl rfl (by repeat constructor) (by rfl)).q ?_ | refine q_g (j := 28) rfl rfl (by decide) (r_load1 Try.underlying34 rfl rfl (by first | exact .fact (by repeat constructor) | exact .own (by repeat constructor) (by decide) (fun _ => rfl) | exact (fun _ hs => (hs.facts (InF x) (by repeat constructor)).1.sl) | exact SlIn.body (xs := X.xs) (by repeat constructor) (by assumption)) (by first | assumption | rfl) (by rfl)).q ?_ | refine q_g (j := 28) rfl rfl (by decide) (r_loadf Try.underlying34 rfl rfl (by first | exact .fact (by repeat constructor) | exact .own (by repeat constructor) (by decide) (fun _ => rfl) | exact (fun _ hs => (hs.facts (InF x) (by repeat constructor)).1.sl) | exact SlIn.body (xs := X.xs) (by repeat constructor) (by assumption)) (by assumption) (by rfl)).q ?_
      refine q_g (j := 28) rfl rfl (by decide) (p_len_sl Try.underlying34 rfl).q ?_
      first | refine q_g (j := 28) rfl rfl (by decide) (p_faddr (i := 3) 3 Try.underlying25 rfl inf_23 (by decide) rfl rfl).q ?_ | refine q_g (j := 28) rfl rfl (by decide) (p_faddro (i := 3) 3 Try.underlying25 rfl inf_23 (by decide) rfl rfl).q ?_
      first | refine q_g (j := 28) rfl rfl (by decide) (r_loado Try.underlying23 rfl rfl (by repeat constructor) (by rfl)).q ?_ | refine q_g (j := 28) rfl rfl (by decide) (r_load1 Try.underlying23 rfl rfl (by first | exact .fact (by repeat constructor) | exact .own (by repeat constructor) (by decide) (fun _ => rfl) | exact (fun _ hs => (hs.facts (InF x) (by repeat constructor)).1.sl) | exact SlIn.body (xs := X.xs) (by repeat constructor) (by assumption)) (by first | assumption | rfl) (by rfl)).q ?_ | refine q_g (j := 28) rfl rfl (by decide) (r_loadf Try.underlying23 rfl rfl (by first | exact .fact (by repeat constructor) | exact .own (by repeat constructor) (by decide) (fun _ => rfl) | exact (fun _ hs => (hs.facts (InF x) (by repeat constructor)).1.sl) | exact SlIn.body (xs := X.xs) (by repeat constructor) (by assumption)) (by assumption) (by rfl)).q ?_
      first | refine q_g (j := 28) rfl rfl (by decide) (p_faddr (i := 0) 0 Try.underlying36 rfl inf_3 (by decide) rfl rfl).q ?_ | refine q_g (j := 28) rfl rfl (by decide) (p_faddro (i := 0) 0 Try.underlying36 rfl inf_3 (by decide) rfl rfl).q ?_
      first | refine q_g (j := 28) rfl rfl (by decide) (((r_loado Try.underlying3 rfl rfl (by repeat constructor) (by rfl))).to (u := .int .i64 ((x.rule.toNat : Nat) : Int)) (by rw [Int.toNat_of_nonneg hr0])).q ?_ | refine q_g (j := 28) rfl rfl (by decide) (((r_load1 Try.underlying3 rfl rfl (by first | exact .fact (by repeat constructor) | exact .own (by repeat constructor) (by decide) (fun _ => rfl) | exact (fun _ hs => (hs.facts (InF x) (by repeat constructor)).1.sl) | exact SlIn.body (xs := X.xs) (by repeat constructor) (by assumption)) (by first | assumption | rfl) (by rfl))).to (u := .int .i64 ((x.rule.toNat : Nat) : Int)) (by rw [Int.toNat_of_nonneg hr0])).q ?_ | refine q_g (j := 28) rfl rfl (by decide) (((r_loadf Try.underlying3 rfl rfl (by first | exact .fact (by repeat constructor) | exact .own (by repeat constructor) (by decide) (fun _ => rfl) | exact (fun _ hs => (hs.facts (InF x) (by repeat constructor)).1.sl) | exact SlIn.body (xs := X.xs) (by repeat constructor) (by assumption)) (by assumption) (by rfl))).to (u := .int .i64 ((x.rule.toNat : Nat) : Int)) (by rw [Int.toNat_of_nonneg hr0])).q ?_
      first | refine q_g (j := 28) rfl rfl (by decide) (r_index Try.underlying23 inf_41 rfl rfl rfl (by first | exact .fact (by repeat constructor) | exact .own (by repeat constructor) (by decide) (fun _ => rfl) | exact (fun _ hs => (hs.facts (InF x) (by repeat constructor)).1.sl) | exact SlIn.body (xs := X.xs) (by repeat constructor) (by assumption)) rfl (by omega)).q ?_ | refine q_g (j := 28) rfl rfl (by decide) (r_index Try.underlying23 inf_41 rfl rfl rfl (by first | exact .fact (by repeat constructor) | exact .own (by repeat constructor) (by decide) (fun _ => rfl) | exact (fun _ hs => (hs.facts (InF x) (by repeat constructor)).1.sl) | exact SlIn.body (xs := X.xs) (by repeat constructor) (by assumption)) rfl (by decide)).q ?_ | refine q_g (j := 28) rfl rfl (by decide) (p_indexo Try.underlying23 inf_41 rfl rfl rfl (by omega)).q ?_
      first | refine q_g (j := 28) rfl rfl (by decide) (p_faddr (i := 1) 1 Try.underlying41 rfl inf_39 (by decide) rfl rfl).q ?_ | refine q_g (j := 28) rfl rfl (by decide) (p_faddro (i := 1) 1 Try.underlying41 rfl inf_39 (by decide) rfl rfl).q ?_
      first | refine q_g (j := 28) rfl rfl (by decide) (r_loado Try.underlying39 rfl rfl (by repeat constructor) (by rfl)).q ?_ | refine q_g (j := 28) rfl rfl (by decide) (r_load1 Try.underlying39 rfl rfl (by first | exact .fact (by repeat constructor) | exact .own (by repeat constructor) (by decide) (fun _ => rfl) | exact (fun _ hs => (hs.facts (InF x) (by repeat constructor)).1.sl) | exact SlIn.body (xs := X.xs) (by repeat constructor) (by assumption)) (by first | assumption | rfl) (by rfl)).q ?_ | refine q_g (j := 28) rfl rfl (by decide) (r_loadf Try.underlying39 rfl rfl (by first | exact .fact (by repeat constructor) | exact .own (by repeat constructor) (by decide) (fun _ => rfl) | exact (fun _ hs => (hs.facts (InF x) (by repeat constructor)).1.sl) | exact SlIn.body (xs := X.xs) (by repeat constructor) (by assumption)) (by assumption) (by rfl)).q ?_
      refine q_g (j := 28) rfl rfl (by decide) (p_len_sl Try.underlying39 rfl).q ?_
      first | refine q_g (j := 28) rfl rfl (by decide) (p_neq rfl rfl rfl rfl).q ?_ | refine q_g (j := 28) rfl rfl (by decide) (p_neqi rfl rfl).q ?_
      refine q_q (by decide) (p_pick rfl rfl).q ?_
      refine q_nil ?_
      first | refine c_dec rfl (fun h66 => ?_) (fun h66 => ?_) | refine c_cond rfl (fun h66 => ?_) (fun h66 => ?_)
      ·skip
       refine c_seq ?_
       refine c_reg ?_
       refine l_q (by decide) (p_assign rfl).q ?_
       refine l_nil ?_
       refine c_ret ?_
       refine c_ret1 rfl rfl (fun w hs => ?_)
       exact ⟨by rw [treB_no (by omega) (fun q2 hn => by
         have h1 := hn.at_
         rw [rule_ix hq] at h1
         injection h1 with h1
         subst h1
         have := hn.len; omega)], hs.ext⟩
      ·skip
       refine c_skip ?_
       refine c_seq ?_
       refine c_seq ?_
       refine c_reg ?_
       refine l_q (by decide) (p_assign (v := .int .i64 ((0 : Nat) : Int)) rfl).q ?_
       refine l_nil ?_
       refine c_block ?_
       refine c_loop (S := Nat) (fun zs => zs ≤ x.kids.length ∧ ∀ (j : Nat) (z : Int) (k : XT), j < zs → q.r.body[j]? = some z → x.kids[j]? = some k → TreeP X.g z k) (fun zs => x.kids.length - zs) (fun zs => [(3, .pointer (some ⟨b3, 0, none⟩)), (5, .pointer (some ⟨b5, 0, none⟩)), (7, .int .i64 (zs : Int))]) (fun zs => [iCells b5 36 [.int .i64 x.rule, .int .i64 x.term, .slice x.A x.kids.length x.c], iCells b3 25 [.slice X.At X.terms.length X.ct, .slice X.An X.nts.length X.cn, .int .i64 X.start, .slice X.Ar X.xs.length X.cr]]) (fun zs => (InF x :: [Bd X.xs, Sl 3 ruF X.Ar X.xs, Sl 1 strF X.An X.nts, Sl 1 strF X.At X.terms])) (0) ?_ ?_ ?_ ?_ ?_
       · show (0) ≤ x.kids.length ∧ ∀ (j : Nat) (z : Int) (k : XT), j < (0) → q.r.body[j]? = some z → x.kids[j]? = some k → TreeP X.g z k
         exact ⟨Nat.zero_le _, fun j z k h => absurd h (by omega)⟩
       · exact ⟨rfl, rfl, rfl, trivial⟩
       · exact .refl _
       · exact fun _ h => h
       rintro i hinv
       have hinv : i ≤ x.kids.length ∧ ∀ (j : Nat) (z : Int) (k : XT), j < i → q.r.body[j]? = some z → x.kids[j]? = some k → TreeP X.g z k := hinv
       obtain ⟨hi, hT⟩ := hinv
       show Cont _ _ _ _ [(3, .pointer (some ⟨b3, 0, none⟩)), (5, .pointer (some ⟨b5, 0, none⟩)), (7, .int .i64 (i : Int))] ([iCells b5 36 [.int .i64 x.rule, .int .i64 x.term, .slice x.A x.kids.length x.c], iCells b3 25 [.slice X.At X.terms.length X.ct, .slice X.An X.nts.length X.cn, .int .i64 X.start, .slice X.Ar X.xs.length X.cr]]) (InF x :: [Bd X.xs, Sl 3 ruF X.Ar X.xs, Sl 1 strF X.An X.nts, Sl 1 strF X.At X.terms])
       refine c_seq ?_
       refine c_seq ?_
       refine c_reg ?_
       refine l_q (by decide) (p_move rfl).q ?_
       first | refine l_q (by decide) (p_faddr (i := 2) 2 Try.underlying36 rfl inf_34 (by decide) rfl rfl).q ?_ | refine l_q (by decide) (p_faddro (i := 2) 2 Try.underlying36 rfl inf_34 (by decide) rfl rfl).q ?_
       first | refine l_q (by decide) (r_loado Try.underlying34 rfl rfl (by repeat constructor) (by rfl)).q ?_ | refine l_q (by decide) (r_load1 Try.underlying34 rfl rfl (by first | exact .fact (by repeat constructor) | exact .own (by repeat constructor) (by decide) (fun _ => rfl) | exact (fun _ hs => (hs.facts (InF x) (by repeat constructor)).1.sl) | exact SlIn.body (xs := X.xs) (by repeat constructor) (by assumption)) (by first | assumption | rfl) (by rfl)).q ?_ | refine l_q (by decide) (r_loadf Try.underlying34 rfl rfl (by first | exact .fact (by repeat constructor) | exact .own (by repeat constructor) (by decide) (fun _ => rfl) | exact (fun _ hs => (hs.facts (InF x) (by repeat constructor)).1.sl) | exact SlIn.body (xs := X.xs) (by repeat constructor) (by assumption)) (by assumption) (by rfl)).q ?_
       refine l_q (by decide) (p_len_sl Try.underlying34 rfl).q ?_
       first | refine l_q (by decide) (p_lss rfl rfl rfl rfl).q ?_ | refine l_q (by decide) (p_lssi rfl rfl).q ?_
       refine l_nil ?_
       first | refine c_dec rfl (fun h71 => ?_) (fun h71 => ?_) | refine c_cond rfl (fun h71 => ?_) (fun h71 => ?_)
       ·skip
        obtain ⟨k, hk⟩ := at_some (l := x.kids) (n := i) (by omega)
        obtain ⟨z, hz⟩ := at_some (l := q.r.body) (n := i) (by omega)
        have hz0 := ok.b0 _ (rule_mem hq) z (List.mem_of_getElem? hz)
        have hz1 := ok.b1 _ (rule_mem hq) z (List.mem_of_getElem? hz)
        refine c_skip ?_
        refine c_seq ?_
        refine c_block ?_
        refine c_seq ?_
        refine c_draw mixed (by decide +kernel) ?_
        first | refine q_q (by decide) (r_loada Try.underlying25 rfl inf_25 rfl (by first | exact .fact (by repeat constructor) | exact .own (by repeat constructor) (by decide) (fun _ => rfl) | exact (fun _ hs => (hs.facts (InF x) (by repeat constructor)).1.sl) | exact SlIn.body (xs := X.xs) (by repeat constructor) (by assumption)) (by assumption)).q ?_ | refine q_q (by decide) (r_loadow Try.underlying25 rfl inf_25 rfl (by repeat constructor) (by rfl)).q ?_ | refine q_q (by decide) (r_loadoa Try.underlying25 rfl inf_25 rfl (by repeat constructor) (by rfl) (fun j u h => h)).q ?_
        first | refine q_q (by decide) (p_faddr (i := 3) 3 Try.underlying25 rfl inf_23 (by decide) rfl rfl).q ?_ | refine q_q (by decide) (p_faddro (i := 3) 3 Try.underlying25 rfl inf_23 (by decide) rfl rfl).q ?_
        first | refine q_q (by decide) (r_loado Try.underlying23 rfl rfl (by repeat constructor) (by rfl)).q ?_ | refine q_q (by decide) (r_load1 Try.underlying23 rfl rfl (by first | exact .fact (by repeat constructor) | exact .own (by repeat constructor) (by decide) (fun _ => rfl) | exact (fun _ hs => (hs.facts (InF x) (by repeat constructor)).1.sl) | exact SlIn.body (xs := X.xs) (by repeat constructor) (by assumption)) (by first | assumption | rfl) (by rfl)).q ?_ | refine q_q (by decide) (r_loadf Try.underlying23 rfl rfl (by first | exact .fact (by repeat constructor) | exact .own (by repeat constructor) (by decide) (fun _ => rfl) | exact (fun _ hs => (hs.facts (InF x) (by repeat constructor)).1.sl) | exact SlIn.body (xs := X.xs) (by repeat constructor) (by assumption)) (by assumption) (by rfl)).q ?_
        first | refine q_q (by decide) (p_faddr (i := 0) 0 Try.underlying36 rfl inf_3 (by decide) rfl rfl).q ?_ | refine q_q (by decide) (p_faddro (i := 0) 0 Try.underlying36 rfl inf_3 (by decide) rfl rfl).q ?_
        first | refine q_q (by decide) (((r_loado Try.underlying3 rfl rfl (by repeat constructor) (by rfl))).to (u := .int .i64 ((x.rule.toNat : Nat) : Int)) (by rw [Int.toNat_of_nonneg hr0])).q ?_ | refine q_q (by decide) (((r_load1 Try.underlying3 rfl rfl (by first | exact .fact (by repeat constructor) | exact .own (by repeat constructor) (by decide) (fun _ => rfl) | exact (fun _ hs => (hs.facts (InF x) (by repeat constructor)).1.sl) | exact SlIn.body (xs := X.xs) (by repeat constructor) (by assumption)) (by first | assumption | rfl) (by rfl))).to (u := .int .i64 ((x.rule.toNat : Nat) : Int)) (by rw [Int.toNat_of_nonneg hr0])).q ?_ | refine q_q (by decide) (((r_loadf Try.underlying3 rfl rfl (by first | exact .fact (by repeat constructor) | exact .own (by repeat constructor) (by decide) (fun _ => rfl) | exact (fun _ hs => (hs.facts (InF x) (by repeat constructor)).1.sl) | exact SlIn.body (xs := X.xs) (by repeat constructor) (by assumption)) (by assumption) (by rfl))).to (u := .int .i64 ((x.rule.toNat : Nat) : Int)) (by rw [Int.toNat_of_nonneg hr0])).q ?_
        first | refine q_q (by decide) (r_index Try.underlying23 inf_41 rfl rfl rfl (by first | exact .fact (by repeat constructor) | exact .own (by repeat constructor) (by decide) (fun _ => rfl) | exact (fun _ hs => (hs.facts (InF x) (by repeat constructor)).1.sl) | exact SlIn.body (xs := X.xs) (by repeat constructor) (by assumption)) rfl (by omega)).q ?_ | refine q_q (by decide) (r_index Try.underlying23 inf_41 rfl rfl rfl (by first | exact .fact (by repeat constructor) | exact .own (by repeat constructor) (by decide) (fun _ => rfl) | exact (fun _ hs => (hs.facts (InF x) (by repeat constructor)).1.sl) | exact SlIn.body (xs := X.xs) (by repeat constructor) (by assumption)) rfl (by decide)).q ?_ | refine q_q (by decide) (p_indexo Try.underlying23 inf_41 rfl rfl rfl (by omega)).q ?_
        first | refine q_q (by decide) (p_faddr (i := 1) 1 Try.underlying41 rfl inf_39 (by decide) rfl rfl).q ?_ | refine q_q (by decide) (p_faddro (i := 1) 1 Try.underlying41 rfl inf_39 (by decide) rfl rfl).q ?_
        first | refine q_q (by decide) (r_loado Try.underlying39 rfl rfl (by repeat constructor) (by rfl)).q ?_ | refine q_q (by decide) (r_load1 Try.underlying39 rfl rfl (by first | exact .fact (by repeat constructor) | exact .own (by repeat constructor) (by decide) (fun _ => rfl) | exact (fun _ hs => (hs.facts (InF x) (by repeat constructor)).1.sl) | exact SlIn.body (xs := X.xs) (by repeat constructor) (by assumption)) (by first | assumption | rfl) (by rfl)).q ?_ | refine q_q (by decide) (r_loadf Try.underlying39 rfl rfl (by first | exact .fact (by repeat constructor) | exact .own (by repeat constructor) (by decide) (fun _ => rfl) | exact (fun _ hs => (hs.facts (InF x) (by repeat constructor)).1.sl) | exact SlIn.body (xs := X.xs) (by repeat constructor) (by assumption)) (by assumption) (by rfl)).q ?_
        refine q_q (by decide) (p_move rfl).q ?_
        first | refine q_q (by decide) (r_index Try.underlying39 inf_3 rfl rfl rfl (by first | exact .fact (by repeat constructor) | exact .own (by repeat constructor) (by decide) (fun _ => rfl) | exact (fun _ hs => (hs.facts (InF x) (by repeat constructor)).1.sl) | exact SlIn.body (xs := X.xs) (by repeat constructor) (by assumption)) rfl (by omega)).q ?_ | refine q_q (by decide) (r_index Try.underlying39 inf_3 rfl rfl rfl (by first | exact .fact (by repeat constructor) | exact .own (by repeat constructor) (by decide) (fun _ => rfl) | exact (fun _ hs => (hs.facts (InF x) (by repeat constructor)).1.sl) | exact SlIn.body (xs := X.xs) (by repeat constructor) (by assumption)) rfl (by decide)).q ?_ | refine q_q (by decide) (p_indexo Try.underlying39 inf_3 rfl rfl rfl (by omega)).q ?_
        first | refine q_q (by decide) (r_loado Try.underlying3 rfl rfl (by repeat constructor) (by rfl)).q ?_ | refine q_q (by decide) (r_load1 Try.underlying3 rfl rfl (by first | exact .fact (by repeat constructor) | exact .own (by repeat constructor) (by decide) (fun _ => rfl) | exact (fun _ hs => (hs.facts (InF x) (by repeat constructor)).1.sl) | exact SlIn.body (xs := X.xs) (by repeat constructor) (by assumption)) (by first | assumption | rfl) (by rfl)).q ?_ | refine q_q (by decide) (r_loadf Try.underlying3 rfl rfl (by first | exact .fact (by repeat constructor) | exact .own (by repeat constructor) (by decide) (fun _ => rfl) | exact (fun _ hs => (hs.facts (InF x) (by repeat constructor)).1.sl) | exact SlIn.body (xs := X.xs) (by repeat constructor) (by assumption)) (by assumption) (by rfl)).q ?_
        first | refine q_q (by decide) (p_faddr (i := 2) 2 Try.underlying36 rfl inf_34 (by decide) rfl rfl).q ?_ | refine q_q (by decide) (p_faddro (i := 2) 2 Try.underlying36 rfl inf_34 (by decide) rfl rfl).q ?_
        first | refine q_q (by decide) (r_loado Try.underlying34 rfl rfl (by repeat constructor) (by rfl)).q ?_ | refine q_q (by decide) (r_load1 Try.underlying34 rfl rfl (by first | exact .fact (by repeat constructor) | exact .own (by repeat constructor) (by decide) (fun _ => rfl) | exact (fun _ hs => (hs.facts (InF x) (by repeat constructor)).1.sl) | exact SlIn.body (xs := X.xs) (by repeat constructor) (by assumption)) (by first | assumption | rfl) (by rfl)).q ?_ | refine q_q (by decide) (r_loadf Try.underlying34 rfl rfl (by first | exact .fact (by repeat constructor) | exact .own (by repeat constructor) (by decide) (fun _ => rfl) | exact (fun _ hs => (hs.facts (InF x) (by repeat constructor)).1.sl) | exact SlIn.body (xs := X.xs) (by repeat constructor) (by assumption)) (by assumption) (by rfl)).q ?_
        refine q_q (by decide) (p_move rfl).q ?_
        first | refine q_q (by decide) (r_index Try.underlying34 inf_36 rfl rfl rfl (by first | exact .fact (by repeat constructor) | exact .own (by repeat constructor) (by decide) (fun _ => rfl) | exact (fun _ hs => (hs.facts (InF x) (by repeat constructor)).1.sl) | exact SlIn.body (xs := X.xs) (by repeat constructor) (by assumption)) rfl (by omega)).q ?_ | refine q_q (by decide) (r_index Try.underlying34 inf_36 rfl rfl rfl (by first | exact .fact (by repeat constructor) | exact .own (by repeat constructor) (by decide) (fun _ => rfl) | exact (fun _ hs => (hs.facts (InF x) (by repeat constructor)).1.sl) | exact SlIn.body (xs := X.xs) (by repeat constructor) (by assumption)) rfl (by decide)).q ?_ | refine q_q (by decide) (p_indexo Try.underlying34 inf_36 rfl rfl rfl (by omega)).q ?_
        first | refine q_q (by decide) (r_loada Try.underlying36 rfl inf_36 rfl (by first | exact .fact (by repeat constructor) | exact .own (by repeat constructor) (by decide) (fun _ => rfl) | exact (fun _ hs => (hs.facts (InF x) (by repeat constructor)).1.sl) | exact SlIn.body (xs := X.xs) (by repeat constructor) (by assumption)) (by assumption)).q ?_ | refine q_q (by decide) (r_loadow Try.underlying36 rfl inf_36 rfl (by repeat constructor) (by rfl)).q ?_ | refine q_q (by decide) (r_loadoa Try.underlying36 rfl inf_36 rfl (by repeat constructor) (by rfl) (fun j u h => h)).q ?_
        refine q_q (by decide) (q_call call_27 rfl (fun w hs => ih k (List.mem_of_getElem? hk) z (by omega) (by omega) w (GI.of hs (by repeat constructor) (by repeat constructor) (by repeat constructor) (by repeat constructor)) ((hs.facts (InF x) (by repeat constructor)).1.kid k (List.mem_of_getElem? hk)))) ?_
        first | refine q_q (by decide) (p_notd rfl).q ?_ | refine q_q (by decide) (p_not rfl).q ?_
        refine q_nil ?_
        first | refine c_dec rfl (fun h91 => ?_) (fun h91 => ?_) | refine c_cond rfl (fun h91 => ?_) (fun h91 => ?_)
        ·skip
         refine c_seq ?_
         refine c_reg ?_
         refine l_q (by decide) (p_assign rfl).q ?_
         refine l_nil ?_
         refine c_ret ?_
         refine c_ret1 rfl rfl (fun w hs => ?_)
         exact ⟨by rw [treB_no (by omega) (fun q2 hn => by
           have h1 := hn.at_
           rw [rule_ix hq] at h1
           injection h1 with h1
           subst h1
           have := Ana.dec_true (hn.kids i z k hz hk)
           rw [show treB X.g z k = true from this] at h91
           cases h91)], hs.ext⟩
        ·skip
         refine c_skip ?_
         refine c_reg ?_
         refine l_q (by decide) (p_move rfl).q ?_
         first | refine l_q (by decide) (p_add (j := 1) rfl rfl rfl rfl (by show _ ≤ (9223372036854775807 : Nat); omega)).q ?_ | refine l_q (by decide) (p_addi rfl rfl (by show (-9223372036854775808 : Int) ≤ _; omega) (by show _ ≤ ((9223372036854775807 : Nat) : Int); omega)).q ?_
         refine l_q (by decide) (p_assign rfl).q ?_
         refine l_nil ?_
         refine c_join ((i + 1)) ?_ ?_ ?_ ?_
         ·show ((i + 1) ≤ x.kids.length ∧ ∀ (j : Nat) (z : Int) (k : XT), j < (i + 1) → q.r.body[j]? = some z → x.kids[j]? = some k → TreeP X.g z k) ∧ x.kids.length - (i + 1) < x.kids.length - i
          refine ⟨⟨by omega, fun j z2 k2 hj h1 h2 => ?_⟩, by omega⟩
          by_cases e : j = i
          · subst e
            rw [hz] at h1; rw [hk] at h2
            injection h1 with h1; injection h2 with h2
            subst h1; subst h2
            exact Ana.dec_iff.1 (show treB X.g z k = true by simpa using h91)
          · exact hT j z2 k2 (by omega) h1 h2
         · exact ⟨rfl, rfl, rfl, trivial⟩
         ·show List.Perm _ ([iCells b5 36 [.int .i64 x.rule, .int .i64 x.term, .slice x.A x.kids.length x.c], iCells b3 25 [.slice X.At X.terms.length X.ct, .slice X.An X.nts.length X.cn, .int .i64 X.start, .slice X.Ar X.xs.length X.cr]])
          exact .refl _
         · exact fun _ h => h
       ·skip
        refine c_exit ?_
        refine c_here ?_
        refine c_seq ?_
        refine c_reg ?_
        refine l_q (by decide) (p_assign rfl).q ?_
        refine l_nil ?_
        refine c_ret ?_
        refine c_ret1 rfl rfl (fun w hs => ?_)
        have hlen : x.kids.length = q.r.body.length := by omega
        exact ⟨by rw [show treB X.g y x = true from Ana.dec_true (.node y x q.r (by omega) hr0 (by omega) (rule_ix hq) (by omega) hlen (fun j z k h1 h2 => hT j z k (by have := (List.getElem?_eq_some_iff.1 h2).1; omega) h1 h2))], hs.ext⟩
end Go.Proofs.Ytidbhgolhiaijaa
