/- The walks of the recognizer, sixteenth part (items, ContainsFunc); conditions: lengths. -/
import Derived.Test.YtncagpppmaehhaaWalksO
namespace Go.Proofs.Ytncagpppmaehhaa
open Go Go.Fx Go.Proofs

open Go.Proofs.Rec
def imF (x : Im) : List Value := [.int .i64 (x.k : Int), .int .i64 (x.d : Int), .int .i64 (x.f : Int)]
def imK (x : Im) : Value := .agg (imF x).toArray
theorem imK_inj (a b : Im) (h : imK a = imK b) : a = b := by
  unfold imK imF at h
  injection h with h
  have h := congrArg Array.toList h
  simp only [List.cons.injEq, Value.int.injEq, true_and, and_true] at h
  obtain ⟨h1, h2, h3⟩ := h
  cases a; cases b
  simp only at h1 h2 h3
  congr 1 <;> omega
theorem run_equal_item (a b : Im) (w : World) : (Op.equal 52 (imK a) (imK b)).run Try.prog w = .ok (decide (a = b)) w := by
  show (Op.equalIn 10000 52 (.agg _) (.agg _)).run Try.prog w = _
  rw [eqf_struct Try.underlying52 (by kernel_rfl)]
  show (Op.eqFields 9999 _ _ [_, _, _]).run Try.prog w = _
  rw [eqf_one (by decide) Try.underlying3 rfl rfl rfl w (eqv_int (d := 9998) Try.underlying3 w)]
  rw [eqf_one (by decide) Try.underlying3 rfl rfl rfl w (eqv_int (d := 9998) Try.underlying3 w)]
  rw [eqf_one (by decide) Try.underlying3 rfl rfl rfl w (eqv_int (d := 9998) Try.underlying3 w)]
  rw [eqf_nil]
  by_cases h : a = b
  · subst h; simp
  · rw [decide_eq_false h]
    split
    · split
      · split
        · exfalso; apply h; cases a; cases b; simp at *; omega
        · rfl
      · rfl
    · rfl
theorem run_find_item (a : Im) (w : World) : ∀ (es : List MapEntry) (i : Nat), (∀ x ∈ es, ∃ b, x.key = imK b) → ((Instr.findAsking 52 (imK a) es i).run Try.prog w = .ok none w ∧ ∀ x ∈ es, x.key ≠ imK a) ∨ ∃ j e, (Instr.findAsking 52 (imK a) es i).run Try.prog w = .ok (some (i + j, e.val)) w ∧ es[j]? = some e ∧ e.key = imK a
  | [], i, _ => .inl ⟨by simp [Instr.findAsking], by simp⟩
  | e :: es, i, hall => by
    obtain ⟨b, hb⟩ := hall e (by simp)
    have hr := run_equal_item a b w
    by_cases h : a = b
    · subst h
      rw [decide_eq_true rfl] at hr
      exact .inr ⟨0, e, by simp [Instr.findAsking, hb, hr], rfl, hb⟩
    · rw [decide_eq_false h] at hr
      have hne : e.key ≠ imK a := fun h2 => h (imK_inj _ _ (hb ▸ h2)).symm
      rcases run_find_item a w es (i + 1) (fun y hy => hall y (by simp [hy])) with ⟨h1, h2⟩ | ⟨j, e', h1, h2, h3⟩
      · refine .inl ⟨by simp [Instr.findAsking, hb, hr, h1], fun y hy => ?_⟩
        rcases List.mem_cons.1 hy with rfl | hy
        · exact hne
        · exact h2 y hy
      · exact .inr ⟨j + 1, e', by simp [Instr.findAsking, hb, hr, h1, Nat.add_assoc, Nat.add_comm 1 j], by simpa using h2, h3⟩
theorem keyOk_item : KeyOk Try.prog 52 imK where
  inj := imK_inj
  check := fun e a w => by
    show (Instr.checkKey e (9999 + 1) 52 (imK a)).run Try.prog w = _
    rw [Instr.checkKey]
    simp only [Sem.run_bind, run_underlying Try.underlying52, Result.andThen_ok, imK]
    have hp : ∀ (n : Int) (w : World), (Instr.checkKey e 9999 3 (.int .i64 n)).run Try.prog w = .ok () w := fun n w => by
      show (Instr.checkKey e (9998 + 1) 3 _).run Try.prog w = _
      rw [Instr.checkKey]
      simp only [Sem.run_bind, run_underlying Try.underlying3, Result.andThen_ok, Sem.run_pure]
    have hpart : ∀ (k : Nat) (v : Value) (w : World), (imF a).toArray[k]? = some v → (part 3 (imF a).toArray k).run Try.prog w = .ok v w := fun k v w h => run_part Try.underlying3 rfl h w
    have h0 := fun w => hpart 0 _ w rfl
    have h1 := fun w => hpart 1 _ w rfl
    have h2 := fun w => hpart 2 _ w rfl
    simp only [imF] at h0 h1 h2 ⊢
    simp [h0, h1, h2, hp, Result.andThen]
  find := fun a es w hk => by
    rw [run_findKey_eq w (by rw [Try.underlying52])]
    rcases run_find_item a w es 0 hk with h | ⟨j, e, h1, h2, h3⟩
    · exact .inl h
    · exact .inr ⟨j, e, by simpa using h1, h2, h3⟩
  stays := fun a w => by
    have hs : Instr.sameBits 10000 (imK a) (imK a) = true := by
      show Instr.sameBits (9999 + 1) (.agg _) (.agg _) = true
      simp [Instr.sameBits, imF]
    simp [Instr.keyThatStays, hs]

theorem len_imF (x : Im) : (imF x).length = 3 := rfl
theorem p_eqmn {P : Program} {L : Slots} {ty : TypeId} {x y : Operand} {t t2 kt et : TypeId} {a : Option Nat} (ht : P.underlying t = some (.map kt et)) (hx : ev L x = some (.map a)) (hy : ev L y = some (.map none)) : Pure P (.binOp .eql t x y t2) ty L (.bool a.isNone) := fun e o w ho _ he => by
  have h : (Op.equal t (.map a) (.map none)).run P w = .ok a.isNone w := by
    unfold Op.equal Op.maxDepth
    rw [Op.equalIn]
    cases a <;> simp [run_underlying ht]
  simp only [execOp, ho, he x _ hx, he y _ hy, eqGuard, binOp]
  simp [h]
/-- the first place where p holds, or -1 -/
def idxI {α : Type} (p : α → Bool) : List α → Int
  | [] => -1
  | x :: l => if p x = true then 0 else if idxI p l < 0 then -1 else idxI p l + 1
theorem idx_any {α : Type} {p : α → Bool} : ∀ {l : List α}, (0 ≤ idxI p l ↔ l.any p = true) ∧ -1 ≤ idxI p l
  | [] => ⟨⟨fun h => absurd h (by show ¬ (0 : Int) ≤ -1; decide), fun h => by cases h⟩, by show (-1 : Int) ≤ -1; decide⟩
  | x :: l => by
    obtain ⟨h1, h2⟩ := idx_any (p := p) (l := l)
    unfold idxI
    rw [List.any_cons]
    by_cases hx : p x = true
    · rw [if_pos hx, hx]; simp
    · rw [if_neg hx]
      have hx : p x = false := by simpa using hx
      rw [hx, Bool.false_or]
      by_cases hl : idxI p l < 0
      · rw [if_pos hl]
        refine ⟨⟨fun h => absurd h (by decide), fun h => ?_⟩, by decide⟩
        have := h1.2 h; omega
      · rw [if_neg hl]
        exact ⟨⟨fun _ => h1.1 (by omega), fun _ => by omega⟩, by omega⟩
theorem idx_none {α : Type} {p : α → Bool} {l : List α} (h : l.any p = false) : idxI p l = -1 := by
  have h1 := idx_any (p := p) (l := l)
  have h2 : ¬ 0 ≤ idxI p l := fun h3 => by rw [h1.1.1 h3] at h; cases h
  have := h1.2
  omega
theorem idx_at {α : Type} {p : α → Bool} : ∀ {l : List α} {j : Nat} {x : α}, (l.take j).any p = false → l[j]? = some x → p x = true → idxI p l = (j : Int)
  | [], j, x, _, hx, _ => by simp at hx
  | y :: l, 0, x, _, hx, hp => by
    injection hx with hx
    subst hx
    unfold idxI
    rw [if_pos hp]; rfl
  | y :: l, j + 1, x, ha, hx, hp => by
    rw [List.take_succ_cons, List.any_cons, Bool.or_eq_false_iff] at ha
    have := idx_at (l := l) (j := j) ha.2 (by simpa using hx) hp
    unfold idxI
    rw [if_neg (by rw [ha.1]; decide), this, if_neg (by omega)]
    omega
theorem any_take {α : Type} {p : α → Bool} {l : List α} {k : Nat} {x : α} (hx : l[k]? = some x) (h : (l.take k).any p = false) (hp : p x = false) : (l.take (k + 1)).any p = false := by
  rw [take_at hx, List.any_append, h]
  simp [hp]
theorem works_any {f : Nat → Bool} {l : List Int} : (!l.any fun x => decide (x < 0) && !f (Ana.nt x)) = Ana.allG true f l := by
  unfold Ana.allG
  induction l with
  | nil => rfl
  | cons x l ih =>
    rw [List.any_cons, List.all_cons, ← ih, Bool.not_or]
    congr 1
    by_cases h : x < 0
    · rw [good_non h]; simp [h]
    · rw [good_term (by omega)]; simp [h]
/-- a set of items: its block, its list, its map -/
structure ES where
  b : Nat
  A : Option Addr
  c : Nat
  m : Option Nat
  es : List Im
def mapO (S : ES) : Fx.Own := match S.m with
  | none => []
  | some m => [iMap imK m S.es]
abbrev setO (S : ES) : Fx.Own := iCells S.b 59 [.slice S.A S.es.length S.c, .map S.m] :: iSl 52 3 imF S.A S.c S.es :: mapO S
def ES.ok (S : ES) : Prop := S.m = none → S.es = []
def ES.add (S : ES) (x : Im) (y : Option Addr × Nat × Nat) : ES := ⟨S.b, y.1, y.2.1, some y.2.2, ins S.es x⟩
/-- what lies at p -/
def pCells (X : GI) (bo : Nat) (As : Option Addr) (n cs : Nat) : List Value := [.slice X.At X.terms.length X.ct, .slice X.An X.nts.length X.cn, .int .i64 X.start, .slice X.Ar X.xs.length X.cr, .slice (some ⟨bo, 0, none⟩) X.g.n X.g.n, .slice As n cs]
theorem inf_52 : InfoIs Try.prog 52 3 24 (.agg #[.int .i64 0, .int .i64 0, .int .i64 0]) := by unfold InfoIs; kernel_rfl
theorem call_37 : Callable Try.prog 37 := ⟨_, Try.func37, by kernel_rfl, rfl⟩
theorem call_45 : Callable Try.prog 45 := ⟨_, Try.func45, by kernel_rfl, rfl⟩
theorem call_50 : Callable Try.prog 50 := ⟨_, Try.func50, by kernel_rfl, rfl⟩
theorem call_52 : Callable Try.prog 52 := ⟨_, Try.func52, by kernel_rfl, rfl⟩
theorem indexi_ok (k : FuncId) (hk : Callable Try.prog k) (cs : Array Value) (p : Int → Bool) (A : Option Addr) (c : Nat) (l : List Int) (hl : l.length ≤ 1000000) (w : World) (hq : Sl 1 intF A l w) (hcl : ∀ x, x ∈ l → ∀ w2, Ext [] w w2 → Calls Try.prog k (#[.int .i64 x] ++ cs) w2 (Ret fun v w3 => v = .bool (p x) ∧ Ext [] w2 w3)) :
   Calls Try.prog 52 #[.slice A l.length c, .func (.func k) #[] cs] w (Ret fun v w' => v = .int .i64 (idxI p l) ∧ Ext [] w w') := by
 refine calls_fx (l := [.slice A l.length c, .func (.func k) #[] cs]) Try.func52 rfl Try.ntmps52 (Nat.le_of_ble_eq_true rfl) ((St.start w).old hq (dep_sl (by decide) hq)) ?_
 refine c_seq ?_
 refine c_reg ?_
 refine l_q (by decide) (p_assign (v := .int .i64 ((0 : Nat) : Int)) rfl).q ?_
 refine l_nil ?_
 refine c_seq ?_
 refine c_seq ?_
 refine c_reg ?_
 refine l_q (by decide) (p_move rfl).q ?_
 refine l_q (by decide) (p_len_sl Try.underlying26 rfl).q ?_
 refine l_q (by decide) (p_move (v := .int .i64 ((0 : Nat) : Int)) rfl).q ?_
 refine l_nil ?_
 refine c_block ?_
 refine c_loop (S := Nat) (fun zs => zs ≤ l.length ∧ (l.take zs).any p = false) (fun zs => l.length - zs) (fun zs => [(0, .slice A l.length c), (1, .func (.func k) #[] cs), (7, .int .i64 (l.length : Int)), (8, .int .i64 (zs : Int))]) (fun zs => []) (fun zs => [Sl 1 intF A l]) (0) ?_ ?_ ?_ ?_ ?_
 · show (0) ≤ l.length ∧ (l.take (0)).any p = false
   exact ⟨Nat.zero_le _, rfl⟩
 · exact ⟨rfl, rfl, rfl, rfl, trivial⟩
 · exact .refl _
 · simp
 rintro j hinv
 have hinv : j ≤ l.length ∧ (l.take j).any p = false := hinv
 obtain ⟨hj, he⟩ := hinv
 show Cont _ _ _ _ [(0, .slice A l.length c), (1, .func (.func k) #[] cs), (7, .int .i64 (l.length : Int)), (8, .int .i64 (j : Int))] ([]) [Sl 1 intF A l]
 refine c_seq ?_
 refine c_reg ?_
 first | refine l_q (by decide) (p_lss rfl rfl rfl rfl).q ?_ | refine l_q (by decide) (p_lssi rfl rfl).q ?_
 refine l_nil ?_
 refine c_seq ?_
 first | refine c_dec rfl (fun h9 => ?_) (fun h9 => ?_) | refine c_cond rfl (fun h9 => ?_) (fun h9 => ?_)
 ·skip
  obtain ⟨x, hx⟩ := at_some (l := l) (n := j) (by omega)
  refine c_skip ?_
  refine c_seq ?_
  refine c_block ?_
  refine c_seq ?_
  refine c_reg ?_
  refine l_q (by decide) (p_move rfl).q ?_
  refine l_q (by decide) (p_assign rfl).q ?_
  refine l_nil ?_
  refine c_seq ?_
  refine c_reg ?_
  refine l_q (by decide) (p_move rfl).q ?_
  refine l_q (by decide) (p_move rfl).q ?_
  refine l_q (by decide) (p_move rfl).q ?_
  first | refine l_q (by decide) (r_index Try.underlying26 inf_3 rfl rfl rfl (by first | exact .fact (by repeat constructor) | exact .own (by repeat constructor) (by decide) (fun _ => rfl) | exact SlIn.body (by repeat constructor) (by assumption)) rfl (by omega)).q ?_ | refine l_q (by decide) (r_index Try.underlying26 inf_3 rfl rfl rfl (by first | exact .fact (by repeat constructor) | exact .own (by repeat constructor) (by decide) (fun _ => rfl) | exact SlIn.body (by repeat constructor) (by assumption)) rfl (by decide)).q ?_ | refine l_q (by decide) (p_indexo Try.underlying26 inf_3 rfl rfl rfl (by omega)).q ?_
  first | refine l_q (by decide) (r_loado Try.underlying3 rfl rfl (by repeat constructor) (by rfl)).q ?_ | refine l_q (by decide) (r_load1 Try.underlying3 rfl rfl (by first | exact .fact (by repeat constructor) | exact .own (by repeat constructor) (by decide) (fun _ => rfl) | exact SlIn.body (by repeat constructor) (by assumption)) (by first | assumption | rfl) (by rfl)).q ?_ | refine l_q (by decide) (r_loadf Try.underlying3 rfl rfl (by first | exact .fact (by repeat constructor) | exact .own (by repeat constructor) (by decide) (fun _ => rfl) | exact SlIn.body (by repeat constructor) (by assumption)) (by assumption) (by rfl)).q ?_
  refine l_q (by decide) (q_callv hk rfl rfl (fun w2 hs => hcl x (List.mem_of_getElem? hx) w2 hs.ext)) ?_
  refine l_nil ?_
  first | refine c_dec rfl (fun h16 => ?_) (fun h16 => ?_) | refine c_cond rfl (fun h16 => ?_) (fun h16 => ?_)
  ·skip
   refine c_seq ?_
   refine c_reg ?_
   refine l_q (by decide) (p_move rfl).q ?_
   refine l_q (by decide) (p_assign rfl).q ?_
   refine l_nil ?_
   refine c_ret ?_
   refine c_ret1 rfl rfl (fun w hs => ?_)
   exact ⟨by rw [idx_at he hx h16], hs.ext⟩
  ·skip
   refine c_skip ?_
   refine c_reg ?_
   first | refine l_q (by decide) (p_add (j := 1) rfl rfl rfl rfl (by show _ ≤ (9223372036854775807 : Nat); omega)).q ?_ | refine l_q (by decide) (p_addi rfl rfl (by show (-9223372036854775808 : Int) ≤ _; omega) (by show _ ≤ ((9223372036854775807 : Nat) : Int); omega)).q ?_
   refine l_q (by decide) (p_move rfl).q ?_
   refine l_nil ?_
   refine c_join ((j + 1)) ?_ ?_ ?_ ?_
   ·show ((j + 1) ≤ l.length ∧ (l.take (j + 1)).any p = false) ∧ l.length - (j + 1) < l.length - j
    exact ⟨⟨by omega, any_take hx he (by simpa using h16)⟩, by omega⟩
   · exact ⟨rfl, rfl, rfl, rfl, trivial⟩
   ·show List.Perm _ ([])
    exact .refl _
   · exact fun _ h => h
 ·skip
  refine c_exit ?_
  refine c_here ?_
  refine c_seq ?_
  refine c_reg ?_
  refine l_q (by decide) (p_assign rfl).q ?_
  refine l_nil ?_
  refine c_ret ?_
  refine c_ret1 rfl rfl (fun w hs => ?_)
  rw [List.take_of_length_le (by omega)] at he
  exact ⟨by rw [idx_none he], hs.ext⟩

theorem containsi_ok (k : FuncId) (hk : Callable Try.prog k) (cs : Array Value) (p : Int → Bool) (A : Option Addr) (c : Nat) (l : List Int) (hl : l.length ≤ 1000000) (w : World) (hq : Sl 1 intF A l w) (hcl : ∀ x, x ∈ l → ∀ w2, Ext [] w w2 → Calls Try.prog k (#[.int .i64 x] ++ cs) w2 (Ret fun v w3 => v = .bool (p x) ∧ Ext [] w2 w3)) :
   Calls Try.prog 50 #[.slice A l.length c, .func (.func k) #[] cs] w (Ret fun v w' => v = .bool (l.any p) ∧ Ext [] w w') := by
 refine calls_fx (l := [.slice A l.length c, .func (.func k) #[] cs]) Try.func50 rfl Try.ntmps50 (Nat.le_of_ble_eq_true rfl) ((St.start w).old hq (dep_sl (by decide) hq)) ?_
 refine c_seq ?_
 refine c_reg ?_
 refine l_q (by decide) (p_assign rfl).q ?_
 refine l_nil ?_
 refine c_seq ?_
 refine c_reg ?_
 refine l_q (by decide) (p_move rfl).q ?_
 refine l_q (by decide) (p_move rfl).q ?_
 refine l_q (by decide) (q_call call_52 rfl (fun w hs => indexi_ok k hk cs p A c l hl w (hs.facts _ (by repeat constructor)).1 (fun x hx w2 he => hcl x hx w2 (hs.move he).ext))) ?_
 first | refine l_q (by decide) (p_geq (j := 0) rfl rfl rfl rfl).q ?_ | refine l_q (by decide) (p_geqi rfl rfl).q ?_
 refine l_q (by decide) (p_assign rfl).q ?_
 refine l_nil ?_
 refine c_ret ?_
 refine c_ret1 rfl rfl (fun w hs => ?_)
 refine ⟨?_, hs.ext⟩
 congr 1
 have := (idx_any (p := p) (l := l)).1
 cases ha : l.any p with
 | true => exact decide_eq_true (this.2 ha)
 | false => exact decide_eq_false (fun h => by rw [this.1 h] at ha; cases ha)

theorem indexm_ok (k : FuncId) (hk : Callable Try.prog k) (cs : Array Value) (p : Im → Bool) (A : Option Addr) (c : Nat) (l : List Im) (hl : l.length ≤ 1000000) (w : World) (hq : Sl 3 imF A l w) (hcl : ∀ x, x ∈ l → ∀ w2, Ext [] w w2 → Calls Try.prog k (#[imK x] ++ cs) w2 (Ret fun v w3 => v = .bool (p x) ∧ Ext [] w2 w3)) :
   Calls Try.prog 45 #[.slice A l.length c, .func (.func k) #[] cs] w (Ret fun v w' => v = .int .i64 (idxI p l) ∧ Ext [] w w') := by
 refine calls_fx (l := [.slice A l.length c, .func (.func k) #[] cs]) Try.func45 rfl Try.ntmps45 (Nat.le_of_ble_eq_true rfl) ((St.start w).old hq (dep_sl (by decide) hq)) ?_
 refine c_seq ?_
 refine c_reg ?_
 refine l_q (by decide) (p_assign (v := .int .i64 ((0 : Nat) : Int)) rfl).q ?_
 refine l_nil ?_
 refine c_seq ?_
 refine c_seq ?_
 refine c_reg ?_
 refine l_q (by decide) (p_move rfl).q ?_
 refine l_q (by decide) (p_len_sl Try.underlying46 rfl).q ?_
 refine l_q (by decide) (p_move (v := .int .i64 ((0 : Nat) : Int)) rfl).q ?_
 refine l_nil ?_
 refine c_block ?_
 refine c_loop (S := Nat) (fun zs => zs ≤ l.length ∧ (l.take zs).any p = false) (fun zs => l.length - zs) (fun zs => [(0, .slice A l.length c), (1, .func (.func k) #[] cs), (7, .int .i64 (l.length : Int)), (8, .int .i64 (zs : Int))]) (fun zs => []) (fun zs => [Sl 3 imF A l]) (0) ?_ ?_ ?_ ?_ ?_
 · show (0) ≤ l.length ∧ (l.take (0)).any p = false
   exact ⟨Nat.zero_le _, rfl⟩
 · exact ⟨rfl, rfl, rfl, rfl, trivial⟩
 · exact .refl _
 · simp
 rintro j hinv
 have hinv : j ≤ l.length ∧ (l.take j).any p = false := hinv
 obtain ⟨hj, he⟩ := hinv
 show Cont _ _ _ _ [(0, .slice A l.length c), (1, .func (.func k) #[] cs), (7, .int .i64 (l.length : Int)), (8, .int .i64 (j : Int))] ([]) [Sl 3 imF A l]
 refine c_seq ?_
 refine c_reg ?_
 first | refine l_q (by decide) (p_lss rfl rfl rfl rfl).q ?_ | refine l_q (by decide) (p_lssi rfl rfl).q ?_
 refine l_nil ?_
 refine c_seq ?_
 first | refine c_dec rfl (fun h9 => ?_) (fun h9 => ?_) | refine c_cond rfl (fun h9 => ?_) (fun h9 => ?_)
 ·skip
  obtain ⟨x, hx⟩ := at_some (l := l) (n := j) (by omega)
  refine c_skip ?_
  refine c_seq ?_
  refine c_block ?_
  refine c_seq ?_
  refine c_reg ?_
  refine l_q (by decide) (p_move rfl).q ?_
  refine l_q (by decide) (p_assign rfl).q ?_
  refine l_nil ?_
  refine c_seq ?_
  refine c_reg ?_
  refine l_q (by decide) (p_move rfl).q ?_
  refine l_q (by decide) (p_move rfl).q ?_
  refine l_q (by decide) (p_move rfl).q ?_
  first | refine l_q (by decide) (r_index Try.underlying46 inf_52 rfl rfl rfl (by first | exact .fact (by repeat constructor) | exact .own (by repeat constructor) (by decide) (fun _ => rfl) | exact SlIn.body (by repeat constructor) (by assumption)) rfl (by omega)).q ?_ | refine l_q (by decide) (r_index Try.underlying46 inf_52 rfl rfl rfl (by first | exact .fact (by repeat constructor) | exact .own (by repeat constructor) (by decide) (fun _ => rfl) | exact SlIn.body (by repeat constructor) (by assumption)) rfl (by decide)).q ?_ | refine l_q (by decide) (p_indexo Try.underlying46 inf_52 rfl rfl rfl (by omega)).q ?_
  first | refine l_q (by decide) (r_loada Try.underlying52 rfl inf_52 rfl (by first | exact .fact (by repeat constructor) | exact .own (by repeat constructor) (by decide) (fun _ => rfl) | exact SlIn.body (by repeat constructor) (by assumption)) (by assumption)).q ?_ | refine l_q (by decide) (r_loadow Try.underlying52 rfl inf_52 rfl (by repeat constructor) (by rfl)).q ?_ | refine l_q (by decide) (r_loadoa Try.underlying52 rfl inf_52 rfl (by repeat constructor) (by rfl) (fun j u h => h)).q ?_
  refine l_q (by decide) (q_callv hk rfl rfl (fun w2 hs => hcl x (List.mem_of_getElem? hx) w2 hs.ext)) ?_
  refine l_nil ?_
  first | refine c_dec rfl (fun h16 => ?_) (fun h16 => ?_) | refine c_cond rfl (fun h16 => ?_) (fun h16 => ?_)
  ·skip
   refine c_seq ?_
   refine c_reg ?_
   refine l_q (by decide) (p_move rfl).q ?_
   refine l_q (by decide) (p_assign rfl).q ?_
   refine l_nil ?_
   refine c_ret ?_
   refine c_ret1 rfl rfl (fun w hs => ?_)
   exact ⟨by rw [idx_at he hx h16], hs.ext⟩
  ·skip
   refine c_skip ?_
   refine c_reg ?_
   first | refine l_q (by decide) (p_add (j := 1) rfl rfl rfl rfl (by show _ ≤ (9223372036854775807 : Nat); omega)).q ?_ | refine l_q (by decide) (p_addi rfl rfl (by show (-9223372036854775808 : Int) ≤ _; omega) (by show _ ≤ ((9223372036854775807 : Nat) : Int); omega)).q ?_
   refine l_q (by decide) (p_move rfl).q ?_
   refine l_nil ?_
   refine c_join ((j + 1)) ?_ ?_ ?_ ?_
   ·show ((j + 1) ≤ l.length ∧ (l.take (j + 1)).any p = false) ∧ l.length - (j + 1) < l.length - j
    exact ⟨⟨by omega, any_take hx he (by simpa using h16)⟩, by omega⟩
   · exact ⟨rfl, rfl, rfl, rfl, trivial⟩
   ·show List.Perm _ ([])
    exact .refl _
   · exact fun _ h => h
 ·skip
  refine c_exit ?_
  refine c_here ?_
  refine c_seq ?_
  refine c_reg ?_
  refine l_q (by decide) (p_assign rfl).q ?_
  refine l_nil ?_
  refine c_ret ?_
  refine c_ret1 rfl rfl (fun w hs => ?_)
  rw [List.take_of_length_le (by omega)] at he
  exact ⟨by rw [idx_none he], hs.ext⟩

theorem containsm_ok (k : FuncId) (hk : Callable Try.prog k) (cs : Array Value) (p : Im → Bool) (A : Option Addr) (c : Nat) (l : List Im) (hl : l.length ≤ 1000000) (w : World) (hq : Sl 3 imF A l w) (hcl : ∀ x, x ∈ l → ∀ w2, Ext [] w w2 → Calls Try.prog k (#[imK x] ++ cs) w2 (Ret fun v w3 => v = .bool (p x) ∧ Ext [] w2 w3)) :
   Calls Try.prog 37 #[.slice A l.length c, .func (.func k) #[] cs] w (Ret fun v w' => v = .bool (l.any p) ∧ Ext [] w w') := by
 refine calls_fx (l := [.slice A l.length c, .func (.func k) #[] cs]) Try.func37 rfl Try.ntmps37 (Nat.le_of_ble_eq_true rfl) ((St.start w).old hq (dep_sl (by decide) hq)) ?_
 refine c_seq ?_
 refine c_reg ?_
 refine l_q (by decide) (p_assign rfl).q ?_
 refine l_nil ?_
 refine c_seq ?_
 refine c_reg ?_
 refine l_q (by decide) (p_move rfl).q ?_
 refine l_q (by decide) (p_move rfl).q ?_
 refine l_q (by decide) (q_call call_45 rfl (fun w hs => indexm_ok k hk cs p A c l hl w (hs.facts _ (by repeat constructor)).1 (fun x hx w2 he => hcl x hx w2 (hs.move he).ext))) ?_
 first | refine l_q (by decide) (p_geq (j := 0) rfl rfl rfl rfl).q ?_ | refine l_q (by decide) (p_geqi rfl rfl).q ?_
 refine l_q (by decide) (p_assign rfl).q ?_
 refine l_nil ?_
 refine c_ret ?_
 refine c_ret1 rfl rfl (fun w hs => ?_)
 refine ⟨?_, hs.ext⟩
 congr 1
 have := (idx_any (p := p) (l := l)).1
 cases ha : l.any p with
 | true => exact decide_eq_true (this.2 ha)
 | false => exact decide_eq_false (fun h => by rw [this.1 h] at ha; cases ha)
end Go.Proofs.Ytncagpppmaehhaa
