/- The walks of edit scripts, eleventh part; conditions: lengths. -/
import Derived.Test.YtlefheiohblgdaaDoorWalksJ
namespace Go.Proofs.YtlefheiohblgdaaDoor
open Go Go.Fx Go.Proofs

section
variable {P : Program} {w0 : World} {K : List Nat} {n : Sz} {ops : Array Oper} {rest : List Oper} {N : Act → World → Prop} {L : Slots} {σ : Fx.Own} {ρ : Fx.Facts} {ty : TypeId}
theorem l_append2 {α : Type} {d : Nat} {pos : String} {aft : Array Edge} {s y : Operand} {t e : TypeId} {size bytes : Nat} {z : Value} {A : Option Addr} {c b q m : Nat} {vs : List Value} {f : α → List Value} {es : List α} (x x2 : α) (hd : d < n) (hu : P.underlying t = some (.slice e)) (hi : InfoIs P e size bytes z) (hzs : z.cells.size = size) (hsz : 0 < size)
    (hsv : ev L s = some (.slice A m c)) (hm : m = es.length) (hx : ev L y = some (.slice (some ⟨b, 0, none⟩) 2 q)) (hv : vs = f x ++ f x2) (hl : (f x ++ f x2).length = 2 * size) (h1 : (f x ++ f x2).all (·.oneCell') = true) (h63 : es.length + 2 ≤ 9223372036854775807) (hby : (es.length + 2) * bytes ≤ 140737488355328)
    (h : ∀ A' c', A' ≠ none → WL P w0 K n ops rest N ((d, .slice A' (es ++ [x, x2]).length c') :: L) (iSl e size f A' c' (es ++ [x, x2]) :: σ) ρ) :
    WL P w0 K n ops (⟨some d, .call { callee := .builtin .append, args := #[s, y], argTypes := #[t, t] }, ty, pos, aft, none⟩ :: rest) N L (iCells b e vs :: iSl e size f A c es :: σ) ρ := by
  subst hv; subst hm
  refine l_append hd hu hi hzs hsz hsv hx hl h1 h63 hby fun A' c' hA => ?_
  have := h A' c' (hA (by omega))
  simpa only [iSl, List.length_append, List.length_cons, List.length_nil, List.flatMap_append, List.flatMap_cons, List.flatMap_nil, List.append_nil] using this
end
structure RunI (X : Inp) (l : List Ed.Op) (k : Nat) (st : Ed.St) : Prop where
  hk : k ≤ l.length
  ex : Ed.execs X.pl ⟨0, [], 0⟩ (l.take k) = some st
  at_ : st.at_ ≤ X.xs.length
  c0 : 0 ≤ st.cost
  c1 : st.cost ≤ 1099511627776
  n : st.out.length ≤ 2 * k
theorem one_len {I : Ed.In} {i : Nat} {o : Ed.Op} {x : Int} {k : Nat} {e : List Int} (h : Ed.One I i o x k e) : e.length ≤ 2 := by cases h <;> simp
theorem RunI.next {X : Inp} (hO : Ed.Okin X.pl) {l : List Ed.Op} {k : Nat} {st st' : Ed.St} {op : Ed.Op} (h : RunI X l k st) (hop : l[k]? = some op) (hx : Ed.exec X.pl st op = some st') : RunI X l (k + 1) st' := by
  obtain ⟨x, t, e, h1, h2⟩ := Ed.exec_one hx
  have h3 := Ed.one_size h1
  have h4 := Ed.one_cost hO h1
  have h5 := one_len h1
  have h6 := h.at_; have h7 := h.c0; have h8 := h.c1; have h9 := h.n
  rw [pl_len] at h3
  subst h2
  refine ⟨at_lt hop, by rw [take_at hop, Ed.execs_snoc, h.ex]; exact hx, by show _ + _ ≤ _; omega, ?_, ?_, by show (_ ++ _ : List Int).length ≤ _; rw [List.length_append]; omega⟩
  · show 0 ≤ Ed.plus _ _; unfold Ed.plus Ed.inf; omega
  · show Ed.plus _ _ ≤ _; unfold Ed.plus Ed.inf; omega
theorem run_none {X : Inp} {l : List Ed.Op} {k : Nat} {st : Ed.St} {op : Ed.Op} (h : RunI X l k st) (hop : l[k]? = some op) (hx : Ed.exec X.pl st op = none) : Ed.run X.pl l = none := by
  have h1 : Ed.execs X.pl ⟨0, [], 0⟩ (l.take (k + 1)) = none := by rw [take_at hop, Ed.execs_snoc, h.ex]; exact hx
  have h2 : Ed.execs X.pl ⟨0, [], 0⟩ l = none := by
    rw [← List.take_append_drop (k + 1) l, Ed.execs_append, h1]; rfl
  unfold Ed.run; rw [h2]
theorem run_end {X : Inp} {l : List Ed.Op} {k : Nat} {st : Ed.St} (h : RunI X l k st) (hk : ¬ k < l.length) : Ed.run X.pl l = if st.at_ = X.xs.length then some st else none := by
  have h1 := h.ex
  rw [List.take_of_length_le (by omega)] at h1
  unfold Ed.run; rw [h1, pl_len]
section
variable {X : Inp} {st : Ed.St} {op : Ed.Op} {x : XCol} {r q : Int}
theorem exec_read (hk : op.kind = 1) (ht : 0 ≤ op.term) (hx : X.xs[st.at_]? = some x) (hr : x.o.read[op.term.toNat]? = some r) (h0 : 0 ≤ r) : Ed.exec X.pl st op = some ⟨st.at_ + 1, st.out ++ [op.term], Ed.plus st.cost r⟩ := by
  unfold Ed.exec; rw [if_pos hk, pl_at hx]; simp only
  rw [show Ed.at_ x.o.read op.term = some r by unfold Ed.at_; rw [if_neg (by omega)]; exact hr]; simp only
  rw [if_pos h0]
theorem exec_del (hk : op.kind = 2) (ht : op.term = 0) (hx : X.xs[st.at_]? = some x) (h0 : x.o.del < 1099511627776) : Ed.exec X.pl st op = some ⟨st.at_ + 1, st.out, Ed.plus st.cost x.o.del⟩ := by
  unfold Ed.exec; rw [if_neg (by omega), if_pos hk, pl_at hx]; simp only
  exact if_pos ⟨ht, h0⟩
theorem exec_ins (hk : op.kind = 3) (ht : 0 ≤ op.term) (hq : X.ins[op.term.toNat]? = some q) : Ed.exec X.pl st op = some ⟨st.at_, st.out ++ [op.term], Ed.plus st.cost q⟩ := by
  unfold Ed.exec; rw [if_neg (by omega), if_neg (by omega), if_pos hk]
  rw [show Ed.at_ X.pl.ins op.term = some q by unfold Ed.at_; rw [if_neg (by omega)]; exact hq]
theorem exec_swap {a b : Int} (hk : op.kind = 4) (ht : op.term = 0) (hs : Ed.swp X.pl st.at_ = some (a, b)) : Ed.exec X.pl st op = some ⟨st.at_ + 2, st.out ++ [b, a], Ed.plus st.cost X.sw⟩ := by
  unfold Ed.exec; rw [if_neg (by omega), if_neg (by omega), if_neg (by omega), if_pos hk, hs]; simp only
  rw [if_pos ht]; rfl
theorem exec_no (hx : st.at_ < X.xs.length → X.xs[st.at_]? = some x) (hlen : st.at_ < X.xs.length → x.o.read.length = X.ins.length) (hr : st.at_ < X.xs.length → 0 ≤ op.term → op.term < X.ins.length → x.o.read[op.term.toNat]? = some r) (h1 : ¬ (op.kind = 1 ∧ st.at_ < X.xs.length ∧ (0 ≤ op.term ∧ op.term < X.ins.length) ∧ 0 ≤ r)) (h2 : ¬ (op.kind = 2 ∧ st.at_ < X.xs.length ∧ op.term = 0 ∧ x.o.del < 1099511627776))
    (h3 : ¬ (op.kind = 3 ∧ 0 ≤ op.term ∧ op.term < X.ins.length)) (h4 : ¬ (op.kind = 4 ∧ op.term = 0 ∧ (Ed.swp X.pl st.at_).isSome = true)) : Ed.exec X.pl st op = none := by
  unfold Ed.exec
  split
  · rename_i hk
    by_cases hi : st.at_ < X.xs.length
    · rw [pl_at (hx hi)]; simp only
      by_cases ht : 0 ≤ op.term ∧ op.term < X.ins.length
      · rw [show Ed.at_ x.o.read op.term = some r by unfold Ed.at_; rw [if_neg (by omega)]; exact hr hi ht.1 ht.2]; simp only
        rw [if_neg (fun h => h1 ⟨hk, hi, ht, h⟩)]
      · rw [show Ed.at_ x.o.read op.term = none by
          unfold Ed.at_; split
          · rfl
          · exact List.getElem?_eq_none (by rw [hlen hi]; omega)]
    · rw [pl_none (by omega)]
  · split
    · rename_i hk
      by_cases hi : st.at_ < X.xs.length
      · rw [pl_at (hx hi)]; simp only
        exact if_neg (fun h => h2 ⟨hk, hi, h.1, h.2⟩)
      · rw [pl_none (by omega)]
    · split
      · rename_i hk
        rw [show Ed.at_ X.pl.ins op.term = none by
          unfold Ed.at_; split
          · rfl
          · exact List.getElem?_eq_none (by show X.ins.length ≤ _; omega)]
      · split
        · rename_i hk
          cases hs : Ed.swp X.pl st.at_ with
          | none => rfl
          | some p =>
            obtain ⟨a, b⟩ := p
            simp only
            rw [if_neg (fun h => h4 ⟨hk, h, by rw [hs]; rfl⟩)]
        · rfl
end
def rOut : Option Ed.St → List Int
  | some s => s.out
  | none => []
def rCost : Option Ed.St → Int
  | some s => s.cost
  | none => 0
def OutQ (lo : Nat) (r : Option Ed.St) (x : Option Addr × Nat) : World → Prop := fun w => (∀ ad : Addr, x.1 = some ad → lo ≤ ad.block) ∧ Sl 1 intF x.1 (rOut r) w
theorem dep_lo {α : Type} {size lo : Nat} {f : α → List Value} {A : Option Addr} {es : List α} {w : World} (hs : 0 < size) (h : Sl size f A es w) (hlo : ∀ ad : Addr, A = some ad → lo ≤ ad.block) : Dep lo w.heap.size (Sl size f A es) := by
  by_cases hne : es = []
  · subst hne; exact fun _ w2 _ _ => Sl.nil size f A w2
  · obtain ⟨b, off, rfl, hlt⟩ := h.lt hs hne
    exact Sl.dep fun a ha => ⟨hlo a ha, by injection ha with ha; subst ha; exact hlt⟩
theorem dep_outq {lo hi : Nat} {r : Option Ed.St} {x : Option Addr × Nat} {w : World} (h : OutQ hi r x w) : Dep hi w.heap.size (OutQ lo r x) := fun w1 w2 hb hq => ⟨hq.1, dep_lo (by decide) h.2 h.1 w1 w2 hb hq.2⟩
abbrev RunR (w w' : World) (v : Value) (r : Option Ed.St) (lo : Nat) : Prop := ∃ x : Option Addr × Nat, v = .tuple #[.slice x.1 (rOut r).length x.2, .int .i64 (rCost r), .bool r.isSome] ∧ OutQ lo r x w' ∧ Dep w.heap.size w'.heap.size (OutQ lo r x) ∧ Ext [] w w'
theorem run_no {w w' : World} {lo : Nat} (h : Ext [] w w') : RunR w w' (.tuple #[.slice none 0 0, .int .i64 0, .bool false]) none lo := ⟨(none, 0), rfl, ⟨(fun _ h => by cases h), Sl.nil _ _ _ _⟩, dep_outq (hi := w.heap.size) ⟨(fun _ h => by cases h), Sl.nil _ _ _ _⟩, h⟩
theorem opt_at2 {X : Inp} (hO : Ed.Okin X.pl) (i : Nat) (t : Int) : ∃ (x : XCol) (r q : Int), (i < X.xs.length → X.xs[i]? = some x) ∧ (i < X.xs.length → x.o.read.length = X.ins.length) ∧ (i < X.xs.length → 0 ≤ t → t < X.ins.length → x.o.read[t.toNat]? = some r) ∧ (0 ≤ t → t < X.ins.length → X.ins[t.toNat]? = some q) := by
  obtain ⟨x, hx⟩ := opt_at X.xs i ⟨none, 0, ⟨0, [], 0⟩⟩
  have hl : i < X.xs.length → x.o.read.length = X.ins.length := fun h => (okin_cols hO x (List.mem_of_getElem? (hx h))).len
  obtain ⟨r, hr⟩ := opt_at x.o.read t.toNat 0
  obtain ⟨q, hq⟩ := opt_at X.ins t.toNat 0
  exact ⟨x, r, q, hx, hl, fun h h2 h3 => hr (by rw [hl h]; omega), fun h2 h3 => hq (by omega)⟩
theorem run_ok (X : Inp) (hX : X.small) (w : World) (hM : X.mem w) (hO : Ed.Okin X.pl) (C : Option Addr) (lc : Nat) (l : List Ed.Op) (hl : l.length ≤ 100000) (hY : Sl 2 opF C l w) (lo : Nat) (hlo : lo ≤ w.heap.size) :
   Calls Tryd.prog 20 #[.agg #[.slice X.A X.xs.length X.c, .slice X.B X.ins.length X.d, .int .i64 X.sw], .slice C l.length lc] w (Ret fun v w' => RunR w w' v (Ed.run X.pl l) lo) := by
 refine calls_fx (l := [.agg #[.slice X.A X.xs.length X.c, .slice X.B X.ins.length X.d, .int .i64 X.sw], .slice C l.length lc]) Tryd.func20 rfl Tryd.ntmps20 (Nat.le_of_ble_eq_true rfl) ((X.start hM).old hY (dep_sl (by decide) hY)) ?_
 refine c_seq ?_
 refine c_reg ?_
 refine l_box (by decide) rfl _ rfl (fun b2 => ?_)
 refine l_q (by decide) (p_assign rfl).q ?_
 refine l_q (by decide) (p_assign (v := .int .i64 ((0 : Nat) : Int)) rfl).q ?_
 refine l_q (by decide) (p_assign rfl).q ?_
 refine l_nil ?_
 refine c_seq ?_
 refine c_reg ?_
 refine l_q (by decide) (p_assign rfl).q ?_
 refine l_nil ?_
 refine c_seq ?_
 refine c_reg ?_
 refine l_q (by decide) (p_assign (v := .int .i64 ((0 : Nat) : Int)) rfl).q ?_
 refine l_q (by decide) (p_assign (v := .int .i64 ((0 : Nat) : Int)) rfl).q ?_
 refine l_nil ?_
 refine c_seq ?_
 refine c_seq ?_
 refine c_reg ?_
 refine l_q (by decide) (p_assign (v := .int .i64 ((0 : Nat) : Int)) rfl).q ?_
 refine l_nil ?_
 refine c_block ?_
 refine c_sl0 3 1 intF ?_
 refine c_loop (S := Nat × Ed.St × Option Addr × Nat) (fun zs => RunI X l zs.1 zs.2.1) (fun zs => l.length - zs.1) (fun zs => [(1, .slice C l.length lc), (2, .pointer (some ⟨b2, 0, none⟩)), (7, .slice zs.2.2.1 zs.2.1.out.length zs.2.2.2), (8, .int .i64 zs.2.1.cost), (9, .int .i64 (zs.2.1.at_ : Int)), (10, .int .i64 (zs.1 : Int))]) (fun zs => [iSl 3 1 intF zs.2.2.1 zs.2.2.2 zs.2.1.out, iCells b2 25 [.slice X.A X.xs.length X.c, .slice X.B X.ins.length X.d, .int .i64 X.sw]]) (fun zs => (Sl 2 opF C l :: [Rd X.xs, Sl 1 intF X.B X.ins, Sl 3 colF X.A X.xs])) (0, ⟨0, [], 0⟩, none, 0) ?_ ?_ ?_ ?_ ?_
 · show RunI X l (0) (⟨0, [], 0⟩)
   exact ⟨Nat.zero_le _, rfl, Nat.zero_le _, by decide, by decide, Nat.le_refl _⟩
 · exact ⟨rfl, rfl, rfl, rfl, rfl, rfl, trivial⟩
 · exact .refl _
 · exact fun _ h => h
 rintro ⟨k, st, A1, d1⟩ hinv
 have hinv : RunI X l k st := hinv
 have hI := hinv
 show Cont _ _ _ _ [(1, .slice C l.length lc), (2, .pointer (some ⟨b2, 0, none⟩)), (7, .slice A1 st.out.length d1), (8, .int .i64 st.cost), (9, .int .i64 (st.at_ : Int)), (10, .int .i64 (k : Int))] ([iSl 3 1 intF A1 d1 st.out, iCells b2 25 [.slice X.A X.xs.length X.c, .slice X.B X.ins.length X.d, .int .i64 X.sw]]) (Sl 2 opF C l :: [Rd X.xs, Sl 1 intF X.B X.ins, Sl 3 colF X.A X.xs])
 refine c_seq ?_
 refine c_seq ?_
 refine c_reg ?_
 refine l_q (by decide) (p_move rfl).q ?_
 refine l_q (by decide) (p_move rfl).q ?_
 refine l_q (by decide) (p_len_sl Tryd.underlying26 rfl).q ?_
 first | refine l_q (by decide) (p_lss rfl rfl rfl rfl).q ?_ | refine l_q (by decide) (p_lssi rfl rfl).q ?_
 refine l_nil ?_
 first | refine c_dec rfl (fun h17 => ?_) (fun h17 => ?_) | refine c_cond rfl (fun h17 => ?_) (fun h17 => ?_)
 ·skip
  have hxl := hX.xs
  have hil := hX.ins
  have hat := hI.at_
  have hc0 := hI.c0
  have hc1 := hI.c1
  have hs0 : 0 ≤ X.sw := hO.s0
  have hs1 : X.sw ≤ 60000 := hO.s1
  obtain ⟨op, hop⟩ := at_some (l := l) (n := k) (by omega)
  obtain ⟨x, r, q, hx0, hxl0, hr0, hq0⟩ := opt_at2 hO st.at_ op.term
  refine c_skip ?_
  refine c_seq ?_
  refine c_block ?_
  refine c_seq ?_
  refine c_reg ?_
  refine l_q (by decide) (p_move rfl).q ?_
  refine l_q (by decide) (p_move rfl).q ?_
  first | refine l_q (by decide) (r_index Tryd.underlying26 inf_46 rfl rfl rfl (by first | exact .fact (by repeat constructor) | exact .own (by repeat constructor) (by decide) (fun _ => rfl) | exact SlIn.reads (by repeat constructor) (by assumption)) rfl (by omega)).q ?_ | refine l_q (by decide) (r_index Tryd.underlying26 inf_46 rfl rfl rfl (by first | exact .fact (by repeat constructor) | exact .own (by repeat constructor) (by decide) (fun _ => rfl) | exact SlIn.reads (by repeat constructor) (by assumption)) rfl (by decide)).q ?_ | refine l_q (by decide) (p_indexo Tryd.underlying26 inf_46 rfl rfl rfl (by omega)).q ?_
  first | refine l_q (by decide) (r_loada Tryd.underlying46 rfl inf_46 rfl (by first | exact .fact (by repeat constructor) | exact .own (by repeat constructor) (by decide) (fun _ => rfl) | exact SlIn.reads (by repeat constructor) (by assumption)) (by assumption)).q ?_ | refine l_q (by decide) (r_loadow Tryd.underlying46 rfl inf_46 rfl (by repeat constructor) (by rfl)).q ?_ | refine l_q (by decide) (r_loadoa Tryd.underlying46 rfl inf_46 rfl (by repeat constructor) (by rfl) (fun j u h => h)).q ?_
  refine l_alloc (by decide) inf_46 _ rfl (fun b11 => ?_)
  first | (refine l_storew inf_46 rfl rfl rfl rfl rfl ?_) | (refine l_perm (front1 _ _ _) ?_; refine l_storew inf_46 rfl rfl rfl rfl rfl ?_) | (refine l_perm (front2 _ _ _ _) ?_; refine l_storew inf_46 rfl rfl rfl rfl rfl ?_) | (refine l_perm (front3 _ _ _ _ _) ?_; refine l_storew inf_46 rfl rfl rfl rfl rfl ?_) | (refine l_perm (front4 _ _ _ _ _ _) ?_; refine l_storew inf_46 rfl rfl rfl rfl rfl ?_) | (refine l_storea inf_46 rfl rfl rfl rfl (by decide) ?_) | (refine l_perm (front1 _ _ _) ?_; refine l_storea inf_46 rfl rfl rfl rfl (by decide) ?_) | (refine l_perm (front2 _ _ _ _) ?_; refine l_storea inf_46 rfl rfl rfl rfl (by decide) ?_)
  refine l_nil ?_
  refine c_seq ?_
  refine c_reg ?_
  refine l_q (by decide) (p_move rfl).q ?_
  first | refine l_q (by decide) (p_faddr (i := 0) 0 Tryd.underlying25 rfl inf_22 (by decide) rfl rfl).q ?_ | refine l_q (by decide) (p_faddro (i := 0) 0 Tryd.underlying25 rfl inf_22 (by decide) rfl rfl).q ?_
  first | refine l_q (by decide) (r_loado Tryd.underlying22 rfl rfl (by repeat constructor) (by rfl)).q ?_ | refine l_q (by decide) (r_load1 Tryd.underlying22 rfl rfl (by first | exact .fact (by repeat constructor) | exact .own (by repeat constructor) (by decide) (fun _ => rfl) | exact SlIn.reads (by repeat constructor) (by assumption)) (by first | assumption | rfl) (by rfl)).q ?_ | refine l_q (by decide) (r_loadf Tryd.underlying22 rfl rfl (by first | exact .fact (by repeat constructor) | exact .own (by repeat constructor) (by decide) (fun _ => rfl) | exact SlIn.reads (by repeat constructor) (by assumption)) (by assumption) (by rfl)).q ?_
  refine l_q (by decide) (p_len_sl Tryd.underlying22 rfl).q ?_
  first | refine l_q (by decide) (p_lss rfl rfl rfl rfl).q ?_ | refine l_q (by decide) (p_lssi rfl rfl).q ?_
  refine l_q (by decide) (p_assign rfl).q ?_
  refine l_nil ?_
  refine c_seq ?_
  refine c_meetn (S := Unit) (fun zs => True) (fun zs => [(1, .slice C l.length lc), (2, .pointer (some ⟨b2, 0, none⟩)), (7, .slice A1 st.out.length d1), (8, .int .i64 st.cost), (9, .int .i64 (st.at_ : Int)), (10, .int .i64 (k : Int)), (11, .pointer (some ⟨b11, 0, none⟩)), (12, .bool (decide (st.at_ < X.xs.length))), (13, .bool (decide (0 ≤ op.term ∧ op.term < X.ins.length)))]) (fun zs => [iCells b11 46 (opF op), iSl 3 1 intF A1 d1 st.out, iCells b2 25 [.slice X.A X.xs.length X.c, .slice X.B X.ins.length X.d, .int .i64 X.sw]]) (fun zs => (Sl 2 opF C l :: [Rd X.xs, Sl 1 intF X.B X.ins, Sl 3 colF X.A X.xs])) ?_ ?_
  ·skip
   refine c_reg ?_
   first | refine l_q (by decide) (p_faddr (i := 1) 1 Tryd.underlying46 rfl inf_3 (by decide) rfl rfl).q ?_ | refine l_q (by decide) (p_faddro (i := 1) 1 Tryd.underlying46 rfl inf_3 (by decide) rfl rfl).q ?_
   first | refine l_q (by decide) (r_loado Tryd.underlying3 rfl rfl (by repeat constructor) (by rfl)).q ?_ | refine l_q (by decide) (r_load1 Tryd.underlying3 rfl rfl (by first | exact .fact (by repeat constructor) | exact .own (by repeat constructor) (by decide) (fun _ => rfl) | exact SlIn.reads (by repeat constructor) (by assumption)) (by first | assumption | rfl) (by rfl)).q ?_ | refine l_q (by decide) (r_loadf Tryd.underlying3 rfl rfl (by first | exact .fact (by repeat constructor) | exact .own (by repeat constructor) (by decide) (fun _ => rfl) | exact SlIn.reads (by repeat constructor) (by assumption)) (by assumption) (by rfl)).q ?_
   first | refine l_q (by decide) (p_geq (j := 0) rfl rfl rfl rfl).q ?_ | refine l_q (by decide) (p_geqi rfl rfl).q ?_
   refine l_q (by decide) (p_move rfl).q ?_
   first | refine l_splitd (t := 32) rfl (fun h32 => ?_) (fun h32 => ?_) | refine l_splitb (t := 32) rfl (fun h32 => ?_) (fun h32 => ?_)
   ·skip
    first | refine l_g (j := 3) rfl rfl (by decide) (p_faddr (i := 1) 1 Tryd.underlying46 rfl inf_3 (by decide) rfl rfl).q ?_ | refine l_g (j := 3) rfl rfl (by decide) (p_faddro (i := 1) 1 Tryd.underlying46 rfl inf_3 (by decide) rfl rfl).q ?_
    first | refine l_g (j := 3) rfl rfl (by decide) (r_loado Tryd.underlying3 rfl rfl (by repeat constructor) (by rfl)).q ?_ | refine l_g (j := 3) rfl rfl (by decide) (r_load1 Tryd.underlying3 rfl rfl (by first | exact .fact (by repeat constructor) | exact .own (by repeat constructor) (by decide) (fun _ => rfl) | exact SlIn.reads (by repeat constructor) (by assumption)) (by first | assumption | rfl) (by rfl)).q ?_ | refine l_g (j := 3) rfl rfl (by decide) (r_loadf Tryd.underlying3 rfl rfl (by first | exact .fact (by repeat constructor) | exact .own (by repeat constructor) (by decide) (fun _ => rfl) | exact SlIn.reads (by repeat constructor) (by assumption)) (by assumption) (by rfl)).q ?_
    first | refine l_g (j := 3) rfl rfl (by decide) (p_faddr (i := 1) 1 Tryd.underlying25 rfl inf_23 (by decide) rfl rfl).q ?_ | refine l_g (j := 3) rfl rfl (by decide) (p_faddro (i := 1) 1 Tryd.underlying25 rfl inf_23 (by decide) rfl rfl).q ?_
    first | refine l_g (j := 3) rfl rfl (by decide) (r_loado Tryd.underlying23 rfl rfl (by repeat constructor) (by rfl)).q ?_ | refine l_g (j := 3) rfl rfl (by decide) (r_load1 Tryd.underlying23 rfl rfl (by first | exact .fact (by repeat constructor) | exact .own (by repeat constructor) (by decide) (fun _ => rfl) | exact SlIn.reads (by repeat constructor) (by assumption)) (by first | assumption | rfl) (by rfl)).q ?_ | refine l_g (j := 3) rfl rfl (by decide) (r_loadf Tryd.underlying23 rfl rfl (by first | exact .fact (by repeat constructor) | exact .own (by repeat constructor) (by decide) (fun _ => rfl) | exact SlIn.reads (by repeat constructor) (by assumption)) (by assumption) (by rfl)).q ?_
    refine l_g (j := 3) rfl rfl (by decide) (p_len_sl Tryd.underlying23 rfl).q ?_
    first | refine l_g (j := 3) rfl rfl (by decide) (p_lss rfl rfl rfl rfl).q ?_ | refine l_g (j := 3) rfl rfl (by decide) (p_lssi rfl rfl).q ?_
    refine l_q (by decide) (p_pick rfl rfl).q ?_
    refine l_q (by decide) (p_assign rfl).q ?_
    refine l_nil ?_
    refine c_join (()) ?inv ?sub ?perm ?facts
    case sub => exact ⟨rfl, rfl, rfl, rfl, rfl, rfl, rfl, rfl, (by first | rfl | exact congrArg (fun b => some (Value.bool b)) (decide_eq_true (by omega)).symm | exact congrArg (fun b => some (Value.bool b)) (decide_eq_false (by omega)).symm | exact congrArg (fun b => some (Value.bool b)) (decide_eq_decide.2 (by omega))), trivial⟩
    case perm =>
     exact .refl _
    case facts => exact fun _ h => h
    case inv =>
     trivial
   ·skip
    refine l_off (j := 3) rfl rfl (by first | (simp; done) | (simp [undef]; done)) (by decide) ?_
    refine l_off (j := 3) rfl rfl (by first | (simp; done) | (simp [undef]; done)) (by decide) ?_
    refine l_off (j := 3) rfl rfl (by first | (simp; done) | (simp [undef]; done)) (by decide) ?_
    refine l_off (j := 3) rfl rfl (by first | (simp; done) | (simp [undef]; done)) (by decide) ?_
    refine l_off (j := 3) rfl rfl (by first | (simp; done) | (simp [undef]; done)) (by decide) ?_
    refine l_off (j := 3) rfl rfl (by first | (simp; done) | (simp [undef]; done)) (by decide) ?_
    refine l_q (by decide) (p_pick rfl rfl).q ?_
    refine l_q (by decide) (p_assign rfl).q ?_
    refine l_nil ?_
    refine c_join (()) ?inv ?sub ?perm ?facts
    case sub => exact ⟨rfl, rfl, rfl, rfl, rfl, rfl, rfl, rfl, (by first | rfl | exact congrArg (fun b => some (Value.bool b)) (decide_eq_true (by omega)).symm | exact congrArg (fun b => some (Value.bool b)) (decide_eq_false (by omega)).symm | exact congrArg (fun b => some (Value.bool b)) (decide_eq_decide.2 (by omega))), trivial⟩
    case perm =>
     exact .refl _
    case facts => exact fun _ h => h
    case inv =>
     trivial
  rintro uu hmeet
  show Cont _ _ _ _ [(1, .slice C l.length lc), (2, .pointer (some ⟨b2, 0, none⟩)), (7, .slice A1 st.out.length d1), (8, .int .i64 st.cost), (9, .int .i64 (st.at_ : Int)), (10, .int .i64 (k : Int)), (11, .pointer (some ⟨b11, 0, none⟩)), (12, .bool (decide (st.at_ < X.xs.length))), (13, .bool (decide (0 ≤ op.term ∧ op.term < X.ins.length)))] ([iCells b11 46 (opF op), iSl 3 1 intF A1 d1 st.out, iCells b2 25 [.slice X.A X.xs.length X.c, .slice X.B X.ins.length X.d, .int .i64 X.sw]]) (Sl 2 opF C l :: [Rd X.xs, Sl 1 intF X.B X.ins, Sl 3 colF X.A X.xs])
  refine c_block ?_
  refine c_seq ?_
  refine c_meetn (S := Unit) (fun zs => True) (fun zs => [(1, .slice C l.length lc), (2, .pointer (some ⟨b2, 0, none⟩)), (7, .slice A1 st.out.length d1), (8, .int .i64 st.cost), (9, .int .i64 (st.at_ : Int)), (10, .int .i64 (k : Int)), (11, .pointer (some ⟨b11, 0, none⟩)), (12, .bool (decide (st.at_ < X.xs.length))), (13, .bool (decide (0 ≤ op.term ∧ op.term < X.ins.length))), (40, .bool (decide (op.kind = 1 ∧ st.at_ < X.xs.length ∧ (0 ≤ op.term ∧ op.term < X.ins.length) ∧ 0 ≤ r)))]) (fun zs => [iCells b11 46 (opF op), iSl 3 1 intF A1 d1 st.out, iCells b2 25 [.slice X.A X.xs.length X.c, .slice X.B X.ins.length X.d, .int .i64 X.sw]]) (fun zs => (Sl 2 opF C l :: [Rd X.xs, Sl 1 intF X.B X.ins, Sl 3 colF X.A X.xs])) ?_ ?_
  ·skip
   refine c_draw mixed (by decide +kernel) ?_
   first | refine q_q (by decide) (p_faddr (i := 0) 0 Tryd.underlying46 rfl inf_3 (by decide) rfl rfl).q ?_ | refine q_q (by decide) (p_faddro (i := 0) 0 Tryd.underlying46 rfl inf_3 (by decide) rfl rfl).q ?_
   first | refine q_q (by decide) (r_loado Tryd.underlying3 rfl rfl (by repeat constructor) (by rfl)).q ?_ | refine q_q (by decide) (r_load1 Tryd.underlying3 rfl rfl (by first | exact .fact (by repeat constructor) | exact .own (by repeat constructor) (by decide) (fun _ => rfl) | exact SlIn.reads (by repeat constructor) (by assumption)) (by first | assumption | rfl) (by rfl)).q ?_ | refine q_q (by decide) (r_loadf Tryd.underlying3 rfl rfl (by first | exact .fact (by repeat constructor) | exact .own (by repeat constructor) (by decide) (fun _ => rfl) | exact SlIn.reads (by repeat constructor) (by assumption)) (by assumption) (by rfl)).q ?_
   first | refine q_q (by decide) (p_eql (j := 1) rfl rfl rfl rfl).q ?_ | refine q_q (by decide) (p_eqli rfl rfl).q ?_
   refine q_q (by decide) (p_move rfl).q ?_
   first | refine q_splitd (t := 44) rfl (fun h44 => ?_) (fun h44 => ?_) | refine q_splitb (t := 44) rfl (fun h44 => ?_) (fun h44 => ?_)
   ·skip
    refine q_g (j := 3) rfl rfl (by decide) (p_move rfl).q ?_
    refine q_q (by decide) (p_pick rfl rfl).q ?_
    refine q_q (by decide) (p_move rfl).q ?_
    first | refine q_splitd (t := 47) rfl (fun h47 => ?_) (fun h47 => ?_) | refine q_splitb (t := 47) rfl (fun h47 => ?_) (fun h47 => ?_)
    ·skip
     refine q_g (j := 6) rfl rfl (by decide) (p_move rfl).q ?_
     refine q_q (by decide) (p_pick rfl rfl).q ?_
     refine q_q (by decide) (p_move rfl).q ?_
     first | refine q_splitd (t := 50) rfl (fun h50 => ?_) (fun h50 => ?_) | refine q_splitb (t := 50) rfl (fun h50 => ?_) (fun h50 => ?_)
     ·skip
      have hx := hx0 (by omega)
      have hr := hr0 (by omega) (by omega) (by omega)
      have hrl := at_lt hr
      first | refine q_g (j := 9) rfl rfl (by decide) (p_faddr (i := 0) 0 Tryd.underlying25 rfl inf_22 (by decide) rfl rfl).q ?_ | refine q_g (j := 9) rfl rfl (by decide) (p_faddro (i := 0) 0 Tryd.underlying25 rfl inf_22 (by decide) rfl rfl).q ?_
      first | refine q_g (j := 9) rfl rfl (by decide) (r_loado Tryd.underlying22 rfl rfl (by repeat constructor) (by rfl)).q ?_ | refine q_g (j := 9) rfl rfl (by decide) (r_load1 Tryd.underlying22 rfl rfl (by first | exact .fact (by repeat constructor) | exact .own (by repeat constructor) (by decide) (fun _ => rfl) | exact SlIn.reads (by repeat constructor) (by assumption)) (by first | assumption | rfl) (by rfl)).q ?_ | refine q_g (j := 9) rfl rfl (by decide) (r_loadf Tryd.underlying22 rfl rfl (by first | exact .fact (by repeat constructor) | exact .own (by repeat constructor) (by decide) (fun _ => rfl) | exact SlIn.reads (by repeat constructor) (by assumption)) (by assumption) (by rfl)).q ?_
      refine q_g (j := 9) rfl rfl (by decide) (p_move rfl).q ?_
      first | refine q_g (j := 9) rfl rfl (by decide) (r_index Tryd.underlying22 inf_44 rfl rfl rfl (by first | exact .fact (by repeat constructor) | exact .own (by repeat constructor) (by decide) (fun _ => rfl) | exact SlIn.reads (by repeat constructor) (by assumption)) rfl (by omega)).q ?_ | refine q_g (j := 9) rfl rfl (by decide) (r_index Tryd.underlying22 inf_44 rfl rfl rfl (by first | exact .fact (by repeat constructor) | exact .own (by repeat constructor) (by decide) (fun _ => rfl) | exact SlIn.reads (by repeat constructor) (by assumption)) rfl (by decide)).q ?_ | refine q_g (j := 9) rfl rfl (by decide) (p_indexo Tryd.underlying22 inf_44 rfl rfl rfl (by omega)).q ?_
      first | refine q_g (j := 9) rfl rfl (by decide) (p_faddr (i := 1) 1 Tryd.underlying44 rfl inf_23 (by decide) rfl rfl).q ?_ | refine q_g (j := 9) rfl rfl (by decide) (p_faddro (i := 1) 1 Tryd.underlying44 rfl inf_23 (by decide) rfl rfl).q ?_
      first | refine q_g (j := 9) rfl rfl (by decide) (r_loado Tryd.underlying23 rfl rfl (by repeat constructor) (by rfl)).q ?_ | refine q_g (j := 9) rfl rfl (by decide) (r_load1 Tryd.underlying23 rfl rfl (by first | exact .fact (by repeat constructor) | exact .own (by repeat constructor) (by decide) (fun _ => rfl) | exact SlIn.reads (by repeat constructor) (by assumption)) (by first | assumption | rfl) (by rfl)).q ?_ | refine q_g (j := 9) rfl rfl (by decide) (r_loadf Tryd.underlying23 rfl rfl (by first | exact .fact (by repeat constructor) | exact .own (by repeat constructor) (by decide) (fun _ => rfl) | exact SlIn.reads (by repeat constructor) (by assumption)) (by assumption) (by rfl)).q ?_
      first | refine q_g (j := 9) rfl rfl (by decide) (p_faddr (i := 1) 1 Tryd.underlying46 rfl inf_3 (by decide) rfl rfl).q ?_ | refine q_g (j := 9) rfl rfl (by decide) (p_faddro (i := 1) 1 Tryd.underlying46 rfl inf_3 (by decide) rfl rfl).q ?_
      first | refine q_g (j := 9) rfl rfl (by decide) (((r_loado Tryd.underlying3 rfl rfl (by repeat constructor) (by rfl))).to (u := .int .i64 (op.term.toNat : Int)) (by rw [Int.toNat_of_nonneg (by omega)])).q ?_ | refine q_g (j := 9) rfl rfl (by decide) (((r_load1 Tryd.underlying3 rfl rfl (by first | exact .fact (by repeat constructor) | exact .own (by repeat constructor) (by decide) (fun _ => rfl) | exact SlIn.reads (by repeat constructor) (by assumption)) (by first | assumption | rfl) (by rfl))).to (u := .int .i64 (op.term.toNat : Int)) (by rw [Int.toNat_of_nonneg (by omega)])).q ?_ | refine q_g (j := 9) rfl rfl (by decide) (((r_loadf Tryd.underlying3 rfl rfl (by first | exact .fact (by repeat constructor) | exact .own (by repeat constructor) (by decide) (fun _ => rfl) | exact SlIn.reads (by repeat constructor) (by assumption)) (by assumption) (by rfl))).to (u := .int .i64 (op.term.toNat : Int)) (by rw [Int.toNat_of_nonneg (by omega)])).q ?_
      first | refine q_g (j := 9) rfl rfl (by decide) (r_index Tryd.underlying23 inf_3 rfl rfl rfl (by first | exact .fact (by repeat constructor) | exact .own (by repeat constructor) (by decide) (fun _ => rfl) | exact SlIn.reads (by repeat constructor) (by assumption)) rfl (by omega)).q ?_ | refine q_g (j := 9) rfl rfl (by decide) (r_index Tryd.underlying23 inf_3 rfl rfl rfl (by first | exact .fact (by repeat constructor) | exact .own (by repeat constructor) (by decide) (fun _ => rfl) | exact SlIn.reads (by repeat constructor) (by assumption)) rfl (by decide)).q ?_ | refine q_g (j := 9) rfl rfl (by decide) (p_indexo Tryd.underlying23 inf_3 rfl rfl rfl (by omega)).q ?_
      first | refine q_g (j := 9) rfl rfl (by decide) (r_loado Tryd.underlying3 rfl rfl (by repeat constructor) (by rfl)).q ?_ | refine q_g (j := 9) rfl rfl (by decide) (r_load1 Tryd.underlying3 rfl rfl (by first | exact .fact (by repeat constructor) | exact .own (by repeat constructor) (by decide) (fun _ => rfl) | exact SlIn.reads (by repeat constructor) (by assumption)) (by first | assumption | rfl) (by rfl)).q ?_ | refine q_g (j := 9) rfl rfl (by decide) (r_loadf Tryd.underlying3 rfl rfl (by first | exact .fact (by repeat constructor) | exact .own (by repeat constructor) (by decide) (fun _ => rfl) | exact SlIn.reads (by repeat constructor) (by assumption)) (by assumption) (by rfl)).q ?_
      first | refine q_g (j := 9) rfl rfl (by decide) (p_geq (j := 0) rfl rfl rfl rfl).q ?_ | refine q_g (j := 9) rfl rfl (by decide) (p_geqi rfl rfl).q ?_
      refine q_q (by decide) (p_pick rfl rfl).q ?_
      refine q_q (by decide) (p_assign rfl).q ?_
      refine q_nil ?_
      refine c_join (()) ?inv ?sub ?perm ?facts
      case sub => exact ⟨rfl, rfl, rfl, rfl, rfl, rfl, rfl, rfl, rfl, (by first | rfl | exact congrArg (fun b => some (Value.bool b)) (decide_eq_true (by omega)).symm | exact congrArg (fun b => some (Value.bool b)) (decide_eq_false (by omega)).symm | exact congrArg (fun b => some (Value.bool b)) (decide_eq_decide.2 (by omega))), trivial⟩
      case perm =>
       exact .refl _
      case facts => exact fun _ h => h
      case inv =>
       trivial
     ·skip
      refine q_off (j := 9) rfl rfl (by first | (simp; done) | (simp [undef]; done)) (by decide) ?_
      refine q_off (j := 9) rfl rfl (by first | (simp; done) | (simp [undef]; done)) (by decide) ?_
      refine q_off (j := 9) rfl rfl (by first | (simp; done) | (simp [undef]; done)) (by decide) ?_
      refine q_off (j := 9) rfl rfl (by first | (simp; done) | (simp [undef]; done)) (by decide) ?_
      refine q_off (j := 9) rfl rfl (by first | (simp; done) | (simp [undef]; done)) (by decide) ?_
      refine q_off (j := 9) rfl rfl (by first | (simp; done) | (simp [undef]; done)) (by decide) ?_
      refine q_off (j := 9) rfl rfl (by first | (simp; done) | (simp [undef]; done)) (by decide) ?_
      refine q_off (j := 9) rfl rfl (by first | (simp; done) | (simp [undef]; done)) (by decide) ?_
      refine q_off (j := 9) rfl rfl (by first | (simp; done) | (simp [undef]; done)) (by decide) ?_
      refine q_off (j := 9) rfl rfl (by first | (simp; done) | (simp [undef]; done)) (by decide) ?_
      refine q_off (j := 9) rfl rfl (by first | (simp; done) | (simp [undef]; done)) (by decide) ?_
      refine q_q (by decide) (p_pick rfl rfl).q ?_
      refine q_q (by decide) (p_assign rfl).q ?_
      refine q_nil ?_
      refine c_join (()) ?inv ?sub ?perm ?facts
      case sub => exact ⟨rfl, rfl, rfl, rfl, rfl, rfl, rfl, rfl, rfl, (by first | rfl | exact congrArg (fun b => some (Value.bool b)) (decide_eq_true (by omega)).symm | exact congrArg (fun b => some (Value.bool b)) (decide_eq_false (by omega)).symm | exact congrArg (fun b => some (Value.bool b)) (decide_eq_decide.2 (by omega))), trivial⟩
      case perm =>
       exact .refl _
      case facts => exact fun _ h => h
      case inv =>
       trivial
    ·skip
     refine q_off (j := 6) rfl rfl (by first | (simp; done) | (simp [undef]; done)) (by decide) ?_
     refine q_q (by decide) (p_pick rfl rfl).q ?_
     refine q_q (by decide) (p_move rfl).q ?_
     refine q_off (j := 9) rfl rfl (by first | (simp; done) | (simp [undef]; done)) (by decide) ?_
     refine q_off (j := 9) rfl rfl (by first | (simp; done) | (simp [undef]; done)) (by decide) ?_
     refine q_off (j := 9) rfl rfl (by first | (simp; done) | (simp [undef]; done)) (by decide) ?_
     refine q_off (j := 9) rfl rfl (by first | (simp; done) | (simp [undef]; done)) (by decide) ?_
     refine q_off (j := 9) rfl rfl (by first | (simp; done) | (simp [undef]; done)) (by decide) ?_
     refine q_off (j := 9) rfl rfl (by first | (simp; done) | (simp [undef]; done)) (by decide) ?_
     refine q_off (j := 9) rfl rfl (by first | (simp; done) | (simp [undef]; done)) (by decide) ?_
     refine q_off (j := 9) rfl rfl (by first | (simp; done) | (simp [undef]; done)) (by decide) ?_
     refine q_off (j := 9) rfl rfl (by first | (simp; done) | (simp [undef]; done)) (by decide) ?_
     refine q_off (j := 9) rfl rfl (by first | (simp; done) | (simp [undef]; done)) (by decide) ?_
     refine q_off (j := 9) rfl rfl (by first | (simp; done) | (simp [undef]; done)) (by decide) ?_
     refine q_q (by decide) (p_pick rfl rfl).q ?_
     refine q_q (by decide) (p_assign rfl).q ?_
     refine q_nil ?_
     refine c_join (()) ?inv ?sub ?perm ?facts
     case sub => exact ⟨rfl, rfl, rfl, rfl, rfl, rfl, rfl, rfl, rfl, (by first | rfl | exact congrArg (fun b => some (Value.bool b)) (decide_eq_true (by omega)).symm | exact congrArg (fun b => some (Value.bool b)) (decide_eq_false (by omega)).symm | exact congrArg (fun b => some (Value.bool b)) (decide_eq_decide.2 (by omega))), trivial⟩
     case perm =>
      exact .refl _
     case facts => exact fun _ h => h
     case inv =>
      trivial
   ·skip
    refine q_off (j := 3) rfl rfl (by first | (simp; done) | (simp [undef]; done)) (by decide) ?_
    refine q_q (by decide) (p_pick rfl rfl).q ?_
    refine q_q (by decide) (p_move rfl).q ?_
    refine q_off (j := 6) rfl rfl (by first | (simp; done) | (simp [undef]; done)) (by decide) ?_
    refine q_q (by decide) (p_pick rfl rfl).q ?_
    refine q_q (by decide) (p_move rfl).q ?_
    refine q_off (j := 9) rfl rfl (by first | (simp; done) | (simp [undef]; done)) (by decide) ?_
    refine q_off (j := 9) rfl rfl (by first | (simp; done) | (simp [undef]; done)) (by decide) ?_
    refine q_off (j := 9) rfl rfl (by first | (simp; done) | (simp [undef]; done)) (by decide) ?_
    refine q_off (j := 9) rfl rfl (by first | (simp; done) | (simp [undef]; done)) (by decide) ?_
    refine q_off (j := 9) rfl rfl (by first | (simp; done) | (simp [undef]; done)) (by decide) ?_
    refine q_off (j := 9) rfl rfl (by first | (simp; done) | (simp [undef]; done)) (by decide) ?_
    refine q_off (j := 9) rfl rfl (by first | (simp; done) | (simp [undef]; done)) (by decide) ?_
    refine q_off (j := 9) rfl rfl (by first | (simp; done) | (simp [undef]; done)) (by decide) ?_
    refine q_off (j := 9) rfl rfl (by first | (simp; done) | (simp [undef]; done)) (by decide) ?_
    refine q_off (j := 9) rfl rfl (by first | (simp; done) | (simp [undef]; done)) (by decide) ?_
    refine q_off (j := 9) rfl rfl (by first | (simp; done) | (simp [undef]; done)) (by decide) ?_
    refine q_q (by decide) (p_pick rfl rfl).q ?_
    refine q_q (by decide) (p_assign rfl).q ?_
    refine q_nil ?_
    refine c_join (()) ?inv ?sub ?perm ?facts
    case sub => exact ⟨rfl, rfl, rfl, rfl, rfl, rfl, rfl, rfl, rfl, (by first | rfl | exact congrArg (fun b => some (Value.bool b)) (decide_eq_true (by omega)).symm | exact congrArg (fun b => some (Value.bool b)) (decide_eq_false (by omega)).symm | exact congrArg (fun b => some (Value.bool b)) (decide_eq_decide.2 (by omega))), trivial⟩
    case perm =>
     exact .refl _
    case facts => exact fun _ h => h
    case inv =>
     trivial
  rintro uu hmeet
  show Cont _ _ _ _ [(1, .slice C l.length lc), (2, .pointer (some ⟨b2, 0, none⟩)), (7, .slice A1 st.out.length d1), (8, .int .i64 st.cost), (9, .int .i64 (st.at_ : Int)), (10, .int .i64 (k : Int)), (11, .pointer (some ⟨b11, 0, none⟩)), (12, .bool (decide (st.at_ < X.xs.length))), (13, .bool (decide (0 ≤ op.term ∧ op.term < X.ins.length))), (40, .bool (decide (op.kind = 1 ∧ st.at_ < X.xs.length ∧ (0 ≤ op.term ∧ op.term < X.ins.length) ∧ 0 ≤ r)))] ([iCells b11 46 (opF op), iSl 3 1 intF A1 d1 st.out, iCells b2 25 [.slice X.A X.xs.length X.c, .slice X.B X.ins.length X.d, .int .i64 X.sw]]) (Sl 2 opF C l :: [Rd X.xs, Sl 1 intF X.B X.ins, Sl 3 colF X.A X.xs])
  first | refine c_dec rfl (fun h40 => ?_) (fun h40 => ?_) | refine c_cond rfl (fun h40 => ?_) (fun h40 => ?_)
  ·skip
   have hx := hx0 (by omega)
   have hr := hr0 (by omega) (by omega) (by omega)
   have hrl := at_lt hr
   have hrow := okc_row (okin_cols hO x (List.mem_of_getElem? hx)) (show op.term.toNat < X.ins.length by omega) hr
   have hr6 : r ≤ 60000 := by split at hrow <;> omega
   refine c_seq ?_
   refine c_reg ?_
   refine l_q (by decide) (p_move rfl).q ?_
   first | refine l_q (by decide) (p_faddr (i := 1) 1 Tryd.underlying46 rfl inf_3 (by decide) rfl rfl).q ?_ | refine l_q (by decide) (p_faddro (i := 1) 1 Tryd.underlying46 rfl inf_3 (by decide) rfl rfl).q ?_
   first | refine l_q (by decide) (r_loado Tryd.underlying3 rfl rfl (by repeat constructor) (by rfl)).q ?_ | refine l_q (by decide) (r_load1 Tryd.underlying3 rfl rfl (by first | exact .fact (by repeat constructor) | exact .own (by repeat constructor) (by decide) (fun _ => rfl) | exact SlIn.reads (by repeat constructor) (by assumption)) (by first | assumption | rfl) (by rfl)).q ?_ | refine l_q (by decide) (r_loadf Tryd.underlying3 rfl rfl (by first | exact .fact (by repeat constructor) | exact .own (by repeat constructor) (by decide) (fun _ => rfl) | exact SlIn.reads (by repeat constructor) (by assumption)) (by assumption) (by rfl)).q ?_
   refine l_buildSlice (by decide) Tryd.underlying23 inf_3 (by decide) (by decide) rfl rfl rfl rfl (fun b66 => ?_)
   first | (refine l_append1 (op.term) (by decide) Tryd.underlying23 inf_3 rfl (by decide) rfl rfl rfl rfl rfl rfl (by have := hI.n; have := hI.hk; show st.out.length + 1 ≤ _; omega) (by have := hI.n; have := hI.hk; omega) (fun A67 c67 hA67 => ?_)) | (refine l_perm (.cons _ (front1 _ _ _)) ?_; refine l_append1 (op.term) (by decide) Tryd.underlying23 inf_3 rfl (by decide) rfl rfl rfl rfl rfl rfl (by have := hI.n; have := hI.hk; show st.out.length + 1 ≤ _; omega) (by have := hI.n; have := hI.hk; omega) (fun A67 c67 hA67 => ?_)) | (refine l_perm (.cons _ (front2 _ _ _ _)) ?_; refine l_append1 (op.term) (by decide) Tryd.underlying23 inf_3 rfl (by decide) rfl rfl rfl rfl rfl rfl (by have := hI.n; have := hI.hk; show st.out.length + 1 ≤ _; omega) (by have := hI.n; have := hI.hk; omega) (fun A67 c67 hA67 => ?_))
   refine l_q (by decide) (p_assign rfl).q ?_
   refine l_nil ?_
   refine c_seq ?_
   refine c_draw mixed (by decide +kernel) ?_
   refine q_q (by decide) (p_move rfl).q ?_
   first | refine q_q (by decide) (p_faddr (i := 0) 0 Tryd.underlying25 rfl inf_22 (by decide) rfl rfl).q ?_ | refine q_q (by decide) (p_faddro (i := 0) 0 Tryd.underlying25 rfl inf_22 (by decide) rfl rfl).q ?_
   first | refine q_q (by decide) (r_loado Tryd.underlying22 rfl rfl (by repeat constructor) (by rfl)).q ?_ | refine q_q (by decide) (r_load1 Tryd.underlying22 rfl rfl (by first | exact .fact (by repeat constructor) | exact .own (by repeat constructor) (by decide) (fun _ => rfl) | exact SlIn.reads (by repeat constructor) (by assumption)) (by first | assumption | rfl) (by rfl)).q ?_ | refine q_q (by decide) (r_loadf Tryd.underlying22 rfl rfl (by first | exact .fact (by repeat constructor) | exact .own (by repeat constructor) (by decide) (fun _ => rfl) | exact SlIn.reads (by repeat constructor) (by assumption)) (by assumption) (by rfl)).q ?_
   refine q_q (by decide) (p_move rfl).q ?_
   first | refine q_q (by decide) (r_index Tryd.underlying22 inf_44 rfl rfl rfl (by first | exact .fact (by repeat constructor) | exact .own (by repeat constructor) (by decide) (fun _ => rfl) | exact SlIn.reads (by repeat constructor) (by assumption)) rfl (by omega)).q ?_ | refine q_q (by decide) (r_index Tryd.underlying22 inf_44 rfl rfl rfl (by first | exact .fact (by repeat constructor) | exact .own (by repeat constructor) (by decide) (fun _ => rfl) | exact SlIn.reads (by repeat constructor) (by assumption)) rfl (by decide)).q ?_ | refine q_q (by decide) (p_indexo Tryd.underlying22 inf_44 rfl rfl rfl (by omega)).q ?_
   first | refine q_q (by decide) (p_faddr (i := 1) 1 Tryd.underlying44 rfl inf_23 (by decide) rfl rfl).q ?_ | refine q_q (by decide) (p_faddro (i := 1) 1 Tryd.underlying44 rfl inf_23 (by decide) rfl rfl).q ?_
   first | refine q_q (by decide) (r_loado Tryd.underlying23 rfl rfl (by repeat constructor) (by rfl)).q ?_ | refine q_q (by decide) (r_load1 Tryd.underlying23 rfl rfl (by first | exact .fact (by repeat constructor) | exact .own (by repeat constructor) (by decide) (fun _ => rfl) | exact SlIn.reads (by repeat constructor) (by assumption)) (by first | assumption | rfl) (by rfl)).q ?_ | refine q_q (by decide) (r_loadf Tryd.underlying23 rfl rfl (by first | exact .fact (by repeat constructor) | exact .own (by repeat constructor) (by decide) (fun _ => rfl) | exact SlIn.reads (by repeat constructor) (by assumption)) (by assumption) (by rfl)).q ?_
   first | refine q_q (by decide) (p_faddr (i := 1) 1 Tryd.underlying46 rfl inf_3 (by decide) rfl rfl).q ?_ | refine q_q (by decide) (p_faddro (i := 1) 1 Tryd.underlying46 rfl inf_3 (by decide) rfl rfl).q ?_
   first | refine q_q (by decide) (((r_loado Tryd.underlying3 rfl rfl (by repeat constructor) (by rfl))).to (u := .int .i64 (op.term.toNat : Int)) (by rw [Int.toNat_of_nonneg (by omega)])).q ?_ | refine q_q (by decide) (((r_load1 Tryd.underlying3 rfl rfl (by first | exact .fact (by repeat constructor) | exact .own (by repeat constructor) (by decide) (fun _ => rfl) | exact SlIn.reads (by repeat constructor) (by assumption)) (by first | assumption | rfl) (by rfl))).to (u := .int .i64 (op.term.toNat : Int)) (by rw [Int.toNat_of_nonneg (by omega)])).q ?_ | refine q_q (by decide) (((r_loadf Tryd.underlying3 rfl rfl (by first | exact .fact (by repeat constructor) | exact .own (by repeat constructor) (by decide) (fun _ => rfl) | exact SlIn.reads (by repeat constructor) (by assumption)) (by assumption) (by rfl))).to (u := .int .i64 (op.term.toNat : Int)) (by rw [Int.toNat_of_nonneg (by omega)])).q ?_
   first | refine q_q (by decide) (r_index Tryd.underlying23 inf_3 rfl rfl rfl (by first | exact .fact (by repeat constructor) | exact .own (by repeat constructor) (by decide) (fun _ => rfl) | exact SlIn.reads (by repeat constructor) (by assumption)) rfl (by omega)).q ?_ | refine q_q (by decide) (r_index Tryd.underlying23 inf_3 rfl rfl rfl (by first | exact .fact (by repeat constructor) | exact .own (by repeat constructor) (by decide) (fun _ => rfl) | exact SlIn.reads (by repeat constructor) (by assumption)) rfl (by decide)).q ?_ | refine q_q (by decide) (p_indexo Tryd.underlying23 inf_3 rfl rfl rfl (by omega)).q ?_
   first | refine q_q (by decide) (r_loado Tryd.underlying3 rfl rfl (by repeat constructor) (by rfl)).q ?_ | refine q_q (by decide) (r_load1 Tryd.underlying3 rfl rfl (by first | exact .fact (by repeat constructor) | exact .own (by repeat constructor) (by decide) (fun _ => rfl) | exact SlIn.reads (by repeat constructor) (by assumption)) (by first | assumption | rfl) (by rfl)).q ?_ | refine q_q (by decide) (r_loadf Tryd.underlying3 rfl rfl (by first | exact .fact (by repeat constructor) | exact .own (by repeat constructor) (by decide) (fun _ => rfl) | exact SlIn.reads (by repeat constructor) (by assumption)) (by assumption) (by rfl)).q ?_
   refine q_q (by decide) (q_call call_33 rfl (fun w hs => plus_ok st.cost r (by omega) (by omega) (by omega) (by omega) w)) ?_
   refine q_q (by decide) (p_assign rfl).q ?_
   refine q_nil ?_
   refine c_reg ?_
   refine l_q (by decide) (p_move rfl).q ?_
   first | refine l_q (by decide) (p_add (j := 1) rfl rfl rfl rfl (by show _ ≤ (9223372036854775807 : Nat); omega)).q ?_ | refine l_q (by decide) (p_addi rfl rfl (by show (-9223372036854775808 : Int) ≤ _; omega) (by show _ ≤ ((9223372036854775807 : Nat) : Int); omega)).q ?_
   refine l_q (by decide) (p_assign rfl).q ?_
   refine l_nil ?_
   refine c_reg ?_
   refine l_q (by decide) (p_move rfl).q ?_
   first | refine l_q (by decide) (p_add (j := 1) rfl rfl rfl rfl (by show _ ≤ (9223372036854775807 : Nat); omega)).q ?_ | refine l_q (by decide) (p_addi rfl rfl (by show (-9223372036854775808 : Int) ≤ _; omega) (by show _ ≤ ((9223372036854775807 : Nat) : Int); omega)).q ?_
   refine l_q (by decide) (p_assign rfl).q ?_
   refine l_nil ?_
   first | (refine c_drop (x := iCells b11 _ _) ?_) | (refine c_perm (front1 _ _ _) ?_; refine c_drop (x := iCells b11 _ _) ?_) | (refine c_perm (front2 _ _ _ _) ?_; refine c_drop (x := iCells b11 _ _) ?_) | (refine c_perm (front3 _ _ _ _ _) ?_; refine c_drop (x := iCells b11 _ _) ?_) | (refine c_perm (front4 _ _ _ _ _ _) ?_; refine c_drop (x := iCells b11 _ _) ?_)
   refine c_join ((k + 1), ((⟨st.at_ + 1, st.out ++ [op.term], Ed.plus st.cost r⟩ : Ed.St)), (A67), (c67)) ?_ ?_ ?_ ?_
   ·show (RunI X l (k + 1) ((⟨st.at_ + 1, st.out ++ [op.term], Ed.plus st.cost r⟩ : Ed.St))) ∧ l.length - (k + 1) < l.length - k
    exact ⟨hI.next hO hop (exec_read (by omega) (by omega) hx hr (by omega)), by omega⟩
   · exact ⟨rfl, rfl, rfl, rfl, rfl, rfl, trivial⟩
   ·show List.Perm _ ([iSl 3 1 intF (A67) (c67) ((⟨st.at_ + 1, st.out ++ [op.term], Ed.plus st.cost r⟩ : Ed.St)).out, iCells b2 25 [.slice X.A X.xs.length X.c, .slice X.B X.ins.length X.d, .int .i64 X.sw]])
    exact .refl _
   · exact fun _ h => h
  ·skip
   refine c_seq ?_
   refine c_meetn (S := Unit) (fun zs => True) (fun zs => [(1, .slice C l.length lc), (2, .pointer (some ⟨b2, 0, none⟩)), (7, .slice A1 st.out.length d1), (8, .int .i64 st.cost), (9, .int .i64 (st.at_ : Int)), (10, .int .i64 (k : Int)), (11, .pointer (some ⟨b11, 0, none⟩)), (13, .bool (decide (0 ≤ op.term ∧ op.term < X.ins.length))), (82, .bool (decide (op.kind = 2 ∧ st.at_ < X.xs.length ∧ op.term = 0 ∧ x.o.del < 1099511627776)))]) (fun zs => [iCells b11 46 (opF op), iSl 3 1 intF A1 d1 st.out, iCells b2 25 [.slice X.A X.xs.length X.c, .slice X.B X.ins.length X.d, .int .i64 X.sw]]) (fun zs => (Sl 2 opF C l :: [Rd X.xs, Sl 1 intF X.B X.ins, Sl 3 colF X.A X.xs])) ?_ ?_
   ·skip
    refine c_reg ?_
    first | refine l_q (by decide) (p_faddr (i := 0) 0 Tryd.underlying46 rfl inf_3 (by decide) rfl rfl).q ?_ | refine l_q (by decide) (p_faddro (i := 0) 0 Tryd.underlying46 rfl inf_3 (by decide) rfl rfl).q ?_
    first | refine l_q (by decide) (r_loado Tryd.underlying3 rfl rfl (by repeat constructor) (by rfl)).q ?_ | refine l_q (by decide) (r_load1 Tryd.underlying3 rfl rfl (by first | exact .fact (by repeat constructor) | exact .own (by repeat constructor) (by decide) (fun _ => rfl) | exact SlIn.reads (by repeat constructor) (by assumption)) (by first | assumption | rfl) (by rfl)).q ?_ | refine l_q (by decide) (r_loadf Tryd.underlying3 rfl rfl (by first | exact .fact (by repeat constructor) | exact .own (by repeat constructor) (by decide) (fun _ => rfl) | exact SlIn.reads (by repeat constructor) (by assumption)) (by assumption) (by rfl)).q ?_
    first | refine l_q (by decide) (p_eql (j := 2) rfl rfl rfl rfl).q ?_ | refine l_q (by decide) (p_eqli rfl rfl).q ?_
    refine l_q (by decide) (p_move rfl).q ?_
    first | refine l_splitd (t := 86) rfl (fun h86 => ?_) (fun h86 => ?_) | refine l_splitb (t := 86) rfl (fun h86 => ?_) (fun h86 => ?_)
    ·skip
     refine l_g (j := 3) rfl rfl (by decide) (p_move rfl).q ?_
     refine l_q (by decide) (p_pick rfl rfl).q ?_
     refine l_q (by decide) (p_move rfl).q ?_
     first | refine l_splitd (t := 89) rfl (fun h89 => ?_) (fun h89 => ?_) | refine l_splitb (t := 89) rfl (fun h89 => ?_) (fun h89 => ?_)
     ·skip
      first | refine l_g (j := 6) rfl rfl (by decide) (p_faddr (i := 1) 1 Tryd.underlying46 rfl inf_3 (by decide) rfl rfl).q ?_ | refine l_g (j := 6) rfl rfl (by decide) (p_faddro (i := 1) 1 Tryd.underlying46 rfl inf_3 (by decide) rfl rfl).q ?_
      first | refine l_g (j := 6) rfl rfl (by decide) (r_loado Tryd.underlying3 rfl rfl (by repeat constructor) (by rfl)).q ?_ | refine l_g (j := 6) rfl rfl (by decide) (r_load1 Tryd.underlying3 rfl rfl (by first | exact .fact (by repeat constructor) | exact .own (by repeat constructor) (by decide) (fun _ => rfl) | exact SlIn.reads (by repeat constructor) (by assumption)) (by first | assumption | rfl) (by rfl)).q ?_ | refine l_g (j := 6) rfl rfl (by decide) (r_loadf Tryd.underlying3 rfl rfl (by first | exact .fact (by repeat constructor) | exact .own (by repeat constructor) (by decide) (fun _ => rfl) | exact SlIn.reads (by repeat constructor) (by assumption)) (by assumption) (by rfl)).q ?_
      first | refine l_g (j := 6) rfl rfl (by decide) (p_eql (j := 0) rfl rfl rfl rfl).q ?_ | refine l_g (j := 6) rfl rfl (by decide) (p_eqli rfl rfl).q ?_
      refine l_q (by decide) (p_pick rfl rfl).q ?_
      refine l_q (by decide) (p_move rfl).q ?_
      first | refine l_splitd (t := 94) rfl (fun h94 => ?_) (fun h94 => ?_) | refine l_splitb (t := 94) rfl (fun h94 => ?_) (fun h94 => ?_)
      ·skip
       have hx := hx0 (by omega)
       first | refine l_g (j := 11) rfl rfl (by decide) (p_faddr (i := 0) 0 Tryd.underlying25 rfl inf_22 (by decide) rfl rfl).q ?_ | refine l_g (j := 11) rfl rfl (by decide) (p_faddro (i := 0) 0 Tryd.underlying25 rfl inf_22 (by decide) rfl rfl).q ?_
       first | refine l_g (j := 11) rfl rfl (by decide) (r_loado Tryd.underlying22 rfl rfl (by repeat constructor) (by rfl)).q ?_ | refine l_g (j := 11) rfl rfl (by decide) (r_load1 Tryd.underlying22 rfl rfl (by first | exact .fact (by repeat constructor) | exact .own (by repeat constructor) (by decide) (fun _ => rfl) | exact SlIn.reads (by repeat constructor) (by assumption)) (by first | assumption | rfl) (by rfl)).q ?_ | refine l_g (j := 11) rfl rfl (by decide) (r_loadf Tryd.underlying22 rfl rfl (by first | exact .fact (by repeat constructor) | exact .own (by repeat constructor) (by decide) (fun _ => rfl) | exact SlIn.reads (by repeat constructor) (by assumption)) (by assumption) (by rfl)).q ?_
       refine l_g (j := 11) rfl rfl (by decide) (p_move rfl).q ?_
       first | refine l_g (j := 11) rfl rfl (by decide) (r_index Tryd.underlying22 inf_44 rfl rfl rfl (by first | exact .fact (by repeat constructor) | exact .own (by repeat constructor) (by decide) (fun _ => rfl) | exact SlIn.reads (by repeat constructor) (by assumption)) rfl (by omega)).q ?_ | refine l_g (j := 11) rfl rfl (by decide) (r_index Tryd.underlying22 inf_44 rfl rfl rfl (by first | exact .fact (by repeat constructor) | exact .own (by repeat constructor) (by decide) (fun _ => rfl) | exact SlIn.reads (by repeat constructor) (by assumption)) rfl (by decide)).q ?_ | refine l_g (j := 11) rfl rfl (by decide) (p_indexo Tryd.underlying22 inf_44 rfl rfl rfl (by omega)).q ?_
       first | refine l_g (j := 11) rfl rfl (by decide) (p_faddr (i := 2) 2 Tryd.underlying44 rfl inf_3 (by decide) rfl rfl).q ?_ | refine l_g (j := 11) rfl rfl (by decide) (p_faddro (i := 2) 2 Tryd.underlying44 rfl inf_3 (by decide) rfl rfl).q ?_
       first | refine l_g (j := 11) rfl rfl (by decide) (r_loado Tryd.underlying3 rfl rfl (by repeat constructor) (by rfl)).q ?_ | refine l_g (j := 11) rfl rfl (by decide) (r_load1 Tryd.underlying3 rfl rfl (by first | exact .fact (by repeat constructor) | exact .own (by repeat constructor) (by decide) (fun _ => rfl) | exact SlIn.reads (by repeat constructor) (by assumption)) (by first | assumption | rfl) (by rfl)).q ?_ | refine l_g (j := 11) rfl rfl (by decide) (r_loadf Tryd.underlying3 rfl rfl (by first | exact .fact (by repeat constructor) | exact .own (by repeat constructor) (by decide) (fun _ => rfl) | exact SlIn.reads (by repeat constructor) (by assumption)) (by assumption) (by rfl)).q ?_
       first | refine l_g (j := 11) rfl rfl (by decide) (p_lss (j := 1099511627776) rfl rfl rfl rfl).q ?_ | refine l_g (j := 11) rfl rfl (by decide) (p_lssi rfl rfl).q ?_
       refine l_q (by decide) (p_pick rfl rfl).q ?_
       refine l_q (by decide) (p_assign rfl).q ?_
       refine l_nil ?_
       refine c_join (()) ?inv ?sub ?perm ?facts
       case sub => exact ⟨rfl, rfl, rfl, rfl, rfl, rfl, rfl, rfl, (by first | rfl | exact congrArg (fun b => some (Value.bool b)) (decide_eq_true (by omega)).symm | exact congrArg (fun b => some (Value.bool b)) (decide_eq_false (by omega)).symm | exact congrArg (fun b => some (Value.bool b)) (decide_eq_decide.2 (by omega))), trivial⟩
       case perm =>
        exact .refl _
       case facts => exact fun _ h => h
       case inv =>
        trivial
      ·skip
       refine l_off (j := 11) rfl rfl (by first | (simp; done) | (simp [undef]; done)) (by decide) ?_
       refine l_off (j := 11) rfl rfl (by first | (simp; done) | (simp [undef]; done)) (by decide) ?_
       refine l_off (j := 11) rfl rfl (by first | (simp; done) | (simp [undef]; done)) (by decide) ?_
       refine l_off (j := 11) rfl rfl (by first | (simp; done) | (simp [undef]; done)) (by decide) ?_
       refine l_off (j := 11) rfl rfl (by first | (simp; done) | (simp [undef]; done)) (by decide) ?_
       refine l_off (j := 11) rfl rfl (by first | (simp; done) | (simp [undef]; done)) (by decide) ?_
       refine l_off (j := 11) rfl rfl (by first | (simp; done) | (simp [undef]; done)) (by decide) ?_
       refine l_q (by decide) (p_pick rfl rfl).q ?_
       refine l_q (by decide) (p_assign rfl).q ?_
       refine l_nil ?_
       refine c_join (()) ?inv ?sub ?perm ?facts
       case sub => exact ⟨rfl, rfl, rfl, rfl, rfl, rfl, rfl, rfl, (by first | rfl | exact congrArg (fun b => some (Value.bool b)) (decide_eq_true (by omega)).symm | exact congrArg (fun b => some (Value.bool b)) (decide_eq_false (by omega)).symm | exact congrArg (fun b => some (Value.bool b)) (decide_eq_decide.2 (by omega))), trivial⟩
       case perm =>
        exact .refl _
       case facts => exact fun _ h => h
       case inv =>
        trivial
     ·skip
      refine l_off (j := 6) rfl rfl (by first | (simp; done) | (simp [undef]; done)) (by decide) ?_
      refine l_off (j := 6) rfl rfl (by first | (simp; done) | (simp [undef]; done)) (by decide) ?_
      refine l_off (j := 6) rfl rfl (by first | (simp; done) | (simp [undef]; done)) (by decide) ?_
      refine l_q (by decide) (p_pick rfl rfl).q ?_
      refine l_q (by decide) (p_move rfl).q ?_
      refine l_off (j := 11) rfl rfl (by first | (simp; done) | (simp [undef]; done)) (by decide) ?_
      refine l_off (j := 11) rfl rfl (by first | (simp; done) | (simp [undef]; done)) (by decide) ?_
      refine l_off (j := 11) rfl rfl (by first | (simp; done) | (simp [undef]; done)) (by decide) ?_
      refine l_off (j := 11) rfl rfl (by first | (simp; done) | (simp [undef]; done)) (by decide) ?_
      refine l_off (j := 11) rfl rfl (by first | (simp; done) | (simp [undef]; done)) (by decide) ?_
      refine l_off (j := 11) rfl rfl (by first | (simp; done) | (simp [undef]; done)) (by decide) ?_
      refine l_off (j := 11) rfl rfl (by first | (simp; done) | (simp [undef]; done)) (by decide) ?_
      refine l_q (by decide) (p_pick rfl rfl).q ?_
      refine l_q (by decide) (p_assign rfl).q ?_
      refine l_nil ?_
      refine c_join (()) ?inv ?sub ?perm ?facts
      case sub => exact ⟨rfl, rfl, rfl, rfl, rfl, rfl, rfl, rfl, (by first | rfl | exact congrArg (fun b => some (Value.bool b)) (decide_eq_true (by omega)).symm | exact congrArg (fun b => some (Value.bool b)) (decide_eq_false (by omega)).symm | exact congrArg (fun b => some (Value.bool b)) (decide_eq_decide.2 (by omega))), trivial⟩
      case perm =>
       exact .refl _
      case facts => exact fun _ h => h
      case inv =>
       trivial
    ·skip
     refine l_off (j := 3) rfl rfl (by first | (simp; done) | (simp [undef]; done)) (by decide) ?_
     refine l_q (by decide) (p_pick rfl rfl).q ?_
     refine l_q (by decide) (p_move rfl).q ?_
     refine l_off (j := 6) rfl rfl (by first | (simp; done) | (simp [undef]; done)) (by decide) ?_
     refine l_off (j := 6) rfl rfl (by first | (simp; done) | (simp [undef]; done)) (by decide) ?_
     refine l_off (j := 6) rfl rfl (by first | (simp; done) | (simp [undef]; done)) (by decide) ?_
     refine l_q (by decide) (p_pick rfl rfl).q ?_
     refine l_q (by decide) (p_move rfl).q ?_
     refine l_off (j := 11) rfl rfl (by first | (simp; done) | (simp [undef]; done)) (by decide) ?_
     refine l_off (j := 11) rfl rfl (by first | (simp; done) | (simp [undef]; done)) (by decide) ?_
     refine l_off (j := 11) rfl rfl (by first | (simp; done) | (simp [undef]; done)) (by decide) ?_
     refine l_off (j := 11) rfl rfl (by first | (simp; done) | (simp [undef]; done)) (by decide) ?_
     refine l_off (j := 11) rfl rfl (by first | (simp; done) | (simp [undef]; done)) (by decide) ?_
     refine l_off (j := 11) rfl rfl (by first | (simp; done) | (simp [undef]; done)) (by decide) ?_
     refine l_off (j := 11) rfl rfl (by first | (simp; done) | (simp [undef]; done)) (by decide) ?_
     refine l_q (by decide) (p_pick rfl rfl).q ?_
     refine l_q (by decide) (p_assign rfl).q ?_
     refine l_nil ?_
     refine c_join (()) ?inv ?sub ?perm ?facts
     case sub => exact ⟨rfl, rfl, rfl, rfl, rfl, rfl, rfl, rfl, (by first | rfl | exact congrArg (fun b => some (Value.bool b)) (decide_eq_true (by omega)).symm | exact congrArg (fun b => some (Value.bool b)) (decide_eq_false (by omega)).symm | exact congrArg (fun b => some (Value.bool b)) (decide_eq_decide.2 (by omega))), trivial⟩
     case perm =>
      exact .refl _
     case facts => exact fun _ h => h
     case inv =>
      trivial
   rintro uu hmeet
   show Cont _ _ _ _ [(1, .slice C l.length lc), (2, .pointer (some ⟨b2, 0, none⟩)), (7, .slice A1 st.out.length d1), (8, .int .i64 st.cost), (9, .int .i64 (st.at_ : Int)), (10, .int .i64 (k : Int)), (11, .pointer (some ⟨b11, 0, none⟩)), (13, .bool (decide (0 ≤ op.term ∧ op.term < X.ins.length))), (82, .bool (decide (op.kind = 2 ∧ st.at_ < X.xs.length ∧ op.term = 0 ∧ x.o.del < 1099511627776)))] ([iCells b11 46 (opF op), iSl 3 1 intF A1 d1 st.out, iCells b2 25 [.slice X.A X.xs.length X.c, .slice X.B X.ins.length X.d, .int .i64 X.sw]]) (Sl 2 opF C l :: [Rd X.xs, Sl 1 intF X.B X.ins, Sl 3 colF X.A X.xs])
   first | refine c_dec rfl (fun h82 => ?_) (fun h82 => ?_) | refine c_cond rfl (fun h82 => ?_) (fun h82 => ?_)
   ·skip
    have hx := hx0 (by omega)
    have hoc := okin_cols hO x (List.mem_of_getElem? hx)
    have hd1 := hoc.d1
    have hd2 : x.o.del ≤ 60000 ∨ x.o.del = 1099511627776 := hoc.d2
    refine c_seq ?_
    refine c_reg ?_
    refine l_q (by decide) (p_move rfl).q ?_
    first | refine l_q (by decide) (p_faddr (i := 0) 0 Tryd.underlying25 rfl inf_22 (by decide) rfl rfl).q ?_ | refine l_q (by decide) (p_faddro (i := 0) 0 Tryd.underlying25 rfl inf_22 (by decide) rfl rfl).q ?_
    first | refine l_q (by decide) (r_loado Tryd.underlying22 rfl rfl (by repeat constructor) (by rfl)).q ?_ | refine l_q (by decide) (r_load1 Tryd.underlying22 rfl rfl (by first | exact .fact (by repeat constructor) | exact .own (by repeat constructor) (by decide) (fun _ => rfl) | exact SlIn.reads (by repeat constructor) (by assumption)) (by first | assumption | rfl) (by rfl)).q ?_ | refine l_q (by decide) (r_loadf Tryd.underlying22 rfl rfl (by first | exact .fact (by repeat constructor) | exact .own (by repeat constructor) (by decide) (fun _ => rfl) | exact SlIn.reads (by repeat constructor) (by assumption)) (by assumption) (by rfl)).q ?_
    refine l_q (by decide) (p_move rfl).q ?_
    first | refine l_q (by decide) (r_index Tryd.underlying22 inf_44 rfl rfl rfl (by first | exact .fact (by repeat constructor) | exact .own (by repeat constructor) (by decide) (fun _ => rfl) | exact SlIn.reads (by repeat constructor) (by assumption)) rfl (by omega)).q ?_ | refine l_q (by decide) (r_index Tryd.underlying22 inf_44 rfl rfl rfl (by first | exact .fact (by repeat constructor) | exact .own (by repeat constructor) (by decide) (fun _ => rfl) | exact SlIn.reads (by repeat constructor) (by assumption)) rfl (by decide)).q ?_ | refine l_q (by decide) (p_indexo Tryd.underlying22 inf_44 rfl rfl rfl (by omega)).q ?_
    first | refine l_q (by decide) (p_faddr (i := 2) 2 Tryd.underlying44 rfl inf_3 (by decide) rfl rfl).q ?_ | refine l_q (by decide) (p_faddro (i := 2) 2 Tryd.underlying44 rfl inf_3 (by decide) rfl rfl).q ?_
    first | refine l_q (by decide) (r_loado Tryd.underlying3 rfl rfl (by repeat constructor) (by rfl)).q ?_ | refine l_q (by decide) (r_load1 Tryd.underlying3 rfl rfl (by first | exact .fact (by repeat constructor) | exact .own (by repeat constructor) (by decide) (fun _ => rfl) | exact SlIn.reads (by repeat constructor) (by assumption)) (by first | assumption | rfl) (by rfl)).q ?_ | refine l_q (by decide) (r_loadf Tryd.underlying3 rfl rfl (by first | exact .fact (by repeat constructor) | exact .own (by repeat constructor) (by decide) (fun _ => rfl) | exact SlIn.reads (by repeat constructor) (by assumption)) (by assumption) (by rfl)).q ?_
    refine l_q (by decide) (q_call call_33 rfl (fun w hs => plus_ok st.cost x.o.del (by omega) (by omega) (by omega) (by omega) w)) ?_
    refine l_q (by decide) (p_assign rfl).q ?_
    refine l_nil ?_
    refine c_reg ?_
    refine l_q (by decide) (p_move rfl).q ?_
    first | refine l_q (by decide) (p_add (j := 1) rfl rfl rfl rfl (by show _ ≤ (9223372036854775807 : Nat); omega)).q ?_ | refine l_q (by decide) (p_addi rfl rfl (by show (-9223372036854775808 : Int) ≤ _; omega) (by show _ ≤ ((9223372036854775807 : Nat) : Int); omega)).q ?_
    refine l_q (by decide) (p_assign rfl).q ?_
    refine l_nil ?_
    refine c_reg ?_
    refine l_q (by decide) (p_move rfl).q ?_
    first | refine l_q (by decide) (p_add (j := 1) rfl rfl rfl rfl (by show _ ≤ (9223372036854775807 : Nat); omega)).q ?_ | refine l_q (by decide) (p_addi rfl rfl (by show (-9223372036854775808 : Int) ≤ _; omega) (by show _ ≤ ((9223372036854775807 : Nat) : Int); omega)).q ?_
    refine l_q (by decide) (p_assign rfl).q ?_
    refine l_nil ?_
    first | (refine c_drop (x := iCells b11 _ _) ?_) | (refine c_perm (front1 _ _ _) ?_; refine c_drop (x := iCells b11 _ _) ?_) | (refine c_perm (front2 _ _ _ _) ?_; refine c_drop (x := iCells b11 _ _) ?_) | (refine c_perm (front3 _ _ _ _ _) ?_; refine c_drop (x := iCells b11 _ _) ?_) | (refine c_perm (front4 _ _ _ _ _ _) ?_; refine c_drop (x := iCells b11 _ _) ?_)
    refine c_join ((k + 1), ((⟨st.at_ + 1, st.out, Ed.plus st.cost x.o.del⟩ : Ed.St)), (A1), (d1)) ?_ ?_ ?_ ?_
    ·show (RunI X l (k + 1) ((⟨st.at_ + 1, st.out, Ed.plus st.cost x.o.del⟩ : Ed.St))) ∧ l.length - (k + 1) < l.length - k
     exact ⟨hI.next hO hop (exec_del (by omega) (by omega) hx (by omega)), by omega⟩
    · exact ⟨rfl, rfl, rfl, rfl, rfl, rfl, trivial⟩
    ·show List.Perm _ ([iSl 3 1 intF (A1) (d1) ((⟨st.at_ + 1, st.out, Ed.plus st.cost x.o.del⟩ : Ed.St)).out, iCells b2 25 [.slice X.A X.xs.length X.c, .slice X.B X.ins.length X.d, .int .i64 X.sw]])
     exact .refl _
    · exact fun _ h => h
   ·skip
    refine c_seq ?_
    refine c_meetn (S := Unit) (fun zs => True) (fun zs => [(1, .slice C l.length lc), (2, .pointer (some ⟨b2, 0, none⟩)), (7, .slice A1 st.out.length d1), (8, .int .i64 st.cost), (9, .int .i64 (st.at_ : Int)), (10, .int .i64 (k : Int)), (11, .pointer (some ⟨b11, 0, none⟩)), (113, .bool (decide (op.kind = 3 ∧ 0 ≤ op.term ∧ op.term < X.ins.length)))]) (fun zs => [iCells b11 46 (opF op), iSl 3 1 intF A1 d1 st.out, iCells b2 25 [.slice X.A X.xs.length X.c, .slice X.B X.ins.length X.d, .int .i64 X.sw]]) (fun zs => (Sl 2 opF C l :: [Rd X.xs, Sl 1 intF X.B X.ins, Sl 3 colF X.A X.xs])) ?_ ?_
    ·skip
     refine c_reg ?_
     first | refine l_q (by decide) (p_faddr (i := 0) 0 Tryd.underlying46 rfl inf_3 (by decide) rfl rfl).q ?_ | refine l_q (by decide) (p_faddro (i := 0) 0 Tryd.underlying46 rfl inf_3 (by decide) rfl rfl).q ?_
     first | refine l_q (by decide) (r_loado Tryd.underlying3 rfl rfl (by repeat constructor) (by rfl)).q ?_ | refine l_q (by decide) (r_load1 Tryd.underlying3 rfl rfl (by first | exact .fact (by repeat constructor) | exact .own (by repeat constructor) (by decide) (fun _ => rfl) | exact SlIn.reads (by repeat constructor) (by assumption)) (by first | assumption | rfl) (by rfl)).q ?_ | refine l_q (by decide) (r_loadf Tryd.underlying3 rfl rfl (by first | exact .fact (by repeat constructor) | exact .own (by repeat constructor) (by decide) (fun _ => rfl) | exact SlIn.reads (by repeat constructor) (by assumption)) (by assumption) (by rfl)).q ?_
     first | refine l_q (by decide) (p_eql (j := 3) rfl rfl rfl rfl).q ?_ | refine l_q (by decide) (p_eqli rfl rfl).q ?_
     refine l_q (by decide) (p_move rfl).q ?_
     first | refine l_splitd (t := 117) rfl (fun h117 => ?_) (fun h117 => ?_) | refine l_splitb (t := 117) rfl (fun h117 => ?_) (fun h117 => ?_)
     ·skip
      refine l_g (j := 3) rfl rfl (by decide) (p_move rfl).q ?_
      refine l_q (by decide) (p_pick rfl rfl).q ?_
      refine l_q (by decide) (p_assign rfl).q ?_
      refine l_nil ?_
      refine c_join (()) ?inv ?sub ?perm ?facts
      case sub => exact ⟨rfl, rfl, rfl, rfl, rfl, rfl, rfl, (by first | rfl | exact congrArg (fun b => some (Value.bool b)) (decide_eq_true (by omega)).symm | exact congrArg (fun b => some (Value.bool b)) (decide_eq_false (by omega)).symm | exact congrArg (fun b => some (Value.bool b)) (decide_eq_decide.2 (by omega))), trivial⟩
      case perm =>
       exact .refl _
      case facts => exact fun _ h => h
      case inv =>
       trivial
     ·skip
      refine l_off (j := 3) rfl rfl (by first | (simp; done) | (simp [undef]; done)) (by decide) ?_
      refine l_q (by decide) (p_pick rfl rfl).q ?_
      refine l_q (by decide) (p_assign rfl).q ?_
      refine l_nil ?_
      refine c_join (()) ?inv ?sub ?perm ?facts
      case sub => exact ⟨rfl, rfl, rfl, rfl, rfl, rfl, rfl, (by first | rfl | exact congrArg (fun b => some (Value.bool b)) (decide_eq_true (by omega)).symm | exact congrArg (fun b => some (Value.bool b)) (decide_eq_false (by omega)).symm | exact congrArg (fun b => some (Value.bool b)) (decide_eq_decide.2 (by omega))), trivial⟩
      case perm =>
       exact .refl _
      case facts => exact fun _ h => h
      case inv =>
       trivial
    rintro uu hmeet
    show Cont _ _ _ _ [(1, .slice C l.length lc), (2, .pointer (some ⟨b2, 0, none⟩)), (7, .slice A1 st.out.length d1), (8, .int .i64 st.cost), (9, .int .i64 (st.at_ : Int)), (10, .int .i64 (k : Int)), (11, .pointer (some ⟨b11, 0, none⟩)), (113, .bool (decide (op.kind = 3 ∧ 0 ≤ op.term ∧ op.term < X.ins.length)))] ([iCells b11 46 (opF op), iSl 3 1 intF A1 d1 st.out, iCells b2 25 [.slice X.A X.xs.length X.c, .slice X.B X.ins.length X.d, .int .i64 X.sw]]) (Sl 2 opF C l :: [Rd X.xs, Sl 1 intF X.B X.ins, Sl 3 colF X.A X.xs])
    first | refine c_dec rfl (fun h113 => ?_) (fun h113 => ?_) | refine c_cond rfl (fun h113 => ?_) (fun h113 => ?_)
    ·skip
     have hq := hq0 (by omega) (by omega)
     have hql := at_lt hq
     have hq1 := hO.ins q (List.mem_of_getElem? hq)
     refine c_seq ?_
     refine c_reg ?_
     refine l_q (by decide) (p_move rfl).q ?_
     first | refine l_q (by decide) (p_faddr (i := 1) 1 Tryd.underlying46 rfl inf_3 (by decide) rfl rfl).q ?_ | refine l_q (by decide) (p_faddro (i := 1) 1 Tryd.underlying46 rfl inf_3 (by decide) rfl rfl).q ?_
     first | refine l_q (by decide) (r_loado Tryd.underlying3 rfl rfl (by repeat constructor) (by rfl)).q ?_ | refine l_q (by decide) (r_load1 Tryd.underlying3 rfl rfl (by first | exact .fact (by repeat constructor) | exact .own (by repeat constructor) (by decide) (fun _ => rfl) | exact SlIn.reads (by repeat constructor) (by assumption)) (by first | assumption | rfl) (by rfl)).q ?_ | refine l_q (by decide) (r_loadf Tryd.underlying3 rfl rfl (by first | exact .fact (by repeat constructor) | exact .own (by repeat constructor) (by decide) (fun _ => rfl) | exact SlIn.reads (by repeat constructor) (by assumption)) (by assumption) (by rfl)).q ?_
     refine l_buildSlice (by decide) Tryd.underlying23 inf_3 (by decide) (by decide) rfl rfl rfl rfl (fun b123 => ?_)
     first | (refine l_append1 (op.term) (by decide) Tryd.underlying23 inf_3 rfl (by decide) rfl rfl rfl rfl rfl rfl (by have := hI.n; have := hI.hk; show st.out.length + 1 ≤ _; omega) (by have := hI.n; have := hI.hk; omega) (fun A124 c124 hA124 => ?_)) | (refine l_perm (.cons _ (front1 _ _ _)) ?_; refine l_append1 (op.term) (by decide) Tryd.underlying23 inf_3 rfl (by decide) rfl rfl rfl rfl rfl rfl (by have := hI.n; have := hI.hk; show st.out.length + 1 ≤ _; omega) (by have := hI.n; have := hI.hk; omega) (fun A124 c124 hA124 => ?_)) | (refine l_perm (.cons _ (front2 _ _ _ _)) ?_; refine l_append1 (op.term) (by decide) Tryd.underlying23 inf_3 rfl (by decide) rfl rfl rfl rfl rfl rfl (by have := hI.n; have := hI.hk; show st.out.length + 1 ≤ _; omega) (by have := hI.n; have := hI.hk; omega) (fun A124 c124 hA124 => ?_))
     refine l_q (by decide) (p_assign rfl).q ?_
     refine l_nil ?_
     refine c_reg ?_
     refine l_q (by decide) (p_move rfl).q ?_
     first | refine l_q (by decide) (p_faddr (i := 1) 1 Tryd.underlying25 rfl inf_23 (by decide) rfl rfl).q ?_ | refine l_q (by decide) (p_faddro (i := 1) 1 Tryd.underlying25 rfl inf_23 (by decide) rfl rfl).q ?_
     first | refine l_q (by decide) (r_loado Tryd.underlying23 rfl rfl (by repeat constructor) (by rfl)).q ?_ | refine l_q (by decide) (r_load1 Tryd.underlying23 rfl rfl (by first | exact .fact (by repeat constructor) | exact .own (by repeat constructor) (by decide) (fun _ => rfl) | exact SlIn.reads (by repeat constructor) (by assumption)) (by first | assumption | rfl) (by rfl)).q ?_ | refine l_q (by decide) (r_loadf Tryd.underlying23 rfl rfl (by first | exact .fact (by repeat constructor) | exact .own (by repeat constructor) (by decide) (fun _ => rfl) | exact SlIn.reads (by repeat constructor) (by assumption)) (by assumption) (by rfl)).q ?_
     first | refine l_q (by decide) (p_faddr (i := 1) 1 Tryd.underlying46 rfl inf_3 (by decide) rfl rfl).q ?_ | refine l_q (by decide) (p_faddro (i := 1) 1 Tryd.underlying46 rfl inf_3 (by decide) rfl rfl).q ?_
     first | refine l_q (by decide) (((r_loado Tryd.underlying3 rfl rfl (by repeat constructor) (by rfl))).to (u := .int .i64 (op.term.toNat : Int)) (by rw [Int.toNat_of_nonneg (by omega)])).q ?_ | refine l_q (by decide) (((r_load1 Tryd.underlying3 rfl rfl (by first | exact .fact (by repeat constructor) | exact .own (by repeat constructor) (by decide) (fun _ => rfl) | exact SlIn.reads (by repeat constructor) (by assumption)) (by first | assumption | rfl) (by rfl))).to (u := .int .i64 (op.term.toNat : Int)) (by rw [Int.toNat_of_nonneg (by omega)])).q ?_ | refine l_q (by decide) (((r_loadf Tryd.underlying3 rfl rfl (by first | exact .fact (by repeat constructor) | exact .own (by repeat constructor) (by decide) (fun _ => rfl) | exact SlIn.reads (by repeat constructor) (by assumption)) (by assumption) (by rfl))).to (u := .int .i64 (op.term.toNat : Int)) (by rw [Int.toNat_of_nonneg (by omega)])).q ?_
     first | refine l_q (by decide) (r_index Tryd.underlying23 inf_3 rfl rfl rfl (by first | exact .fact (by repeat constructor) | exact .own (by repeat constructor) (by decide) (fun _ => rfl) | exact SlIn.reads (by repeat constructor) (by assumption)) rfl (by omega)).q ?_ | refine l_q (by decide) (r_index Tryd.underlying23 inf_3 rfl rfl rfl (by first | exact .fact (by repeat constructor) | exact .own (by repeat constructor) (by decide) (fun _ => rfl) | exact SlIn.reads (by repeat constructor) (by assumption)) rfl (by decide)).q ?_ | refine l_q (by decide) (p_indexo Tryd.underlying23 inf_3 rfl rfl rfl (by omega)).q ?_
     first | refine l_q (by decide) (r_loado Tryd.underlying3 rfl rfl (by repeat constructor) (by rfl)).q ?_ | refine l_q (by decide) (r_load1 Tryd.underlying3 rfl rfl (by first | exact .fact (by repeat constructor) | exact .own (by repeat constructor) (by decide) (fun _ => rfl) | exact SlIn.reads (by repeat constructor) (by assumption)) (by first | assumption | rfl) (by rfl)).q ?_ | refine l_q (by decide) (r_loadf Tryd.underlying3 rfl rfl (by first | exact .fact (by repeat constructor) | exact .own (by repeat constructor) (by decide) (fun _ => rfl) | exact SlIn.reads (by repeat constructor) (by assumption)) (by assumption) (by rfl)).q ?_
     refine l_q (by decide) (q_call call_33 rfl (fun w hs => plus_ok st.cost q (by omega) (by omega) (by omega) (by omega) w)) ?_
     refine l_q (by decide) (p_assign rfl).q ?_
     refine l_nil ?_
     refine c_reg ?_
     refine l_q (by decide) (p_move rfl).q ?_
     first | refine l_q (by decide) (p_add (j := 1) rfl rfl rfl rfl (by show _ ≤ (9223372036854775807 : Nat); omega)).q ?_ | refine l_q (by decide) (p_addi rfl rfl (by show (-9223372036854775808 : Int) ≤ _; omega) (by show _ ≤ ((9223372036854775807 : Nat) : Int); omega)).q ?_
     refine l_q (by decide) (p_assign rfl).q ?_
     refine l_nil ?_
     first | (refine c_drop (x := iCells b11 _ _) ?_) | (refine c_perm (front1 _ _ _) ?_; refine c_drop (x := iCells b11 _ _) ?_) | (refine c_perm (front2 _ _ _ _) ?_; refine c_drop (x := iCells b11 _ _) ?_) | (refine c_perm (front3 _ _ _ _ _) ?_; refine c_drop (x := iCells b11 _ _) ?_) | (refine c_perm (front4 _ _ _ _ _ _) ?_; refine c_drop (x := iCells b11 _ _) ?_)
     refine c_join ((k + 1), ((⟨st.at_, st.out ++ [op.term], Ed.plus st.cost q⟩ : Ed.St)), (A124), (c124)) ?_ ?_ ?_ ?_
     ·show (RunI X l (k + 1) ((⟨st.at_, st.out ++ [op.term], Ed.plus st.cost q⟩ : Ed.St))) ∧ l.length - (k + 1) < l.length - k
      exact ⟨hI.next hO hop (exec_ins (by omega) (by omega) hq), by omega⟩
     · exact ⟨rfl, rfl, rfl, rfl, rfl, rfl, trivial⟩
     ·show List.Perm _ ([iSl 3 1 intF (A124) (c124) ((⟨st.at_, st.out ++ [op.term], Ed.plus st.cost q⟩ : Ed.St)).out, iCells b2 25 [.slice X.A X.xs.length X.c, .slice X.B X.ins.length X.d, .int .i64 X.sw]])
      exact .refl _
     · exact fun _ h => h
    ·skip
     refine c_seq ?_
     refine c_meetn (S := Unit) (fun zs => True) (fun zs => [(1, .slice C l.length lc), (2, .pointer (some ⟨b2, 0, none⟩)), (7, .slice A1 st.out.length d1), (8, .int .i64 st.cost), (9, .int .i64 (st.at_ : Int)), (10, .int .i64 (k : Int)), (133, .bool (dec (op.kind = 4 ∧ op.term = 0 ∧ (Ed.swp X.pl st.at_).isSome = true)))]) (fun zs => [iCells b11 46 (opF op), iSl 3 1 intF A1 d1 st.out, iCells b2 25 [.slice X.A X.xs.length X.c, .slice X.B X.ins.length X.d, .int .i64 X.sw]]) (fun zs => (Sl 2 opF C l :: [Rd X.xs, Sl 1 intF X.B X.ins, Sl 3 colF X.A X.xs])) ?_ ?_
     ·skip
      refine c_reg ?_
      first | refine l_q (by decide) (p_faddr (i := 0) 0 Tryd.underlying46 rfl inf_3 (by decide) rfl rfl).q ?_ | refine l_q (by decide) (p_faddro (i := 0) 0 Tryd.underlying46 rfl inf_3 (by decide) rfl rfl).q ?_
      first | refine l_q (by decide) (r_loado Tryd.underlying3 rfl rfl (by repeat constructor) (by rfl)).q ?_ | refine l_q (by decide) (r_load1 Tryd.underlying3 rfl rfl (by first | exact .fact (by repeat constructor) | exact .own (by repeat constructor) (by decide) (fun _ => rfl) | exact SlIn.reads (by repeat constructor) (by assumption)) (by first | assumption | rfl) (by rfl)).q ?_ | refine l_q (by decide) (r_loadf Tryd.underlying3 rfl rfl (by first | exact .fact (by repeat constructor) | exact .own (by repeat constructor) (by decide) (fun _ => rfl) | exact SlIn.reads (by repeat constructor) (by assumption)) (by assumption) (by rfl)).q ?_
      first | refine l_q (by decide) (p_eql (j := 4) rfl rfl rfl rfl).q ?_ | refine l_q (by decide) (p_eqli rfl rfl).q ?_
      refine l_q (by decide) (p_move rfl).q ?_
      first | refine l_splitd (t := 137) rfl (fun h137 => ?_) (fun h137 => ?_) | refine l_splitb (t := 137) rfl (fun h137 => ?_) (fun h137 => ?_)
      ·skip
       first | refine l_g (j := 3) rfl rfl (by decide) (p_faddr (i := 1) 1 Tryd.underlying46 rfl inf_3 (by decide) rfl rfl).q ?_ | refine l_g (j := 3) rfl rfl (by decide) (p_faddro (i := 1) 1 Tryd.underlying46 rfl inf_3 (by decide) rfl rfl).q ?_
       first | refine l_g (j := 3) rfl rfl (by decide) (r_loado Tryd.underlying3 rfl rfl (by repeat constructor) (by rfl)).q ?_ | refine l_g (j := 3) rfl rfl (by decide) (r_load1 Tryd.underlying3 rfl rfl (by first | exact .fact (by repeat constructor) | exact .own (by repeat constructor) (by decide) (fun _ => rfl) | exact SlIn.reads (by repeat constructor) (by assumption)) (by first | assumption | rfl) (by rfl)).q ?_ | refine l_g (j := 3) rfl rfl (by decide) (r_loadf Tryd.underlying3 rfl rfl (by first | exact .fact (by repeat constructor) | exact .own (by repeat constructor) (by decide) (fun _ => rfl) | exact SlIn.reads (by repeat constructor) (by assumption)) (by assumption) (by rfl)).q ?_
       first | refine l_g (j := 3) rfl rfl (by decide) (p_eql (j := 0) rfl rfl rfl rfl).q ?_ | refine l_g (j := 3) rfl rfl (by decide) (p_eqli rfl rfl).q ?_
       refine l_q (by decide) (p_pick rfl rfl).q ?_
       refine l_q (by decide) (p_move rfl).q ?_
       first | refine l_splitd (t := 142) rfl (fun h142 => ?_) (fun h142 => ?_) | refine l_splitb (t := 142) rfl (fun h142 => ?_) (fun h142 => ?_)
       ·skip
        first | refine l_g (j := 8) rfl rfl (by decide) (r_loada Tryd.underlying25 rfl inf_25 rfl (by first | exact .fact (by repeat constructor) | exact .own (by repeat constructor) (by decide) (fun _ => rfl) | exact SlIn.reads (by repeat constructor) (by assumption)) (by assumption)).q ?_ | refine l_g (j := 8) rfl rfl (by decide) (r_loadow Tryd.underlying25 rfl inf_25 rfl (by repeat constructor) (by rfl)).q ?_ | refine l_g (j := 8) rfl rfl (by decide) (r_loadoa Tryd.underlying25 rfl inf_25 rfl (by repeat constructor) (by rfl) (fun j u h => h)).q ?_
        refine l_g (j := 8) rfl rfl (by decide) (p_move rfl).q ?_
        refine l_g (j := 8) rfl rfl (by decide) (q_call call_34 rfl (fun w hs => swap_ok X hX w (X.of hs (by repeat constructor) (by repeat constructor) (by repeat constructor)) st.at_ (by omega))) ?_
        refine l_q (by decide) (p_pick rfl rfl).q ?_
        refine l_q (by decide) (p_assign rfl).q ?_
        refine l_nil ?_
        refine c_join (()) ?inv ?sub ?perm ?facts
        case sub => exact ⟨rfl, rfl, rfl, rfl, rfl, rfl, (by cases hsw : Ed.swp X.pl st.at_ with | none => rw [dec_false (fun h => by cases h.2.2)]; rfl | some p => rw [dec_true ⟨by omega, by omega, rfl⟩]; rfl), trivial⟩
        case perm =>
         exact .refl _
        case facts => exact fun _ h => h
        case inv =>
         trivial
       ·skip
        refine l_off (j := 8) rfl rfl (by first | (simp; done) | (simp [undef]; done)) (by decide) ?_
        refine l_off (j := 8) rfl rfl (by first | (simp; done) | (simp [undef]; done)) (by decide) ?_
        refine l_off (j := 8) rfl rfl (by first | (simp; done) | (simp [undef]; done)) (by decide) ?_
        refine l_q (by decide) (p_pick rfl rfl).q ?_
        refine l_q (by decide) (p_assign rfl).q ?_
        refine l_nil ?_
        refine c_join (()) ?inv ?sub ?perm ?facts
        case sub => exact ⟨rfl, rfl, rfl, rfl, rfl, rfl, (decn fun h => by omega), trivial⟩
        case perm =>
         exact .refl _
        case facts => exact fun _ h => h
        case inv =>
         trivial
      ·skip
       refine l_off (j := 3) rfl rfl (by first | (simp; done) | (simp [undef]; done)) (by decide) ?_
       refine l_off (j := 3) rfl rfl (by first | (simp; done) | (simp [undef]; done)) (by decide) ?_
       refine l_off (j := 3) rfl rfl (by first | (simp; done) | (simp [undef]; done)) (by decide) ?_
       refine l_q (by decide) (p_pick rfl rfl).q ?_
       refine l_q (by decide) (p_move rfl).q ?_
       refine l_off (j := 8) rfl rfl (by first | (simp; done) | (simp [undef]; done)) (by decide) ?_
       refine l_off (j := 8) rfl rfl (by first | (simp; done) | (simp [undef]; done)) (by decide) ?_
       refine l_off (j := 8) rfl rfl (by first | (simp; done) | (simp [undef]; done)) (by decide) ?_
       refine l_q (by decide) (p_pick rfl rfl).q ?_
       refine l_q (by decide) (p_assign rfl).q ?_
       refine l_nil ?_
       refine c_join (()) ?inv ?sub ?perm ?facts
       case sub => exact ⟨rfl, rfl, rfl, rfl, rfl, rfl, (decn fun h => by omega), trivial⟩
       case perm =>
        exact .refl _
       case facts => exact fun _ h => h
       case inv =>
        trivial
     rintro uu hmeet
     show Cont _ _ _ _ [(1, .slice C l.length lc), (2, .pointer (some ⟨b2, 0, none⟩)), (7, .slice A1 st.out.length d1), (8, .int .i64 st.cost), (9, .int .i64 (st.at_ : Int)), (10, .int .i64 (k : Int)), (133, .bool (dec (op.kind = 4 ∧ op.term = 0 ∧ (Ed.swp X.pl st.at_).isSome = true)))] ([iCells b11 46 (opF op), iSl 3 1 intF A1 d1 st.out, iCells b2 25 [.slice X.A X.xs.length X.c, .slice X.B X.ins.length X.d, .int .i64 X.sw]]) (Sl 2 opF C l :: [Rd X.xs, Sl 1 intF X.B X.ins, Sl 3 colF X.A X.xs])
     first | refine c_dec rfl (fun h133 => ?_) (fun h133 => ?_) | refine c_cond rfl (fun h133 => ?_) (fun h133 => ?_)
     ·skip
      obtain ⟨hk4, ht4, hs4⟩ := of_dec h133
      obtain ⟨x, x2, hx, hx2, hsw⟩ : ∃ x x2, X.xs[st.at_]? = some x ∧ X.xs[st.at_ + 1]? = some x2 ∧ Ed.swp X.pl st.at_ = some (x.o.kind, x2.o.kind) := by
        cases hsw : Ed.swp X.pl st.at_ with
        | none => rw [hsw] at hs4; cases hs4
        | some p => obtain ⟨a, b⟩ := p; obtain ⟨z, z2, h1, h2, rfl, rfl⟩ := swp_at hsw; exact ⟨z, z2, h1, h2, rfl⟩
      have hxl1 := at_lt hx
      have hxl2 := at_lt hx2
      refine c_seq ?_
      refine m_draw [15] mixed ?_
      refine m_takep 0 rfl (by kernel_rfl) (by decide) (p_move rfl) ?_
      first | refine m_takep 1 rfl (by kernel_rfl) (by decide) (p_faddr (i := 0) 0 Tryd.underlying25 rfl inf_22 (by decide) rfl rfl) ?_ | refine m_takep 1 rfl (by kernel_rfl) (by decide) (p_faddro (i := 0) 0 Tryd.underlying25 rfl inf_22 (by decide) rfl rfl) ?_
      first | refine m_take 2 rfl (by kernel_rfl) (by decide) (by first | exact (List.Perm.refl _ : List.Perm _ ([] ++ _)) | exact (List.Perm.refl _ : List.Perm _ ([_] ++ _)) | exact (List.Perm.refl _ : List.Perm _ ([_, _] ++ _)) | exact (List.Perm.refl _ : List.Perm _ ([_, _, _] ++ _)) | exact (List.Perm.refl _ : List.Perm _ ([_, _, _, _] ++ _)) | exact (List.Perm.refl _ : List.Perm _ ([_, _, _, _, _] ++ _))) (by first | exact fun _ h => h | exact fun _ h => List.mem_cons_of_mem _ h | exact fun _ h => List.mem_cons_of_mem _ (List.mem_cons_of_mem _ h)) (r_loado Tryd.underlying22 rfl rfl (by repeat constructor) (by rfl)).r ?_ | refine m_take 2 rfl (by kernel_rfl) (by decide) (by first | exact (List.Perm.refl _ : List.Perm _ ([] ++ _)) | exact (List.Perm.refl _ : List.Perm _ ([_] ++ _)) | exact (List.Perm.refl _ : List.Perm _ ([_, _] ++ _)) | exact (List.Perm.refl _ : List.Perm _ ([_, _, _] ++ _)) | exact (List.Perm.refl _ : List.Perm _ ([_, _, _, _] ++ _)) | exact (List.Perm.refl _ : List.Perm _ ([_, _, _, _, _] ++ _))) (by first | exact fun _ h => h | exact fun _ h => List.mem_cons_of_mem _ h | exact fun _ h => List.mem_cons_of_mem _ (List.mem_cons_of_mem _ h)) (r_load1 Tryd.underlying22 rfl rfl (by first | exact .fact (by repeat constructor) | exact .own (by repeat constructor) (by decide) (fun _ => rfl) | exact SlIn.reads (by repeat constructor) (by assumption)) (by first | assumption | rfl) (by rfl)).r ?_ | refine m_take 2 rfl (by kernel_rfl) (by decide) (by first | exact (List.Perm.refl _ : List.Perm _ ([] ++ _)) | exact (List.Perm.refl _ : List.Perm _ ([_] ++ _)) | exact (List.Perm.refl _ : List.Perm _ ([_, _] ++ _)) | exact (List.Perm.refl _ : List.Perm _ ([_, _, _] ++ _)) | exact (List.Perm.refl _ : List.Perm _ ([_, _, _, _] ++ _)) | exact (List.Perm.refl _ : List.Perm _ ([_, _, _, _, _] ++ _))) (by first | exact fun _ h => h | exact fun _ h => List.mem_cons_of_mem _ h | exact fun _ h => List.mem_cons_of_mem _ (List.mem_cons_of_mem _ h)) (r_loadf Tryd.underlying22 rfl rfl (by first | exact .fact (by repeat constructor) | exact .own (by repeat constructor) (by decide) (fun _ => rfl) | exact SlIn.reads (by repeat constructor) (by assumption)) (by assumption) (by rfl)).r ?_
      refine m_takep 3 rfl (by kernel_rfl) (by decide) (p_move rfl) ?_
      first | refine m_takep 4 rfl (by kernel_rfl) (by decide) (p_add (j := 1) rfl rfl rfl rfl (by show _ ≤ (9223372036854775807 : Nat); omega)) ?_ | refine m_takep 4 rfl (by kernel_rfl) (by decide) (p_addi rfl rfl (by show (-9223372036854775808 : Int) ≤ _; omega) (by show _ ≤ ((9223372036854775807 : Nat) : Int); omega)) ?_
      first | refine m_take 5 rfl (by kernel_rfl) (by decide) (by first | exact (List.Perm.refl _ : List.Perm _ ([] ++ _)) | exact (List.Perm.refl _ : List.Perm _ ([_] ++ _)) | exact (List.Perm.refl _ : List.Perm _ ([_, _] ++ _)) | exact (List.Perm.refl _ : List.Perm _ ([_, _, _] ++ _)) | exact (List.Perm.refl _ : List.Perm _ ([_, _, _, _] ++ _)) | exact (List.Perm.refl _ : List.Perm _ ([_, _, _, _, _] ++ _))) (by first | exact fun _ h => h | exact fun _ h => List.mem_cons_of_mem _ h | exact fun _ h => List.mem_cons_of_mem _ (List.mem_cons_of_mem _ h)) (r_index Tryd.underlying22 inf_44 rfl rfl rfl (by first | exact .fact (by repeat constructor) | exact .own (by repeat constructor) (by decide) (fun _ => rfl) | exact SlIn.reads (by repeat constructor) (by assumption)) rfl (by omega)).r ?_ | refine m_take 5 rfl (by kernel_rfl) (by decide) (by first | exact (List.Perm.refl _ : List.Perm _ ([] ++ _)) | exact (List.Perm.refl _ : List.Perm _ ([_] ++ _)) | exact (List.Perm.refl _ : List.Perm _ ([_, _] ++ _)) | exact (List.Perm.refl _ : List.Perm _ ([_, _, _] ++ _)) | exact (List.Perm.refl _ : List.Perm _ ([_, _, _, _] ++ _)) | exact (List.Perm.refl _ : List.Perm _ ([_, _, _, _, _] ++ _))) (by first | exact fun _ h => h | exact fun _ h => List.mem_cons_of_mem _ h | exact fun _ h => List.mem_cons_of_mem _ (List.mem_cons_of_mem _ h)) (r_index Tryd.underlying22 inf_44 rfl rfl rfl (by first | exact .fact (by repeat constructor) | exact .own (by repeat constructor) (by decide) (fun _ => rfl) | exact SlIn.reads (by repeat constructor) (by assumption)) rfl (by decide)).r ?_ | refine m_takep 5 rfl (by kernel_rfl) (by decide) (p_indexo Tryd.underlying22 inf_44 rfl rfl rfl (by omega)) ?_
      first | refine m_takep 6 rfl (by kernel_rfl) (by decide) (p_faddr (i := 0) 0 Tryd.underlying44 rfl inf_3 (by decide) rfl rfl) ?_ | refine m_takep 6 rfl (by kernel_rfl) (by decide) (p_faddro (i := 0) 0 Tryd.underlying44 rfl inf_3 (by decide) rfl rfl) ?_
      first | refine m_take 7 rfl (by kernel_rfl) (by decide) (by first | exact (List.Perm.refl _ : List.Perm _ ([] ++ _)) | exact (List.Perm.refl _ : List.Perm _ ([_] ++ _)) | exact (List.Perm.refl _ : List.Perm _ ([_, _] ++ _)) | exact (List.Perm.refl _ : List.Perm _ ([_, _, _] ++ _)) | exact (List.Perm.refl _ : List.Perm _ ([_, _, _, _] ++ _)) | exact (List.Perm.refl _ : List.Perm _ ([_, _, _, _, _] ++ _))) (by first | exact fun _ h => h | exact fun _ h => List.mem_cons_of_mem _ h | exact fun _ h => List.mem_cons_of_mem _ (List.mem_cons_of_mem _ h)) (r_loado Tryd.underlying3 rfl rfl (by repeat constructor) (by rfl)).r ?_ | refine m_take 7 rfl (by kernel_rfl) (by decide) (by first | exact (List.Perm.refl _ : List.Perm _ ([] ++ _)) | exact (List.Perm.refl _ : List.Perm _ ([_] ++ _)) | exact (List.Perm.refl _ : List.Perm _ ([_, _] ++ _)) | exact (List.Perm.refl _ : List.Perm _ ([_, _, _] ++ _)) | exact (List.Perm.refl _ : List.Perm _ ([_, _, _, _] ++ _)) | exact (List.Perm.refl _ : List.Perm _ ([_, _, _, _, _] ++ _))) (by first | exact fun _ h => h | exact fun _ h => List.mem_cons_of_mem _ h | exact fun _ h => List.mem_cons_of_mem _ (List.mem_cons_of_mem _ h)) (r_load1 Tryd.underlying3 rfl rfl (by first | exact .fact (by repeat constructor) | exact .own (by repeat constructor) (by decide) (fun _ => rfl) | exact SlIn.reads (by repeat constructor) (by assumption)) (by first | assumption | rfl) (by rfl)).r ?_ | refine m_take 7 rfl (by kernel_rfl) (by decide) (by first | exact (List.Perm.refl _ : List.Perm _ ([] ++ _)) | exact (List.Perm.refl _ : List.Perm _ ([_] ++ _)) | exact (List.Perm.refl _ : List.Perm _ ([_, _] ++ _)) | exact (List.Perm.refl _ : List.Perm _ ([_, _, _] ++ _)) | exact (List.Perm.refl _ : List.Perm _ ([_, _, _, _] ++ _)) | exact (List.Perm.refl _ : List.Perm _ ([_, _, _, _, _] ++ _))) (by first | exact fun _ h => h | exact fun _ h => List.mem_cons_of_mem _ h | exact fun _ h => List.mem_cons_of_mem _ (List.mem_cons_of_mem _ h)) (r_loadf Tryd.underlying3 rfl rfl (by first | exact .fact (by repeat constructor) | exact .own (by repeat constructor) (by decide) (fun _ => rfl) | exact SlIn.reads (by repeat constructor) (by assumption)) (by assumption) (by rfl)).r ?_
      first | refine m_takep 8 rfl (by kernel_rfl) (by decide) (p_faddr (i := 0) 0 Tryd.underlying25 rfl inf_22 (by decide) rfl rfl) ?_ | refine m_takep 8 rfl (by kernel_rfl) (by decide) (p_faddro (i := 0) 0 Tryd.underlying25 rfl inf_22 (by decide) rfl rfl) ?_
      first | refine m_take 9 rfl (by kernel_rfl) (by decide) (by first | exact (List.Perm.refl _ : List.Perm _ ([] ++ _)) | exact (List.Perm.refl _ : List.Perm _ ([_] ++ _)) | exact (List.Perm.refl _ : List.Perm _ ([_, _] ++ _)) | exact (List.Perm.refl _ : List.Perm _ ([_, _, _] ++ _)) | exact (List.Perm.refl _ : List.Perm _ ([_, _, _, _] ++ _)) | exact (List.Perm.refl _ : List.Perm _ ([_, _, _, _, _] ++ _))) (by first | exact fun _ h => h | exact fun _ h => List.mem_cons_of_mem _ h | exact fun _ h => List.mem_cons_of_mem _ (List.mem_cons_of_mem _ h)) (r_loado Tryd.underlying22 rfl rfl (by repeat constructor) (by rfl)).r ?_ | refine m_take 9 rfl (by kernel_rfl) (by decide) (by first | exact (List.Perm.refl _ : List.Perm _ ([] ++ _)) | exact (List.Perm.refl _ : List.Perm _ ([_] ++ _)) | exact (List.Perm.refl _ : List.Perm _ ([_, _] ++ _)) | exact (List.Perm.refl _ : List.Perm _ ([_, _, _] ++ _)) | exact (List.Perm.refl _ : List.Perm _ ([_, _, _, _] ++ _)) | exact (List.Perm.refl _ : List.Perm _ ([_, _, _, _, _] ++ _))) (by first | exact fun _ h => h | exact fun _ h => List.mem_cons_of_mem _ h | exact fun _ h => List.mem_cons_of_mem _ (List.mem_cons_of_mem _ h)) (r_load1 Tryd.underlying22 rfl rfl (by first | exact .fact (by repeat constructor) | exact .own (by repeat constructor) (by decide) (fun _ => rfl) | exact SlIn.reads (by repeat constructor) (by assumption)) (by first | assumption | rfl) (by rfl)).r ?_ | refine m_take 9 rfl (by kernel_rfl) (by decide) (by first | exact (List.Perm.refl _ : List.Perm _ ([] ++ _)) | exact (List.Perm.refl _ : List.Perm _ ([_] ++ _)) | exact (List.Perm.refl _ : List.Perm _ ([_, _] ++ _)) | exact (List.Perm.refl _ : List.Perm _ ([_, _, _] ++ _)) | exact (List.Perm.refl _ : List.Perm _ ([_, _, _, _] ++ _)) | exact (List.Perm.refl _ : List.Perm _ ([_, _, _, _, _] ++ _))) (by first | exact fun _ h => h | exact fun _ h => List.mem_cons_of_mem _ h | exact fun _ h => List.mem_cons_of_mem _ (List.mem_cons_of_mem _ h)) (r_loadf Tryd.underlying22 rfl rfl (by first | exact .fact (by repeat constructor) | exact .own (by repeat constructor) (by decide) (fun _ => rfl) | exact SlIn.reads (by repeat constructor) (by assumption)) (by assumption) (by rfl)).r ?_
      refine m_takep 10 rfl (by kernel_rfl) (by decide) (p_move rfl) ?_
      first | refine m_take 11 rfl (by kernel_rfl) (by decide) (by first | exact (List.Perm.refl _ : List.Perm _ ([] ++ _)) | exact (List.Perm.refl _ : List.Perm _ ([_] ++ _)) | exact (List.Perm.refl _ : List.Perm _ ([_, _] ++ _)) | exact (List.Perm.refl _ : List.Perm _ ([_, _, _] ++ _)) | exact (List.Perm.refl _ : List.Perm _ ([_, _, _, _] ++ _)) | exact (List.Perm.refl _ : List.Perm _ ([_, _, _, _, _] ++ _))) (by first | exact fun _ h => h | exact fun _ h => List.mem_cons_of_mem _ h | exact fun _ h => List.mem_cons_of_mem _ (List.mem_cons_of_mem _ h)) (r_index Tryd.underlying22 inf_44 rfl rfl rfl (by first | exact .fact (by repeat constructor) | exact .own (by repeat constructor) (by decide) (fun _ => rfl) | exact SlIn.reads (by repeat constructor) (by assumption)) rfl (by omega)).r ?_ | refine m_take 11 rfl (by kernel_rfl) (by decide) (by first | exact (List.Perm.refl _ : List.Perm _ ([] ++ _)) | exact (List.Perm.refl _ : List.Perm _ ([_] ++ _)) | exact (List.Perm.refl _ : List.Perm _ ([_, _] ++ _)) | exact (List.Perm.refl _ : List.Perm _ ([_, _, _] ++ _)) | exact (List.Perm.refl _ : List.Perm _ ([_, _, _, _] ++ _)) | exact (List.Perm.refl _ : List.Perm _ ([_, _, _, _, _] ++ _))) (by first | exact fun _ h => h | exact fun _ h => List.mem_cons_of_mem _ h | exact fun _ h => List.mem_cons_of_mem _ (List.mem_cons_of_mem _ h)) (r_index Tryd.underlying22 inf_44 rfl rfl rfl (by first | exact .fact (by repeat constructor) | exact .own (by repeat constructor) (by decide) (fun _ => rfl) | exact SlIn.reads (by repeat constructor) (by assumption)) rfl (by decide)).r ?_ | refine m_takep 11 rfl (by kernel_rfl) (by decide) (p_indexo Tryd.underlying22 inf_44 rfl rfl rfl (by omega)) ?_
      first | refine m_takep 12 rfl (by kernel_rfl) (by decide) (p_faddr (i := 0) 0 Tryd.underlying44 rfl inf_3 (by decide) rfl rfl) ?_ | refine m_takep 12 rfl (by kernel_rfl) (by decide) (p_faddro (i := 0) 0 Tryd.underlying44 rfl inf_3 (by decide) rfl rfl) ?_
      first | refine m_take 13 rfl (by kernel_rfl) (by decide) (by first | exact (List.Perm.refl _ : List.Perm _ ([] ++ _)) | exact (List.Perm.refl _ : List.Perm _ ([_] ++ _)) | exact (List.Perm.refl _ : List.Perm _ ([_, _] ++ _)) | exact (List.Perm.refl _ : List.Perm _ ([_, _, _] ++ _)) | exact (List.Perm.refl _ : List.Perm _ ([_, _, _, _] ++ _)) | exact (List.Perm.refl _ : List.Perm _ ([_, _, _, _, _] ++ _))) (by first | exact fun _ h => h | exact fun _ h => List.mem_cons_of_mem _ h | exact fun _ h => List.mem_cons_of_mem _ (List.mem_cons_of_mem _ h)) (r_loado Tryd.underlying3 rfl rfl (by repeat constructor) (by rfl)).r ?_ | refine m_take 13 rfl (by kernel_rfl) (by decide) (by first | exact (List.Perm.refl _ : List.Perm _ ([] ++ _)) | exact (List.Perm.refl _ : List.Perm _ ([_] ++ _)) | exact (List.Perm.refl _ : List.Perm _ ([_, _] ++ _)) | exact (List.Perm.refl _ : List.Perm _ ([_, _, _] ++ _)) | exact (List.Perm.refl _ : List.Perm _ ([_, _, _, _] ++ _)) | exact (List.Perm.refl _ : List.Perm _ ([_, _, _, _, _] ++ _))) (by first | exact fun _ h => h | exact fun _ h => List.mem_cons_of_mem _ h | exact fun _ h => List.mem_cons_of_mem _ (List.mem_cons_of_mem _ h)) (r_load1 Tryd.underlying3 rfl rfl (by first | exact .fact (by repeat constructor) | exact .own (by repeat constructor) (by decide) (fun _ => rfl) | exact SlIn.reads (by repeat constructor) (by assumption)) (by first | assumption | rfl) (by rfl)).r ?_ | refine m_take 13 rfl (by kernel_rfl) (by decide) (by first | exact (List.Perm.refl _ : List.Perm _ ([] ++ _)) | exact (List.Perm.refl _ : List.Perm _ ([_] ++ _)) | exact (List.Perm.refl _ : List.Perm _ ([_, _] ++ _)) | exact (List.Perm.refl _ : List.Perm _ ([_, _, _] ++ _)) | exact (List.Perm.refl _ : List.Perm _ ([_, _, _, _] ++ _)) | exact (List.Perm.refl _ : List.Perm _ ([_, _, _, _, _] ++ _))) (by first | exact fun _ h => h | exact fun _ h => List.mem_cons_of_mem _ h | exact fun _ h => List.mem_cons_of_mem _ (List.mem_cons_of_mem _ h)) (r_loadf Tryd.underlying3 rfl rfl (by first | exact .fact (by repeat constructor) | exact .own (by repeat constructor) (by decide) (fun _ => rfl) | exact SlIn.reads (by repeat constructor) (by assumption)) (by assumption) (by rfl)).r ?_
      refine m_run 14 rfl (by kernel_rfl) ?_
      refine l_buildSlice (by decide) Tryd.underlying23 inf_3 (by decide) (by decide) rfl rfl rfl rfl (fun b161 => ?_)
      refine l_nil ?_
      refine m_next _ (by first | exact (List.Perm.refl _ : List.Perm _ ([] ++ _)) | exact (List.Perm.refl _ : List.Perm _ ([_] ++ _)) | exact (List.Perm.refl _ : List.Perm _ ([_, _] ++ _)) | exact (List.Perm.refl _ : List.Perm _ ([_, _, _] ++ _)) | exact (List.Perm.refl _ : List.Perm _ ([_, _, _, _] ++ _)) | exact (List.Perm.refl _ : List.Perm _ ([_, _, _, _, _] ++ _))) (by first | exact fun _ h => h | exact fun _ h => List.mem_cons_of_mem _ h | exact fun _ h => List.mem_cons_of_mem _ (List.mem_cons_of_mem _ h)) ?_
      refine m_run 15 rfl (by kernel_rfl) ?_
      first | (refine l_append2 x2.o.kind x.o.kind (by decide) Tryd.underlying23 inf_3 rfl (by decide) rfl rfl rfl rfl rfl rfl (by have := hI.n; have := hI.hk; omega) (by have := hI.n; have := hI.hk; omega) (fun A162 c162 hA162 => ?_)) | (refine l_perm (.cons _ (front1 _ _ _)) ?_; refine l_append2 x2.o.kind x.o.kind (by decide) Tryd.underlying23 inf_3 rfl (by decide) rfl rfl rfl rfl rfl rfl (by have := hI.n; have := hI.hk; omega) (by have := hI.n; have := hI.hk; omega) (fun A162 c162 hA162 => ?_)) | (refine l_perm (.cons _ (front2 _ _ _ _)) ?_; refine l_append2 x2.o.kind x.o.kind (by decide) Tryd.underlying23 inf_3 rfl (by decide) rfl rfl rfl rfl rfl rfl (by have := hI.n; have := hI.hk; omega) (by have := hI.n; have := hI.hk; omega) (fun A162 c162 hA162 => ?_))
      refine l_nil ?_
      refine m_late rfl ?_
      refine m_takep 16 rfl (by kernel_rfl) (by decide) (p_assign rfl) ?_
      refine m_done (by kernel_rfl) ?_
      refine c_seq ?_
      refine c_reg ?_
      refine l_q (by decide) (p_move rfl).q ?_
      first | refine l_q (by decide) (p_faddr (i := 2) 2 Tryd.underlying25 rfl inf_3 (by decide) rfl rfl).q ?_ | refine l_q (by decide) (p_faddro (i := 2) 2 Tryd.underlying25 rfl inf_3 (by decide) rfl rfl).q ?_
      first | refine l_q (by decide) (r_loado Tryd.underlying3 rfl rfl (by repeat constructor) (by rfl)).q ?_ | refine l_q (by decide) (r_load1 Tryd.underlying3 rfl rfl (by first | exact .fact (by repeat constructor) | exact .own (by repeat constructor) (by decide) (fun _ => rfl) | exact SlIn.reads (by repeat constructor) (by assumption)) (by first | assumption | rfl) (by rfl)).q ?_ | refine l_q (by decide) (r_loadf Tryd.underlying3 rfl rfl (by first | exact .fact (by repeat constructor) | exact .own (by repeat constructor) (by decide) (fun _ => rfl) | exact SlIn.reads (by repeat constructor) (by assumption)) (by assumption) (by rfl)).q ?_
      refine l_q (by decide) (q_call call_33 rfl (fun w hs => plus_ok st.cost X.sw (by omega) (by omega) (by omega) (by omega) w)) ?_
      refine l_q (by decide) (p_assign rfl).q ?_
      refine l_nil ?_
      refine c_reg ?_
      refine l_q (by decide) (p_move rfl).q ?_
      first | refine l_q (by decide) (p_add (j := 2) rfl rfl rfl rfl (by show _ ≤ (9223372036854775807 : Nat); omega)).q ?_ | refine l_q (by decide) (p_addi rfl rfl (by show (-9223372036854775808 : Int) ≤ _; omega) (by show _ ≤ ((9223372036854775807 : Nat) : Int); omega)).q ?_
      refine l_q (by decide) (p_assign rfl).q ?_
      refine l_nil ?_
      refine c_reg ?_
      refine l_q (by decide) (p_move rfl).q ?_
      first | refine l_q (by decide) (p_add (j := 1) rfl rfl rfl rfl (by show _ ≤ (9223372036854775807 : Nat); omega)).q ?_ | refine l_q (by decide) (p_addi rfl rfl (by show (-9223372036854775808 : Int) ≤ _; omega) (by show _ ≤ ((9223372036854775807 : Nat) : Int); omega)).q ?_
      refine l_q (by decide) (p_assign rfl).q ?_
      refine l_nil ?_
      first | (refine c_drop (x := iCells b11 _ _) ?_) | (refine c_perm (front1 _ _ _) ?_; refine c_drop (x := iCells b11 _ _) ?_) | (refine c_perm (front2 _ _ _ _) ?_; refine c_drop (x := iCells b11 _ _) ?_) | (refine c_perm (front3 _ _ _ _ _) ?_; refine c_drop (x := iCells b11 _ _) ?_) | (refine c_perm (front4 _ _ _ _ _ _) ?_; refine c_drop (x := iCells b11 _ _) ?_)
      refine c_join ((k + 1), ((⟨st.at_ + 2, st.out ++ [x2.o.kind, x.o.kind], Ed.plus st.cost X.sw⟩ : Ed.St)), (A162), (c162)) ?_ ?_ ?_ ?_
      ·show (RunI X l (k + 1) ((⟨st.at_ + 2, st.out ++ [x2.o.kind, x.o.kind], Ed.plus st.cost X.sw⟩ : Ed.St))) ∧ l.length - (k + 1) < l.length - k
       exact ⟨hI.next hO hop (exec_swap (by omega) (by omega) hsw), by omega⟩
      · exact ⟨rfl, rfl, rfl, rfl, rfl, rfl, trivial⟩
      ·show List.Perm _ ([iSl 3 1 intF (A162) (c162) ((⟨st.at_ + 2, st.out ++ [x2.o.kind, x.o.kind], Ed.plus st.cost X.sw⟩ : Ed.St)).out, iCells b2 25 [.slice X.A X.xs.length X.c, .slice X.B X.ins.length X.d, .int .i64 X.sw]])
       exact .refl _
      · exact fun _ h => h
     ·skip
      refine c_seq ?_
      refine c_reg ?_
      refine l_q (by decide) (p_assign rfl).q ?_
      refine l_q (by decide) (p_assign (v := .int .i64 ((0 : Nat) : Int)) rfl).q ?_
      refine l_q (by decide) (p_assign rfl).q ?_
      refine l_nil ?_
      refine c_ret ?_
      refine c_ret3 rfl rfl rfl rfl (fun w hs => ?_)
      exact (by rw [run_none hI hop (exec_no hx0 hxl0 hr0 h40 h82 h113 (fun h => by rw [dec_true h] at h133; cases h133))]; exact run_no hs.ext)
 ·skip
  refine c_exit ?_
  refine c_here ?_
  refine c_seq ?_
  refine c_seq ?_
  refine c_reg ?_
  refine l_q (by decide) (p_move rfl).q ?_
  first | refine l_q (by decide) (p_faddr (i := 0) 0 Tryd.underlying25 rfl inf_22 (by decide) rfl rfl).q ?_ | refine l_q (by decide) (p_faddro (i := 0) 0 Tryd.underlying25 rfl inf_22 (by decide) rfl rfl).q ?_
  first | refine l_q (by decide) (r_loado Tryd.underlying22 rfl rfl (by repeat constructor) (by rfl)).q ?_ | refine l_q (by decide) (r_load1 Tryd.underlying22 rfl rfl (by first | exact .fact (by repeat constructor) | exact .own (by repeat constructor) (by decide) (fun _ => rfl) | exact SlIn.reads (by repeat constructor) (by assumption)) (by first | assumption | rfl) (by rfl)).q ?_ | refine l_q (by decide) (r_loadf Tryd.underlying22 rfl rfl (by first | exact .fact (by repeat constructor) | exact .own (by repeat constructor) (by decide) (fun _ => rfl) | exact SlIn.reads (by repeat constructor) (by assumption)) (by assumption) (by rfl)).q ?_
  refine l_q (by decide) (p_len_sl Tryd.underlying22 rfl).q ?_
  first | refine l_q (by decide) (p_neq rfl rfl rfl rfl).q ?_ | refine l_q (by decide) (p_neqi rfl rfl).q ?_
  refine l_nil ?_
  first | refine c_dec rfl (fun h173 => ?_) (fun h173 => ?_) | refine c_cond rfl (fun h173 => ?_) (fun h173 => ?_)
  ·skip
   refine c_seq ?_
   refine c_reg ?_
   refine l_q (by decide) (p_assign rfl).q ?_
   refine l_q (by decide) (p_assign (v := .int .i64 ((0 : Nat) : Int)) rfl).q ?_
   refine l_q (by decide) (p_assign rfl).q ?_
   refine l_nil ?_
   refine c_ret ?_
   refine c_ret3 rfl rfl rfl rfl (fun w hs => ?_)
   exact (by rw [run_end hI h17, if_neg (fun h => h173 h)]; exact run_no hs.ext)
  ·skip
   refine c_skip ?_
   refine c_seq ?_
   refine c_reg ?_
   refine l_q (by decide) (p_move rfl).q ?_
   refine l_q (by decide) (p_move rfl).q ?_
   refine l_q (by decide) (p_assign rfl).q ?_
   refine l_q (by decide) (p_assign rfl).q ?_
   refine l_q (by decide) (p_assign rfl).q ?_
   refine l_nil ?_
   refine c_ret ?_
   refine c_ret3 rfl rfl rfl rfl (fun w hs => ?_)
   have g := hs.give (e := 3) (size := 1) (f := intF) (es := st.out) (by repeat constructor) (by decide) len_intF
   have g2 := hs.own (iSl 3 1 intF A1 d1 st.out) (by repeat constructor)
   have g3 : OutQ _ (some st) (A1, d1) _ := ⟨fun ad had => by
     have := (g2.2.2 ad.block (by have had : A1 = some ad := had; subst had; simp [iSl, iRow, Value.ownBlock])).2
     simpa using this, g.1⟩
   exact (by rw [run_end hI h17, if_pos (Classical.not_not.1 h173)]; exact ⟨(A1, d1), rfl, ⟨fun ad had => Nat.le_trans hlo (g3.1 ad had), g3.2⟩, dep_outq g3, hs.ext⟩)
end Go.Proofs.YtlefheiohblgdaaDoor
