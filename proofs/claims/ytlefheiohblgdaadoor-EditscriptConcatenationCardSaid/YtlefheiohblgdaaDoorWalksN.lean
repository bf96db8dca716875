/- The walks of edit scripts, fourteenth part; conditions: lengths. -/
import Derived.Test.YtlefheiohblgdaaDoorWalksM
namespace Go.Proofs.YtlefheiohblgdaaDoor
open Go Go.Fx Go.Proofs

section
variable {P : Program} {w0 : World} {K : List Nat} {n : Sz} {ops : Array Oper} {rest : List Oper} {N : Act → World → Prop} {L : Slots} {σ : Fx.Own} {ρ : Fx.Facts} {ty : TypeId}
theorem p_indexarr {x i : Operand} {t e : TypeId} {size bytes : Nat} {z : Value} {b m j : Nat} {k : IntKind} {a : Int} (hu : P.underlying t = some (.array m e)) (hi : InfoIs P e size bytes z) (hx : ev L x = some (.pointer (some ⟨b, 0, none⟩))) (hix : ev L i = some (.int k a)) (ha : a = (j : Int)) (hj : j < m) :
    Pure P (.indexAddr t x i) ty L (.pointer (some ⟨b, j * size, none⟩)) := fun ee o w ho _ he => by
  subst ha
  have h3 : (⟨b, 0, none⟩ : Addr).add (j * size) = ⟨b, j * size, none⟩ := by
    simp only [Addr.add]; split
    · rename_i h0; rw [h0]
    · simp
  simp [execOp, ho, Instr.indexAt, Instr.sureAddr, asIntOf, he x _ hx, he i _ hix, run_underlying hu, hj, run_sizeOf' hi, h3]
theorem l_callov {X : Type} {d : Nat} {pos : String} {aft : Array Edge} {k : FuncId} {f : Operand} {xs : List Operand} {us : List Value} {at_ : Array TypeId} {τ : Fx.Own} (V : X → Value) (τ' : X → Fx.Own) (hd : d < n) (hk : Callable P k) (hf' : ev L f = some (.func (.func k) #[] #[])) (ha : evl L xs = some us)
    (hc : ∀ w, Fx.St w (keysOf τ) w τ ρ → Calls P k us.toArray w (Ret fun v w' => ∃ x ρ', v = V x ∧ Fx.St w (keysOf τ) w' (τ' x) ρ')) (h : ∀ x, WL P w0 K n ops rest N ((d, V x) :: L) (τ' x ++ σ) ρ) :
    WL P w0 K n ops (⟨some d, .call { callee := .value f, args := xs.toArray, argTypes := at_ }, ty, pos, aft, none⟩ :: rest) N L (τ ++ σ) ρ := fun a w hf hs => by
  refine wpList_plain rfl fun K' hK => ?_
  unfold Oper.wp
  rw [run_call hk (first := #[]) (cap := #[]) (w := w) rfl (hf.ev hf') (args_evl (fun x u hx => hf.ev hx) _ _ ha)]
  simp only [Array.empty_append, Array.append_empty, Oper.upon]
  refine (hc w hs.focus).mono fun e w' hr => ?_
  cases e with
  | returned v =>
    obtain ⟨x, ρ', rfl, h1⟩ := hr
    exact hK _ _ (h x _ _ (hf.put hd _) (hs.splice h1))
  | _ => exact hr.elim
end
def ActF : World → Prop := fun w => ∀ k : Nat, 1 ≤ k → k ≤ 4 → w.cell? ⟨0, k, none⟩ = some (.func (.func (57 + k)) #[] #[])
theorem act_ok (b : Nat) (X : Inp) (hX : X.small) (hO : Ed.Okin X.pl) (st : Ed.St) (A : Option Addr) (d : Nat) (K : List Nat) (w : World) (hat : st.at_ ≤ X.xs.length) (hc0 : 0 ≤ st.cost) (hc1 : st.cost ≤ 1099511627776) (ho : st.out.length ≤ 900000) (op : Ed.Op) (k : Nat) (hk : op.kind = (k : Int)) (h1 : 1 ≤ k) (h4 : k ≤ 4) (h : Fx.St w K w [iCells b 56 [.slice X.A X.xs.length X.c, .slice X.B X.ins.length X.d, .int .i64 X.sw, .int .i64 (st.at_ : Int), .slice A (st.out).length d, .int .i64 (st.cost)], iSl 3 1 intF A d (st.out)] [Rd X.xs, Sl 1 intF X.B X.ins, Sl 3 colF X.A X.xs]) :
    Calls Tryd.prog (57 + k) #[.pointer (some ⟨b, 0, none⟩), .int .i64 op.term] w (Ret fun v w' => ∃ (x : Option Addr × Nat) (ρ' : Facts), v = .bool (Ed.exec X.pl st op).isSome ∧ Fx.St w K w' [iCells b 56 [.slice X.A X.xs.length X.c, .slice X.B X.ins.length X.d, .int .i64 X.sw, .int .i64 (((Ed.exec X.pl st op).getD st).at_ : Int), .slice x.1 (((Ed.exec X.pl st op).getD st).out).length x.2, .int .i64 (((Ed.exec X.pl st op).getD st).cost)], iSl 3 1 intF x.1 x.2 (((Ed.exec X.pl st op).getD st).out)] ρ') := by
  obtain ⟨kd, t⟩ := op
  simp only at hk
  subst hk
  have hkk : k = 1 ∨ k = 2 ∨ k = 3 ∨ k = 4 := by omega
  rcases hkk with rfl | rfl | rfl | rfl
  · exact read_ok b X hX hO st A d K w hat hc0 hc1 ho t h
  · exact remove_ok b X hX hO st A d K w hat hc0 hc1 ho t h
  · exact insert_ok b X hX hO st A d K w hat hc0 hc1 ho t h
  · exact swapact_ok b X hX hO st A d K w hat hc0 hc1 ho t h
theorem act_call {k : Nat} (h1 : 1 ≤ k) (h4 : k ≤ 4) : Callable Tryd.prog (57 + k) := by
  have hkk : k = 1 ∨ k = 2 ∨ k = 3 ∨ k = 4 := by omega
  rcases hkk with rfl | rfl | rfl | rfl
  · exact ⟨_, Tryd.func58, by kernel_rfl, rfl⟩
  · exact ⟨_, Tryd.func59, by kernel_rfl, rfl⟩
  · exact ⟨_, Tryd.func60, by kernel_rfl, rfl⟩
  · exact ⟨_, Tryd.func61, by kernel_rfl, rfl⟩
theorem dep_act {w : World} (h : ActF w) : Dep 0 w.heap.size ActF := fun w1 w2 hb hq k h1 h4 => by
  have h2 := h k h1 h4
  have h3 : (0 : Nat) < w.heap.size := by
    refine Classical.byContradiction fun hn => ?_
    unfold World.cell? at h2
    rw [Array.getElem?_eq_none (by omega)] at h2
    simp at h2
  rw [← hq k h1 h4]
  exact World.cell?_of_block (w := w1) (hb 0 (Nat.le_refl _) h3)
theorem cell_lt {w : World} {b k : Nat} {v : Value} (h : w.cell? ⟨b, k, none⟩ = some v) : b < w.heap.size := by
  refine Classical.byContradiction fun hn => ?_
  unfold World.cell? at h
  rw [Array.getElem?_eq_none (by show w.heap.size ≤ b; omega)] at h
  simp at h
/-- what the run leaves: the state behind the pointer -/
def RunQ (lo : Nat) (r : Option Ed.St) (x : Nat × Option Addr × Nat) : World → Prop := fun w => ∀ s, r = some s → w.cell? ⟨x.1, 4, none⟩ = some (.slice x.2.1 s.out.length x.2.2) ∧ w.cell? ⟨x.1, 5, none⟩ = some (.int .i64 s.cost) ∧ lo ≤ x.1 ∧ (∀ ad : Addr, x.2.1 = some ad → lo ≤ ad.block) ∧ Sl 1 intF x.2.1 s.out w
theorem dep_runq {lo : Nat} {r : Option Ed.St} {x : Nat × Option Addr × Nat} {w : World} (h : RunQ lo r x w) : Dep lo w.heap.size (RunQ lo r x) := fun w1 w2 hb hq s hs => by
  obtain ⟨h1, h2, h3, h4, h5⟩ := h s hs
  obtain ⟨g1, g2, g3, g4, g5⟩ := hq s hs
  have hlt := cell_lt h1
  refine ⟨?_, ?_, h3, h4, dep_lo (by decide) h5 h4 w1 w2 hb g5⟩
  · rw [← g1]; exact World.cell?_of_block (w := w1) (hb _ h3 hlt)
  · rw [← g2]; exact World.cell?_of_block (w := w1) (hb _ h3 hlt)
theorem RunQ.mono {lo lo' : Nat} {r : Option Ed.St} {x : Nat × Option Addr × Nat} {w : World} (h : RunQ lo r x w) (hl : lo' ≤ lo) : RunQ lo' r x w := fun s hs => by
  obtain ⟨h1, h2, h3, h4, h5⟩ := h s hs
  exact ⟨h1, h2, by omega, fun ad had => Nat.le_trans hl (h4 ad had), h5⟩
theorem give_q {lo : Nat} {r : Option Ed.St} {x : Nat × Option Addr × Nat} {w0 w : World} (h : RunQ lo r x w) (he : Ext [] w0 w) : RunQ lo r x w ∧ Dep lo w.heap.size (RunQ lo r x) ∧ Ext [] w0 w := ⟨h, dep_runq h, he⟩
theorem exec_kind {X : Inp} {st : Ed.St} {op : Ed.Op} (h : op.kind < 1 ∨ op.kind > 4) : Ed.exec X.pl st op = none := by
  unfold Ed.exec; rw [if_neg (by omega), if_neg (by omega), if_neg (by omega), if_neg (by omega)]
theorem inf_56 : InfoIs Tryd.prog 56 6 96 (.agg #[.slice none 0 0, .slice none 0 0, .int .i64 0, .int .i64 0, .slice none 0 0, .int .i64 0]) := by unfold InfoIs; kernel_rfl
theorem inf_67 : InfoIs Tryd.prog 67 1 8 (.nilFunc) := by unfold InfoIs; kernel_rfl
theorem pl_56 : PlacesIs Tryd.prog 56 [(0, 3), (3, 1), (4, 1), (5, 1)] := ⟨_, Tryd.underlying56, by kernel_rfl⟩
theorem go_ok (X : Inp) (hX : X.small) (w : World) (hM : X.mem w) (hA : ActF w) (hO : Ed.Okin X.pl) (C : Option Addr) (lc : Nat) (l : List Ed.Op) (hl : l.length ≤ 100000) (hY : Sl 2 opF C l w) :
   Calls Tryd.prog 29 #[.agg #[.slice X.A X.xs.length X.c, .slice X.B X.ins.length X.d, .int .i64 X.sw], .slice C l.length lc] w (Ret fun v w' => ∃ x : Nat × Option Addr × Nat, v = .tuple #[.pointer (if (Ed.run X.pl l).isSome then some ⟨x.1, 0, none⟩ else none), .int .i64 (if (Ed.run X.pl l).isSome then 0 else 1)] ∧ RunQ w.heap.size (Ed.run X.pl l) x w' ∧ Dep w.heap.size w'.heap.size (RunQ w.heap.size (Ed.run X.pl l) x) ∧ Ext [] w w') := by
 refine calls_fx (l := [.agg #[.slice X.A X.xs.length X.c, .slice X.B X.ins.length X.d, .int .i64 X.sw], .slice C l.length lc]) Tryd.func29 rfl Tryd.ntmps29 (Nat.le_of_ble_eq_true rfl) (((X.start hM).old hY (dep_sl (by decide) hY)).old hA (dep_act hA)) ?_
 refine c_seq ?_
 refine c_reg ?_
 refine l_box (by decide) rfl _ rfl (fun b2 => ?_)
 refine l_q (by decide) (p_assign rfl).q ?_
 refine l_q (by decide) (p_assign (v := .int .i64 ((0 : Nat) : Int)) rfl).q ?_
 refine l_nil ?_
 refine c_seq ?_
 refine c_reg ?_
 first | refine l_q (by decide) (r_loada Tryd.underlying25 rfl inf_25 rfl (by first | exact .fact (by repeat constructor) | exact .own (by repeat constructor) (by decide) (fun _ => rfl) | exact SlIn.reads (by repeat constructor) (by assumption)) (by assumption)).q ?_ | refine l_q (by decide) (r_loadow Tryd.underlying25 rfl inf_25 rfl (by repeat constructor) (by rfl)).q ?_ | refine l_q (by decide) (r_loadoa Tryd.underlying25 rfl inf_25 rfl (by repeat constructor) (by rfl) (fun j u h => h)).q ?_
 refine l_q (by decide) (((p_build (cells := #[_, _, _, _, _, _]) inf_56 pl_56 rfl rfl)).to (u := .agg #[.slice X.A X.xs.length X.c, .slice X.B X.ins.length X.d, .int .i64 X.sw, .int .i64 ((0 : Nat) : Int), .slice none 0 0, .int .i64 0]) (rfl)).q ?_
 refine l_box (by decide) rfl _ rfl (fun b11 => ?_)
 refine l_q (by decide) (p_assign rfl).q ?_
 refine l_nil ?_
 refine c_seq ?_
 refine c_seq ?_
 refine c_reg ?_
 refine l_q (by decide) (p_move rfl).q ?_
 refine l_q (by decide) (p_len_sl Tryd.underlying26 rfl).q ?_
 refine l_q (by decide) (p_move (v := .int .i64 ((0 : Nat) : Int)) rfl).q ?_
 refine l_nil ?_
 refine c_block ?_
 refine c_sl0 3 1 intF ?_
 refine c_loop (S := Nat × Ed.St × Option Addr × Nat) (fun zs => RunI X l zs.1 zs.2.1) (fun zs => l.length - zs.1) (fun zs => [(2, .pointer (some ⟨b2, 0, none⟩)), (6, .pointer (some ⟨b11, 0, none⟩)), (12, .slice C l.length lc), (13, .int .i64 (l.length : Int)), (14, .int .i64 (zs.1 : Int))]) (fun zs => [iCells b11 56 [.slice X.A X.xs.length X.c, .slice X.B X.ins.length X.d, .int .i64 X.sw, .int .i64 (zs.2.1.at_ : Int), .slice zs.2.2.1 (zs.2.1.out).length zs.2.2.2, .int .i64 (zs.2.1.cost)], iSl 3 1 intF zs.2.2.1 zs.2.2.2 (zs.2.1.out), iCells b2 25 [.slice X.A X.xs.length X.c, .slice X.B X.ins.length X.d, .int .i64 X.sw]]) (fun zs => (ActF :: Sl 2 opF C l :: [Rd X.xs, Sl 1 intF X.B X.ins, Sl 3 colF X.A X.xs])) (0, ⟨0, [], 0⟩, none, 0) ?_ ?_ ?_ ?_ ?_
 · show RunI X l (0) (⟨0, [], 0⟩)
   exact ⟨Nat.zero_le _, rfl, Nat.zero_le _, by decide, by decide, Nat.le_refl _⟩
 · exact ⟨rfl, rfl, rfl, rfl, rfl, trivial⟩
 · exact front1 _ _ _
 · exact fun _ h => h
 rintro ⟨k, st, A1, d1⟩ hinv
 have hinv : RunI X l k st := hinv
 have hI := hinv
 show Cont _ _ _ _ [(2, .pointer (some ⟨b2, 0, none⟩)), (6, .pointer (some ⟨b11, 0, none⟩)), (12, .slice C l.length lc), (13, .int .i64 (l.length : Int)), (14, .int .i64 (k : Int))] ([iCells b11 56 [.slice X.A X.xs.length X.c, .slice X.B X.ins.length X.d, .int .i64 X.sw, .int .i64 (st.at_ : Int), .slice A1 (st.out).length d1, .int .i64 (st.cost)], iSl 3 1 intF A1 d1 (st.out), iCells b2 25 [.slice X.A X.xs.length X.c, .slice X.B X.ins.length X.d, .int .i64 X.sw]]) (ActF :: Sl 2 opF C l :: [Rd X.xs, Sl 1 intF X.B X.ins, Sl 3 colF X.A X.xs])
 refine c_seq ?_
 refine c_reg ?_
 first | refine l_q (by decide) (p_lss rfl rfl rfl rfl).q ?_ | refine l_q (by decide) (p_lssi rfl rfl).q ?_
 refine l_nil ?_
 refine c_seq ?_
 first | refine c_dec rfl (fun h15 => ?_) (fun h15 => ?_) | refine c_cond rfl (fun h15 => ?_) (fun h15 => ?_)
 ·skip
  obtain ⟨op, hop⟩ := at_some (l := l) (n := k) (by omega)
  refine c_skip ?_
  refine c_seq ?_
  refine c_block ?_
  refine c_seq ?_
  refine c_reg ?_
  first | refine l_q (by decide) (r_index Tryd.underlying26 inf_46 rfl rfl rfl (by first | exact .fact (by repeat constructor) | exact .own (by repeat constructor) (by decide) (fun _ => rfl) | exact SlIn.reads (by repeat constructor) (by assumption)) rfl (by omega)).q ?_ | refine l_q (by decide) (r_index Tryd.underlying26 inf_46 rfl rfl rfl (by first | exact .fact (by repeat constructor) | exact .own (by repeat constructor) (by decide) (fun _ => rfl) | exact SlIn.reads (by repeat constructor) (by assumption)) rfl (by decide)).q ?_ | refine l_q (by decide) (p_indexo Tryd.underlying26 inf_46 rfl rfl rfl (by omega)).q ?_
  first | refine l_q (by decide) (r_loada Tryd.underlying46 rfl inf_46 rfl (by first | exact .fact (by repeat constructor) | exact .own (by repeat constructor) (by decide) (fun _ => rfl) | exact SlIn.reads (by repeat constructor) (by assumption)) (by assumption)).q ?_ | refine l_q (by decide) (r_loadow Tryd.underlying46 rfl inf_46 rfl (by repeat constructor) (by rfl)).q ?_ | refine l_q (by decide) (r_loadoa Tryd.underlying46 rfl inf_46 rfl (by repeat constructor) (by rfl) (fun j u h => h)).q ?_
  refine l_alloc (by decide) inf_46 _ rfl (fun b8 => ?_)
  first | (refine l_storew inf_46 rfl rfl rfl rfl rfl ?_) | (refine l_perm (front1 _ _ _) ?_; refine l_storew inf_46 rfl rfl rfl rfl rfl ?_) | (refine l_perm (front2 _ _ _ _) ?_; refine l_storew inf_46 rfl rfl rfl rfl rfl ?_) | (refine l_perm (front3 _ _ _ _ _) ?_; refine l_storew inf_46 rfl rfl rfl rfl rfl ?_) | (refine l_perm (front4 _ _ _ _ _ _) ?_; refine l_storew inf_46 rfl rfl rfl rfl rfl ?_) | (refine l_storea inf_46 rfl rfl rfl rfl (by decide) ?_) | (refine l_perm (front1 _ _ _) ?_; refine l_storea inf_46 rfl rfl rfl rfl (by decide) ?_) | (refine l_perm (front2 _ _ _ _) ?_; refine l_storea inf_46 rfl rfl rfl rfl (by decide) ?_)
  refine l_nil ?_
  refine c_seq ?_
  refine m_draw [16] mixed ?_
  first | refine m_takep 0 rfl (by kernel_rfl) (by decide) (p_faddr (i := 0) 0 Tryd.underlying46 rfl inf_3 (by decide) rfl rfl) ?_ | refine m_takep 0 rfl (by kernel_rfl) (by decide) (p_faddro (i := 0) 0 Tryd.underlying46 rfl inf_3 (by decide) rfl rfl) ?_
  first | refine m_take 1 rfl (by kernel_rfl) (by decide) (by first | exact (List.Perm.refl _ : List.Perm _ ([] ++ _)) | exact (List.Perm.refl _ : List.Perm _ ([_] ++ _)) | exact (List.Perm.refl _ : List.Perm _ ([_, _] ++ _)) | exact (List.Perm.refl _ : List.Perm _ ([_, _, _] ++ _)) | exact (List.Perm.refl _ : List.Perm _ ([_, _, _, _] ++ _)) | exact (List.Perm.refl _ : List.Perm _ ([_, _, _, _, _] ++ _))) (by first | exact fun _ h => h | exact fun _ h => List.mem_cons_of_mem _ h | exact fun _ h => List.mem_cons_of_mem _ (List.mem_cons_of_mem _ h)) (r_loado Tryd.underlying3 rfl rfl (by repeat constructor) (by rfl)).r ?_ | refine m_take 1 rfl (by kernel_rfl) (by decide) (by first | exact (List.Perm.refl _ : List.Perm _ ([] ++ _)) | exact (List.Perm.refl _ : List.Perm _ ([_] ++ _)) | exact (List.Perm.refl _ : List.Perm _ ([_, _] ++ _)) | exact (List.Perm.refl _ : List.Perm _ ([_, _, _] ++ _)) | exact (List.Perm.refl _ : List.Perm _ ([_, _, _, _] ++ _)) | exact (List.Perm.refl _ : List.Perm _ ([_, _, _, _, _] ++ _))) (by first | exact fun _ h => h | exact fun _ h => List.mem_cons_of_mem _ h | exact fun _ h => List.mem_cons_of_mem _ (List.mem_cons_of_mem _ h)) (r_load1 Tryd.underlying3 rfl rfl (by first | exact .fact (by repeat constructor) | exact .own (by repeat constructor) (by decide) (fun _ => rfl) | exact SlIn.reads (by repeat constructor) (by assumption)) (by first | assumption | rfl) (by rfl)).r ?_ | refine m_take 1 rfl (by kernel_rfl) (by decide) (by first | exact (List.Perm.refl _ : List.Perm _ ([] ++ _)) | exact (List.Perm.refl _ : List.Perm _ ([_] ++ _)) | exact (List.Perm.refl _ : List.Perm _ ([_, _] ++ _)) | exact (List.Perm.refl _ : List.Perm _ ([_, _, _] ++ _)) | exact (List.Perm.refl _ : List.Perm _ ([_, _, _, _] ++ _)) | exact (List.Perm.refl _ : List.Perm _ ([_, _, _, _, _] ++ _))) (by first | exact fun _ h => h | exact fun _ h => List.mem_cons_of_mem _ h | exact fun _ h => List.mem_cons_of_mem _ (List.mem_cons_of_mem _ h)) (r_loadf Tryd.underlying3 rfl rfl (by first | exact .fact (by repeat constructor) | exact .own (by repeat constructor) (by decide) (fun _ => rfl) | exact SlIn.reads (by repeat constructor) (by assumption)) (by assumption) (by rfl)).r ?_
  first | refine m_takep 2 rfl (by kernel_rfl) (by decide) (p_lss (j := 1) rfl rfl rfl rfl) ?_ | refine m_takep 2 rfl (by kernel_rfl) (by decide) (p_lssi rfl rfl) ?_
  refine m_takep 3 rfl (by kernel_rfl) (by decide) (p_move rfl) ?_
  first | refine c_splitd (t := 21) rfl (fun h21 => ?_) (fun h21 => ?_) | refine c_splitb (t := 21) rfl (fun h21 => ?_) (fun h21 => ?_)
  ·skip
   refine m_off 4 (j := 3) rfl (by kernel_rfl) rfl rfl (by first | (simp; done) | (simp [undef]; done)) (by decide) ?_
   refine m_off 5 (j := 3) rfl (by kernel_rfl) rfl rfl (by first | (simp; done) | (simp [undef]; done)) (by decide) ?_
   refine m_off 6 (j := 3) rfl (by kernel_rfl) rfl rfl (by first | (simp; done) | (simp [undef]; done)) (by decide) ?_
   refine m_takep 7 rfl (by kernel_rfl) (by decide) (p_pick rfl rfl) ?_
   refine m_takep 8 rfl (by kernel_rfl) (by decide) (p_move rfl) ?_
   refine m_off 9 (j := 8) rfl (by kernel_rfl) rfl rfl (by first | (simp; done) | (simp [undef]; done)) (by decide) ?_
   refine m_off 10 (j := 8) rfl (by kernel_rfl) rfl rfl (by first | (simp; done) | (simp [undef]; done)) (by decide) ?_
   refine m_off 11 (j := 8) rfl (by kernel_rfl) rfl rfl (by first | (simp; done) | (simp [undef]; done)) (by decide) ?_
   refine m_off 12 (j := 8) rfl (by kernel_rfl) rfl rfl (by first | (simp; done) | (simp [undef]; done)) (by decide) ?_
   refine m_off 13 (j := 8) rfl (by kernel_rfl) rfl rfl (by first | (simp; done) | (simp [undef]; done)) (by decide) ?_
   refine m_off 14 (j := 8) rfl (by kernel_rfl) rfl rfl (by first | (simp; done) | (simp [undef]; done)) (by decide) ?_
   refine m_off 15 (j := 8) rfl (by kernel_rfl) rfl rfl (by first | (simp; done) | (simp [undef]; done)) (by decide) ?_
   refine m_off 16 (j := 8) rfl (by kernel_rfl) rfl rfl (by first | (simp; done) | (simp [undef]; done)) (by decide) ?_
   refine m_off 17 (j := 8) rfl (by kernel_rfl) rfl rfl (by first | (simp; done) | (simp [undef]; done)) (by decide) ?_
   refine m_takep 18 rfl (by kernel_rfl) (by decide) (p_pick rfl rfl) ?_
   refine m_done (by kernel_rfl) ?_
   refine c_true rfl ?_
   refine c_seq ?_
   refine c_reg ?_
   refine l_q (by decide) (p_assign rfl).q ?_
   refine l_q (by decide) (p_assign (v := .int .i64 ((1 : Nat) : Int)) rfl).q ?_
   refine l_nil ?_
   refine c_ret ?_
   refine c_ret2 rfl rfl rfl (fun w hs => ?_)
   have hrn : Ed.run X.pl l = none := run_none hI hop (exec_kind (.inl h21))
   refine ⟨(0, none, 0), by rw [hrn]; rfl, ?_⟩
   refine give_q (x := (0, none, 0)) ?_ hs.ext
   exact fun s hs2 => by rw [hrn] at hs2; cases hs2
  ·skip
   first | refine m_takegp 4 (j := 3) rfl (by kernel_rfl) rfl rfl (by decide) (p_faddr (i := 0) 0 Tryd.underlying46 rfl inf_3 (by decide) rfl rfl) ?_ | refine m_takegp 4 (j := 3) rfl (by kernel_rfl) rfl rfl (by decide) (p_faddro (i := 0) 0 Tryd.underlying46 rfl inf_3 (by decide) rfl rfl) ?_
   first | refine m_takeg 5 (j := 3) rfl (by kernel_rfl) rfl rfl (by decide) (by first | exact (List.Perm.refl _ : List.Perm _ ([] ++ _)) | exact (List.Perm.refl _ : List.Perm _ ([_] ++ _)) | exact (List.Perm.refl _ : List.Perm _ ([_, _] ++ _)) | exact (List.Perm.refl _ : List.Perm _ ([_, _, _] ++ _)) | exact (List.Perm.refl _ : List.Perm _ ([_, _, _, _] ++ _)) | exact (List.Perm.refl _ : List.Perm _ ([_, _, _, _, _] ++ _))) (by first | exact fun _ h => h | exact fun _ h => List.mem_cons_of_mem _ h | exact fun _ h => List.mem_cons_of_mem _ (List.mem_cons_of_mem _ h)) (r_loado Tryd.underlying3 rfl rfl (by repeat constructor) (by rfl)).r ?_ | refine m_takeg 5 (j := 3) rfl (by kernel_rfl) rfl rfl (by decide) (by first | exact (List.Perm.refl _ : List.Perm _ ([] ++ _)) | exact (List.Perm.refl _ : List.Perm _ ([_] ++ _)) | exact (List.Perm.refl _ : List.Perm _ ([_, _] ++ _)) | exact (List.Perm.refl _ : List.Perm _ ([_, _, _] ++ _)) | exact (List.Perm.refl _ : List.Perm _ ([_, _, _, _] ++ _)) | exact (List.Perm.refl _ : List.Perm _ ([_, _, _, _, _] ++ _))) (by first | exact fun _ h => h | exact fun _ h => List.mem_cons_of_mem _ h | exact fun _ h => List.mem_cons_of_mem _ (List.mem_cons_of_mem _ h)) (r_load1 Tryd.underlying3 rfl rfl (by first | exact .fact (by repeat constructor) | exact .own (by repeat constructor) (by decide) (fun _ => rfl) | exact SlIn.reads (by repeat constructor) (by assumption)) (by first | assumption | rfl) (by rfl)).r ?_ | refine m_takeg 5 (j := 3) rfl (by kernel_rfl) rfl rfl (by decide) (by first | exact (List.Perm.refl _ : List.Perm _ ([] ++ _)) | exact (List.Perm.refl _ : List.Perm _ ([_] ++ _)) | exact (List.Perm.refl _ : List.Perm _ ([_, _] ++ _)) | exact (List.Perm.refl _ : List.Perm _ ([_, _, _] ++ _)) | exact (List.Perm.refl _ : List.Perm _ ([_, _, _, _] ++ _)) | exact (List.Perm.refl _ : List.Perm _ ([_, _, _, _, _] ++ _))) (by first | exact fun _ h => h | exact fun _ h => List.mem_cons_of_mem _ h | exact fun _ h => List.mem_cons_of_mem _ (List.mem_cons_of_mem _ h)) (r_loadf Tryd.underlying3 rfl rfl (by first | exact .fact (by repeat constructor) | exact .own (by repeat constructor) (by decide) (fun _ => rfl) | exact SlIn.reads (by repeat constructor) (by assumption)) (by assumption) (by rfl)).r ?_
   first | refine m_takegp 6 (j := 3) rfl (by kernel_rfl) rfl rfl (by decide) (p_gtr (j := 4) rfl rfl rfl rfl) ?_ | refine m_takegp 6 (j := 3) rfl (by kernel_rfl) rfl rfl (by decide) (p_gtri rfl rfl) ?_
   refine m_takep 7 rfl (by kernel_rfl) (by decide) (p_pick rfl rfl) ?_
   refine m_takep 8 rfl (by kernel_rfl) (by decide) (p_move rfl) ?_
   first | refine c_splitd (t := 26) rfl (fun h26 => ?_) (fun h26 => ?_) | refine c_splitb (t := 26) rfl (fun h26 => ?_) (fun h26 => ?_)
   ·skip
    refine m_off 9 (j := 8) rfl (by kernel_rfl) rfl rfl (by first | (simp; done) | (simp [undef]; done)) (by decide) ?_
    refine m_off 10 (j := 8) rfl (by kernel_rfl) rfl rfl (by first | (simp; done) | (simp [undef]; done)) (by decide) ?_
    refine m_off 11 (j := 8) rfl (by kernel_rfl) rfl rfl (by first | (simp; done) | (simp [undef]; done)) (by decide) ?_
    refine m_off 12 (j := 8) rfl (by kernel_rfl) rfl rfl (by first | (simp; done) | (simp [undef]; done)) (by decide) ?_
    refine m_off 13 (j := 8) rfl (by kernel_rfl) rfl rfl (by first | (simp; done) | (simp [undef]; done)) (by decide) ?_
    refine m_off 14 (j := 8) rfl (by kernel_rfl) rfl rfl (by first | (simp; done) | (simp [undef]; done)) (by decide) ?_
    refine m_off 15 (j := 8) rfl (by kernel_rfl) rfl rfl (by first | (simp; done) | (simp [undef]; done)) (by decide) ?_
    refine m_off 16 (j := 8) rfl (by kernel_rfl) rfl rfl (by first | (simp; done) | (simp [undef]; done)) (by decide) ?_
    refine m_off 17 (j := 8) rfl (by kernel_rfl) rfl rfl (by first | (simp; done) | (simp [undef]; done)) (by decide) ?_
    refine m_takep 18 rfl (by kernel_rfl) (by decide) (p_pick rfl rfl) ?_
    refine m_done (by kernel_rfl) ?_
    refine c_true rfl ?_
    refine c_seq ?_
    refine c_reg ?_
    refine l_q (by decide) (p_assign rfl).q ?_
    refine l_q (by decide) (p_assign (v := .int .i64 ((1 : Nat) : Int)) rfl).q ?_
    refine l_nil ?_
    refine c_ret ?_
    refine c_ret2 rfl rfl rfl (fun w hs => ?_)
    have hrn : Ed.run X.pl l = none := run_none hI hop (exec_kind (.inr (by omega)))
    refine ⟨(0, none, 0), by rw [hrn]; rfl, ?_⟩
    refine give_q (x := (0, none, 0)) ?_ hs.ext
    exact fun s hs2 => by rw [hrn] at hs2; cases hs2
   ·skip
    obtain ⟨kd, hkd⟩ := Int.eq_ofNat_of_zero_le (show 0 ≤ op.kind by omega)
    have hk1 : 1 ≤ kd := by omega
    have hk4 : kd ≤ 4 := by omega
    first | refine m_takegp 9 (j := 8) rfl (by kernel_rfl) rfl rfl (by decide) (p_faddr (i := 0) 0 Tryd.underlying46 rfl inf_3 (by decide) rfl rfl) ?_ | refine m_takegp 9 (j := 8) rfl (by kernel_rfl) rfl rfl (by decide) (p_faddro (i := 0) 0 Tryd.underlying46 rfl inf_3 (by decide) rfl rfl) ?_
    first | refine m_takeg 10 (j := 8) rfl (by kernel_rfl) rfl rfl (by decide) (by first | exact (List.Perm.refl _ : List.Perm _ ([] ++ _)) | exact (List.Perm.refl _ : List.Perm _ ([_] ++ _)) | exact (List.Perm.refl _ : List.Perm _ ([_, _] ++ _)) | exact (List.Perm.refl _ : List.Perm _ ([_, _, _] ++ _)) | exact (List.Perm.refl _ : List.Perm _ ([_, _, _, _] ++ _)) | exact (List.Perm.refl _ : List.Perm _ ([_, _, _, _, _] ++ _))) (by first | exact fun _ h => h | exact fun _ h => List.mem_cons_of_mem _ h | exact fun _ h => List.mem_cons_of_mem _ (List.mem_cons_of_mem _ h)) (((r_loado Tryd.underlying3 rfl rfl (by repeat constructor) (by rfl))).to (u := .int .i64 (kd : Int)) (by rw [hkd])).r ?_ | refine m_takeg 10 (j := 8) rfl (by kernel_rfl) rfl rfl (by decide) (by first | exact (List.Perm.refl _ : List.Perm _ ([] ++ _)) | exact (List.Perm.refl _ : List.Perm _ ([_] ++ _)) | exact (List.Perm.refl _ : List.Perm _ ([_, _] ++ _)) | exact (List.Perm.refl _ : List.Perm _ ([_, _, _] ++ _)) | exact (List.Perm.refl _ : List.Perm _ ([_, _, _, _] ++ _)) | exact (List.Perm.refl _ : List.Perm _ ([_, _, _, _, _] ++ _))) (by first | exact fun _ h => h | exact fun _ h => List.mem_cons_of_mem _ h | exact fun _ h => List.mem_cons_of_mem _ (List.mem_cons_of_mem _ h)) (((r_load1 Tryd.underlying3 rfl rfl (by first | exact .fact (by repeat constructor) | exact .own (by repeat constructor) (by decide) (fun _ => rfl) | exact SlIn.reads (by repeat constructor) (by assumption)) (by first | assumption | rfl) (by rfl))).to (u := .int .i64 (kd : Int)) (by rw [hkd])).r ?_ | refine m_takeg 10 (j := 8) rfl (by kernel_rfl) rfl rfl (by decide) (by first | exact (List.Perm.refl _ : List.Perm _ ([] ++ _)) | exact (List.Perm.refl _ : List.Perm _ ([_] ++ _)) | exact (List.Perm.refl _ : List.Perm _ ([_, _] ++ _)) | exact (List.Perm.refl _ : List.Perm _ ([_, _, _] ++ _)) | exact (List.Perm.refl _ : List.Perm _ ([_, _, _, _] ++ _)) | exact (List.Perm.refl _ : List.Perm _ ([_, _, _, _, _] ++ _))) (by first | exact fun _ h => h | exact fun _ h => List.mem_cons_of_mem _ h | exact fun _ h => List.mem_cons_of_mem _ (List.mem_cons_of_mem _ h)) (((r_loadf Tryd.underlying3 rfl rfl (by first | exact .fact (by repeat constructor) | exact .own (by repeat constructor) (by decide) (fun _ => rfl) | exact SlIn.reads (by repeat constructor) (by assumption)) (by assumption) (by rfl))).to (u := .int .i64 (kd : Int)) (by rw [hkd])).r ?_
    refine m_takegp 11 (j := 8) rfl (by kernel_rfl) rfl rfl (by decide) (p_indexarr Tryd.underlying68 inf_67 rfl rfl rfl (by omega)) ?_
    refine m_takeg 12 (j := 8) rfl (by kernel_rfl) rfl rfl (by decide) (by first | exact (List.Perm.refl _ : List.Perm _ ([] ++ _)) | exact (List.Perm.refl _ : List.Perm _ ([_] ++ _)) | exact (List.Perm.refl _ : List.Perm _ ([_, _] ++ _)) | exact (List.Perm.refl _ : List.Perm _ ([_, _, _] ++ _)) | exact (List.Perm.refl _ : List.Perm _ ([_, _, _, _] ++ _)) | exact (List.Perm.refl _ : List.Perm _ ([_, _, _, _, _] ++ _))) (by first | exact fun _ h => h | exact fun _ h => List.mem_cons_of_mem _ h | exact fun _ h => List.mem_cons_of_mem _ (List.mem_cons_of_mem _ h)) (r_loadq (q := ActF) (v := .func (.func (57 + kd)) #[] #[]) Tryd.underlying67 rfl rfl (by repeat constructor) (fun w hq => by rw [Nat.mul_one]; exact hq kd hk1 hk4)).r ?_
    refine m_takegp 13 (j := 8) rfl (by kernel_rfl) rfl rfl (by decide) (p_move rfl) ?_
    first | refine m_takegp 14 (j := 8) rfl (by kernel_rfl) rfl rfl (by decide) (p_faddr (i := 1) 1 Tryd.underlying46 rfl inf_3 (by decide) rfl rfl) ?_ | refine m_takegp 14 (j := 8) rfl (by kernel_rfl) rfl rfl (by decide) (p_faddro (i := 1) 1 Tryd.underlying46 rfl inf_3 (by decide) rfl rfl) ?_
    first | refine m_takeg 15 (j := 8) rfl (by kernel_rfl) rfl rfl (by decide) (by first | exact (List.Perm.refl _ : List.Perm _ ([] ++ _)) | exact (List.Perm.refl _ : List.Perm _ ([_] ++ _)) | exact (List.Perm.refl _ : List.Perm _ ([_, _] ++ _)) | exact (List.Perm.refl _ : List.Perm _ ([_, _, _] ++ _)) | exact (List.Perm.refl _ : List.Perm _ ([_, _, _, _] ++ _)) | exact (List.Perm.refl _ : List.Perm _ ([_, _, _, _, _] ++ _))) (by first | exact fun _ h => h | exact fun _ h => List.mem_cons_of_mem _ h | exact fun _ h => List.mem_cons_of_mem _ (List.mem_cons_of_mem _ h)) (r_loado Tryd.underlying3 rfl rfl (by repeat constructor) (by rfl)).r ?_ | refine m_takeg 15 (j := 8) rfl (by kernel_rfl) rfl rfl (by decide) (by first | exact (List.Perm.refl _ : List.Perm _ ([] ++ _)) | exact (List.Perm.refl _ : List.Perm _ ([_] ++ _)) | exact (List.Perm.refl _ : List.Perm _ ([_, _] ++ _)) | exact (List.Perm.refl _ : List.Perm _ ([_, _, _] ++ _)) | exact (List.Perm.refl _ : List.Perm _ ([_, _, _, _] ++ _)) | exact (List.Perm.refl _ : List.Perm _ ([_, _, _, _, _] ++ _))) (by first | exact fun _ h => h | exact fun _ h => List.mem_cons_of_mem _ h | exact fun _ h => List.mem_cons_of_mem _ (List.mem_cons_of_mem _ h)) (r_load1 Tryd.underlying3 rfl rfl (by first | exact .fact (by repeat constructor) | exact .own (by repeat constructor) (by decide) (fun _ => rfl) | exact SlIn.reads (by repeat constructor) (by assumption)) (by first | assumption | rfl) (by rfl)).r ?_ | refine m_takeg 15 (j := 8) rfl (by kernel_rfl) rfl rfl (by decide) (by first | exact (List.Perm.refl _ : List.Perm _ ([] ++ _)) | exact (List.Perm.refl _ : List.Perm _ ([_] ++ _)) | exact (List.Perm.refl _ : List.Perm _ ([_, _] ++ _)) | exact (List.Perm.refl _ : List.Perm _ ([_, _, _] ++ _)) | exact (List.Perm.refl _ : List.Perm _ ([_, _, _, _] ++ _)) | exact (List.Perm.refl _ : List.Perm _ ([_, _, _, _, _] ++ _))) (by first | exact fun _ h => h | exact fun _ h => List.mem_cons_of_mem _ h | exact fun _ h => List.mem_cons_of_mem _ (List.mem_cons_of_mem _ h)) (r_loadf Tryd.underlying3 rfl rfl (by first | exact .fact (by repeat constructor) | exact .own (by repeat constructor) (by decide) (fun _ => rfl) | exact SlIn.reads (by repeat constructor) (by assumption)) (by assumption) (by rfl)).r ?_
    refine m_run 16 rfl (by kernel_rfl) ?_
    refine l_strip (j := 8) rfl rfl ?_
    refine l_perm (List.Perm.append_right [_] (List.perm_append_comm (l₁ := [_]) (l₂ := [_, _]))) ?_
    refine l_callov (τ := [iCells b11 56 [.slice X.A X.xs.length X.c, .slice X.B X.ins.length X.d, .int .i64 X.sw, .int .i64 (st.at_ : Int), .slice A1 (st.out).length d1, .int .i64 (st.cost)], iSl 3 1 intF A1 d1 (st.out)]) (σ := [iCells b8 46 (opF op), iCells b2 25 [.slice X.A X.xs.length X.c, .slice X.B X.ins.length X.d, .int .i64 X.sw]]) (fun _ => .bool (Ed.exec X.pl st op).isSome) (fun xx : Option Addr × Nat => [iCells b11 56 [.slice X.A X.xs.length X.c, .slice X.B X.ins.length X.d, .int .i64 X.sw, .int .i64 (((Ed.exec X.pl st op).getD st).at_ : Int), .slice xx.1 (((Ed.exec X.pl st op).getD st).out).length xx.2, .int .i64 (((Ed.exec X.pl st op).getD st).cost)], iSl 3 1 intF xx.1 xx.2 (((Ed.exec X.pl st op).getD st).out)]) (by decide) (act_call hk1 hk4) rfl rfl (fun w hs => act_ok b11 X hX hO st A1 d1 _ w hI.at_ hI.c0 hI.c1 (by have := hI.n; have := hI.hk; omega) op kd hkd hk1 hk4 (St.less hs (fun q hq => List.mem_cons_of_mem _ (List.mem_cons_of_mem _ hq)))) (fun xx34 => ?_)
    refine l_nil ?_
    refine m_late rfl ?_
    first | refine m_takegp 17 (j := 8) rfl (by kernel_rfl) rfl rfl (by decide) (p_notd rfl) ?_ | refine m_takegp 17 (j := 8) rfl (by kernel_rfl) rfl rfl (by decide) (p_not rfl) ?_
    refine m_takep 18 rfl (by kernel_rfl) (by decide) (p_pick rfl rfl) ?_
    refine m_done (by kernel_rfl) ?_
    first | refine c_dec rfl (fun h36 => ?_) (fun h36 => ?_) | refine c_cond rfl (fun h36 => ?_) (fun h36 => ?_)
    ·skip
     refine c_seq ?_
     refine c_reg ?_
     refine l_q (by decide) (p_assign rfl).q ?_
     refine l_q (by decide) (p_assign (v := .int .i64 ((1 : Nat) : Int)) rfl).q ?_
     refine l_nil ?_
     refine c_ret ?_
     refine c_ret2 rfl rfl rfl (fun w hs => ?_)
     have hrn : Ed.run X.pl l = none := run_none hI hop (by cases he : Ed.exec X.pl st op with | none => rfl | some s => rw [he] at h36; simp at h36)
     refine ⟨(0, none, 0), by rw [hrn]; rfl, ?_⟩
     refine give_q (x := (0, none, 0)) ?_ hs.ext
     exact fun s hs2 => by rw [hrn] at hs2; cases hs2
    ·skip
     refine c_skip ?_
     refine c_reg ?_
     first | refine l_q (by decide) (p_add (j := 1) rfl rfl rfl rfl (by show _ ≤ (9223372036854775807 : Nat); omega)).q ?_ | refine l_q (by decide) (p_addi rfl rfl (by show (-9223372036854775808 : Int) ≤ _; omega) (by show _ ≤ ((9223372036854775807 : Nat) : Int); omega)).q ?_
     refine l_q (by decide) (p_move rfl).q ?_
     refine l_nil ?_
     first | (refine c_drop (x := iCells b8 _ _) ?_) | (refine c_perm (front1 _ _ _) ?_; refine c_drop (x := iCells b8 _ _) ?_) | (refine c_perm (front2 _ _ _ _) ?_; refine c_drop (x := iCells b8 _ _) ?_) | (refine c_perm (front3 _ _ _ _ _) ?_; refine c_drop (x := iCells b8 _ _) ?_) | (refine c_perm (front4 _ _ _ _ _ _) ?_; refine c_drop (x := iCells b8 _ _) ?_)
     refine c_join ((k + 1), (((Ed.exec X.pl st op).getD st)), (xx34.1), (xx34.2)) ?_ ?_ ?_ ?_
     ·show (RunI X l (k + 1) (((Ed.exec X.pl st op).getD st))) ∧ l.length - (k + 1) < l.length - k
      have hex : Ed.exec X.pl st op = some ((Ed.exec X.pl st op).getD st) := by
        cases he : Ed.exec X.pl st op with
        | none => rw [he] at h36; simp at h36
        | some s => rfl
      exact ⟨hI.next hO hop hex, by omega⟩
     · exact ⟨rfl, rfl, rfl, rfl, rfl, trivial⟩
     ·show List.Perm _ ([iCells b11 56 [.slice X.A X.xs.length X.c, .slice X.B X.ins.length X.d, .int .i64 X.sw, .int .i64 ((((Ed.exec X.pl st op).getD st)).at_ : Int), .slice (xx34.1) ((((Ed.exec X.pl st op).getD st)).out).length (xx34.2), .int .i64 ((((Ed.exec X.pl st op).getD st)).cost)], iSl 3 1 intF (xx34.1) (xx34.2) ((((Ed.exec X.pl st op).getD st)).out), iCells b2 25 [.slice X.A X.xs.length X.c, .slice X.B X.ins.length X.d, .int .i64 X.sw]])
      exact .refl _
     · exact fun _ h => h
 ·skip
  refine c_exit ?_
  refine c_here ?_
  refine c_seq ?_
  refine c_seq ?_
  refine c_draw mixed (by decide +kernel) ?_
  refine q_q (by decide) (p_move rfl).q ?_
  refine q_q (by decide) (p_nilp rfl).q ?_
  first | refine q_q (by decide) (p_faddr (i := 1) 3 Tryd.underlying56 rfl inf_3 (by decide) rfl rfl).q ?_ | refine q_q (by decide) (p_faddro (i := 1) 3 Tryd.underlying56 rfl inf_3 (by decide) rfl rfl).q ?_
  first | refine q_q (by decide) (r_loado Tryd.underlying3 rfl rfl (by repeat constructor) (by rfl)).q ?_ | refine q_q (by decide) (r_load1 Tryd.underlying3 rfl rfl (by first | exact .fact (by repeat constructor) | exact .own (by repeat constructor) (by decide) (fun _ => rfl) | exact SlIn.reads (by repeat constructor) (by assumption)) (by first | assumption | rfl) (by rfl)).q ?_ | refine q_q (by decide) (r_loadf Tryd.underlying3 rfl rfl (by first | exact .fact (by repeat constructor) | exact .own (by repeat constructor) (by decide) (fun _ => rfl) | exact SlIn.reads (by repeat constructor) (by assumption)) (by assumption) (by rfl)).q ?_
  first | refine q_q (by decide) (p_faddr (i := 0) 0 Tryd.underlying25 rfl inf_22 (by decide) rfl rfl).q ?_ | refine q_q (by decide) (p_faddro (i := 0) 0 Tryd.underlying25 rfl inf_22 (by decide) rfl rfl).q ?_
  first | refine q_q (by decide) (r_loado Tryd.underlying22 rfl rfl (by repeat constructor) (by rfl)).q ?_ | refine q_q (by decide) (r_load1 Tryd.underlying22 rfl rfl (by first | exact .fact (by repeat constructor) | exact .own (by repeat constructor) (by decide) (fun _ => rfl) | exact SlIn.reads (by repeat constructor) (by assumption)) (by first | assumption | rfl) (by rfl)).q ?_ | refine q_q (by decide) (r_loadf Tryd.underlying22 rfl rfl (by first | exact .fact (by repeat constructor) | exact .own (by repeat constructor) (by decide) (fun _ => rfl) | exact SlIn.reads (by repeat constructor) (by assumption)) (by assumption) (by rfl)).q ?_
  refine q_q (by decide) (p_len_sl Tryd.underlying22 rfl).q ?_
  first | refine q_q (by decide) (p_neq rfl rfl rfl rfl).q ?_ | refine q_q (by decide) (p_neqi rfl rfl).q ?_
  refine q_nil ?_
  first | refine c_dec rfl (fun h45 => ?_) (fun h45 => ?_) | refine c_cond rfl (fun h45 => ?_) (fun h45 => ?_)
  ·skip
   refine c_seq ?_
   refine c_reg ?_
   refine l_q (by decide) (p_assign rfl).q ?_
   refine l_q (by decide) (p_assign (v := .int .i64 ((1 : Nat) : Int)) rfl).q ?_
   refine l_nil ?_
   refine c_ret ?_
   refine c_ret2 rfl rfl rfl (fun w hs => ?_)
   have hrn : Ed.run X.pl l = none := by rw [run_end hI h15, if_neg (by omega)]
   refine ⟨(0, none, 0), by rw [hrn]; rfl, ?_⟩
   refine give_q (x := (0, none, 0)) ?_ hs.ext
   exact fun s hs2 => by rw [hrn] at hs2; cases hs2
  ·skip
   refine c_skip ?_
   refine c_seq ?_
   refine c_reg ?_
   refine l_q (by decide) (p_move rfl).q ?_
   refine l_q (by decide) (p_assign rfl).q ?_
   refine l_q (by decide) (p_assign (v := .int .i64 ((0 : Nat) : Int)) rfl).q ?_
   refine l_nil ?_
   refine c_ret ?_
   refine c_ret2 rfl rfl rfl (fun w hs => ?_)
   have hrn : Ed.run X.pl l = some st := by rw [run_end hI h15, if_pos (by omega)]
   have h1 := hs.own _ (List.mem_cons_self ..)
   have k1 := h1.2.2 b11 (by simp [iCells])
   have g := hs.give (e := 3) (size := 1) (f := intF) (es := st.out) (by repeat constructor) (by decide) len_intF
   have g2 := hs.own (iSl 3 1 intF A1 d1 st.out) (by repeat constructor)
   refine ⟨(b11, A1, d1), by rw [hrn]; rfl, ?_⟩
   refine give_q (x := (b11, A1, d1)) ?_ hs.ext
   exact fun s hs2 => by
     rw [hrn] at hs2; injection hs2 with hs2; subst hs2
     refine ⟨by rw [cells_cell h1.1]; rfl, by rw [cells_cell h1.1]; rfl, by simpa using k1.2, fun ad had => ?_, g.1⟩
     have := (g2.2.2 ad.block (by have had : A1 = some ad := had; subst had; simp [iSl, iRow, Value.ownBlock])).2
     simpa using this
end Go.Proofs.YtlefheiohblgdaaDoor
