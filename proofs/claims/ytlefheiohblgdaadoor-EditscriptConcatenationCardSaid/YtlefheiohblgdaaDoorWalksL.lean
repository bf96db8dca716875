/- The walks of edit scripts, twelfth part; conditions: lengths. -/
import Derived.Test.YtlefheiohblgdaaDoorWalksK
namespace Go.Proofs.YtlefheiohblgdaaDoor
open Go Go.Fx Go.Proofs

section
variable {P : Program} {w0 : World} {K : List Nat} {L : Slots} {σ : Fx.Own} {ρ : Fx.Facts}
theorem c_retcw2 {m : Nat} {fn : Func} {T : Value → World → Prop} {t s : Nat} {u : Value} {ty e : TypeId} {d : TypeDesc} {b size bytes : Nat} {z : Value} {vs : List Value} (hr : fn.results = #[.cell t ty, .tmp s]) (hv : Fx.look L t = some (.pointer (some ⟨b, 0, none⟩))) (hs' : Fx.look L s = some u) (hd : P.underlying ty = some d) (ha : isAggD d = true) (hi : InfoIs P ty size bytes z)
    (hq : iCells b e vs ∈ σ) (hu : vs.length = size) (h : ∀ w, Fx.St w0 K w σ ρ → T (.tuple #[.agg vs.toArray, u]) w) : Cont w0 K ⟨m, []⟩ (RetP P fn T) L σ ρ := fun a w hf hs => by
  refine ⟨hf.dfr, _, ?_, h w hs⟩
  have hc := cells_cell (hs.own _ hq).1
  have h1 := run_loadCells_of (P := P) w b 0 vs (fun j u hj => by rw [hc, Nat.zero_add]; exact hj)
  rw [hu] at h1
  have h2 := hf.at_ t _ hv
  have h3 := hf.at_ s _ hs'
  simp [results, hr, Array.getD_eq_getD_getElem?, h2, h3, asAddr, loadVar, run_isAgg hd, ha, run_sizeOf' hi, h1]
end
def colAt (X : Inp) (i : Nat) : XCol := (X.xs[i]?).getD ⟨none, 0, ⟨0, [], 0⟩⟩
theorem colAt_lt {X : Inp} {i : Nat} (h : i < X.xs.length) : X.xs[i]? = some (colAt X i) := by
  obtain ⟨x, hx⟩ := at_some h
  unfold colAt; rw [hx]; rfl
theorem colAt_ge {X : Inp} {i : Nat} (h : ¬ i < X.xs.length) : colAt X i = ⟨none, 0, ⟨0, [], 0⟩⟩ := by unfold colAt; rw [List.getElem?_eq_none (by omega)]; rfl
theorem sub3 {a b c u : Value} {r : List Value} {j : Nat} (h : [a, b, c][j]? = some u) : (a :: b :: c :: r)[0 + j]? = some u := by
  match j, h with
  | 0, h => exact h
  | 1, h => exact h
  | 2, h => exact h
theorem St.less {w0 w : World} {K : List Nat} {σ : Fx.Own} {ρ ρ' : Fx.Facts} (h : Fx.St w0 K w σ ρ) (hs : ∀ q, q ∈ ρ' → q ∈ ρ) : Fx.St w0 K w σ ρ' := ⟨h.ext, h.nodup, h.own, fun q hq => h.facts q (hs q hq)⟩
theorem exec_none1 {X : Inp} {st : Ed.St} {t : Int} (hlen : st.at_ < X.xs.length → (colAt X st.at_).o.read.length = X.ins.length) (h : ¬ (st.at_ < X.xs.length ∧ 0 ≤ t ∧ t < (colAt X st.at_).o.read.length ∧ 0 ≤ ((colAt X st.at_).o.read[t.toNat]?).getD 0)) : Ed.exec X.pl st ⟨1, t⟩ = none :=
  exec_no (x := colAt X st.at_) (r := ((colAt X st.at_).o.read[t.toNat]?).getD 0) colAt_lt hlen (fun h1 h2 h3 => by
    have := hlen h1
    obtain ⟨r, hr⟩ := at_some (l := (colAt X st.at_).o.read) (n := t.toNat) (by have h3 : t < X.ins.length := h3; omega)
    show (colAt X st.at_).o.read[t.toNat]? = _
    rw [hr]; rfl) (fun h1 => h ⟨h1.2.1, h1.2.2.1.1, by rw [hlen h1.2.1]; exact h1.2.2.1.2, h1.2.2.2⟩) (fun h1 => by cases h1.1) (fun h1 => by cases h1.1) (fun h1 => by cases h1.1)
theorem pl_44 : PlacesIs Tryd.prog 44 [(0, 1), (1, 1), (2, 1)] := ⟨_, Tryd.underlying44, by kernel_rfl⟩
theorem emit_ok (b : Nat) (c0 c1 c2 c3 c5 : Value) (A : Option Addr) (d : Nat) (o : List Int) (t : Int) (ho : o.length ≤ 1000000) (K : List Nat) (ρ : Facts) (w : World) (h : Fx.St w K w [iCells b 56 [c0, c1, c2, c3, .slice A o.length d, c5], iSl 3 1 intF A d o] ρ) :
   Calls Tryd.prog 56 #[.pointer (some ⟨b, 0, none⟩), .int .i64 t] w (Ret fun v w' => ∃ (x : Option Addr × Nat) (ρ' : Facts), v = .tuple #[] ∧ Fx.St w K w' [iCells b 56 [c0, c1, c2, c3, .slice x.1 (o ++ [t]).length x.2, c5], iSl 3 1 intF x.1 x.2 (o ++ [t])] ρ') := by
 refine calls_fx (l := [.pointer (some ⟨b, 0, none⟩), .int .i64 t]) Tryd.func56 rfl Tryd.ntmps56 (Nat.le_of_ble_eq_true rfl) h ?_
 refine c_seq ?_
 refine c_reg ?_
 refine l_q (by decide) (p_move rfl).q ?_
 refine l_q (by decide) (p_nilp rfl).q ?_
 first | refine l_q (by decide) (p_faddr (i := 2) 4 Tryd.underlying56 rfl inf_23 (by decide) rfl rfl).q ?_ | refine l_q (by decide) (p_faddro (i := 2) 4 Tryd.underlying56 rfl inf_23 (by decide) rfl rfl).q ?_
 first | refine l_q (by decide) (r_loado Tryd.underlying23 rfl rfl (by repeat constructor) (by rfl)).q ?_ | refine l_q (by decide) (r_load1 Tryd.underlying23 rfl rfl (by first | exact .fact (by repeat constructor) | exact .own (by repeat constructor) (by decide) (fun _ => rfl) | exact SlIn.reads (by repeat constructor) (by assumption)) (by first | assumption | rfl) (by rfl)).q ?_ | refine l_q (by decide) (r_loadf Tryd.underlying23 rfl rfl (by first | exact .fact (by repeat constructor) | exact .own (by repeat constructor) (by decide) (fun _ => rfl) | exact SlIn.reads (by repeat constructor) (by assumption)) (by assumption) (by rfl)).q ?_
 refine l_q (by decide) (p_assign rfl).q ?_
 refine l_nil ?_
 refine c_reg ?_
 refine l_q (by decide) (p_move rfl).q ?_
 refine l_q (by decide) (p_move rfl).q ?_
 refine l_q (by decide) (p_move rfl).q ?_
 refine l_buildSlice (by decide) Tryd.underlying23 inf_3 (by decide) (by decide) rfl rfl rfl rfl (fun b12 => ?_)
 first | (refine l_append1 (t) (by decide) Tryd.underlying23 inf_3 rfl (by decide) rfl rfl rfl rfl rfl rfl (by omega) (by omega) (fun A13 c13 hA13 => ?_)) | (refine l_perm (.cons _ (front1 _ _ _)) ?_; refine l_append1 (t) (by decide) Tryd.underlying23 inf_3 rfl (by decide) rfl rfl rfl rfl rfl rfl (by omega) (by omega) (fun A13 c13 hA13 => ?_)) | (refine l_perm (.cons _ (front2 _ _ _ _)) ?_; refine l_append1 (t) (by decide) Tryd.underlying23 inf_3 rfl (by decide) rfl rfl rfl rfl rfl rfl (by omega) (by omega) (fun A13 c13 hA13 => ?_))
 refine l_q (by decide) (p_nilp rfl).q ?_
 first | refine l_q (by decide) (p_faddr (i := 2) 4 Tryd.underlying56 rfl inf_23 (by decide) rfl rfl).q ?_ | refine l_q (by decide) (p_faddro (i := 2) 4 Tryd.underlying56 rfl inf_23 (by decide) rfl rfl).q ?_
 first | (refine l_store inf_23 rfl rfl rfl rfl (by first | decide | exact Nat.le_of_ble_eq_true rfl | (simp; done) | omega | (simp only [Nat.mul_one]; assumption)) ?_) | (refine l_perm (front1 _ _ _) ?_; refine l_store inf_23 rfl rfl rfl rfl (by first | decide | exact Nat.le_of_ble_eq_true rfl | (simp; done) | omega | (simp only [Nat.mul_one]; assumption)) ?_) | (refine l_perm (front2 _ _ _ _) ?_; refine l_store inf_23 rfl rfl rfl rfl (by first | decide | exact Nat.le_of_ble_eq_true rfl | (simp; done) | omega | (simp only [Nat.mul_one]; assumption)) ?_) | (refine l_perm (front3 _ _ _ _ _) ?_; refine l_store inf_23 rfl rfl rfl rfl (by first | decide | exact Nat.le_of_ble_eq_true rfl | (simp; done) | omega | (simp only [Nat.mul_one]; assumption)) ?_) | (refine l_perm (front4 _ _ _ _ _ _) ?_; refine l_store inf_23 rfl rfl rfl rfl (by first | decide | exact Nat.le_of_ble_eq_true rfl | (simp; done) | omega | (simp only [Nat.mul_one]; assumption)) ?_)
 refine l_nil ?_
 refine c_ret0 rfl (fun w hs => ?_)
 exact ⟨(A13, c13), ρ, rfl, hs⟩

theorem next_ok (b : Nat) (X : Inp) (hX : X.small) (hO : Ed.Okin X.pl) (st : Ed.St) (A : Option Addr) (d : Nat) (K : List Nat) (w : World) (h : Fx.St w K w [iCells b 56 [.slice X.A X.xs.length X.c, .slice X.B X.ins.length X.d, .int .i64 X.sw, .int .i64 (st.at_ : Int), .slice A (st.out).length d, .int .i64 (st.cost)], iSl 3 1 intF A d (st.out)] [Rd X.xs, Sl 1 intF X.B X.ins, Sl 3 colF X.A X.xs]) :
   Calls Tryd.prog 62 #[.pointer (some ⟨b, 0, none⟩)] w (Ret fun v w' => ∃ (_ : Unit) (ρ' : Facts), v = .tuple #[.agg (colF (colAt X st.at_)).toArray, .bool (decide (st.at_ < X.xs.length))] ∧ Fx.St w K w' [iCells b 56 [.slice X.A X.xs.length X.c, .slice X.B X.ins.length X.d, .int .i64 X.sw, .int .i64 (st.at_ : Int), .slice A (st.out).length d, .int .i64 (st.cost)], iSl 3 1 intF A d (st.out)] ρ') := by
 have _ := hX
 have _ := hO
 refine calls_fx (l := [.pointer (some ⟨b, 0, none⟩)]) Tryd.func62 rfl Tryd.ntmps62 (Nat.le_of_ble_eq_true rfl) h ?_
 refine c_seq ?_
 refine c_reg ?_
 refine l_alloc (by decide) inf_44 _ rfl (fun b2 => ?_)
 refine l_q (by decide) (p_assign rfl).q ?_
 refine l_nil ?_
 refine c_seq ?_
 refine c_seq ?_
 refine c_draw mixed (by decide +kernel) ?_
 refine q_q (by decide) (p_move rfl).q ?_
 refine q_q (by decide) (p_nilp rfl).q ?_
 first | refine q_q (by decide) (p_faddr (i := 1) 3 Tryd.underlying56 rfl inf_3 (by decide) rfl rfl).q ?_ | refine q_q (by decide) (p_faddro (i := 1) 3 Tryd.underlying56 rfl inf_3 (by decide) rfl rfl).q ?_
 first | refine q_q (by decide) (r_loado Tryd.underlying3 rfl rfl (by repeat constructor) (by rfl)).q ?_ | refine q_q (by decide) (r_load1 Tryd.underlying3 rfl rfl (by first | exact .fact (by repeat constructor) | exact .own (by repeat constructor) (by decide) (fun _ => rfl) | exact SlIn.reads (by repeat constructor) (by assumption)) (by first | assumption | rfl) (by rfl)).q ?_ | refine q_q (by decide) (r_loadf Tryd.underlying3 rfl rfl (by first | exact .fact (by repeat constructor) | exact .own (by repeat constructor) (by decide) (fun _ => rfl) | exact SlIn.reads (by repeat constructor) (by assumption)) (by assumption) (by rfl)).q ?_
 refine q_q (by decide) (p_move rfl).q ?_
 refine q_q (by decide) (p_nilp rfl).q ?_
 first | refine q_q (by decide) (p_faddr (i := 0) 0 Tryd.underlying56 rfl inf_25 (by decide) rfl rfl).q ?_ | refine q_q (by decide) (p_faddro (i := 0) 0 Tryd.underlying56 rfl inf_25 (by decide) rfl rfl).q ?_
 first | refine q_q (by decide) (p_faddr (i := 0) 0 Tryd.underlying25 rfl inf_22 (by decide) rfl rfl).q ?_ | refine q_q (by decide) (p_faddro (i := 0) 0 Tryd.underlying25 rfl inf_22 (by decide) rfl rfl).q ?_
 first | refine q_q (by decide) (r_loado Tryd.underlying22 rfl rfl (by repeat constructor) (by rfl)).q ?_ | refine q_q (by decide) (r_load1 Tryd.underlying22 rfl rfl (by first | exact .fact (by repeat constructor) | exact .own (by repeat constructor) (by decide) (fun _ => rfl) | exact SlIn.reads (by repeat constructor) (by assumption)) (by first | assumption | rfl) (by rfl)).q ?_ | refine q_q (by decide) (r_loadf Tryd.underlying22 rfl rfl (by first | exact .fact (by repeat constructor) | exact .own (by repeat constructor) (by decide) (fun _ => rfl) | exact SlIn.reads (by repeat constructor) (by assumption)) (by assumption) (by rfl)).q ?_
 refine q_q (by decide) (p_len_sl Tryd.underlying22 rfl).q ?_
 first | refine q_q (by decide) (p_geq rfl rfl rfl rfl).q ?_ | refine q_q (by decide) (p_geqi rfl rfl).q ?_
 refine q_nil ?_
 first | refine c_dec rfl (fun h14 => ?_) (fun h14 => ?_) | refine c_cond rfl (fun h14 => ?_) (fun h14 => ?_)
 ·skip
  refine c_seq ?_
  refine c_reg ?_
  refine l_q (by decide) (p_build (cells := #[_, _, _]) inf_44 pl_44 rfl rfl).q ?_
  first | (refine l_storew inf_44 rfl rfl rfl rfl rfl ?_) | (refine l_perm (front1 _ _ _) ?_; refine l_storew inf_44 rfl rfl rfl rfl rfl ?_) | (refine l_perm (front2 _ _ _ _) ?_; refine l_storew inf_44 rfl rfl rfl rfl rfl ?_) | (refine l_perm (front3 _ _ _ _ _) ?_; refine l_storew inf_44 rfl rfl rfl rfl rfl ?_) | (refine l_perm (front4 _ _ _ _ _ _) ?_; refine l_storew inf_44 rfl rfl rfl rfl rfl ?_) | (refine l_storea inf_44 rfl rfl rfl rfl (by decide) ?_) | (refine l_perm (front1 _ _ _) ?_; refine l_storea inf_44 rfl rfl rfl rfl (by decide) ?_) | (refine l_perm (front2 _ _ _ _) ?_; refine l_storea inf_44 rfl rfl rfl rfl (by decide) ?_)
  refine l_q (by decide) (p_assign rfl).q ?_
  refine l_nil ?_
  refine c_ret ?_
  refine c_retcw2 rfl rfl rfl Tryd.underlying44 rfl inf_44 (by repeat constructor) (by rfl) (fun w hs => ?_)
  exact ⟨(), _, by rw [colAt_ge (by omega), decide_eq_false (by omega)]; rfl, hs.drop⟩
 ·skip
  have hx := colAt_lt (X := X) (i := st.at_) (by omega)
  refine c_skip ?_
  refine c_seq ?_
  refine m_draw [11] mixed ?_
  refine m_takep 0 rfl (by kernel_rfl) (by decide) (p_move rfl) ?_
  refine m_takep 1 rfl (by kernel_rfl) (by decide) (p_nilp rfl) ?_
  first | refine m_takep 2 rfl (by kernel_rfl) (by decide) (p_faddr (i := 0) 0 Tryd.underlying56 rfl inf_25 (by decide) rfl rfl) ?_ | refine m_takep 2 rfl (by kernel_rfl) (by decide) (p_faddro (i := 0) 0 Tryd.underlying56 rfl inf_25 (by decide) rfl rfl) ?_
  first | refine m_takep 3 rfl (by kernel_rfl) (by decide) (p_faddr (i := 0) 0 Tryd.underlying25 rfl inf_22 (by decide) rfl rfl) ?_ | refine m_takep 3 rfl (by kernel_rfl) (by decide) (p_faddro (i := 0) 0 Tryd.underlying25 rfl inf_22 (by decide) rfl rfl) ?_
  first | refine m_take 4 rfl (by kernel_rfl) (by decide) (by first | exact (List.Perm.refl _ : List.Perm _ ([] ++ _)) | exact (List.Perm.refl _ : List.Perm _ ([_] ++ _)) | exact (List.Perm.refl _ : List.Perm _ ([_, _] ++ _)) | exact (List.Perm.refl _ : List.Perm _ ([_, _, _] ++ _)) | exact (List.Perm.refl _ : List.Perm _ ([_, _, _, _] ++ _)) | exact (List.Perm.refl _ : List.Perm _ ([_, _, _, _, _] ++ _))) (by first | exact fun _ h => h | exact fun _ h => List.mem_cons_of_mem _ h | exact fun _ h => List.mem_cons_of_mem _ (List.mem_cons_of_mem _ h)) (r_loado Tryd.underlying22 rfl rfl (by repeat constructor) (by rfl)).r ?_ | refine m_take 4 rfl (by kernel_rfl) (by decide) (by first | exact (List.Perm.refl _ : List.Perm _ ([] ++ _)) | exact (List.Perm.refl _ : List.Perm _ ([_] ++ _)) | exact (List.Perm.refl _ : List.Perm _ ([_, _] ++ _)) | exact (List.Perm.refl _ : List.Perm _ ([_, _, _] ++ _)) | exact (List.Perm.refl _ : List.Perm _ ([_, _, _, _] ++ _)) | exact (List.Perm.refl _ : List.Perm _ ([_, _, _, _, _] ++ _))) (by first | exact fun _ h => h | exact fun _ h => List.mem_cons_of_mem _ h | exact fun _ h => List.mem_cons_of_mem _ (List.mem_cons_of_mem _ h)) (r_load1 Tryd.underlying22 rfl rfl (by first | exact .fact (by repeat constructor) | exact .own (by repeat constructor) (by decide) (fun _ => rfl) | exact SlIn.reads (by repeat constructor) (by assumption)) (by first | assumption | rfl) (by rfl)).r ?_ | refine m_take 4 rfl (by kernel_rfl) (by decide) (by first | exact (List.Perm.refl _ : List.Perm _ ([] ++ _)) | exact (List.Perm.refl _ : List.Perm _ ([_] ++ _)) | exact (List.Perm.refl _ : List.Perm _ ([_, _] ++ _)) | exact (List.Perm.refl _ : List.Perm _ ([_, _, _] ++ _)) | exact (List.Perm.refl _ : List.Perm _ ([_, _, _, _] ++ _)) | exact (List.Perm.refl _ : List.Perm _ ([_, _, _, _, _] ++ _))) (by first | exact fun _ h => h | exact fun _ h => List.mem_cons_of_mem _ h | exact fun _ h => List.mem_cons_of_mem _ (List.mem_cons_of_mem _ h)) (r_loadf Tryd.underlying22 rfl rfl (by first | exact .fact (by repeat constructor) | exact .own (by repeat constructor) (by decide) (fun _ => rfl) | exact SlIn.reads (by repeat constructor) (by assumption)) (by assumption) (by rfl)).r ?_
  refine m_takep 5 rfl (by kernel_rfl) (by decide) (p_move rfl) ?_
  refine m_takep 6 rfl (by kernel_rfl) (by decide) (p_nilp rfl) ?_
  first | refine m_takep 7 rfl (by kernel_rfl) (by decide) (p_faddr (i := 1) 3 Tryd.underlying56 rfl inf_3 (by decide) rfl rfl) ?_ | refine m_takep 7 rfl (by kernel_rfl) (by decide) (p_faddro (i := 1) 3 Tryd.underlying56 rfl inf_3 (by decide) rfl rfl) ?_
  first | refine m_take 8 rfl (by kernel_rfl) (by decide) (by first | exact (List.Perm.refl _ : List.Perm _ ([] ++ _)) | exact (List.Perm.refl _ : List.Perm _ ([_] ++ _)) | exact (List.Perm.refl _ : List.Perm _ ([_, _] ++ _)) | exact (List.Perm.refl _ : List.Perm _ ([_, _, _] ++ _)) | exact (List.Perm.refl _ : List.Perm _ ([_, _, _, _] ++ _)) | exact (List.Perm.refl _ : List.Perm _ ([_, _, _, _, _] ++ _))) (by first | exact fun _ h => h | exact fun _ h => List.mem_cons_of_mem _ h | exact fun _ h => List.mem_cons_of_mem _ (List.mem_cons_of_mem _ h)) (r_loado Tryd.underlying3 rfl rfl (by repeat constructor) (by rfl)).r ?_ | refine m_take 8 rfl (by kernel_rfl) (by decide) (by first | exact (List.Perm.refl _ : List.Perm _ ([] ++ _)) | exact (List.Perm.refl _ : List.Perm _ ([_] ++ _)) | exact (List.Perm.refl _ : List.Perm _ ([_, _] ++ _)) | exact (List.Perm.refl _ : List.Perm _ ([_, _, _] ++ _)) | exact (List.Perm.refl _ : List.Perm _ ([_, _, _, _] ++ _)) | exact (List.Perm.refl _ : List.Perm _ ([_, _, _, _, _] ++ _))) (by first | exact fun _ h => h | exact fun _ h => List.mem_cons_of_mem _ h | exact fun _ h => List.mem_cons_of_mem _ (List.mem_cons_of_mem _ h)) (r_load1 Tryd.underlying3 rfl rfl (by first | exact .fact (by repeat constructor) | exact .own (by repeat constructor) (by decide) (fun _ => rfl) | exact SlIn.reads (by repeat constructor) (by assumption)) (by first | assumption | rfl) (by rfl)).r ?_ | refine m_take 8 rfl (by kernel_rfl) (by decide) (by first | exact (List.Perm.refl _ : List.Perm _ ([] ++ _)) | exact (List.Perm.refl _ : List.Perm _ ([_] ++ _)) | exact (List.Perm.refl _ : List.Perm _ ([_, _] ++ _)) | exact (List.Perm.refl _ : List.Perm _ ([_, _, _] ++ _)) | exact (List.Perm.refl _ : List.Perm _ ([_, _, _, _] ++ _)) | exact (List.Perm.refl _ : List.Perm _ ([_, _, _, _, _] ++ _))) (by first | exact fun _ h => h | exact fun _ h => List.mem_cons_of_mem _ h | exact fun _ h => List.mem_cons_of_mem _ (List.mem_cons_of_mem _ h)) (r_loadf Tryd.underlying3 rfl rfl (by first | exact .fact (by repeat constructor) | exact .own (by repeat constructor) (by decide) (fun _ => rfl) | exact SlIn.reads (by repeat constructor) (by assumption)) (by assumption) (by rfl)).r ?_
  first | refine m_take 9 rfl (by kernel_rfl) (by decide) (by first | exact (List.Perm.refl _ : List.Perm _ ([] ++ _)) | exact (List.Perm.refl _ : List.Perm _ ([_] ++ _)) | exact (List.Perm.refl _ : List.Perm _ ([_, _] ++ _)) | exact (List.Perm.refl _ : List.Perm _ ([_, _, _] ++ _)) | exact (List.Perm.refl _ : List.Perm _ ([_, _, _, _] ++ _)) | exact (List.Perm.refl _ : List.Perm _ ([_, _, _, _, _] ++ _))) (by first | exact fun _ h => h | exact fun _ h => List.mem_cons_of_mem _ h | exact fun _ h => List.mem_cons_of_mem _ (List.mem_cons_of_mem _ h)) (r_index Tryd.underlying22 inf_44 rfl rfl rfl (by first | exact .fact (by repeat constructor) | exact .own (by repeat constructor) (by decide) (fun _ => rfl) | exact SlIn.reads (by repeat constructor) (by assumption)) rfl (by omega)).r ?_ | refine m_take 9 rfl (by kernel_rfl) (by decide) (by first | exact (List.Perm.refl _ : List.Perm _ ([] ++ _)) | exact (List.Perm.refl _ : List.Perm _ ([_] ++ _)) | exact (List.Perm.refl _ : List.Perm _ ([_, _] ++ _)) | exact (List.Perm.refl _ : List.Perm _ ([_, _, _] ++ _)) | exact (List.Perm.refl _ : List.Perm _ ([_, _, _, _] ++ _)) | exact (List.Perm.refl _ : List.Perm _ ([_, _, _, _, _] ++ _))) (by first | exact fun _ h => h | exact fun _ h => List.mem_cons_of_mem _ h | exact fun _ h => List.mem_cons_of_mem _ (List.mem_cons_of_mem _ h)) (r_index Tryd.underlying22 inf_44 rfl rfl rfl (by first | exact .fact (by repeat constructor) | exact .own (by repeat constructor) (by decide) (fun _ => rfl) | exact SlIn.reads (by repeat constructor) (by assumption)) rfl (by decide)).r ?_ | refine m_takep 9 rfl (by kernel_rfl) (by decide) (p_indexo Tryd.underlying22 inf_44 rfl rfl rfl (by omega)) ?_
  first | refine m_take 10 rfl (by kernel_rfl) (by decide) (by first | exact (List.Perm.refl _ : List.Perm _ ([] ++ _)) | exact (List.Perm.refl _ : List.Perm _ ([_] ++ _)) | exact (List.Perm.refl _ : List.Perm _ ([_, _] ++ _)) | exact (List.Perm.refl _ : List.Perm _ ([_, _, _] ++ _)) | exact (List.Perm.refl _ : List.Perm _ ([_, _, _, _] ++ _)) | exact (List.Perm.refl _ : List.Perm _ ([_, _, _, _, _] ++ _))) (by first | exact fun _ h => h | exact fun _ h => List.mem_cons_of_mem _ h | exact fun _ h => List.mem_cons_of_mem _ (List.mem_cons_of_mem _ h)) (r_loada Tryd.underlying44 rfl inf_44 rfl (by first | exact .fact (by repeat constructor) | exact .own (by repeat constructor) (by decide) (fun _ => rfl) | exact SlIn.reads (by repeat constructor) (by assumption)) (by assumption)).r ?_ | refine m_take 10 rfl (by kernel_rfl) (by decide) (by first | exact (List.Perm.refl _ : List.Perm _ ([] ++ _)) | exact (List.Perm.refl _ : List.Perm _ ([_] ++ _)) | exact (List.Perm.refl _ : List.Perm _ ([_, _] ++ _)) | exact (List.Perm.refl _ : List.Perm _ ([_, _, _] ++ _)) | exact (List.Perm.refl _ : List.Perm _ ([_, _, _, _] ++ _)) | exact (List.Perm.refl _ : List.Perm _ ([_, _, _, _, _] ++ _))) (by first | exact fun _ h => h | exact fun _ h => List.mem_cons_of_mem _ h | exact fun _ h => List.mem_cons_of_mem _ (List.mem_cons_of_mem _ h)) (r_loadow Tryd.underlying44 rfl inf_44 rfl (by repeat constructor) (by rfl)).r ?_ | refine m_take 10 rfl (by kernel_rfl) (by decide) (by first | exact (List.Perm.refl _ : List.Perm _ ([] ++ _)) | exact (List.Perm.refl _ : List.Perm _ ([_] ++ _)) | exact (List.Perm.refl _ : List.Perm _ ([_, _] ++ _)) | exact (List.Perm.refl _ : List.Perm _ ([_, _, _] ++ _)) | exact (List.Perm.refl _ : List.Perm _ ([_, _, _, _] ++ _)) | exact (List.Perm.refl _ : List.Perm _ ([_, _, _, _, _] ++ _))) (by first | exact fun _ h => h | exact fun _ h => List.mem_cons_of_mem _ h | exact fun _ h => List.mem_cons_of_mem _ (List.mem_cons_of_mem _ h)) (r_loadoa Tryd.underlying44 rfl inf_44 rfl (by repeat constructor) (by rfl) (fun j u h => h)).r ?_
  refine m_run 11 rfl (by kernel_rfl) ?_
  first | (refine l_storew inf_44 rfl rfl rfl rfl rfl ?_) | (refine l_perm (front1 _ _ _) ?_; refine l_storew inf_44 rfl rfl rfl rfl rfl ?_) | (refine l_perm (front2 _ _ _ _) ?_; refine l_storew inf_44 rfl rfl rfl rfl rfl ?_) | (refine l_perm (front3 _ _ _ _ _) ?_; refine l_storew inf_44 rfl rfl rfl rfl rfl ?_) | (refine l_perm (front4 _ _ _ _ _ _) ?_; refine l_storew inf_44 rfl rfl rfl rfl rfl ?_) | (refine l_storea inf_44 rfl rfl rfl rfl (by decide) ?_) | (refine l_perm (front1 _ _ _) ?_; refine l_storea inf_44 rfl rfl rfl rfl (by decide) ?_) | (refine l_perm (front2 _ _ _ _) ?_; refine l_storea inf_44 rfl rfl rfl rfl (by decide) ?_)
  refine l_nil ?_
  refine m_late rfl ?_
  refine m_takep 12 rfl (by kernel_rfl) (by decide) (p_assign rfl) ?_
  refine m_done (by kernel_rfl) ?_
  refine c_ret ?_
  refine c_retcw2 rfl rfl rfl Tryd.underlying44 rfl inf_44 (by repeat constructor) (by rfl) (fun w hs => ?_)
  exact ⟨(), _, by rw [decide_eq_true (by omega)], hs.drop⟩
end Go.Proofs.YtlefheiohblgdaaDoor
