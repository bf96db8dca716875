/- The walks of edit scripts, sixteenth part; conditions: none. -/
import Derived.Test.YtlefheiohblgdaaDoorWalksO
namespace Go.Proofs.YtlefheiohblgdaaDoor
open Go Go.Fx Go.Proofs

def exI (x : Nat × Nat × Nat × Nat) : Inp := ⟨some ⟨x.2.2.1, 0, none⟩, 2, [⟨some ⟨x.1, 0, none⟩, 2, ⟨0, [0, 4], 5⟩⟩, ⟨some ⟨x.2.1, 0, none⟩, 2, ⟨1, [4, 0], 5⟩⟩], some ⟨x.2.2.2, 0, none⟩, 2, [3, 3], 2⟩
def exP : Ed.In := ⟨[⟨0, [0, 4], 5⟩, ⟨1, [4, 0], 5⟩], [3, 3], 2⟩
theorem exI_pl (x : Nat × Nat × Nat × Nat) : (exI x).pl = exP := rfl
theorem exI_small (x : Nat × Nat × Nat × Nat) : (exI x).small := ⟨by show 2 ≤ _; omega, by show 2 ≤ _; omega⟩
theorem exP_ok : Ed.Okin exP where
  cols := by
    intro c hc
    have hc : c = ⟨0, [0, 4], 5⟩ ∨ c = ⟨1, [4, 0], 5⟩ := by simpa [exP] using hc
    rcases hc with rfl | rfl
    · refine ⟨by decide, by decide, rfl, by decide, .inl (by decide), fun t ht => ?_⟩
      have ht : t < 2 := ht
      match t, ht with
      | 0, _ => exact ⟨0, rfl, by decide⟩
      | 1, _ => exact ⟨4, rfl, by decide⟩
    · refine ⟨by decide, by decide, rfl, by decide, .inl (by decide), fun t ht => ?_⟩
      have ht : t < 2 := ht
      match t, ht with
      | 0, _ => exact ⟨4, rfl, by decide⟩
      | 1, _ => exact ⟨0, rfl, by decide⟩
  ins := by
    intro x hx
    have hx : x = 3 := by simpa [exP] using hx
    subst hx; decide
  s0 := by decide
  s1 := by decide
theorem exC1 : Ed.C exP 0 [1, 0] = 2 := by decide +kernel
theorem exC2 : Ed.C exP 0 [0] = 5 := by decide +kernel
theorem exC3 : Ed.C exP 0 [0, 0, 1] = 3 := by decide +kernel
theorem exA1 : Ed.align exP 0 [1, 0] = [⟨4, 0⟩] := by decide +kernel
theorem exA2 : Ed.align exP 0 [0] = [⟨1, 0⟩, ⟨2, 0⟩] := by decide +kernel
theorem exA3 : Ed.align exP 0 [0, 0, 1] = [⟨1, 0⟩, ⟨3, 0⟩, ⟨1, 1⟩] := by decide +kernel
theorem exR1 : Ed.run exP [⟨4, 0⟩] = some ⟨2, [1, 0], 2⟩ := by decide +kernel
theorem exR2 : Ed.run exP [⟨1, 0⟩, ⟨2, 0⟩] = some ⟨2, [0], 5⟩ := by decide +kernel
theorem yes_ok {P : Program} {k : FuncId} {a : Array Value} {w : World} {p : Prop} [Decidable p] {E : World → Prop} (hp : p) (h : Calls P k a w (Ret fun v w' => v = .bool (decide p) ∧ E w')) : Calls P k a w (Ret fun v w' => v = .bool true ∧ E w') := by simpa only [decide_eq_true hp] using h
theorem exT (x : Nat × Nat × Nat × Nat) {y : List Int} (h : ∀ t, t ∈ y → 0 ≤ t ∧ t < 2) : Prp (exI x) y := h
theorem exG1 (x : Nat × Nat × Nat × Nat) : alg (exI x) [1, 0] = ([⟨4, 0⟩], 0) := by rw [alg_yes (exT x (by decide)) (by rw [exI_pl, exC1]; decide), exI_pl, exA1]
theorem exG2 (x : Nat × Nat × Nat × Nat) : alg (exI x) [0] = ([⟨1, 0⟩, ⟨2, 0⟩], 0) := by rw [alg_yes (exT x (by decide)) (by rw [exI_pl, exC2]; decide), exI_pl, exA2]
theorem exG3 (x : Nat × Nat × Nat × Nat) : alg (exI x) [0, 0, 1] = ([⟨1, 0⟩, ⟨3, 0⟩, ⟨1, 1⟩], 0) := by rw [alg_yes (exT x (by decide)) (by rw [exI_pl, exC3]; decide), exI_pl, exA3]
theorem exD1 (x : Nat × Nat × Nat × Nat) : dst (exI x) [1, 0] = 2 := by rw [dst_yes (exT x (by decide)), exI_pl, exC1]
theorem exD2 (x : Nat × Nat × Nat × Nat) : dst (exI x) [0] = 5 := by rw [dst_yes (exT x (by decide)), exI_pl, exC2]
theorem exD3 (x : Nat × Nat × Nat × Nat) : dst (exI x) [0, 0, 1] = 3 := by rw [dst_yes (exT x (by decide)), exI_pl, exC3]
theorem ex_mem {w : World} {a b c d : Nat} (h1 : Sl 1 intF (some ⟨a, 0, none⟩) [0, 4] w) (h2 : Sl 1 intF (some ⟨b, 0, none⟩) [4, 0] w) (h3 : Sl 3 colF (some ⟨c, 0, none⟩) (exI (a, b, c, d)).xs w) (h4 : Sl 1 intF (some ⟨d, 0, none⟩) [3, 3] w) : (exI (a, b, c, d)).mem w := ⟨h3, h4, fun k x hx => by
  match k, hx with
  | 0, hx => injection hx with hx; subst hx; exact h1
  | 1, hx => injection hx with hx; subst hx; exact h2⟩
theorem ex_dep {lo hi a b c d : Nat} (h1 : lo ≤ a ∧ a < hi) (h2 : lo ≤ b ∧ b < hi) (h3 : lo ≤ c ∧ c < hi) (h4 : lo ≤ d ∧ d < hi) : Dep lo hi (exI (a, b, c, d)).mem := fun w1 w2 hb hq =>
  have q {α : Type} {size b : Nat} {f : α → List Value} {es : List α} (h : lo ≤ b ∧ b < hi) : Dep lo hi (Sl size f (some ⟨b, 0, none⟩) es) := Sl.dep fun ad had => by injection had with had; subst had; exact h
  ex_mem (q h1 w1 w2 hb (hq.rd 0 _ rfl)) (q h2 w1 w2 hb (hq.rd 1 _ rfl)) (q h3 w1 w2 hb hq.xs) (q h4 w1 w2 hb hq.ins)
theorem pl_25 : PlacesIs Tryd.prog 25 [(0, 1), (1, 1), (2, 1)] := ⟨_, Tryd.underlying25, by kernel_rfl⟩
theorem call_13 : Callable Tryd.prog 13 := ⟨_, Tryd.func13, by kernel_rfl, rfl⟩
theorem call_15 : Callable Tryd.prog 15 := ⟨_, Tryd.func15, by kernel_rfl, rfl⟩
theorem call_17 : Callable Tryd.prog 17 := ⟨_, Tryd.func17, by kernel_rfl, rfl⟩
theorem call_18 : Callable Tryd.prog 18 := ⟨_, Tryd.func18, by kernel_rfl, rfl⟩
theorem call_21 : Callable Tryd.prog 21 := ⟨_, Tryd.func21, by kernel_rfl, rfl⟩
theorem call_24 : Callable Tryd.prog 24 := ⟨_, Tryd.func24, by kernel_rfl, rfl⟩
theorem call_26 : Callable Tryd.prog 26 := ⟨_, Tryd.func26, by kernel_rfl, rfl⟩
theorem example_ok (w : World) :
   Calls Tryd.prog 26 #[] w (Ret fun v w' => ∃ x : Nat × Nat × Nat × Nat, v = .agg #[.slice (exI x).A (exI x).xs.length (exI x).c, .slice (exI x).B (exI x).ins.length (exI x).d, .int .i64 (exI x).sw] ∧ (exI x).mem w' ∧ Dep w.heap.size w'.heap.size (exI x).mem ∧ Ext [] w w') := by
 refine calls_fx (l := []) Tryd.func26 rfl Tryd.ntmps26 (Nat.le_of_ble_eq_true rfl) (St.start w) ?_
 refine c_seq ?_
 refine c_reg ?_
 refine l_alloc (by decide) inf_25 _ rfl (fun b0 => ?_)
 refine l_nil ?_
 refine c_seq ?_
 refine c_reg ?_
 refine l_buildSlice (by decide) Tryd.underlying23 inf_3 (by decide) (by decide) rfl rfl rfl rfl (fun b1 => ?_)
 refine l_q (by decide) (((p_build (cells := #[_, _, _]) inf_44 pl_44 rfl rfl)).to (u := .agg #[.int .i64 0, .slice (some ⟨b1, 0, none⟩) 2 2, .int .i64 5]) (rfl)).q ?_
 refine l_buildSlice (by decide) Tryd.underlying23 inf_3 (by decide) (by decide) rfl rfl rfl rfl (fun b3 => ?_)
 refine l_q (by decide) (((p_build (cells := #[_, _, _]) inf_44 pl_44 rfl rfl)).to (u := .agg #[.int .i64 1, .slice (some ⟨b3, 0, none⟩) 2 2, .int .i64 5]) (rfl)).q ?_
 refine l_buildSlice (by decide) Tryd.underlying22 inf_44 (by decide) (by decide) rfl rfl rfl rfl (fun b5 => ?_)
 refine l_buildSlice (by decide) Tryd.underlying23 inf_3 (by decide) (by decide) rfl rfl rfl rfl (fun b6 => ?_)
 refine l_q (by decide) (((p_build (cells := #[_, _, _]) inf_25 pl_25 rfl rfl)).to (u := .agg #[.slice (some ⟨b5, 0, none⟩) 2 2, .slice (some ⟨b6, 0, none⟩) 2 2, .int .i64 2]) (rfl)).q ?_
 first | (refine l_storew inf_25 rfl rfl rfl rfl rfl ?_) | (refine l_perm (front1 _ _ _) ?_; refine l_storew inf_25 rfl rfl rfl rfl rfl ?_) | (refine l_perm (front2 _ _ _ _) ?_; refine l_storew inf_25 rfl rfl rfl rfl rfl ?_) | (refine l_perm (front3 _ _ _ _ _) ?_; refine l_storew inf_25 rfl rfl rfl rfl rfl ?_) | (refine l_perm (front4 _ _ _ _ _ _) ?_; refine l_storew inf_25 rfl rfl rfl rfl rfl ?_) | (refine l_storea inf_25 rfl rfl rfl rfl (by decide) ?_) | (refine l_perm (front1 _ _ _) ?_; refine l_storea inf_25 rfl rfl rfl rfl (by decide) ?_) | (refine l_perm (front2 _ _ _ _) ?_; refine l_storea inf_25 rfl rfl rfl rfl (by decide) ?_)
 refine l_nil ?_
 refine c_ret ?_
 refine c_retcw rfl rfl Tryd.underlying25 rfl inf_25 (by repeat constructor) (by rfl) (fun w hs => ?_)
 have m1 := hs.own (iCells b1 3 ([(0 : Int), 4].flatMap intF)) (by repeat constructor)
 have k1 := m1.2.2 b1 (by simp [iCells])
 have m3 := hs.own (iCells b3 3 ([(4 : Int), 0].flatMap intF)) (by repeat constructor)
 have k3 := m3.2.2 b3 (by simp [iCells])
 have m5 := hs.own (iCells b5 44 ((exI (b1, b3, b5, b6)).xs.flatMap colF)) (by repeat constructor)
 have k5 := m5.2.2 b5 (by simp [iCells])
 have m6 := hs.own (iCells b6 3 ([(3 : Int), 3].flatMap intF)) (by repeat constructor)
 have k6 := m6.2.2 b6 (by simp [iCells])
 exact ⟨(b1, b3, b5, b6), rfl, ex_mem (cells_sl (fun _ => rfl) m1.1) (cells_sl (fun _ => rfl) m3.1) (cells_sl (fun _ => rfl) m5.1) (cells_sl (fun _ => rfl) m6.1), ex_dep ⟨by simpa using k1.2, k1.1⟩ ⟨by simpa using k3.2, k3.1⟩ ⟨by simpa using k5.2, k5.1⟩ ⟨by simpa using k6.2, k6.1⟩, hs.ext⟩

theorem awake_ok (w : World) (hA : ActF w) :
   Calls Tryd.prog 11 #[] w (Ret fun v w' => v = .bool true ∧ Ext [] w w') := by
 refine calls_fx (l := []) Tryd.func11 rfl Tryd.ntmps11 (Nat.le_of_ble_eq_true rfl) ((St.start w).old hA (dep_act hA)) ?_
 refine c_seq ?_
 refine c_reg ?_
 refine l_q (by decide) (p_assign rfl).q ?_
 refine l_nil ?_
 refine c_seq ?_
 refine c_reg ?_
 refine l_call (X := Nat × Nat × Nat × Nat) (fun x => .agg #[.slice (exI x).A (exI x).xs.length (exI x).c, .slice (exI x).B (exI x).ins.length (exI x).d, .int .i64 (exI x).sw]) (fun x => (exI x).mem) (by decide) call_26 rfl (fun w hs => example_ok w) (fun x12 => ?_)
 refine l_alloc (by decide) inf_25 _ rfl (fun b1 => ?_)
 first | (refine l_storew inf_25 rfl rfl rfl rfl rfl ?_) | (refine l_perm (front1 _ _ _) ?_; refine l_storew inf_25 rfl rfl rfl rfl rfl ?_) | (refine l_perm (front2 _ _ _ _) ?_; refine l_storew inf_25 rfl rfl rfl rfl rfl ?_) | (refine l_perm (front3 _ _ _ _ _) ?_; refine l_storew inf_25 rfl rfl rfl rfl rfl ?_) | (refine l_perm (front4 _ _ _ _ _ _) ?_; refine l_storew inf_25 rfl rfl rfl rfl rfl ?_) | (refine l_storea inf_25 rfl rfl rfl rfl (by decide) ?_) | (refine l_perm (front1 _ _ _) ?_; refine l_storea inf_25 rfl rfl rfl rfl (by decide) ?_) | (refine l_perm (front2 _ _ _ _) ?_; refine l_storea inf_25 rfl rfl rfl rfl (by decide) ?_)
 refine l_nil ?_
 refine c_seq ?_
 refine c_reg ?_
 first | refine l_q (by decide) (r_loada Tryd.underlying25 rfl inf_25 rfl (by first | exact .fact (by repeat constructor) | exact .own (by repeat constructor) (by decide) (fun _ => rfl) | exact SlIn.reads (by repeat constructor) (by assumption)) (by assumption)).q ?_ | refine l_q (by decide) (r_loadow Tryd.underlying25 rfl inf_25 rfl (by repeat constructor) (by rfl)).q ?_ | refine l_q (by decide) (r_loadoa Tryd.underlying25 rfl inf_25 rfl (by repeat constructor) (by rfl) (fun j u h => h)).q ?_
 refine l_buildSlice (by decide) Tryd.underlying23 inf_3 (by decide) (by decide) rfl rfl rfl rfl (fun b15 => ?_)
 refine l_sealc intF [(1 : Int), (0 : Int)] rfl len_intF ?_
 refine l_call (X := Option Addr × Nat) (fun x => .tuple #[.slice x.1 (alg (exI x12) [1, 0]).1.length x.2, .int .i64 (alg (exI x12) [1, 0]).2]) (fun x => Sl 2 opF x.1 (alg (exI x12) [1, 0]).1) (by decide) call_21 rfl (fun w hs => align_ok (exI x12) (exI_small _) w (hs.facts (exI x12).mem (by repeat constructor)).1 exP_ok (show 2 ≤ 1000 by decide) (some ⟨b15, 0, none⟩) 2 [1, 0] (by decide) (hs.facts (Sl 1 intF (some ⟨b15, 0, none⟩) [1, 0]) (by repeat constructor)).1) (fun x16 => ?_)
 refine l_q (by decide) (p_move rfl).q ?_
 refine l_q (by decide) (p_extract rfl rfl).q ?_
 refine l_q (by decide) (p_extract rfl rfl).q ?_
 refine l_q (by decide) (p_assign rfl).q ?_
 refine l_q (by decide) (p_assign rfl).q ?_
 refine l_nil ?_
 refine c_seq ?_
 refine c_reg ?_
 first | refine l_q (by decide) (r_loada Tryd.underlying25 rfl inf_25 rfl (by first | exact .fact (by repeat constructor) | exact .own (by repeat constructor) (by decide) (fun _ => rfl) | exact SlIn.reads (by repeat constructor) (by assumption)) (by assumption)).q ?_ | refine l_q (by decide) (r_loadow Tryd.underlying25 rfl inf_25 rfl (by repeat constructor) (by rfl)).q ?_ | refine l_q (by decide) (r_loadoa Tryd.underlying25 rfl inf_25 rfl (by repeat constructor) (by rfl) (fun j u h => h)).q ?_
 refine l_buildSlice (by decide) Tryd.underlying23 inf_3 (by decide) (by decide) rfl rfl rfl rfl (fun b21 => ?_)
 refine l_sealc intF [(0 : Int)] rfl len_intF ?_
 refine l_call (X := Option Addr × Nat) (fun x => .tuple #[.slice x.1 (alg (exI x12) [0]).1.length x.2, .int .i64 (alg (exI x12) [0]).2]) (fun x => Sl 2 opF x.1 (alg (exI x12) [0]).1) (by decide) call_21 rfl (fun w hs => align_ok (exI x12) (exI_small _) w (hs.facts (exI x12).mem (by repeat constructor)).1 exP_ok (show 2 ≤ 1000 by decide) (some ⟨b21, 0, none⟩) 1 [0] (by decide) (hs.facts (Sl 1 intF (some ⟨b21, 0, none⟩) [0]) (by repeat constructor)).1) (fun x22 => ?_)
 refine l_q (by decide) (p_move rfl).q ?_
 refine l_q (by decide) (p_extract rfl rfl).q ?_
 refine l_q (by decide) (p_extract rfl rfl).q ?_
 refine l_q (by decide) (p_assign rfl).q ?_
 refine l_q (by decide) (p_assign rfl).q ?_
 refine l_nil ?_
 refine c_seq ?_
 refine c_reg ?_
 first | refine l_q (by decide) (r_loada Tryd.underlying25 rfl inf_25 rfl (by first | exact .fact (by repeat constructor) | exact .own (by repeat constructor) (by decide) (fun _ => rfl) | exact SlIn.reads (by repeat constructor) (by assumption)) (by assumption)).q ?_ | refine l_q (by decide) (r_loadow Tryd.underlying25 rfl inf_25 rfl (by repeat constructor) (by rfl)).q ?_ | refine l_q (by decide) (r_loadoa Tryd.underlying25 rfl inf_25 rfl (by repeat constructor) (by rfl) (fun j u h => h)).q ?_
 refine l_buildSlice (by decide) Tryd.underlying23 inf_3 (by decide) (by decide) rfl rfl rfl rfl (fun b27 => ?_)
 refine l_sealc intF [(0 : Int), (0 : Int), (1 : Int)] rfl len_intF ?_
 refine l_call (X := Option Addr × Nat) (fun x => .tuple #[.slice x.1 (alg (exI x12) [0, 0, 1]).1.length x.2, .int .i64 (alg (exI x12) [0, 0, 1]).2]) (fun x => Sl 2 opF x.1 (alg (exI x12) [0, 0, 1]).1) (by decide) call_21 rfl (fun w hs => align_ok (exI x12) (exI_small _) w (hs.facts (exI x12).mem (by repeat constructor)).1 exP_ok (show 2 ≤ 1000 by decide) (some ⟨b27, 0, none⟩) 3 [0, 0, 1] (by decide) (hs.facts (Sl 1 intF (some ⟨b27, 0, none⟩) [0, 0, 1]) (by repeat constructor)).1) (fun x28 => ?_)
 refine l_q (by decide) (p_move rfl).q ?_
 refine l_q (by decide) (p_extract rfl rfl).q ?_
 refine l_q (by decide) (p_extract rfl rfl).q ?_
 refine l_q (by decide) (p_assign rfl).q ?_
 refine l_q (by decide) (p_assign rfl).q ?_
 refine l_nil ?_
 refine c_seq ?_
 refine c_reg ?_
 first | refine l_q (by decide) (r_loada Tryd.underlying25 rfl inf_25 rfl (by first | exact .fact (by repeat constructor) | exact .own (by repeat constructor) (by decide) (fun _ => rfl) | exact SlIn.reads (by repeat constructor) (by assumption)) (by assumption)).q ?_ | refine l_q (by decide) (r_loadow Tryd.underlying25 rfl inf_25 rfl (by repeat constructor) (by rfl)).q ?_ | refine l_q (by decide) (r_loadoa Tryd.underlying25 rfl inf_25 rfl (by repeat constructor) (by rfl) (fun j u h => h)).q ?_
 refine l_q (by decide) (((p_build (cells := #[_, _]) inf_46 pl_46 rfl rfl)).to (u := .agg #[.int .i64 4, .int .i64 0]) (rfl)).q ?_
 refine l_buildSlice (by decide) Tryd.underlying26 inf_46 (by decide) (by decide) rfl rfl rfl rfl (fun b34 => ?_)
 refine l_sealc opF [(⟨4, 0⟩ : Ed.Op)] rfl len_opF ?_
 refine l_call (X := Option Addr × Nat) (fun x => .tuple #[.slice x.1 (rOut (Ed.run exP [(⟨4, 0⟩ : Ed.Op)])).length x.2, .int .i64 (okc (Ed.run exP [(⟨4, 0⟩ : Ed.Op)]))]) (fun x => Sl 1 intF x.1 (rOut (Ed.run exP [(⟨4, 0⟩ : Ed.Op)]))) (by decide) call_13 rfl (fun w hs => apply_ok (exI x12) (exI_small _) w (hs.facts (exI x12).mem (by repeat constructor)).1 (hs.facts ActF (by repeat constructor)).1 exP_ok (some ⟨b34, 0, none⟩) 1 [(⟨4, 0⟩ : Ed.Op)] (by decide) (hs.facts (Sl 2 opF (some ⟨b34, 0, none⟩) [(⟨4, 0⟩ : Ed.Op)]) (by repeat constructor)).1) (fun x35 => ?_)
 refine l_q (by decide) (p_move rfl).q ?_
 refine l_q (by decide) (p_extract rfl rfl).q ?_
 refine l_q (by decide) (p_extract rfl rfl).q ?_
 refine l_q (by decide) (p_assign rfl).q ?_
 refine l_q (by decide) (p_assign rfl).q ?_
 refine l_nil ?_
 refine c_seq ?_
 refine c_reg ?_
 first | refine l_q (by decide) (r_loada Tryd.underlying25 rfl inf_25 rfl (by first | exact .fact (by repeat constructor) | exact .own (by repeat constructor) (by decide) (fun _ => rfl) | exact SlIn.reads (by repeat constructor) (by assumption)) (by assumption)).q ?_ | refine l_q (by decide) (r_loadow Tryd.underlying25 rfl inf_25 rfl (by repeat constructor) (by rfl)).q ?_ | refine l_q (by decide) (r_loadoa Tryd.underlying25 rfl inf_25 rfl (by repeat constructor) (by rfl) (fun j u h => h)).q ?_
 refine l_q (by decide) (p_move rfl).q ?_
 refine l_q (by decide) (q_call call_15 rfl (fun w hs => cost_ok (exI x12) (exI_small _) w (hs.facts (exI x12).mem (by repeat constructor)).1 (hs.facts ActF (by repeat constructor)).1 exP_ok x22.1 x22.2 (alg (exI x12) [0]).1 (by rw [exG2]; decide) (hs.facts (Sl 2 opF x22.1 (alg (exI x12) [0]).1) (by repeat constructor)).1)) ?_
 refine l_q (by decide) (p_move rfl).q ?_
 refine l_q (by decide) (p_extract rfl rfl).q ?_
 refine l_q (by decide) (p_extract rfl rfl).q ?_
 refine l_q (by decide) (p_assign rfl).q ?_
 refine l_q (by decide) (p_assign rfl).q ?_
 refine l_nil ?_
 refine c_seq ?_
 refine c_seq ?_
 refine c_reg ?_
 refine l_q (by decide) (p_move rfl).q ?_
 first | refine l_q (by decide) (((p_neq (j := 0) rfl rfl rfl rfl)).to (u := .bool false) (by rw [exG1]; rfl)).q ?_ | refine l_q (by decide) (((p_neqi rfl rfl)).to (u := .bool false) (by rw [exG1]; rfl)).q ?_
 refine l_q (by decide) (p_move rfl).q ?_
 refine l_g (j := 2) rfl rfl (by decide) (p_move rfl).q ?_
 first | refine l_g (j := 2) rfl rfl (by decide) (((p_neq (j := 0) rfl rfl rfl rfl)).to (u := .bool false) (by rw [exG2]; rfl)).q ?_ | refine l_g (j := 2) rfl rfl (by decide) (((p_neqi rfl rfl)).to (u := .bool false) (by rw [exG2]; rfl)).q ?_
 refine l_q (by decide) (p_pick rfl rfl).q ?_
 refine l_q (by decide) (p_move rfl).q ?_
 refine l_g (j := 6) rfl rfl (by decide) (p_move rfl).q ?_
 first | refine l_g (j := 6) rfl rfl (by decide) (((p_neq (j := 0) rfl rfl rfl rfl)).to (u := .bool false) (by rw [exG3]; rfl)).q ?_ | refine l_g (j := 6) rfl rfl (by decide) (((p_neqi rfl rfl)).to (u := .bool false) (by rw [exG3]; rfl)).q ?_
 refine l_q (by decide) (p_pick rfl rfl).q ?_
 refine l_q (by decide) (p_move rfl).q ?_
 refine l_g (j := 10) rfl rfl (by decide) (p_move rfl).q ?_
 first | refine l_g (j := 10) rfl rfl (by decide) (((p_neq (j := 0) rfl rfl rfl rfl)).to (u := .bool false) (by rw [exR1]; rfl)).q ?_ | refine l_g (j := 10) rfl rfl (by decide) (((p_neqi rfl rfl)).to (u := .bool false) (by rw [exR1]; rfl)).q ?_
 refine l_q (by decide) (p_pick rfl rfl).q ?_
 refine l_q (by decide) (p_move rfl).q ?_
 refine l_g (j := 14) rfl rfl (by decide) (p_move rfl).q ?_
 first | refine l_g (j := 14) rfl rfl (by decide) (((p_neq (j := 0) rfl rfl rfl rfl)).to (u := .bool false) (by rw [exG2, exI_pl, exR2]; rfl)).q ?_ | refine l_g (j := 14) rfl rfl (by decide) (((p_neqi rfl rfl)).to (u := .bool false) (by rw [exG2, exI_pl, exR2]; rfl)).q ?_
 refine l_q (by decide) (p_pick rfl rfl).q ?_
 refine l_q (by decide) (p_move rfl).q ?_
 refine l_g (j := 18) rfl rfl (by decide) (p_move rfl).q ?_
 first | refine l_g (j := 18) rfl rfl (by decide) (((p_neq (j := 5) rfl rfl rfl rfl)).to (u := .bool false) (by rw [exG2, exI_pl, exR2]; rfl)).q ?_ | refine l_g (j := 18) rfl rfl (by decide) (((p_neqi rfl rfl)).to (u := .bool false) (by rw [exG2, exI_pl, exR2]; rfl)).q ?_
 refine l_q (by decide) (p_pick rfl rfl).q ?_
 refine l_q (by decide) (p_move rfl).q ?_
 refine l_g (j := 22) rfl rfl (by decide) (p_move rfl).q ?_
 refine l_strip (j := 22) rfl rfl ?_
 refine l_buildSlice (by decide) Tryd.underlying23 inf_3 (by decide) (by decide) rfl rfl rfl rfl (fun b68 => ?_)
 refine l_sealc intF [(1 : Int), (0 : Int)] rfl len_intF ?_
 refine l_g (j := 22) rfl rfl (by decide) (q_call call_17 rfl (fun w hs => yes_ok (by rw [exR1]; rfl) (same_ok x35.1 (some ⟨b68, 0, none⟩) x35.2 2 (rOut (Ed.run exP [(⟨4, 0⟩ : Ed.Op)])) [1, 0] (by rw [exR1]; decide) w (hs.facts (Sl 1 intF x35.1 (rOut (Ed.run exP [(⟨4, 0⟩ : Ed.Op)]))) (by repeat constructor)).1 (hs.facts (Sl 1 intF (some ⟨b68, 0, none⟩) [1, 0]) (by repeat constructor)).1))) ?_
 refine l_g (j := 22) rfl rfl (by decide) (p_not rfl).q ?_
 refine l_q (by decide) (p_pick rfl rfl).q ?_
 refine l_nil ?_
 refine c_false rfl ?_
 refine c_skip ?_
 refine c_seq ?_
 refine c_reg ?_
 first | refine l_q (by decide) (r_loada Tryd.underlying25 rfl inf_25 rfl (by first | exact .fact (by repeat constructor) | exact .own (by repeat constructor) (by decide) (fun _ => rfl) | exact SlIn.reads (by repeat constructor) (by assumption)) (by assumption)).q ?_ | refine l_q (by decide) (r_loadow Tryd.underlying25 rfl inf_25 rfl (by repeat constructor) (by rfl)).q ?_ | refine l_q (by decide) (r_loadoa Tryd.underlying25 rfl inf_25 rfl (by repeat constructor) (by rfl) (fun j u h => h)).q ?_
 refine l_buildSlice (by decide) Tryd.underlying23 inf_3 (by decide) (by decide) rfl rfl rfl rfl (fun b73 => ?_)
 refine l_sealc intF [(1 : Int), (0 : Int)] rfl len_intF ?_
 refine l_q (by decide) (q_call call_18 rfl (fun w hs => dist_ok (exI x12) (exI_small _) w (hs.facts (exI x12).mem (by repeat constructor)).1 exP_ok (show 2 ≤ 1000 by decide) (some ⟨b73, 0, none⟩) 2 [1, 0] (by decide) (hs.facts (Sl 1 intF (some ⟨b73, 0, none⟩) [1, 0]) (by repeat constructor)).1)) ?_
 first | refine l_q (by decide) (((p_eql (j := 2) rfl rfl rfl rfl)).to (u := .bool true) (by rw [exD1]; rfl)).q ?_ | refine l_q (by decide) (((p_eqli rfl rfl)).to (u := .bool true) (by rw [exD1]; rfl)).q ?_
 refine l_q (by decide) (p_move rfl).q ?_
 first | refine l_g (j := 4) rfl rfl (by decide) (r_loada Tryd.underlying25 rfl inf_25 rfl (by first | exact .fact (by repeat constructor) | exact .own (by repeat constructor) (by decide) (fun _ => rfl) | exact SlIn.reads (by repeat constructor) (by assumption)) (by assumption)).q ?_ | refine l_g (j := 4) rfl rfl (by decide) (r_loadow Tryd.underlying25 rfl inf_25 rfl (by repeat constructor) (by rfl)).q ?_ | refine l_g (j := 4) rfl rfl (by decide) (r_loadoa Tryd.underlying25 rfl inf_25 rfl (by repeat constructor) (by rfl) (fun j u h => h)).q ?_
 refine l_strip (j := 4) rfl rfl ?_
 refine l_buildSlice (by decide) Tryd.underlying23 inf_3 (by decide) (by decide) rfl rfl rfl rfl (fun b78 => ?_)
 refine l_sealc intF [(0 : Int)] rfl len_intF ?_
 refine l_g (j := 4) rfl rfl (by decide) (q_call call_18 rfl (fun w hs => dist_ok (exI x12) (exI_small _) w (hs.facts (exI x12).mem (by repeat constructor)).1 exP_ok (show 2 ≤ 1000 by decide) (some ⟨b78, 0, none⟩) 1 [0] (by decide) (hs.facts (Sl 1 intF (some ⟨b78, 0, none⟩) [0]) (by repeat constructor)).1)) ?_
 first | refine l_g (j := 4) rfl rfl (by decide) (((p_eql (j := 5) rfl rfl rfl rfl)).to (u := .bool true) (by rw [exD2]; rfl)).q ?_ | refine l_g (j := 4) rfl rfl (by decide) (((p_eqli rfl rfl)).to (u := .bool true) (by rw [exD2]; rfl)).q ?_
 refine l_q (by decide) (p_pick rfl rfl).q ?_
 refine l_q (by decide) (p_move rfl).q ?_
 first | refine l_g (j := 10) rfl rfl (by decide) (r_loada Tryd.underlying25 rfl inf_25 rfl (by first | exact .fact (by repeat constructor) | exact .own (by repeat constructor) (by decide) (fun _ => rfl) | exact SlIn.reads (by repeat constructor) (by assumption)) (by assumption)).q ?_ | refine l_g (j := 10) rfl rfl (by decide) (r_loadow Tryd.underlying25 rfl inf_25 rfl (by repeat constructor) (by rfl)).q ?_ | refine l_g (j := 10) rfl rfl (by decide) (r_loadoa Tryd.underlying25 rfl inf_25 rfl (by repeat constructor) (by rfl) (fun j u h => h)).q ?_
 refine l_strip (j := 10) rfl rfl ?_
 refine l_buildSlice (by decide) Tryd.underlying23 inf_3 (by decide) (by decide) rfl rfl rfl rfl (fun b84 => ?_)
 refine l_sealc intF [(0 : Int), (0 : Int), (1 : Int)] rfl len_intF ?_
 refine l_g (j := 10) rfl rfl (by decide) (q_call call_18 rfl (fun w hs => dist_ok (exI x12) (exI_small _) w (hs.facts (exI x12).mem (by repeat constructor)).1 exP_ok (show 2 ≤ 1000 by decide) (some ⟨b84, 0, none⟩) 3 [0, 0, 1] (by decide) (hs.facts (Sl 1 intF (some ⟨b84, 0, none⟩) [0, 0, 1]) (by repeat constructor)).1)) ?_
 first | refine l_g (j := 10) rfl rfl (by decide) (((p_eql (j := 3) rfl rfl rfl rfl)).to (u := .bool true) (by rw [exD3]; rfl)).q ?_ | refine l_g (j := 10) rfl rfl (by decide) (((p_eqli rfl rfl)).to (u := .bool true) (by rw [exD3]; rfl)).q ?_
 refine l_q (by decide) (p_pick rfl rfl).q ?_
 refine l_q (by decide) (p_move rfl).q ?_
 refine l_g (j := 16) rfl rfl (by decide) (p_move rfl).q ?_
 refine l_g (j := 16) rfl rfl (by decide) (((p_build (cells := #[_, _]) inf_46 pl_46 rfl rfl)).to (u := .agg #[.int .i64 4, .int .i64 0]) (rfl)).q ?_
 refine l_strip (j := 16) rfl rfl ?_
 refine l_buildSlice (by decide) Tryd.underlying26 inf_46 (by decide) (by decide) rfl rfl rfl rfl (fun b91 => ?_)
 refine l_sealc opF [(⟨4, 0⟩ : Ed.Op)] rfl len_opF ?_
 refine l_g (j := 16) rfl rfl (by decide) (q_call call_24 rfl (fun w hs => yes_ok (by rw [exG1]) (sameops_ok x16.1 (some ⟨b91, 0, none⟩) x16.2 1 (alg (exI x12) [1, 0]).1 [(⟨4, 0⟩ : Ed.Op)] (by rw [exG1]; decide) w (hs.facts (Sl 2 opF x16.1 (alg (exI x12) [1, 0]).1) (by repeat constructor)).1 (hs.facts (Sl 2 opF (some ⟨b91, 0, none⟩) [(⟨4, 0⟩ : Ed.Op)]) (by repeat constructor)).1))) ?_
 refine l_q (by decide) (p_pick rfl rfl).q ?_
 refine l_q (by decide) (p_move rfl).q ?_
 refine l_g (j := 22) rfl rfl (by decide) (p_move rfl).q ?_
 refine l_g (j := 22) rfl rfl (by decide) (((p_build (cells := #[_, _]) inf_46 pl_46 rfl rfl)).to (u := .agg #[.int .i64 1, .int .i64 0]) (rfl)).q ?_
 refine l_g (j := 22) rfl rfl (by decide) (((p_build (cells := #[_, _]) inf_46 pl_46 rfl rfl)).to (u := .agg #[.int .i64 2, .int .i64 0]) (rfl)).q ?_
 refine l_strip (j := 22) rfl rfl ?_
 refine l_buildSlice (by decide) Tryd.underlying26 inf_46 (by decide) (by decide) rfl rfl rfl rfl (fun b98 => ?_)
 refine l_sealc opF [(⟨1, 0⟩ : Ed.Op), ⟨2, 0⟩] rfl len_opF ?_
 refine l_g (j := 22) rfl rfl (by decide) (q_call call_24 rfl (fun w hs => yes_ok (by rw [exG2]) (sameops_ok x22.1 (some ⟨b98, 0, none⟩) x22.2 2 (alg (exI x12) [0]).1 [(⟨1, 0⟩ : Ed.Op), ⟨2, 0⟩] (by rw [exG2]; decide) w (hs.facts (Sl 2 opF x22.1 (alg (exI x12) [0]).1) (by repeat constructor)).1 (hs.facts (Sl 2 opF (some ⟨b98, 0, none⟩) [(⟨1, 0⟩ : Ed.Op), ⟨2, 0⟩]) (by repeat constructor)).1))) ?_
 refine l_q (by decide) (p_pick rfl rfl).q ?_
 refine l_q (by decide) (p_move rfl).q ?_
 refine l_g (j := 29) rfl rfl (by decide) (p_move rfl).q ?_
 refine l_g (j := 29) rfl rfl (by decide) (((p_build (cells := #[_, _]) inf_46 pl_46 rfl rfl)).to (u := .agg #[.int .i64 1, .int .i64 0]) (rfl)).q ?_
 refine l_g (j := 29) rfl rfl (by decide) (((p_build (cells := #[_, _]) inf_46 pl_46 rfl rfl)).to (u := .agg #[.int .i64 3, .int .i64 0]) (rfl)).q ?_
 refine l_g (j := 29) rfl rfl (by decide) (((p_build (cells := #[_, _]) inf_46 pl_46 rfl rfl)).to (u := .agg #[.int .i64 1, .int .i64 1]) (rfl)).q ?_
 refine l_strip (j := 29) rfl rfl ?_
 refine l_buildSlice (by decide) Tryd.underlying26 inf_46 (by decide) (by decide) rfl rfl rfl rfl (fun b106 => ?_)
 refine l_sealc opF [(⟨1, 0⟩ : Ed.Op), ⟨3, 0⟩, ⟨1, 1⟩] rfl len_opF ?_
 refine l_g (j := 29) rfl rfl (by decide) (q_call call_24 rfl (fun w hs => yes_ok (by rw [exG3]) (sameops_ok x28.1 (some ⟨b106, 0, none⟩) x28.2 3 (alg (exI x12) [0, 0, 1]).1 [(⟨1, 0⟩ : Ed.Op), ⟨3, 0⟩, ⟨1, 1⟩] (by rw [exG3]; decide) w (hs.facts (Sl 2 opF x28.1 (alg (exI x12) [0, 0, 1]).1) (by repeat constructor)).1 (hs.facts (Sl 2 opF (some ⟨b106, 0, none⟩) [(⟨1, 0⟩ : Ed.Op), ⟨3, 0⟩, ⟨1, 1⟩]) (by repeat constructor)).1))) ?_
 refine l_q (by decide) (p_pick rfl rfl).q ?_
 refine l_q (by decide) (p_assign rfl).q ?_
 refine l_nil ?_
 refine c_ret ?_
 refine c_ret1 rfl rfl (fun w hs => ?_)
 exact ⟨rfl, hs.ext⟩
end Go.Proofs.YtlefheiohblgdaaDoor
