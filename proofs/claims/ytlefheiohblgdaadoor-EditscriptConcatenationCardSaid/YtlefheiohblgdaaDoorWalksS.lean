/- The walks of edit scripts, nineteenth part; conditions: lengths. -/
import Derived.Test.YtlefheiohblgdaaDoorWalksR
namespace Go.Proofs.YtlefheiohblgdaaDoor
open Go Go.Fx Go.Proofs

def kds (xs : List XCol) : List Int := xs.map fun x => x.o.kind
def rds (xs : List XCol) : List Ed.Op := xs.map fun x => ⟨1, x.o.kind⟩
theorem kds_snoc {X : Inp} {k : Nat} {x : XCol} (h : X.xs[k]? = some x) : kds (X.xs.take (k + 1)) = kds (X.xs.take k) ++ [x.o.kind] := by rw [take_at h]; simp [kds]
theorem rds_snoc {X : Inp} {k : Nat} {x : XCol} (h : X.xs[k]? = some x) : rds (X.xs.take (k + 1)) = rds (X.xs.take k) ++ [⟨1, x.o.kind⟩] := by rw [take_at h]; simp [rds]
theorem kds_len {xs : List XCol} : (kds xs).length = xs.length := by simp [kds]
theorem rds_len {xs : List XCol} : (rds xs).length = xs.length := by simp [rds]
theorem own_of {X : Inp} (hO : Ed.Okin X.pl) (h : ∀ x, x ∈ X.xs → 0 ≤ x.o.kind) : alg X (kds X.xs) = (rds X.xs, 0) ∧ dst X (kds X.xs) = 0 := by
  have hp : Prp X (kds X.xs) := fun t ht => by
    obtain ⟨x, hx, rfl⟩ := List.mem_map.1 ht
    exact ⟨h x hx, (okin_cols hO x hx).hi⟩
  have hk := Ed.own_kinds hO (fun c hc => by obtain ⟨x, hx, rfl⟩ := List.mem_map.1 hc; exact h x hx) X.pl.cols.length 0 (by omega) (Nat.zero_le _)
  rw [List.drop_zero] at hk
  have h1 : X.pl.cols.map (·.kind) = kds X.xs := by simp [Inp.pl, kds, Function.comp_def]
  have h2 : (X.pl.cols.map fun c => (⟨1, c.kind⟩ : Ed.Op)) = rds X.xs := by simp [Inp.pl, rds, Function.comp_def]
  rw [h1, h2] at hk
  exact ⟨by rw [alg_yes hp (by rw [hk.1]; decide), hk.2], by rw [dst_yes hp, hk.1]⟩
theorem own_law (X : Inp) (hX : X.small) (w : World) (hM : X.mem w) (hA : ActF w) :
   Calls Tryd.prog 8 #[.agg #[.slice X.A X.xs.length X.c, .slice X.B X.ins.length X.d, .int .i64 X.sw]] w (Ret fun v w' => v = .bool true ∧ Ext [] w w') := by
 refine calls_fx (l := [.agg #[.slice X.A X.xs.length X.c, .slice X.B X.ins.length X.d, .int .i64 X.sw]]) Tryd.func8 rfl Tryd.ntmps8 (Nat.le_of_ble_eq_true rfl) ((X.start hM).old hA (dep_act hA)) ?_
 refine c_seq ?_
 obtain ⟨lo, hlo⟩ : ∃ lo, lo = w.heap.size := ⟨_, rfl⟩
 refine c_reg ?_
 refine l_box (by decide) rfl _ rfl (fun b1 => ?_)
 refine l_q (by decide) (p_assign rfl).q ?_
 refine l_nil ?_
 refine c_seq ?_
 refine c_seq ?_
 refine c_reg ?_
 refine l_q (by decide) (q_call call_11 rfl (fun w hs => awake_ok w (hs.facts ActF (by repeat constructor)).1)) ?_
 refine l_q (by decide) (p_not rfl).q ?_
 refine l_nil ?_
 refine c_false rfl ?_
 refine c_skip ?_
 refine c_seq ?_
 refine c_seq ?_
 refine c_reg ?_
 first | refine l_q (by decide) (r_loada Tryd.underlying25 rfl inf_25 rfl (by first | exact .fact (by repeat constructor) | exact .own (by repeat constructor) (by decide) (fun _ => rfl) | exact SlIn.reads (by repeat constructor) (by assumption)) (by assumption)).q ?_ | refine l_q (by decide) (r_loadow Tryd.underlying25 rfl inf_25 rfl (by repeat constructor) (by rfl)).q ?_ | refine l_q (by decide) (r_loadoa Tryd.underlying25 rfl inf_25 rfl (by repeat constructor) (by rfl) (fun j u h => h)).q ?_
 refine l_q (by decide) (q_call call_12 rfl (fun w hs => fair_ok X hX w (X.of hs (by repeat constructor) (by repeat constructor) (by repeat constructor)))) ?_
 first | refine l_q (by decide) (p_notd rfl).q ?_ | refine l_q (by decide) (p_not rfl).q ?_
 refine l_nil ?_
 first | refine c_dec rfl (fun h13 => ?_) (fun h13 => ?_) | refine c_cond rfl (fun h13 => ?_) (fun h13 => ?_)
 ·skip
  refine c_seq ?_
  refine c_reg ?_
  refine l_q (by decide) (p_assign rfl).q ?_
  refine l_nil ?_
  refine c_ret ?_
  refine c_ret1 rfl rfl (fun w hs => ?_)
  exact ⟨rfl, hs.ext⟩
 ·skip
  have hf : Fair X := of_dec (p := Fair X) (by simpa using h13)
  have hO := hf.2.2
  have hn8 := hf.1.1
  refine c_skip ?_
  refine c_seq ?_
  refine c_reg ?_
  refine l_q (by decide) (p_assign rfl).q ?_
  refine l_nil ?_
  refine c_seq ?_
  refine c_reg ?_
  refine l_q (by decide) (p_assign rfl).q ?_
  refine l_nil ?_
  refine c_seq ?_
  refine c_seq ?_
  refine c_reg ?_
  refine l_q (by decide) (p_assign (v := .int .i64 ((0 : Nat) : Int)) rfl).q ?_
  refine l_nil ?_
  refine c_block ?_
  refine c_sl0 46 2 opF ?_
  refine c_sl0 3 1 intF ?_
  refine c_loop (S := Nat × Option Addr × Nat × Option Addr × Nat) (fun zs => zs.1 ≤ X.xs.length ∧ ∀ x, x ∈ X.xs.take zs.1 → 0 ≤ x.o.kind) (fun zs => X.xs.length - zs.1) (fun zs => [(1, .pointer (some ⟨b1, 0, none⟩)), (3, .slice zs.2.1 (kds (X.xs.take zs.1)).length zs.2.2.1), (4, .slice zs.2.2.2.1 (rds (X.xs.take zs.1)).length zs.2.2.2.2), (5, .int .i64 (zs.1 : Int))]) (fun zs => [iSl 3 1 intF zs.2.1 zs.2.2.1 (kds (X.xs.take zs.1)), iSl 46 2 opF zs.2.2.2.1 zs.2.2.2.2 (rds (X.xs.take zs.1)), iCells b1 25 [.slice X.A X.xs.length X.c, .slice X.B X.ins.length X.d, .int .i64 X.sw]]) (fun zs => (ActF :: [Rd X.xs, Sl 1 intF X.B X.ins, Sl 3 colF X.A X.xs])) (0, none, 0, none, 0) ?_ ?_ ?_ ?_ ?_
  · show (0) ≤ X.xs.length ∧ ∀ x, x ∈ X.xs.take (0) → 0 ≤ x.o.kind
    exact ⟨Nat.zero_le _, fun x hx => by simp at hx⟩
  · exact ⟨rfl, rfl, rfl, rfl, trivial⟩
  · exact .refl _
  · exact fun _ h => h
  rintro ⟨k, A3, d3, A4, d4⟩ hinv
  have hinv : k ≤ X.xs.length ∧ ∀ x, x ∈ X.xs.take k → 0 ≤ x.o.kind := hinv
  obtain ⟨hk, hkd⟩ := hinv
  show Cont _ _ _ _ [(1, .pointer (some ⟨b1, 0, none⟩)), (3, .slice A3 (kds (X.xs.take k)).length d3), (4, .slice A4 (rds (X.xs.take k)).length d4), (5, .int .i64 (k : Int))] ([iSl 3 1 intF A3 d3 (kds (X.xs.take k)), iSl 46 2 opF A4 d4 (rds (X.xs.take k)), iCells b1 25 [.slice X.A X.xs.length X.c, .slice X.B X.ins.length X.d, .int .i64 X.sw]]) (ActF :: [Rd X.xs, Sl 1 intF X.B X.ins, Sl 3 colF X.A X.xs])
  refine c_seq ?_
  refine c_seq ?_
  refine c_reg ?_
  refine l_q (by decide) (p_move rfl).q ?_
  first | refine l_q (by decide) (p_faddr (i := 0) 0 Tryd.underlying25 rfl inf_22 (by decide) rfl rfl).q ?_ | refine l_q (by decide) (p_faddro (i := 0) 0 Tryd.underlying25 rfl inf_22 (by decide) rfl rfl).q ?_
  first | refine l_q (by decide) (r_loado Tryd.underlying22 rfl rfl (by repeat constructor) (by rfl)).q ?_ | refine l_q (by decide) (r_load1 Tryd.underlying22 rfl rfl (by first | exact .fact (by repeat constructor) | exact .own (by repeat constructor) (by decide) (fun _ => rfl) | exact SlIn.reads (by repeat constructor) (by assumption)) (by first | assumption | rfl) (by rfl)).q ?_ | refine l_q (by decide) (r_loadf Tryd.underlying22 rfl rfl (by first | exact .fact (by repeat constructor) | exact .own (by repeat constructor) (by decide) (fun _ => rfl) | exact SlIn.reads (by repeat constructor) (by assumption)) (by assumption) (by rfl)).q ?_
  refine l_q (by decide) (p_len_sl Tryd.underlying22 rfl).q ?_
  first | refine l_q (by decide) (p_lss rfl rfl rfl rfl).q ?_ | refine l_q (by decide) (p_lssi rfl rfl).q ?_
  refine l_nil ?_
  first | refine c_dec rfl (fun h18 => ?_) (fun h18 => ?_) | refine c_cond rfl (fun h18 => ?_) (fun h18 => ?_)
  ·skip
   obtain ⟨x, hx⟩ := at_some (l := X.xs) (n := k) (by omega)
   refine c_skip ?_
   refine c_seq ?_
   refine c_block ?_
   refine c_seq ?_
   refine c_reg ?_
   first | refine l_q (by decide) (p_faddr (i := 0) 0 Tryd.underlying25 rfl inf_22 (by decide) rfl rfl).q ?_ | refine l_q (by decide) (p_faddro (i := 0) 0 Tryd.underlying25 rfl inf_22 (by decide) rfl rfl).q ?_
   first | refine l_q (by decide) (r_loado Tryd.underlying22 rfl rfl (by repeat constructor) (by rfl)).q ?_ | refine l_q (by decide) (r_load1 Tryd.underlying22 rfl rfl (by first | exact .fact (by repeat constructor) | exact .own (by repeat constructor) (by decide) (fun _ => rfl) | exact SlIn.reads (by repeat constructor) (by assumption)) (by first | assumption | rfl) (by rfl)).q ?_ | refine l_q (by decide) (r_loadf Tryd.underlying22 rfl rfl (by first | exact .fact (by repeat constructor) | exact .own (by repeat constructor) (by decide) (fun _ => rfl) | exact SlIn.reads (by repeat constructor) (by assumption)) (by assumption) (by rfl)).q ?_
   refine l_q (by decide) (p_move rfl).q ?_
   first | refine l_q (by decide) (r_index Tryd.underlying22 inf_44 rfl rfl rfl (by first | exact .fact (by repeat constructor) | exact .own (by repeat constructor) (by decide) (fun _ => rfl) | exact SlIn.reads (by repeat constructor) (by assumption)) rfl (by omega)).q ?_ | refine l_q (by decide) (r_index Tryd.underlying22 inf_44 rfl rfl rfl (by first | exact .fact (by repeat constructor) | exact .own (by repeat constructor) (by decide) (fun _ => rfl) | exact SlIn.reads (by repeat constructor) (by assumption)) rfl (by decide)).q ?_ | refine l_q (by decide) (p_indexo Tryd.underlying22 inf_44 rfl rfl rfl (by omega)).q ?_
   first | refine l_q (by decide) (p_faddr (i := 0) 0 Tryd.underlying44 rfl inf_3 (by decide) rfl rfl).q ?_ | refine l_q (by decide) (p_faddro (i := 0) 0 Tryd.underlying44 rfl inf_3 (by decide) rfl rfl).q ?_
   first | refine l_q (by decide) (r_loado Tryd.underlying3 rfl rfl (by repeat constructor) (by rfl)).q ?_ | refine l_q (by decide) (r_load1 Tryd.underlying3 rfl rfl (by first | exact .fact (by repeat constructor) | exact .own (by repeat constructor) (by decide) (fun _ => rfl) | exact SlIn.reads (by repeat constructor) (by assumption)) (by first | assumption | rfl) (by rfl)).q ?_ | refine l_q (by decide) (r_loadf Tryd.underlying3 rfl rfl (by first | exact .fact (by repeat constructor) | exact .own (by repeat constructor) (by decide) (fun _ => rfl) | exact SlIn.reads (by repeat constructor) (by assumption)) (by assumption) (by rfl)).q ?_
   refine l_q (by decide) (p_assign rfl).q ?_
   refine l_nil ?_
   refine c_seq ?_
   refine c_seq ?_
   refine c_reg ?_
   refine l_q (by decide) (p_move rfl).q ?_
   first | refine l_q (by decide) (p_lss (j := 0) rfl rfl rfl rfl).q ?_ | refine l_q (by decide) (p_lssi rfl rfl).q ?_
   refine l_nil ?_
   first | refine c_dec rfl (fun h28 => ?_) (fun h28 => ?_) | refine c_cond rfl (fun h28 => ?_) (fun h28 => ?_)
   ·skip
    refine c_seq ?_
    refine c_reg ?_
    refine l_q (by decide) (p_assign rfl).q ?_
    refine l_nil ?_
    refine c_ret ?_
    refine c_ret1 rfl rfl (fun w hs => ?_)
    exact ⟨rfl, hs.ext⟩
   ·skip
    refine c_skip ?_
    refine c_seq ?_
    refine c_reg ?_
    refine l_q (by decide) (p_move rfl).q ?_
    refine l_q (by decide) (p_move rfl).q ?_
    refine l_buildSlice (by decide) Tryd.underlying23 inf_3 (by decide) (by decide) rfl rfl rfl rfl (fun b31 => ?_)
    first | (refine l_append1 (x.o.kind) (by decide) Tryd.underlying23 inf_3 rfl (by decide) rfl rfl rfl rfl rfl rfl (by first | omega | (simp only [kds_len, List.length_take]; omega) | (simp only [rds_len, List.length_take]; omega)) (by first | omega | (simp only [kds_len, List.length_take]; omega) | (simp only [rds_len, List.length_take]; omega)) (fun A32 c32 hA32 => ?_)) | (refine l_perm (.cons _ (front1 _ _ _)) ?_; refine l_append1 (x.o.kind) (by decide) Tryd.underlying23 inf_3 rfl (by decide) rfl rfl rfl rfl rfl rfl (by first | omega | (simp only [kds_len, List.length_take]; omega) | (simp only [rds_len, List.length_take]; omega)) (by first | omega | (simp only [kds_len, List.length_take]; omega) | (simp only [rds_len, List.length_take]; omega)) (fun A32 c32 hA32 => ?_)) | (refine l_perm (.cons _ (front2 _ _ _ _)) ?_; refine l_append1 (x.o.kind) (by decide) Tryd.underlying23 inf_3 rfl (by decide) rfl rfl rfl rfl rfl rfl (by first | omega | (simp only [kds_len, List.length_take]; omega) | (simp only [rds_len, List.length_take]; omega)) (by first | omega | (simp only [kds_len, List.length_take]; omega) | (simp only [rds_len, List.length_take]; omega)) (fun A32 c32 hA32 => ?_))
    refine l_q (by decide) (p_assign rfl).q ?_
    refine l_nil ?_
    refine c_reg ?_
    refine l_q (by decide) (p_move rfl).q ?_
    refine l_q (by decide) (p_move rfl).q ?_
    refine l_q (by decide) (((p_build (cells := #[_, _]) inf_46 pl_46 rfl rfl)).to (u := .agg #[.int .i64 1, .int .i64 x.o.kind]) (rfl)).q ?_
    refine l_buildSlice (by decide) Tryd.underlying26 inf_46 (by decide) (by decide) rfl rfl rfl rfl (fun b36 => ?_)
    first | (refine l_append1 ((⟨1, x.o.kind⟩ : Ed.Op)) (by decide) Tryd.underlying26 inf_46 rfl (by decide) rfl rfl rfl rfl rfl rfl (by first | omega | (simp only [kds_len, List.length_take]; omega) | (simp only [rds_len, List.length_take]; omega)) (by first | omega | (simp only [kds_len, List.length_take]; omega) | (simp only [rds_len, List.length_take]; omega)) (fun A37 c37 hA37 => ?_)) | (refine l_perm (.cons _ (front1 _ _ _)) ?_; refine l_append1 ((⟨1, x.o.kind⟩ : Ed.Op)) (by decide) Tryd.underlying26 inf_46 rfl (by decide) rfl rfl rfl rfl rfl rfl (by first | omega | (simp only [kds_len, List.length_take]; omega) | (simp only [rds_len, List.length_take]; omega)) (by first | omega | (simp only [kds_len, List.length_take]; omega) | (simp only [rds_len, List.length_take]; omega)) (fun A37 c37 hA37 => ?_)) | (refine l_perm (.cons _ (front2 _ _ _ _)) ?_; refine l_append1 ((⟨1, x.o.kind⟩ : Ed.Op)) (by decide) Tryd.underlying26 inf_46 rfl (by decide) rfl rfl rfl rfl rfl rfl (by first | omega | (simp only [kds_len, List.length_take]; omega) | (simp only [rds_len, List.length_take]; omega)) (by first | omega | (simp only [kds_len, List.length_take]; omega) | (simp only [rds_len, List.length_take]; omega)) (fun A37 c37 hA37 => ?_))
    refine l_q (by decide) (p_assign rfl).q ?_
    refine l_nil ?_
    refine c_reg ?_
    refine l_q (by decide) (p_move rfl).q ?_
    first | refine l_q (by decide) (p_add (j := 1) rfl rfl rfl rfl (by show _ ≤ (9223372036854775807 : Nat); omega)).q ?_ | refine l_q (by decide) (p_addi rfl rfl (by show (-9223372036854775808 : Int) ≤ _; omega) (by show _ ≤ ((9223372036854775807 : Nat) : Int); omega)).q ?_
    refine l_q (by decide) (p_assign rfl).q ?_
    refine l_nil ?_
    refine c_join ((k + 1), (A32), (c32), (A37), (c37)) ?_ ?_ ?_ ?_
    ·show ((k + 1) ≤ X.xs.length ∧ ∀ x, x ∈ X.xs.take (k + 1) → 0 ≤ x.o.kind) ∧ X.xs.length - (k + 1) < X.xs.length - k
     refine ⟨⟨by omega, fun z hz => ?_⟩, by omega⟩
     rw [take_at hx] at hz
     rcases List.mem_append.1 hz with h | h
     · exact hkd z h
     · rw [List.mem_singleton.1 h]; omega
    · exact ⟨rfl, (by rw [kds_snoc hx]; rfl), (by rw [rds_snoc hx]; rfl), rfl, trivial⟩
    ·show List.Perm _ ([iSl 3 1 intF (A32) (c32) (kds (X.xs.take (k + 1))), iSl 46 2 opF (A37) (c37) (rds (X.xs.take (k + 1))), iCells b1 25 [.slice X.A X.xs.length X.c, .slice X.B X.ins.length X.d, .int .i64 X.sw]])
     rw [kds_snoc hx, rds_snoc hx]
     repeat (first | exact List.Perm.refl _ | refine List.Perm.cons _ ?_ | refine (front1 _ _ _).trans (List.Perm.cons _ ?_) | refine (front2 _ _ _ _).trans (List.Perm.cons _ ?_) | refine (front3 _ _ _ _ _).trans (List.Perm.cons _ ?_) | refine (front4 _ _ _ _ _ _).trans (List.Perm.cons _ ?_))
    · exact fun _ h => h
  ·skip
   refine c_exit ?_
   refine c_here ?_
   refine c_seq ?_
   refine c_reg ?_
   have hkn : X.xs.take k = X.xs := List.take_of_length_le (by omega)
   rw [hkn] at hkd ⊢
   have hown := own_of hO hkd
   have hkl := kds_len (xs := X.xs)
   have hrl := rds_len (xs := X.xs)
   refine l_sealr (by decide) len_intF ?_
   refine l_sealr (by decide) len_opF ?_
   first | refine l_q (by decide) (r_loada Tryd.underlying25 rfl inf_25 rfl (by first | exact .fact (by repeat constructor) | exact .own (by repeat constructor) (by decide) (fun _ => rfl) | exact SlIn.reads (by repeat constructor) (by assumption)) (by assumption)).q ?_ | refine l_q (by decide) (r_loadow Tryd.underlying25 rfl inf_25 rfl (by repeat constructor) (by rfl)).q ?_ | refine l_q (by decide) (r_loadoa Tryd.underlying25 rfl inf_25 rfl (by repeat constructor) (by rfl) (fun j u h => h)).q ?_
   refine l_q (by decide) (p_move rfl).q ?_
   refine l_call (X := Option Addr × Nat) (fun x => .tuple #[.slice x.1 (alg X (kds X.xs)).1.length x.2, .int .i64 (alg X (kds X.xs)).2]) (fun x => Sl 2 opF x.1 (alg X (kds X.xs)).1) (by decide) call_21 rfl (fun w hs => align_ok X hX w (X.of hs (by repeat constructor) (by repeat constructor) (by repeat constructor)) hO (by omega) A3 d3 (kds X.xs) (by omega) (hs.facts (Sl 1 intF A3 (kds X.xs)) (by repeat constructor)).1) (fun x41 => ?_)
   refine l_q (by decide) (p_move rfl).q ?_
   refine l_q (by decide) (p_extract rfl rfl).q ?_
   refine l_q (by decide) (p_extract rfl rfl).q ?_
   refine l_q (by decide) (p_assign rfl).q ?_
   refine l_q (by decide) (p_assign rfl).q ?_
   refine l_nil ?_
   refine c_seq ?_
   refine c_reg ?_
   first | refine l_q (by decide) (r_loada Tryd.underlying25 rfl inf_25 rfl (by first | exact .fact (by repeat constructor) | exact .own (by repeat constructor) (by decide) (fun _ => rfl) | exact SlIn.reads (by repeat constructor) (by assumption)) (by assumption)).q ?_ | refine l_q (by decide) (r_loadow Tryd.underlying25 rfl inf_25 rfl (by repeat constructor) (by rfl)).q ?_ | refine l_q (by decide) (r_loadoa Tryd.underlying25 rfl inf_25 rfl (by repeat constructor) (by rfl) (fun j u h => h)).q ?_
   refine l_q (by decide) (p_move rfl).q ?_
   refine l_q (by decide) (q_call call_18 rfl (fun w hs => dist_ok X hX w (X.of hs (by repeat constructor) (by repeat constructor) (by repeat constructor)) hO (by omega) A3 d3 (kds X.xs) (by omega) (hs.facts (Sl 1 intF A3 (kds X.xs)) (by repeat constructor)).1)) ?_
   first | refine l_q (by decide) (((p_eql (j := 0) rfl rfl rfl rfl)).to (u := .bool true) (by rw [hown.2]; rfl)).q ?_ | refine l_q (by decide) (((p_eqli rfl rfl)).to (u := .bool true) (by rw [hown.2]; rfl)).q ?_
   refine l_q (by decide) (p_move rfl).q ?_
   refine l_g (j := 4) rfl rfl (by decide) (p_move rfl).q ?_
   first | refine l_g (j := 4) rfl rfl (by decide) (((p_eql (j := 0) rfl rfl rfl rfl)).to (u := .bool true) (by rw [hown.1]; rfl)).q ?_ | refine l_g (j := 4) rfl rfl (by decide) (((p_eqli rfl rfl)).to (u := .bool true) (by rw [hown.1]; rfl)).q ?_
   refine l_q (by decide) (p_pick rfl rfl).q ?_
   refine l_q (by decide) (p_move rfl).q ?_
   refine l_g (j := 8) rfl rfl (by decide) (p_move rfl).q ?_
   refine l_g (j := 8) rfl rfl (by decide) (p_move rfl).q ?_
   refine l_g (j := 8) rfl rfl (by decide) (q_call call_24 rfl (fun w hs => yes_ok (by rw [hown.1]) (sameops_ok A4 x41.1 d4 x41.2 (rds X.xs) (alg X (kds X.xs)).1 (by omega) w (hs.facts (Sl 2 opF A4 (rds X.xs)) (by repeat constructor)).1 (hs.facts (Sl 2 opF x41.1 (alg X (kds X.xs)).1) (by repeat constructor)).1))) ?_
   refine l_q (by decide) (p_pick rfl rfl).q ?_
   refine l_q (by decide) (p_assign rfl).q ?_
   refine l_nil ?_
   refine c_ret ?_
   refine c_ret1 rfl rfl (fun w hs => ?_)
   exact ⟨rfl, hs.ext⟩
end Go.Proofs.YtlefheiohblgdaaDoor
