/- The walks of the recognizer, twenty-first part (run); conditions: lengths. -/
import Derived.Test.YtncagpppmaehhaaWalksT
namespace Go.Proofs.Ytncagpppmaehhaa
open Go Go.Fx Go.Proofs

open Go.Proofs.Rec
theorem fill62 (a b c d : Value) (A1 A2 : Option Addr) (n1 c1 n2 c2 : Nat) : Instr.fill ([(0, 4), (4, 1), (5, 1)].toArray[·]?) (Value.agg #[.slice none 0 0, .slice none 0 0, .int .i64 0, .slice none 0 0, .slice none 0 0, .slice none 0 0]).cells [(0, .agg #[a, b, c, d]), (1, .slice A1 n1 c1), (2, .slice A2 n2 c2)] = some #[a, b, c, d, .slice A1 n1 c1, .slice A2 n2 c2] := by
  simp [Instr.fill, Value.cells, Array.zipIdx]
abbrev LoB (lo : Nat) := { bo : Nat // lo ≤ bo }
/-- what run leaves -/
structure RunV where
  bo : Nat
  p : Nat
  A : Option Addr
  c : Nat
  bs : List Nat
  L : List ES
structure RunV.Ok (X : GI) (s : List Int) (z : RunV) : Prop where
  full : FullL X s z.L
  len : z.L.length = s.length + 1
  bs : z.bs = z.L.map ES.b
abbrev RunR (X : GI) (s : List Int) := { z : RunV // z.Ok X s }
abbrev RunV.own (X : GI) (z : RunV) : Fx.Own := earlyO X z.bo z.p z.A z.c z.bs z.L
theorem two_facts {P Q : World → Prop} {ρ : Fx.Facts} : ∀ q, q ∈ P :: ρ → q ∈ P :: Q :: ρ := fun q hq => by
  rcases List.mem_cons.1 hq with rfl | hq
  · exact List.mem_cons_self ..
  · exact List.mem_cons_of_mem _ (List.mem_cons_of_mem _ hq)
theorem three_facts {P R Q : World → Prop} {ρ : Fx.Facts} : ∀ q, q ∈ P :: R :: ρ → q ∈ P :: R :: Q :: ρ := fun q hq => by
  rcases List.mem_cons.1 hq with rfl | hq
  · exact List.mem_cons_self ..
  · exact List.mem_cons_of_mem _ (two_facts q hq)
theorem call_33 : Callable Try.prog 33 := ⟨_, Try.func33, by kernel_rfl, rfl⟩
theorem call_36 : Callable Try.prog 36 := ⟨_, Try.func36, by kernel_rfl, rfl⟩
theorem run_ok (X : GI) (hX : X.small) (As : Option Addr) (cs : Nat) (s : List Int) (hsl : s.length ≤ 40) (w : World) (hM : X.mem w) (ok : Ana.Ok2 X.g) (hp : Sl 1 intF As s w) :
   Calls Try.prog 23 #[.agg #[.slice X.At X.terms.length X.ct, .slice X.An X.nts.length X.cn, .int .i64 X.start, .slice X.Ar X.xs.length X.cr], .slice As s.length cs] w (Ret fun v w' => ∃ (z : RunR X s) (ρ' : Facts), v = .pointer (some ⟨z.1.p, 0, none⟩) ∧ St w [] w' (z.1.own X) ρ') := by
 have hnl := ok.nl
 refine calls_fx (l := [.agg #[.slice X.At X.terms.length X.ct, .slice X.An X.nts.length X.cn, .int .i64 X.start, .slice X.Ar X.xs.length X.cr], .slice As s.length cs]) Try.func23 rfl Try.ntmps23 (Nat.le_of_ble_eq_true rfl) ((X.begin hM).old hp (dep_sl (by decide) hp)) ?_
 refine c_seq ?_
 obtain ⟨lo, hlo⟩ : ∃ lo, lo = w.heap.size := ⟨_, rfl⟩
 refine c_reg ?_
 refine l_box (by decide) rfl _ rfl (fun b2 => ?_)
 refine l_q (by decide) (p_assign rfl).q ?_
 refine l_nil ?_
 refine c_seq ?_
 refine c_meetn (S := LoB lo × Nat × Nat × Nat) (fun zs => True) (fun zs => [(1, .slice As s.length cs), (2, .pointer (some ⟨b2, 0, none⟩)), (5, .pointer (some ⟨zs.2.2.2, 0, none⟩))]) (fun zs => [iCells zs.2.2.2 62 (pCells X zs.1.1 (some ⟨zs.2.2.1, 0, none⟩) (0 + 1) 1), iCells zs.2.2.1 56 [.pointer (some ⟨zs.2.1, 0, none⟩)], iCells zs.2.1 59 [.slice none 0 0, .map none], iCells b2 25 [.slice X.At X.terms.length X.ct, .slice X.An X.nts.length X.cn, .int .i64 X.start, .slice X.Ar X.xs.length X.cr]]) (fun zs => (prodT X zs.1.1 :: (Sl 1 intF As s :: [Bd X.xs, Sl 3 ruF X.Ar X.xs, Sl 1 strF X.An X.nts, Sl 1 strF X.At X.terms]))) ?_ ?_
 ·skip
  refine m_draw [] mixed ?_
  refine m_take 0 rfl (by kernel_rfl) (by decide) (by exact (List.Perm.refl _ : List.Perm _ ([] ++ _))) (by exact fun _ h => h) (r_loadow Try.underlying25 rfl inf_25 rfl (by repeat constructor) (by rfl)).r ?_
  refine m_take 1 rfl (by kernel_rfl) (by decide) (by exact (List.Perm.refl _ : List.Perm _ ([] ++ _))) (by exact fun _ h => h) (r_loadow Try.underlying25 rfl inf_25 rfl (by repeat constructor) (by rfl)).r ?_
  refine m_takep 3 rfl (by kernel_rfl) (by decide) (((p_build (cells := #[_, _]) inf_59 pl_59 rfl rfl)).to (u := .agg #[.slice none 0 0, .map none]) (rfl)) ?_
  refine m_two 2 4 rfl rfl (by kernel_rfl) ?_ ?_
  ·skip
   refine l_call (X := { bo : Nat // lo ≤ bo }) (fun x => .slice (some ⟨x.1, 0, none⟩) X.g.n X.g.n) (fun x => Sl 1 boolF (some ⟨x.1, 0, none⟩) (Ana.mkl X.g.n (Ana.pn X.g true))) (by decide) call_33 rfl (fun w hs => tab_call (by rw [hlo]; exact hs.ext.size) (productive_ok X hX w (GI.of hs (by repeat constructor) (by repeat constructor) (by repeat constructor) (by repeat constructor)) ok)) (fun x10 => ?_)
   refine l_nil ?_
   refine m_next _ (by exact (List.Perm.refl _ : List.Perm _ ([] ++ _))) (by exact fun _ h => List.mem_cons_of_mem _ h) ?_
   refine m_run 4 rfl (by kernel_rfl) ?_
   refine l_box (by decide) rfl _ rfl (fun b12 => ?_)
   refine l_nil ?_
   refine m_next _ (by exact (List.Perm.refl _ : List.Perm _ ([_] ++ _))) (by exact fun _ h => List.mem_cons_of_mem _ h) ?_
   refine m_run 5 rfl (by kernel_rfl) ?_
   refine l_buildSlice (by decide) Try.underlying60 inf_56 (by decide) (by decide) rfl rfl rfl rfl (fun b13 => ?_)
   refine l_nil ?_
   refine m_next _ (by exact (List.Perm.refl _ : List.Perm _ ([_, _] ++ _))) (by exact fun _ h => List.mem_cons_of_mem _ h) ?_
   refine m_takep 6 rfl (by kernel_rfl) (by decide) (((p_build inf_62 pl_62 rfl (fill62 _ _ _ _ _ _ _ _ _ _))).to (u := .agg (pCells X x10.1 (some ⟨b13, 0, none⟩) (0 + 1) 1).toArray) (rfl)) ?_
   refine m_run 7 rfl (by kernel_rfl) ?_
   refine l_box (by decide) rfl _ rfl (fun b15 => ?_)
   refine l_nil ?_
   refine m_next _ (by exact (List.Perm.refl _ : List.Perm _ ([_, _, _] ++ _))) (by exact fun _ h => List.mem_cons_of_mem _ h) ?_
   refine m_takep 8 rfl (by kernel_rfl) (by decide) (p_assign rfl) ?_
   refine m_done (by kernel_rfl) ?_
   refine c_join (x10, b12, b13, b15) ?inv ?sub ?perm ?facts
   case sub => exact ⟨rfl, rfl, rfl, trivial⟩
   case perm =>
    repeat (first | exact List.Perm.refl _ | refine List.Perm.cons _ ?_ | refine (front1 _ _ _).trans (List.Perm.cons _ ?_) | refine (front2 _ _ _ _).trans (List.Perm.cons _ ?_) | refine (front3 _ _ _ _ _).trans (List.Perm.cons _ ?_) | refine (front4 _ _ _ _ _ _).trans (List.Perm.cons _ ?_))
   case facts => exact fun _ h => h
   case inv =>
    trivial
  ·skip
   refine l_box (by decide) rfl _ rfl (fun b12 => ?_)
   refine l_nil ?_
   refine m_next _ (by exact (List.Perm.refl _ : List.Perm _ ([_] ++ _))) (by exact fun _ h => h) ?_
   refine m_two 2 5 rfl rfl (by kernel_rfl) ?_ ?_
   ·skip
    refine l_call (X := { bo : Nat // lo ≤ bo }) (fun x => .slice (some ⟨x.1, 0, none⟩) X.g.n X.g.n) (fun x => Sl 1 boolF (some ⟨x.1, 0, none⟩) (Ana.mkl X.g.n (Ana.pn X.g true))) (by decide) call_33 rfl (fun w hs => tab_call (by rw [hlo]; exact hs.ext.size) (productive_ok X hX w (GI.of hs (by repeat constructor) (by repeat constructor) (by repeat constructor) (by repeat constructor)) ok)) (fun x10 => ?_)
    refine l_nil ?_
    refine m_next _ (by exact (List.Perm.refl _ : List.Perm _ ([_] ++ _))) (by exact fun _ h => List.mem_cons_of_mem _ h) ?_
    refine m_run 5 rfl (by kernel_rfl) ?_
    refine l_buildSlice (by decide) Try.underlying60 inf_56 (by decide) (by decide) rfl rfl rfl rfl (fun b13 => ?_)
    refine l_nil ?_
    refine m_next _ (by exact (List.Perm.refl _ : List.Perm _ ([_, _] ++ _))) (by exact fun _ h => List.mem_cons_of_mem _ h) ?_
    refine m_takep 6 rfl (by kernel_rfl) (by decide) (((p_build inf_62 pl_62 rfl (fill62 _ _ _ _ _ _ _ _ _ _))).to (u := .agg (pCells X x10.1 (some ⟨b13, 0, none⟩) (0 + 1) 1).toArray) (rfl)) ?_
    refine m_run 7 rfl (by kernel_rfl) ?_
    refine l_box (by decide) rfl _ rfl (fun b15 => ?_)
    refine l_nil ?_
    refine m_next _ (by exact (List.Perm.refl _ : List.Perm _ ([_, _, _] ++ _))) (by exact fun _ h => List.mem_cons_of_mem _ h) ?_
    refine m_takep 8 rfl (by kernel_rfl) (by decide) (p_assign rfl) ?_
    refine m_done (by kernel_rfl) ?_
    refine c_join (x10, b12, b13, b15) ?inv ?sub ?perm ?facts
    case sub => exact ⟨rfl, rfl, rfl, trivial⟩
    case perm =>
     repeat (first | exact List.Perm.refl _ | refine List.Perm.cons _ ?_ | refine (front1 _ _ _).trans (List.Perm.cons _ ?_) | refine (front2 _ _ _ _).trans (List.Perm.cons _ ?_) | refine (front3 _ _ _ _ _).trans (List.Perm.cons _ ?_) | refine (front4 _ _ _ _ _ _).trans (List.Perm.cons _ ?_))
    case facts => exact fun _ h => h
    case inv =>
     trivial
   ·skip
    refine l_buildSlice (by decide) Try.underlying60 inf_56 (by decide) (by decide) rfl rfl rfl rfl (fun b13 => ?_)
    refine l_nil ?_
    refine m_next _ (by exact (List.Perm.refl _ : List.Perm _ ([_, _] ++ _))) (by exact fun _ h => h) ?_
    refine m_run 2 rfl (by kernel_rfl) ?_
    refine l_call (X := { bo : Nat // lo ≤ bo }) (fun x => .slice (some ⟨x.1, 0, none⟩) X.g.n X.g.n) (fun x => Sl 1 boolF (some ⟨x.1, 0, none⟩) (Ana.mkl X.g.n (Ana.pn X.g true))) (by decide) call_33 rfl (fun w hs => tab_call (by rw [hlo]; exact hs.ext.size) (productive_ok X hX w (GI.of hs (by repeat constructor) (by repeat constructor) (by repeat constructor) (by repeat constructor)) ok)) (fun x10 => ?_)
    refine l_nil ?_
    refine m_next _ (by exact (List.Perm.refl _ : List.Perm _ ([_, _] ++ _))) (by exact fun _ h => List.mem_cons_of_mem _ h) ?_
    refine m_takep 6 rfl (by kernel_rfl) (by decide) (((p_build inf_62 pl_62 rfl (fill62 _ _ _ _ _ _ _ _ _ _))).to (u := .agg (pCells X x10.1 (some ⟨b13, 0, none⟩) (0 + 1) 1).toArray) (rfl)) ?_
    refine m_run 7 rfl (by kernel_rfl) ?_
    refine l_box (by decide) rfl _ rfl (fun b15 => ?_)
    refine l_nil ?_
    refine m_next _ (by exact (List.Perm.refl _ : List.Perm _ ([_, _, _] ++ _))) (by exact fun _ h => List.mem_cons_of_mem _ h) ?_
    refine m_takep 8 rfl (by kernel_rfl) (by decide) (p_assign rfl) ?_
    refine m_done (by kernel_rfl) ?_
    refine c_join (x10, b12, b13, b15) ?inv ?sub ?perm ?facts
    case sub => exact ⟨rfl, rfl, rfl, trivial⟩
    case perm =>
     repeat (first | exact List.Perm.refl _ | refine List.Perm.cons _ ?_ | refine (front1 _ _ _).trans (List.Perm.cons _ ?_) | refine (front2 _ _ _ _).trans (List.Perm.cons _ ?_) | refine (front3 _ _ _ _ _).trans (List.Perm.cons _ ?_) | refine (front4 _ _ _ _ _ _).trans (List.Perm.cons _ ?_))
    case facts => exact fun _ h => h
    case inv =>
     trivial
 rintro ⟨x10, b12, b13, b15⟩ hmeet
 show Cont _ _ _ _ [(1, .slice As s.length cs), (2, .pointer (some ⟨b2, 0, none⟩)), (5, .pointer (some ⟨b15, 0, none⟩))] ([iCells b15 62 (pCells X x10.1 (some ⟨b13, 0, none⟩) (0 + 1) 1), iCells b13 56 [.pointer (some ⟨b12, 0, none⟩)], iCells b12 59 [.slice none 0 0, .map none], iCells b2 25 [.slice X.At X.terms.length X.ct, .slice X.An X.nts.length X.cn, .int .i64 X.start, .slice X.Ar X.xs.length X.cr]]) (prodT X x10.1 :: (Sl 1 intF As s :: [Bd X.xs, Sl 3 ruF X.Ar X.xs, Sl 1 strF X.An X.nts, Sl 1 strF X.At X.terms]))
 refine c_seq ?_
 refine c_perm (show List.Perm _ (iCells b2 25 _ :: _) from front3 _ _ _ _ _) ?_
 refine c_perm (show List.Perm _ (iCells b13 _ _ :: _) from front2 _ _ _ _) ?_
 refine c_rowc (e := 56) (size := 1) ptrF [b12] rfl rfl (by show 1 ≤ maxLen; decide) ?_
 refine c_perm (show List.Perm _ (iCells b15 62 _ :: _) from front2 _ _ _ _) ?_
 refine c_perm (show List.Perm _ (iCells b12 59 _ :: _) from front3 _ _ _ _ _) ?_
 refine c_sl0 52 3 imF ?_
 refine c_perm (front1 _ _ _) ?_
 refine c_perm (τ := setO (ES.mk b12 none 0 none []) ++ [iCells b15 62 (pCells X x10.1 (some ⟨b13, 0, none⟩) (0 + 1) 1), iSl 56 1 ptrF (some ⟨b13, 0, none⟩) 1 [b12], iCells b2 25 [.slice X.At X.terms.length X.ct, .slice X.An X.nts.length X.cn, .int .i64 X.start, .slice X.Ar X.xs.length X.cr]]) (List.Perm.refl _) ?_
 refine m_draw [9] mixed ?_
 refine m_takep 0 rfl (by kernel_rfl) (by decide) (p_move rfl) ?_
 refine m_takep 1 rfl (by kernel_rfl) (by decide) (p_move rfl) ?_
 refine m_takep 2 rfl (by kernel_rfl) (by decide) (p_nilp rfl) ?_
 refine m_takep 3 rfl (by kernel_rfl) (by decide) (p_faddro (i := 2) 5 Try.underlying62 rfl inf_60 (by decide) rfl rfl) ?_
 refine m_take 4 rfl (by kernel_rfl) (by decide) (by exact (List.Perm.refl _ : List.Perm _ ([] ++ _))) (by exact fun _ h => h) (r_loado Try.underlying60 rfl rfl (by repeat constructor) (by rfl)).r ?_
 refine m_take 5 rfl (by kernel_rfl) (by decide) (by exact (List.Perm.refl _ : List.Perm _ ([] ++ _))) (by exact fun _ h => h) (r_index (es := [b12]) (f := ptrF) (A := some ⟨b13, 0, none⟩) (j := 0) Try.underlying60 inf_56 rfl rfl rfl (.own (e := 56) (c := 1) (by repeat constructor) (by decide) (fun _ => rfl)) rfl (Nat.zero_lt_one)).r ?_
 refine m_take 6 rfl (by kernel_rfl) (by decide) (by exact (List.Perm.refl _ : List.Perm _ ([] ++ _))) (by exact fun _ h => h) (r_load1 (f := ptrF) (A := some ⟨b13, 0, none⟩) (es := [b12]) (j := 0) Try.underlying56 rfl rfl (.own (e := 56) (c := 1) (by repeat constructor) (by decide) (fun _ => rfl)) rfl rfl).r ?_
 refine m_takep 7 rfl (by kernel_rfl) (by decide) (p_faddro (i := 2) 2 Try.underlying25 rfl inf_3 (by decide) rfl rfl) ?_
 refine m_take 8 rfl (by kernel_rfl) (by decide) (by exact (List.Perm.refl _ : List.Perm _ ([] ++ _))) (by exact fun _ h => h) (r_loado Try.underlying3 rfl rfl (by repeat constructor) (by rfl)).r ?_
 refine m_run 9 rfl (by kernel_rfl) ?_
 refine l_callk (τ := setO (ES.mk b12 none 0 none [])) (fun _ : PredR X (ES.mk b12 none 0 none []) 0 X.start => .tuple #[]) (fun z => setO z.1) (by decide) call_34 rfl (fun w hs => predict_ok X hX ok b15 x10.1 0 1 (some ⟨b13, 0, none⟩) (iSl 56 1 ptrF (some ⟨b13, 0, none⟩) 1 [b12] :: [iCells b2 25 [.slice X.At X.terms.length X.ct, .slice X.An X.nts.length X.cn, .int .i64 X.start, .slice X.Ar X.xs.length X.cr]]) (by omega) (ES.mk b12 none 0 none []) (fun _ => rfl) (by simp) X.start w (hs.weak three_facts)) (fun z => ?_)
 obtain ⟨⟨zb, A5, c5, m5, es5⟩, hzb, hz1, hz2, hz3⟩ := z
 obtain rfl : zb = b12 := hzb
 refine l_nil ?_
 refine m_late rfl ?_
 refine m_done (by kernel_rfl) ?_
 refine c_seq ?_
 refine c_reg ?_
 refine l_q (by decide) (p_move rfl).q ?_
 have hset0 : IsSet X.g s 0 es5 := hz2.isSet ⟨List.nodup_nil, fun x h => absurd h List.not_mem_nil⟩ (fun z hz => start_it hz)
 refine l_callk (τ := setO (ES.mk zb A5 c5 m5 es5)) (fun _ : CloseR X s (ES.mk zb A5 c5 m5 es5) 0 (nthS []) => .tuple #[]) (fun z => setO z.1) (by decide) call_35 rfl (fun w hs => close_ok X hX ok b15 x10.1 0 1 (some ⟨b13, 0, none⟩) [iCells b2 25 [.slice X.At X.terms.length X.ct, .slice X.An X.nts.length X.cn, .int .i64 X.start, .slice X.Ar X.xs.length X.cr]] s hsl (by omega) [zb] rfl (nthS []) (ES.mk zb A5 c5 m5 es5) rfl (fun f hf => by omega) hz1 hset0 w (hs.weak three_facts)) (fun z => ?_)
 obtain ⟨T, hT⟩ := z
 have hTb : T.b = zb := hT.b
 have hfull0 : FullL X s [T] := FullL.push (L := []) (fun f S h => by simp at h) hT.ok hT.set (fun x hx => by
   refine It.full (g := X.g) (s := s) (j := 0) (sets := fun f => (nthS [] f).es) ok.h0 (fun _ z hz => hT.sub z (hz2.all z hz)) (fun i hi => by omega) (fun i hi => by omega) hT.done hx rfl)
 refine l_nil ?_
 refine c_seq ?_
 refine c_seq ?_
 refine c_reg ?_
 refine l_q (by decide) (p_move rfl).q ?_
 refine l_q (by decide) (p_len_sl Try.underlying26 rfl).q ?_
 refine l_q (by decide) (p_move (v := .int .i64 ((0 : Nat) : Int)) rfl).q ?_
 refine l_nil ?_
 refine c_block ?_
 refine c_loop (S := Nat × Option Addr × Nat × List Nat × List ES) (fun zs => zs.1 ≤ s.length ∧ zs.2.2.2.1 = List.map ES.b zs.2.2.2.2 ∧ List.length zs.2.2.2.2 = zs.1 + 1 ∧ FullL X s zs.2.2.2.2) (fun zs => s.length - zs.1) (fun zs => [(5, .pointer (some ⟨b15, 0, none⟩)), (28, .slice As s.length cs), (29, .int .i64 (s.length : Int)), (30, .int .i64 (zs.1 : Int))]) (fun zs => (earlyO X x10.1 b15 zs.2.1 zs.2.2.1 zs.2.2.2.1 zs.2.2.2.2 ++ [iCells b2 25 [.slice X.At X.terms.length X.ct, .slice X.An X.nts.length X.cn, .int .i64 X.start, .slice X.Ar X.xs.length X.cr]])) (fun zs => (prodT X x10.1 :: Sl 1 intF As s :: [Bd X.xs, Sl 3 ruF X.Ar X.xs, Sl 1 strF X.An X.nts, Sl 1 strF X.At X.terms])) (0, some ⟨b13, 0, none⟩, 1, [zb], [T]) ?_ ?_ ?_ ?_ ?_
 · show (0) ≤ s.length ∧ ([zb]) = List.map ES.b ([T]) ∧ List.length ([T]) = (0) + 1 ∧ FullL X s ([T])
   exact ⟨Nat.zero_le _, by show [zb] = [T.b]; rw [hTb], rfl, hfull0⟩
 · exact ⟨rfl, rfl, rfl, rfl, trivial⟩
 · exact (by show List.Perm _ ((_ :: _ :: List.flatMap setO [T]) ++ [_]); rw [List.flatMap_cons, List.flatMap_nil, List.append_nil]; exact List.perm_append_comm_assoc (setO T) [_, _] [_])
 · exact fun _ h => h
 rintro ⟨i, A, c, bs, L⟩ hinv
 have hinv : i ≤ s.length ∧ bs = List.map ES.b L ∧ List.length L = i + 1 ∧ FullL X s L := hinv
 obtain ⟨hi, hbs, hL, hfull⟩ := hinv
 show Cont _ _ _ _ [(5, .pointer (some ⟨b15, 0, none⟩)), (28, .slice As s.length cs), (29, .int .i64 (s.length : Int)), (30, .int .i64 (i : Int))] ((earlyO X x10.1 b15 A c bs L ++ [iCells b2 25 [.slice X.At X.terms.length X.ct, .slice X.An X.nts.length X.cn, .int .i64 X.start, .slice X.Ar X.xs.length X.cr]])) (prodT X x10.1 :: Sl 1 intF As s :: [Bd X.xs, Sl 3 ruF X.Ar X.xs, Sl 1 strF X.An X.nts, Sl 1 strF X.At X.terms])
 refine c_seq ?_
 refine c_reg ?_
 refine l_q (by decide) (p_lss rfl rfl rfl rfl).q ?_
 refine l_nil ?_
 refine c_seq ?_
 refine c_dec rfl (fun h31 => ?_) (fun h31 => ?_)
 ·skip
  obtain ⟨t, ht⟩ := at_some (l := s) (n := i) (by omega)
  refine c_skip ?_
  refine c_seq ?_
  refine c_block ?_
  refine c_seq ?_
  refine c_reg ?_
  refine l_q (by decide) (r_index Try.underlying26 inf_3 rfl rfl rfl (by exact .fact (by repeat constructor)) rfl (by omega)).q ?_
  refine l_q (by decide) (r_load1 Try.underlying3 rfl rfl (by exact .fact (by repeat constructor)) (by assumption) (by rfl)).q ?_
  refine l_q (by decide) (p_assign rfl).q ?_
  refine l_nil ?_
  refine c_reg ?_
  refine l_q (by decide) (p_move rfl).q ?_
  refine l_q (by decide) (p_move rfl).q ?_
  refine l_callo (τ := earlyO X x10.1 b15 A c bs L) (fun _ : AdvR X s L => .tuple #[]) (fun z => earlyO X x10.1 b15 z.1.1 z.1.2.1 (bs ++ [z.1.2.2.b]) (L ++ [z.1.2.2])) (by decide) call_36 rfl (fun w hs => advance_ok X hX ok b15 x10.1 i c A s hsl bs L hbs hL hfull t ht w (hs.weak two_facts)) (fun z => ?_)
  obtain ⟨⟨A6, c6, T6⟩, hT6⟩ := z
  refine l_nil ?_
  refine c_reg ?_
  refine l_q (by decide) (p_add (j := 1) rfl rfl rfl rfl (by show _ ≤ (9223372036854775807 : Nat); omega)).q ?_
  refine l_q (by decide) (p_move rfl).q ?_
  refine l_nil ?_
  refine c_join ((i + 1), (A6), (c6), (bs ++ [T6.b]), (L ++ [T6])) ?_ ?_ ?_ ?_
  ·show ((i + 1) ≤ s.length ∧ (bs ++ [T6.b]) = List.map ES.b (L ++ [T6]) ∧ List.length (L ++ [T6]) = (i + 1) + 1 ∧ FullL X s (L ++ [T6])) ∧ s.length - (i + 1) < s.length - i
   refine ⟨⟨by omega, by rw [hbs, List.map_append]; rfl, by rw [List.length_append, hL]; rfl, hT6⟩, by omega⟩
  · exact ⟨rfl, rfl, rfl, rfl, trivial⟩
  ·show List.Perm _ ((earlyO X x10.1 b15 (A6) (c6) (bs ++ [T6.b]) (L ++ [T6]) ++ [iCells b2 25 [.slice X.At X.terms.length X.ct, .slice X.An X.nts.length X.cn, .int .i64 X.start, .slice X.Ar X.xs.length X.cr]]))
   exact .refl _
  · exact fun _ h => h
 ·skip
  refine c_exit ?_
  refine c_here ?_
  refine c_seq ?_
  refine c_reg ?_
  refine l_q (by decide) (p_move rfl).q ?_
  refine l_q (by decide) (p_assign rfl).q ?_
  refine l_nil ?_
  refine c_ret ?_
  refine c_ret1 rfl rfl (fun w hs => ?_)
  obtain rfl : i = s.length := by omega
  exact ⟨⟨⟨x10.1, b15, A, c, bs, L⟩, hfull, hL, hbs⟩, _, rfl, (hs.perm List.perm_append_comm).drop⟩
end Go.Proofs.Ytncagpppmaehhaa
