/- The walks of the recognizer, third part; conditions: lengths. -/
import Derived.Test.YtncagpppmaehhaaWalksB
namespace Go.Proofs.Ytncagpppmaehhaa
open Go Go.Fx Go.Proofs

abbrev BF := Nat → Bool
theorem heads_full {X : GI} {tm : Bool} {f : Nat → Bool} (hs : Ana.Sound X.g tm f) (hg : ∀ x, x ∈ X.xs → GoodH X tm x f) : bl X.g.n f = bl X.g.n (Ana.pn X.g tm) := by
  unfold bl
  rw [Ana.mkl_ext (fun j _ => Ana.pn_full hs (fun r hr => by obtain ⟨x, hx, rfl⟩ := List.mem_map.1 hr; exact hg x hx) j)]; rfl

theorem tab_call {k : FuncId} {args : Array Value} {w : World} {n lo : Nat} {p : Nat → Bool} (hlo : lo ≤ w.heap.size) (h : Calls Try.prog k args w (Ret fun v w' => ∃ bo : Nat, v = .slice (some ⟨bo, 0, none⟩) n n ∧ Sl 1 boolF (some ⟨bo, 0, none⟩) (Ana.mkl n p) w' ∧ (w.heap.size ≤ bo ∧ bo < w'.heap.size) ∧ Ext [] w w')) :
    Calls Try.prog k args w (Ret fun v w' => ∃ x : { bo : Nat // lo ≤ bo }, v = .slice (some ⟨x.1, 0, none⟩) n n ∧ Sl 1 boolF (some ⟨x.1, 0, none⟩) (Ana.mkl n p) w' ∧ Dep w.heap.size w'.heap.size (Sl 1 boolF (some ⟨x.1, 0, none⟩) (Ana.mkl n p)) ∧ Ext [] w w') := h.mono fun e w' h => by
  cases e with
  | returned v =>
    obtain ⟨bo, h1, h2, h3, h4⟩ := h
    exact ⟨⟨bo, by omega⟩, h1, h2, Sl.dep fun a ha => by injection ha with ha; subst ha; exact h3, h4⟩
  | _ => exact h.elim
theorem tab_lt {n : Nat} {p : Nat → Bool} {bo : Nat} {w : World} (hn : 1 ≤ n) (h : Sl 1 boolF (some ⟨bo, 0, none⟩) (Ana.mkl n p) w) : bo < w.heap.size := by
  obtain ⟨b, off, h1, h2⟩ := h.lt (by decide) (fun e => by have := Ana.mkl_len n p; rw [e] at this; simp at this; omega)
  injection h1 with h1; injection h1 with h1; rw [h1]; exact h2
theorem inf_22 : InfoIs Try.prog 22 1 24 (.slice none 0 0) := by unfold InfoIs; kernel_rfl
theorem inf_25 : InfoIs Try.prog 25 4 80 (.agg #[.slice none 0 0, .slice none 0 0, .int .i64 0, .slice none 0 0]) := by unfold InfoIs; kernel_rfl
theorem inf_42 : InfoIs Try.prog 42 1 24 (.slice none 0 0) := by unfold InfoIs; kernel_rfl
theorem call_42 : Callable Try.prog 42 := ⟨_, Try.func42, by kernel_rfl, rfl⟩
theorem call_46 : Callable Try.prog 46 := ⟨_, Try.func46, by kernel_rfl, rfl⟩
theorem call_47 : Callable Try.prog 47 := ⟨_, Try.func47, by kernel_rfl, rfl⟩
theorem heads_ok (X : GI) (hX : X.small) (w : World) (hM : X.mem w) (ok : Ana.Ok2 X.g) (tm : Bool) :
   Calls Try.prog 42 #[.agg #[.slice X.At X.terms.length X.ct, .slice X.An X.nts.length X.cn, .int .i64 X.start, .slice X.Ar X.xs.length X.cr], .bool tm] w (Ret fun v w' => ∃ bo : Nat, v = .slice (some ⟨bo, 0, none⟩) X.g.n X.g.n ∧ Sl 1 boolF (some ⟨bo, 0, none⟩) (Ana.mkl X.g.n (Ana.pn X.g tm)) w' ∧ (w.heap.size ≤ bo ∧ bo < w'.heap.size) ∧ Ext [] w w') := by
 have hnl := ok.nl
 have hnn : X.nts.length ≤ 16 := hnl
 refine calls_fx (l := [.agg #[.slice X.At X.terms.length X.ct, .slice X.An X.nts.length X.cn, .int .i64 X.start, .slice X.Ar X.xs.length X.cr], .bool tm]) Try.func42 rfl Try.ntmps42 (Nat.le_of_ble_eq_true rfl) (X.begin hM) ?_
 refine c_seq ?_
 refine c_reg ?_
 refine l_box (by decide) rfl _ rfl (fun b2 => ?_)
 refine l_box (by decide) rfl _ rfl (fun b3 => ?_)
 refine l_q (by decide) (p_assign rfl).q ?_
 refine l_nil ?_
 refine c_seq ?_
 refine c_reg ?_
 first | refine l_q (by decide) (p_faddr (i := 1) 1 Try.underlying25 rfl inf_22 (by decide) rfl rfl).q ?_ | refine l_q (by decide) (p_faddro (i := 1) 1 Try.underlying25 rfl inf_22 (by decide) rfl rfl).q ?_
 first | refine l_q (by decide) (r_loado Try.underlying22 rfl rfl (by repeat constructor) (by rfl)).q ?_ | refine l_q (by decide) (r_load1 Try.underlying22 rfl rfl (by first | exact .fact (by repeat constructor) | exact .own (by repeat constructor) (by decide) (fun _ => rfl) | exact SlIn.body (by repeat constructor) (by assumption)) (by first | assumption | rfl) (by rfl)).q ?_ | refine l_q (by decide) (r_loadf Try.underlying22 rfl rfl (by first | exact .fact (by repeat constructor) | exact .own (by repeat constructor) (by decide) (fun _ => rfl) | exact SlIn.body (by repeat constructor) (by assumption)) (by assumption) (by rfl)).q ?_
 refine l_q (by decide) (p_len_sl Try.underlying22 rfl).q ?_
 refine l_make (by decide) Try.underlying42 inf_4 rfl rfl rfl rfl rfl rfl (by omega) (by omega) (fun b9 => ?_)
 refine l_alloc (by decide) inf_42 _ rfl (fun b5 => ?_)
 first | (refine l_store inf_42 rfl rfl rfl rfl (by first | decide | exact Nat.le_of_ble_eq_true rfl | (simp; done) | omega | (simp only [Nat.mul_one]; assumption)) ?_) | (refine l_perm (front1 _ _ _) ?_; refine l_store inf_42 rfl rfl rfl rfl (by first | decide | exact Nat.le_of_ble_eq_true rfl | (simp; done) | omega | (simp only [Nat.mul_one]; assumption)) ?_) | (refine l_perm (front2 _ _ _ _) ?_; refine l_store inf_42 rfl rfl rfl rfl (by first | decide | exact Nat.le_of_ble_eq_true rfl | (simp; done) | omega | (simp only [Nat.mul_one]; assumption)) ?_) | (refine l_perm (front3 _ _ _ _ _) ?_; refine l_store inf_42 rfl rfl rfl rfl (by first | decide | exact Nat.le_of_ble_eq_true rfl | (simp; done) | omega | (simp only [Nat.mul_one]; assumption)) ?_) | (refine l_perm (front4 _ _ _ _ _ _) ?_; refine l_store inf_42 rfl rfl rfl rfl (by first | decide | exact Nat.le_of_ble_eq_true rfl | (simp; done) | omega | (simp only [Nat.mul_one]; assumption)) ?_)
 refine l_nil ?_
 refine c_seq ?_
 refine c_reg ?_
 first | refine l_q (by decide) (r_loada Try.underlying25 rfl inf_25 rfl (by first | exact .fact (by repeat constructor) | exact .own (by repeat constructor) (by decide) (fun _ => rfl) | exact SlIn.body (by repeat constructor) (by assumption)) (by assumption)).q ?_ | refine l_q (by decide) (r_loadow Try.underlying25 rfl inf_25 rfl (by repeat constructor) (by rfl)).q ?_ | refine l_q (by decide) (r_loadoa Try.underlying25 rfl inf_25 rfl (by repeat constructor) (by rfl) (fun j u h => h)).q ?_
 refine l_q (by decide) (p_makeFn rfl rfl).q ?_
 rw [show List.replicate X.nts.length (Value.bool false) = bl X.g.n (fun _ => false) from bl_rep _]
 refine l_perm ((List.Perm.swap _ _ _).trans ((List.Perm.cons _ (List.Perm.swap _ _ _)).trans ((List.Perm.swap _ _ _).trans (List.Perm.cons _ (List.Perm.swap _ _ _))))) ?_
 refine l_callo (τ := tauH X b3 b5 b9 tm (fun _ => false)) (σ := [iCells b2 25 [.slice X.At X.terms.length X.ct, .slice X.An X.nts.length X.cn, .int .i64 X.start, .slice X.Ar X.xs.length X.cr]]) (fun _ => .tuple #[]) (fun y : { f : Nat → Bool // Ana.Sound X.g tm f ∧ ∀ x, x ∈ X.xs → GoodH X tm x f } => tauH X b3 b5 b9 tm y.1) (by decide) call_46 rfl (fun w hs => fix_ok X hX 47 call_47 #[.pointer (some ⟨b5, 0, none⟩), .pointer (some ⟨b3, 0, none⟩)] (tauH X b3 b5 b9 tm) (Ana.lack X.g.n) (Ana.Sound X.g tm) (GoodH X tm) [] (fun x hx f hf w h => heads1_ok X ok tm b3 b5 b9 x hx f hf _ w h) (fun _ => false) (Ana.Sound.zero _ _) w hs) (fun y => ?_)
 refine l_nil ?_
 refine c_seq ?_
 refine c_reg ?_
 first | refine l_q (by decide) (r_loado Try.underlying42 rfl rfl (by repeat constructor) (by rfl)).q ?_ | refine l_q (by decide) (r_load1 Try.underlying42 rfl rfl (by first | exact .fact (by repeat constructor) | exact .own (by repeat constructor) (by decide) (fun _ => rfl) | exact SlIn.body (by repeat constructor) (by assumption)) (by first | assumption | rfl) (by rfl)).q ?_ | refine l_q (by decide) (r_loadf Try.underlying42 rfl rfl (by first | exact .fact (by repeat constructor) | exact .own (by repeat constructor) (by decide) (fun _ => rfl) | exact SlIn.body (by repeat constructor) (by assumption)) (by assumption) (by rfl)).q ?_
 refine l_q (by decide) (p_assign rfl).q ?_
 refine l_nil ?_
 refine c_ret ?_
 refine c_ret1 rfl rfl (fun w hs => ?_)
 obtain ⟨f, hf1, hf2⟩ := y
 replace hs : St _ [] w [iCells b3 4 [.bool tm], iCells b5 42 [.slice (some ⟨b9, 0, none⟩) X.g.n X.g.n], iCells b9 4 (bl X.g.n f), iCells b2 25 [.slice X.At X.terms.length X.ct, .slice X.An X.nts.length X.cn, .int .i64 X.start, .slice X.Ar X.xs.length X.cr]] _ := hs
 rw [heads_full hf1 hf2] at hs
 have hgo := hs.own (iCells b9 4 (bl X.g.n (Ana.pn X.g tm))) (by repeat constructor)
 have hgk := hgo.2.2 b9 (by simp [iCells])
 have hgh := hgo.1
 rw [bl_flat] at hgh
 exact ⟨b9, rfl, cells_sl (fun _ => rfl) hgh, ⟨by simpa using hgk.2, hgk.1⟩, hs.ext⟩

theorem productive_ok (X : GI) (hX : X.small) (w : World) (hM : X.mem w) (ok : Ana.Ok2 X.g) :
   Calls Try.prog 33 #[.agg #[.slice X.At X.terms.length X.ct, .slice X.An X.nts.length X.cn, .int .i64 X.start, .slice X.Ar X.xs.length X.cr]] w (Ret fun v w' => ∃ bo : Nat, v = .slice (some ⟨bo, 0, none⟩) X.g.n X.g.n ∧ Sl 1 boolF (some ⟨bo, 0, none⟩) (Ana.mkl X.g.n (Ana.pn X.g true)) w' ∧ (w.heap.size ≤ bo ∧ bo < w'.heap.size) ∧ Ext [] w w') := by
 refine calls_fx (l := [.agg #[.slice X.At X.terms.length X.ct, .slice X.An X.nts.length X.cn, .int .i64 X.start, .slice X.Ar X.xs.length X.cr]]) Try.func33 rfl Try.ntmps33 (Nat.le_of_ble_eq_true rfl) (X.begin hM) ?_
 refine c_seq ?_
 obtain ⟨lo, hlo⟩ : ∃ lo, lo = w.heap.size := ⟨_, rfl⟩
 refine c_reg ?_
 refine l_box (by decide) rfl _ rfl (fun b1 => ?_)
 refine l_q (by decide) (p_assign rfl).q ?_
 refine l_nil ?_
 refine c_seq ?_
 refine c_reg ?_
 first | refine l_q (by decide) (r_loada Try.underlying25 rfl inf_25 rfl (by first | exact .fact (by repeat constructor) | exact .own (by repeat constructor) (by decide) (fun _ => rfl) | exact SlIn.body (by repeat constructor) (by assumption)) (by assumption)).q ?_ | refine l_q (by decide) (r_loadow Try.underlying25 rfl inf_25 rfl (by repeat constructor) (by rfl)).q ?_ | refine l_q (by decide) (r_loadoa Try.underlying25 rfl inf_25 rfl (by repeat constructor) (by rfl) (fun j u h => h)).q ?_
 refine l_call (X := { bo : Nat // lo ≤ bo }) (fun x => .slice (some ⟨x.1, 0, none⟩) X.g.n X.g.n) (fun x => Sl 1 boolF (some ⟨x.1, 0, none⟩) (Ana.mkl X.g.n (Ana.pn X.g true))) (by decide) call_42 rfl (fun w hs => tab_call (by rw [hlo]; exact hs.ext.size) (heads_ok X hX w (GI.of hs (by repeat constructor) (by repeat constructor) (by repeat constructor) (by repeat constructor)) ok true)) (fun x4 => ?_)
 refine l_q (by decide) (p_assign rfl).q ?_
 refine l_nil ?_
 refine c_ret ?_
 refine c_ret1 rfl rfl (fun w hs => ?_)
 have hsl := (hs.facts (Sl 1 boolF (some ⟨x4.1, 0, none⟩) (Ana.mkl X.g.n (Ana.pn X.g true))) (by repeat constructor)).1
 exact ⟨x4.1, rfl, hsl, ⟨by have := x4.2; omega, tab_lt ok.n1 hsl⟩, hs.ext⟩
end Go.Proofs.Ytncagpppmaehhaa
