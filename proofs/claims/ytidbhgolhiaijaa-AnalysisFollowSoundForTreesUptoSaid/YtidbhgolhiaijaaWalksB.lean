/- The walks of analysis, second part; conditions: lengths. -/
import Derived.Test.YtidbhgolhiaijaaWalks
namespace Go.Proofs.Ytidbhgolhiaijaa
open Go Go.Fx Go.Proofs

theorem hold_ext {w0 w w2 : World} {K : List Nat} {σ : Fx.Own} {ρ : Fx.Facts} (hs : St w0 K w σ ρ) {x : Fx.Item} (hx : x ∈ σ) (he : Ext [] w w2) : x.holds w2 := ((hs.move he).own x hx).1
/-- what a closure of fixpoint may return -/
abbrev FixR {Y : Type} (m : Y → Nat) (Inv : Y → Prop) (Good : Y → Prop) (y : Y) := { z : Bool × Y // Inv z.2 ∧ (z.1 = true → m z.2 < m y) ∧ (z.1 = false → z.2 = y ∧ Good y) }
theorem mem_g {X : GI} {x : XR} (h : x ∈ X.xs) : x.r ∈ X.g.rules := List.mem_map.2 ⟨x, h, rfl⟩
def bl (n : Nat) (f : Nat → Bool) : List Value := (Ana.mkl n f).map Value.bool
theorem bl_flat (n : Nat) (f : Nat → Bool) : bl n f = (Ana.mkl n f).flatMap boolF := by
  unfold bl
  induction Ana.mkl n f with
  | nil => rfl
  | cons x l ih => rw [List.map_cons, List.flatMap_cons, ih]; rfl
theorem bl_len (n : Nat) (f : Nat → Bool) : (bl n f).length = n := by rw [bl, List.length_map, Ana.mkl_len]
theorem bl_at {n j : Nat} {f : Nat → Bool} (h : j < n) : (bl n f)[j * 1]? = some (.bool (f j)) := by rw [Nat.mul_one, bl, List.getElem?_map, Ana.mkl_at h]; rfl
theorem bl_set {n j : Nat} {f : Nat → Bool} {v : Bool} : (bl n f).set (j * 1) (.bool v) = bl n (Ana.upd f j v) := by rw [Nat.mul_one, bl, ← List.map_set, Ana.mkl_set]; rfl
theorem bl_rep (n : Nat) : List.replicate n (Value.bool false) = bl n (fun _ => false) := by rw [bl, ← Ana.mkl_rep, List.map_replicate]
theorem give_cells {α : Type} {w0 w : World} {σ : Fx.Own} {ρ : Fx.Facts} {b e size : Nat} {vs : List Value} (f : α → List Value) (es : List α) (hs : St w0 [] w σ ρ) (h : iCells b e vs ∈ σ) (hv : vs = es.flatMap f) (hf : ∀ x, (f x).length = size) : Sl size f (some ⟨b, 0, none⟩) es w ∧ Dep w0.heap.size w.heap.size (Sl size f (some ⟨b, 0, none⟩) es) := by
  subst hv
  obtain ⟨h1, _, h3⟩ := hs.own _ h
  have h4 := h3 b (by simp [iCells])
  exact ⟨cells_sl hf h1, Sl.dep fun a ha => by injection ha with ha; subst ha; exact ⟨by simpa using h4.2, h4.1⟩⟩
theorem old_cells {b t : Nat} {vs : List Value} {w : World} (h : (iCells b t vs).holds w) : Dep 0 w.heap.size (iCells b t vs).holds := fun w1 w2 hb hq => by
  have h1 : w.heap[b]? = some (.cells vs.toArray t (0, 0)) := h
  exact (hb b (Nat.zero_le _) (Array.getElem?_eq_some_iff.1 h1).1).trans hq
theorem l_callov {P : Program} {w0 : World} {K : List Nat} {n : Sz} {N : Act → World → Prop} {L : Slots} {σ : Fx.Own} {ρ : Fx.Facts} {ops : Array Oper} {rest : List Oper} {ty : TypeId} {X : Type} {d : Nat} {pos : String} {aft : Array Edge} {k : FuncId} {f : Operand} {cs : Array Value} {xs : List Operand} {us : List Value} {at_ : Array TypeId} {τ : Fx.Own} (V : X → Value) (τ' : X → Fx.Own) (hd : d < n) (hk : Callable P k) (hf' : ev L f = some (.func (.func k) #[] cs)) (ha : evl L xs = some us)
    (hc : ∀ w, Fx.St w (keysOf τ) w τ ρ → Calls P k (us.toArray ++ cs) w (Ret fun v w' => ∃ x ρ', v = V x ∧ Fx.St w (keysOf τ) w' (τ' x) ρ')) (h : ∀ x, WL P w0 K n ops rest N ((d, V x) :: L) (τ' x ++ σ) ρ) :
    WL P w0 K n ops (⟨some d, .call { callee := .value f, args := xs.toArray, argTypes := at_ }, ty, pos, aft, none⟩ :: rest) N L (τ ++ σ) ρ := fun a w hf hs => by
  refine wpList_plain rfl fun K' hK => ?_
  unfold Oper.wp
  rw [run_call hk (first := #[]) (cap := cs) (w := w) rfl (hf.ev hf') (args_evl (fun x u hx => hf.ev hx) _ _ ha)]
  simp only [Array.empty_append, Oper.upon]
  refine (hc w hs.focus).mono fun e w' hr => ?_
  cases e with
  | returned v =>
    obtain ⟨x, ρ', rfl, h1⟩ := hr
    exact hK _ _ (h x _ _ (hf.put hd _) (hs.splice h1))
  | _ => exact hr.elim
theorem allG_take {tm : Bool} {f : Nat → Bool} {l : List Int} {k : Nat} {x : Int} (h : l[k]? = some x) : Ana.allG tm f (l.take (k + 1)) = (Ana.allG tm f (l.take k) && Ana.good tm f x) := by rw [take_at h]; simp [Ana.allG]
theorem allG_no {tm : Bool} {f : Nat → Bool} {l : List Int} {k : Nat} {x : Int} (h : l[k]? = some x) (hg : Ana.good tm f x = false) : Ana.allG tm f l = false := by
  cases ha : Ana.allG tm f l with
  | false => rfl
  | true => have := List.all_eq_true.1 ha x (List.mem_of_getElem? h); rw [hg] at this; cases this
theorem good_term {tm : Bool} {f : Nat → Bool} {x : Int} (h : 0 ≤ x) : Ana.good tm f x = tm := by unfold Ana.good; simp [h, show ¬ x < 0 by omega]
theorem good_non {tm : Bool} {f : Nat → Bool} {x : Int} (h : x < 0) : Ana.good tm f x = f (Ana.nt x) := by unfold Ana.good; simp [h, show ¬ 0 ≤ x by omega]

abbrev tauH (X : GI) (b1 b2 bo : Nat) (tm : Bool) (f : Nat → Bool) : Fx.Own := [iCells b1 4 [.bool tm], iCells b2 29 [.slice (some ⟨bo, 0, none⟩) X.g.n X.g.n], iCells bo 4 (bl X.g.n f)]
def GoodH (X : GI) (tm : Bool) (x : XR) (f : Nat → Bool) : Prop := Ana.allG tm f x.r.body = true → f x.r.head.toNat = true
theorem call_38 : Callable Try.prog 38 := ⟨_, Try.func38, by kernel_rfl, rfl⟩
theorem call_51 : Callable Try.prog 51 := ⟨_, Try.func51, by kernel_rfl, rfl⟩
theorem rall_ok (A B : Option Addr) (c d : Nat) (l : List Int) (n : Nat) (f : Nat → Bool) (tm : Bool) (hl : l.length ≤ 1000) (hn : n ≤ 1000) (hr : ∀ x, x ∈ l → x < 0 → Ana.nt x < n) (w : World) (hq : Sl 1 intF A l w) (hp : Sl 1 boolF B (Ana.mkl n f) w) :
   Calls Try.prog 40 #[.slice A l.length c, .slice B n d, .bool tm] w (Ret fun v w' => v = .bool (Ana.allG tm f l) ∧ Ext [] w w') := by
 refine calls_fx (l := [.slice A l.length c, .slice B n d, .bool tm]) Try.func40 rfl Try.ntmps40 (Nat.le_of_ble_eq_true rfl) (Holds.two hq (dep_sl (by decide) hq) hp (dep_sl (by decide) hp)) ?_
 refine c_seq ?_
 refine c_reg ?_
 refine l_q (by decide) (p_assign rfl).q ?_
 refine l_nil ?_
 refine c_seq ?_
 refine c_seq ?_
 refine c_reg ?_
 refine l_q (by decide) (p_assign (v := .int .i64 ((0 : Nat) : Int)) rfl).q ?_
 refine l_nil ?_
 refine c_block ?_
 refine c_loop (S := Nat) (fun zs => zs ≤ l.length ∧ Ana.allG tm f (l.take zs) = true) (fun zs => l.length - zs) (fun zs => [(0, .slice A l.length c), (1, .slice B n d), (2, .bool tm), (7, .int .i64 (zs : Int))]) (fun zs => []) (fun zs => [Sl 1 intF A l, Sl 1 boolF B (Ana.mkl n f)]) (0) ?_ ?_ ?_ ?_ ?_
 · show (0) ≤ l.length ∧ Ana.allG tm f (l.take (0)) = true
   exact ⟨Nat.zero_le _, rfl⟩
 · exact ⟨rfl, rfl, rfl, rfl, trivial⟩
 · exact .refl _
 · simp
 rintro k hinv
 have hinv : k ≤ l.length ∧ Ana.allG tm f (l.take k) = true := hinv
 obtain ⟨hk, he⟩ := hinv
 show Cont _ _ _ _ [(0, .slice A l.length c), (1, .slice B n d), (2, .bool tm), (7, .int .i64 (k : Int))] ([]) [Sl 1 intF A l, Sl 1 boolF B (Ana.mkl n f)]
 refine c_seq ?_
 refine c_seq ?_
 refine c_reg ?_
 refine l_q (by decide) (p_move rfl).q ?_
 refine l_q (by decide) (p_move rfl).q ?_
 refine l_q (by decide) (p_len_sl Try.underlying39 rfl).q ?_
 first | refine l_q (by decide) (p_lss rfl rfl rfl rfl).q ?_ | refine l_q (by decide) (p_lssi rfl rfl).q ?_
 refine l_nil ?_
 first | refine c_dec rfl (fun h11 => ?_) (fun h11 => ?_) | refine c_cond rfl (fun h11 => ?_) (fun h11 => ?_)
 ·skip
  obtain ⟨x, hx⟩ := at_some (l := l) (n := k) (by omega)
  refine c_skip ?_
  refine c_seq ?_
  refine c_block ?_
  refine c_seq ?_
  refine c_reg ?_
  refine l_q (by decide) (p_move rfl).q ?_
  refine l_q (by decide) (p_move rfl).q ?_
  first | refine l_q (by decide) (r_index Try.underlying39 inf_3 rfl rfl rfl (by first | exact .fact (by repeat constructor) | exact .own (by repeat constructor) (by decide) (fun _ => rfl) | exact SlIn.body (by repeat constructor) (by assumption)) rfl (by omega)).q ?_ | refine l_q (by decide) (r_index Try.underlying39 inf_3 rfl rfl rfl (by first | exact .fact (by repeat constructor) | exact .own (by repeat constructor) (by decide) (fun _ => rfl) | exact SlIn.body (by repeat constructor) (by assumption)) rfl (by decide)).q ?_ | refine l_q (by decide) (p_indexo Try.underlying39 inf_3 rfl rfl rfl (by omega)).q ?_
  first | refine l_q (by decide) (r_loado Try.underlying3 rfl rfl (by repeat constructor) (by rfl)).q ?_ | refine l_q (by decide) (r_load1 Try.underlying3 rfl rfl (by first | exact .fact (by repeat constructor) | exact .own (by repeat constructor) (by decide) (fun _ => rfl) | exact SlIn.body (by repeat constructor) (by assumption)) (by first | assumption | rfl) (by rfl)).q ?_ | refine l_q (by decide) (r_loadf Try.underlying3 rfl rfl (by first | exact .fact (by repeat constructor) | exact .own (by repeat constructor) (by decide) (fun _ => rfl) | exact SlIn.body (by repeat constructor) (by assumption)) (by assumption) (by rfl)).q ?_
  first | refine l_q (by decide) (p_geq (j := 0) rfl rfl rfl rfl).q ?_ | refine l_q (by decide) (p_geqi rfl rfl).q ?_
  refine l_q (by decide) (p_move rfl).q ?_
  first | refine l_splitd (t := 19) rfl (fun h19 => ?_) (fun h19 => ?_) | refine l_splitb (t := 19) rfl (fun h19 => ?_) (fun h19 => ?_)
  ·skip
   refine l_g (j := 5) rfl rfl (by decide) (p_move rfl).q ?_
   first | refine l_g (j := 5) rfl rfl (by decide) (p_notd rfl).q ?_ | refine l_g (j := 5) rfl rfl (by decide) (p_not rfl).q ?_
   refine l_q (by decide) (p_pick rfl rfl).q ?_
   refine l_q (by decide) (p_move rfl).q ?_
   first | refine l_splitd (t := 23) rfl (fun h23 => ?_) (fun h23 => ?_) | refine l_splitb (t := 23) rfl (fun h23 => ?_) (fun h23 => ?_)
   ·skip
    refine l_off (j := 9) rfl rfl (by first | (simp; done) | (simp [undef]; done)) (by decide) ?_
    refine l_off (j := 9) rfl rfl (by first | (simp; done) | (simp [undef]; done)) (by decide) ?_
    refine l_off (j := 9) rfl rfl (by first | (simp; done) | (simp [undef]; done)) (by decide) ?_
    refine l_off (j := 9) rfl rfl (by first | (simp; done) | (simp [undef]; done)) (by decide) ?_
    refine l_off (j := 9) rfl rfl (by first | (simp; done) | (simp [undef]; done)) (by decide) ?_
    refine l_off (j := 9) rfl rfl (by first | (simp; done) | (simp [undef]; done)) (by decide) ?_
    refine l_off (j := 15) rfl rfl (by first | (simp; done) | (simp [undef]; done)) (by decide) ?_
    refine l_off (j := 15) rfl rfl (by first | (simp; done) | (simp [undef]; done)) (by decide) ?_
    refine l_off (j := 15) rfl rfl (by first | (simp; done) | (simp [undef]; done)) (by decide) ?_
    refine l_off (j := 15) rfl rfl (by first | (simp; done) | (simp [undef]; done)) (by decide) ?_
    refine l_off (j := 15) rfl rfl (by first | (simp; done) | (simp [undef]; done)) (by decide) ?_
    refine l_off (j := 15) rfl rfl (by first | (simp; done) | (simp [undef]; done)) (by decide) ?_
    refine l_off (j := 15) rfl rfl (by first | (simp; done) | (simp [undef]; done)) (by decide) ?_
    refine l_off (j := 15) rfl rfl (by first | (simp; done) | (simp [undef]; done)) (by decide) ?_
    refine l_off (j := 15) rfl rfl (by first | (simp; done) | (simp [undef]; done)) (by decide) ?_
    refine l_off (j := 9) rfl rfl (by first | (simp; done) | (simp [undef]; done)) (by decide) ?_
    refine l_q (by decide) (p_pick rfl rfl).q ?_
    refine l_nil ?_
    refine c_true rfl ?_
    refine c_seq ?_
    refine c_reg ?_
    refine l_q (by decide) (p_assign rfl).q ?_
    refine l_nil ?_
    refine c_ret ?_
    refine c_ret1 rfl rfl (fun w hs => ?_)
    exact ⟨by rw [allG_no hx (by rw [good_term h19]; simpa using h23)], hs.ext⟩
   ·skip
    refine l_g (j := 9) rfl rfl (by decide) (p_move rfl).q ?_
    refine l_g (j := 9) rfl rfl (by decide) (p_move rfl).q ?_
    first | refine l_g (j := 9) rfl rfl (by decide) (r_index Try.underlying39 inf_3 rfl rfl rfl (by first | exact .fact (by repeat constructor) | exact .own (by repeat constructor) (by decide) (fun _ => rfl) | exact SlIn.body (by repeat constructor) (by assumption)) rfl (by omega)).q ?_ | refine l_g (j := 9) rfl rfl (by decide) (r_index Try.underlying39 inf_3 rfl rfl rfl (by first | exact .fact (by repeat constructor) | exact .own (by repeat constructor) (by decide) (fun _ => rfl) | exact SlIn.body (by repeat constructor) (by assumption)) rfl (by decide)).q ?_ | refine l_g (j := 9) rfl rfl (by decide) (p_indexo Try.underlying39 inf_3 rfl rfl rfl (by omega)).q ?_
    first | refine l_g (j := 9) rfl rfl (by decide) (r_loado Try.underlying3 rfl rfl (by repeat constructor) (by rfl)).q ?_ | refine l_g (j := 9) rfl rfl (by decide) (r_load1 Try.underlying3 rfl rfl (by first | exact .fact (by repeat constructor) | exact .own (by repeat constructor) (by decide) (fun _ => rfl) | exact SlIn.body (by repeat constructor) (by assumption)) (by first | assumption | rfl) (by rfl)).q ?_ | refine l_g (j := 9) rfl rfl (by decide) (r_loadf Try.underlying3 rfl rfl (by first | exact .fact (by repeat constructor) | exact .own (by repeat constructor) (by decide) (fun _ => rfl) | exact SlIn.body (by repeat constructor) (by assumption)) (by assumption) (by rfl)).q ?_
    first | refine l_g (j := 9) rfl rfl (by decide) (p_lss (j := 0) rfl rfl rfl rfl).q ?_ | refine l_g (j := 9) rfl rfl (by decide) (p_lssi rfl rfl).q ?_
    refine l_g (j := 9) rfl rfl (by decide) (p_move rfl).q ?_
    first | refine l_splitd (t := 29) rfl (fun h29 => ?_) (fun h29 => ?_) | refine l_splitb (t := 29) rfl (fun h29 => ?_) (fun h29 => ?_)
    ·skip
     exfalso; omega
    ·skip
     refine l_off (j := 15) rfl rfl (by first | (simp; done) | (simp [undef]; done)) (by decide) ?_
     refine l_off (j := 15) rfl rfl (by first | (simp; done) | (simp [undef]; done)) (by decide) ?_
     refine l_off (j := 15) rfl rfl (by first | (simp; done) | (simp [undef]; done)) (by decide) ?_
     refine l_off (j := 15) rfl rfl (by first | (simp; done) | (simp [undef]; done)) (by decide) ?_
     refine l_off (j := 15) rfl rfl (by first | (simp; done) | (simp [undef]; done)) (by decide) ?_
     refine l_off (j := 15) rfl rfl (by first | (simp; done) | (simp [undef]; done)) (by decide) ?_
     refine l_off (j := 15) rfl rfl (by first | (simp; done) | (simp [undef]; done)) (by decide) ?_
     refine l_off (j := 15) rfl rfl (by first | (simp; done) | (simp [undef]; done)) (by decide) ?_
     refine l_off (j := 15) rfl rfl (by first | (simp; done) | (simp [undef]; done)) (by decide) ?_
     refine l_g (j := 9) rfl rfl (by decide) (p_pick rfl rfl).q ?_
     refine l_q (by decide) (p_pick rfl rfl).q ?_
     refine l_nil ?_
     refine c_false rfl ?_
     refine c_skip ?_
     refine c_reg ?_
     refine l_q (by decide) (p_move rfl).q ?_
     first | refine l_q (by decide) (p_add (j := 1) rfl rfl rfl rfl (by show _ ≤ (9223372036854775807 : Nat); omega)).q ?_ | refine l_q (by decide) (p_addi rfl rfl (by show (-9223372036854775808 : Int) ≤ _; omega) (by show _ ≤ ((9223372036854775807 : Nat) : Int); omega)).q ?_
     refine l_q (by decide) (p_assign rfl).q ?_
     refine l_nil ?_
     refine c_join ((k + 1)) ?_ ?_ ?_ ?_
     ·show ((k + 1) ≤ l.length ∧ Ana.allG tm f (l.take (k + 1)) = true) ∧ l.length - (k + 1) < l.length - k
      exact ⟨⟨by omega, by rw [allG_take hx, he, good_term h19]; simpa using h23⟩, by omega⟩
     · exact ⟨rfl, rfl, rfl, rfl, trivial⟩
     ·show List.Perm _ ([])
      exact .refl _
     · exact fun _ h => h
  ·skip
   refine l_off (j := 5) rfl rfl (by first | (simp; done) | (simp [undef]; done)) (by decide) ?_
   refine l_off (j := 5) rfl rfl (by first | (simp; done) | (simp [undef]; done)) (by decide) ?_
   refine l_q (by decide) (p_pick rfl rfl).q ?_
   refine l_q (by decide) (p_move rfl).q ?_
   refine l_g (j := 9) rfl rfl (by decide) (p_move rfl).q ?_
   refine l_g (j := 9) rfl rfl (by decide) (p_move rfl).q ?_
   first | refine l_g (j := 9) rfl rfl (by decide) (r_index Try.underlying39 inf_3 rfl rfl rfl (by first | exact .fact (by repeat constructor) | exact .own (by repeat constructor) (by decide) (fun _ => rfl) | exact SlIn.body (by repeat constructor) (by assumption)) rfl (by omega)).q ?_ | refine l_g (j := 9) rfl rfl (by decide) (r_index Try.underlying39 inf_3 rfl rfl rfl (by first | exact .fact (by repeat constructor) | exact .own (by repeat constructor) (by decide) (fun _ => rfl) | exact SlIn.body (by repeat constructor) (by assumption)) rfl (by decide)).q ?_ | refine l_g (j := 9) rfl rfl (by decide) (p_indexo Try.underlying39 inf_3 rfl rfl rfl (by omega)).q ?_
   first | refine l_g (j := 9) rfl rfl (by decide) (r_loado Try.underlying3 rfl rfl (by repeat constructor) (by rfl)).q ?_ | refine l_g (j := 9) rfl rfl (by decide) (r_load1 Try.underlying3 rfl rfl (by first | exact .fact (by repeat constructor) | exact .own (by repeat constructor) (by decide) (fun _ => rfl) | exact SlIn.body (by repeat constructor) (by assumption)) (by first | assumption | rfl) (by rfl)).q ?_ | refine l_g (j := 9) rfl rfl (by decide) (r_loadf Try.underlying3 rfl rfl (by first | exact .fact (by repeat constructor) | exact .own (by repeat constructor) (by decide) (fun _ => rfl) | exact SlIn.body (by repeat constructor) (by assumption)) (by assumption) (by rfl)).q ?_
   first | refine l_g (j := 9) rfl rfl (by decide) (p_lss (j := 0) rfl rfl rfl rfl).q ?_ | refine l_g (j := 9) rfl rfl (by decide) (p_lssi rfl rfl).q ?_
   refine l_g (j := 9) rfl rfl (by decide) (p_move rfl).q ?_
   first | refine l_splitd (t := 29) rfl (fun h29 => ?_) (fun h29 => ?_) | refine l_splitb (t := 29) rfl (fun h29 => ?_) (fun h29 => ?_)
   ·skip
    have hn2 := hr x (List.mem_of_getElem? hx) h29
    have hfx := Ana.mkl_at (f := f) hn2
    refine l_g (j := 15) rfl rfl (by decide) (p_move rfl).q ?_
    refine l_g (j := 15) rfl rfl (by decide) (p_move rfl).q ?_
    refine l_g (j := 15) rfl rfl (by decide) (p_move rfl).q ?_
    first | refine l_g (j := 15) rfl rfl (by decide) (r_index Try.underlying39 inf_3 rfl rfl rfl (by first | exact .fact (by repeat constructor) | exact .own (by repeat constructor) (by decide) (fun _ => rfl) | exact SlIn.body (by repeat constructor) (by assumption)) rfl (by omega)).q ?_ | refine l_g (j := 15) rfl rfl (by decide) (r_index Try.underlying39 inf_3 rfl rfl rfl (by first | exact .fact (by repeat constructor) | exact .own (by repeat constructor) (by decide) (fun _ => rfl) | exact SlIn.body (by repeat constructor) (by assumption)) rfl (by decide)).q ?_ | refine l_g (j := 15) rfl rfl (by decide) (p_indexo Try.underlying39 inf_3 rfl rfl rfl (by omega)).q ?_
    first | refine l_g (j := 15) rfl rfl (by decide) (r_loado Try.underlying3 rfl rfl (by repeat constructor) (by rfl)).q ?_ | refine l_g (j := 15) rfl rfl (by decide) (r_load1 Try.underlying3 rfl rfl (by first | exact .fact (by repeat constructor) | exact .own (by repeat constructor) (by decide) (fun _ => rfl) | exact SlIn.body (by repeat constructor) (by assumption)) (by first | assumption | rfl) (by rfl)).q ?_ | refine l_g (j := 15) rfl rfl (by decide) (r_loadf Try.underlying3 rfl rfl (by first | exact .fact (by repeat constructor) | exact .own (by repeat constructor) (by decide) (fun _ => rfl) | exact SlIn.body (by repeat constructor) (by assumption)) (by assumption) (by rfl)).q ?_
    refine l_g (j := 15) rfl rfl (by decide) (((p_subi rfl rfl (by show (-9223372036854775808 : Int) ≤ _; have := hr x (List.mem_of_getElem? hx) h29; unfold Ana.nt at this; omega) (by show _ ≤ ((9223372036854775807 : Nat) : Int); have := hr x (List.mem_of_getElem? hx) h29; unfold Ana.nt at this; omega))).to (u := .int .i64 ((Ana.nt x : Nat) : Int)) (by rw [Ana.nt_cast h29])).q ?_
    refine l_g (j := 15) rfl rfl (by decide) (r_index (j := Ana.nt x) Try.underlying29 inf_4 rfl rfl rfl (.fact (by repeat constructor)) (by rw [Ana.mkl_len]) (by rw [Ana.mkl_len]; exact hn2)).q ?_
    first | refine l_g (j := 15) rfl rfl (by decide) (r_loado Try.underlying4 rfl rfl (by repeat constructor) (by rfl)).q ?_ | refine l_g (j := 15) rfl rfl (by decide) (r_load1 Try.underlying4 rfl rfl (by first | exact .fact (by repeat constructor) | exact .own (by repeat constructor) (by decide) (fun _ => rfl) | exact SlIn.body (by repeat constructor) (by assumption)) (by first | assumption | rfl) (by rfl)).q ?_ | refine l_g (j := 15) rfl rfl (by decide) (r_loadf Try.underlying4 rfl rfl (by first | exact .fact (by repeat constructor) | exact .own (by repeat constructor) (by decide) (fun _ => rfl) | exact SlIn.body (by repeat constructor) (by assumption)) (by assumption) (by rfl)).q ?_
    first | refine l_g (j := 15) rfl rfl (by decide) (p_notd rfl).q ?_ | refine l_g (j := 15) rfl rfl (by decide) (p_not rfl).q ?_
    refine l_g (j := 9) rfl rfl (by decide) (p_pick rfl rfl).q ?_
    refine l_q (by decide) (p_pick rfl rfl).q ?_
    refine l_nil ?_
    first | refine c_dec rfl (fun h40 => ?_) (fun h40 => ?_) | refine c_cond rfl (fun h40 => ?_) (fun h40 => ?_)
    ·skip
     refine c_seq ?_
     refine c_reg ?_
     refine l_q (by decide) (p_assign rfl).q ?_
     refine l_nil ?_
     refine c_ret ?_
     refine c_ret1 rfl rfl (fun w hs => ?_)
     exact ⟨by rw [allG_no hx (by rw [good_non h29]; simpa using h40)], hs.ext⟩
    ·skip
     refine c_skip ?_
     refine c_reg ?_
     refine l_q (by decide) (p_move rfl).q ?_
     first | refine l_q (by decide) (p_add (j := 1) rfl rfl rfl rfl (by show _ ≤ (9223372036854775807 : Nat); omega)).q ?_ | refine l_q (by decide) (p_addi rfl rfl (by show (-9223372036854775808 : Int) ≤ _; omega) (by show _ ≤ ((9223372036854775807 : Nat) : Int); omega)).q ?_
     refine l_q (by decide) (p_assign rfl).q ?_
     refine l_nil ?_
     refine c_join ((k + 1)) ?_ ?_ ?_ ?_
     ·show ((k + 1) ≤ l.length ∧ Ana.allG tm f (l.take (k + 1)) = true) ∧ l.length - (k + 1) < l.length - k
      exact ⟨⟨by omega, by rw [allG_take hx, he, good_non h29]; simpa using h40⟩, by omega⟩
     · exact ⟨rfl, rfl, rfl, rfl, trivial⟩
     ·show List.Perm _ ([])
      exact .refl _
     · exact fun _ h => h
   ·skip
    exfalso; omega
 ·skip
  refine c_exit ?_
  refine c_here ?_
  refine c_seq ?_
  refine c_reg ?_
  refine l_q (by decide) (p_assign rfl).q ?_
  refine l_nil ?_
  refine c_ret ?_
  refine c_ret1 rfl rfl (fun w hs => ?_)
  rw [List.take_of_length_le (by omega)] at he
  exact ⟨by rw [he], hs.ext⟩

theorem all_ok (k : FuncId) (hk : Callable Try.prog k) (cs : Array Value) (p : Int → Bool) (A : Option Addr) (c : Nat) (l : List Int) (hl : l.length ≤ 1000) (w : World) (hq : Sl 1 intF A l w) (hcl : ∀ x, x ∈ l → ∀ w2, Ext [] w w2 → Calls Try.prog k (#[.int .i64 x] ++ cs) w2 (Ret fun v w3 => v = .bool (p x) ∧ Ext [] w2 w3)) :
   Calls Try.prog 38 #[.slice A l.length c, .func (.func k) #[] cs] w (Ret fun v w' => v = .bool (l.all p) ∧ Ext [] w w') := by
 refine calls_fx (l := [.slice A l.length c, .func (.func k) #[] cs]) Try.func38 rfl Try.ntmps38 (Nat.le_of_ble_eq_true rfl) ((St.start w).old hq (dep_sl (by decide) hq)) ?_
 refine c_seq ?_
 refine c_reg ?_
 refine l_q (by decide) (p_assign rfl).q ?_
 refine l_nil ?_
 refine c_seq ?_
 refine c_seq ?_
 refine c_reg ?_
 refine l_q (by decide) (p_move rfl).q ?_
 refine l_q (by decide) (p_len_sl Try.underlying39 rfl).q ?_
 refine l_q (by decide) (p_move (v := .int .i64 ((0 : Nat) : Int)) rfl).q ?_
 refine l_nil ?_
 refine c_block ?_
 refine c_loop (S := Nat) (fun zs => zs ≤ l.length ∧ (l.take zs).all p = true) (fun zs => l.length - zs) (fun zs => [(1, .func (.func k) #[] cs), (7, .slice A l.length c), (8, .int .i64 (l.length : Int)), (9, .int .i64 (zs : Int))]) (fun zs => []) (fun zs => [Sl 1 intF A l]) (0) ?_ ?_ ?_ ?_ ?_
 · show (0) ≤ l.length ∧ (l.take (0)).all p = true
   exact ⟨Nat.zero_le _, rfl⟩
 · exact ⟨rfl, rfl, rfl, rfl, trivial⟩
 · exact .refl _
 · simp
 rintro j hinv
 have hinv : j ≤ l.length ∧ (l.take j).all p = true := hinv
 obtain ⟨hj, he⟩ := hinv
 show Cont _ _ _ _ [(1, .func (.func k) #[] cs), (7, .slice A l.length c), (8, .int .i64 (l.length : Int)), (9, .int .i64 (j : Int))] ([]) [Sl 1 intF A l]
 refine c_seq ?_
 refine c_reg ?_
 first | refine l_q (by decide) (p_lss rfl rfl rfl rfl).q ?_ | refine l_q (by decide) (p_lssi rfl rfl).q ?_
 refine l_nil ?_
 refine c_seq ?_
 first | refine c_dec rfl (fun h10 => ?_) (fun h10 => ?_) | refine c_cond rfl (fun h10 => ?_) (fun h10 => ?_)
 ·skip
  obtain ⟨x, hx⟩ := at_some (l := l) (n := j) (by omega)
  refine c_skip ?_
  refine c_seq ?_
  refine c_block ?_
  refine c_seq ?_
  refine c_reg ?_
  first | refine l_q (by decide) (r_index Try.underlying39 inf_3 rfl rfl rfl (by first | exact .fact (by repeat constructor) | exact .own (by repeat constructor) (by decide) (fun _ => rfl) | exact SlIn.body (by repeat constructor) (by assumption)) rfl (by omega)).q ?_ | refine l_q (by decide) (r_index Try.underlying39 inf_3 rfl rfl rfl (by first | exact .fact (by repeat constructor) | exact .own (by repeat constructor) (by decide) (fun _ => rfl) | exact SlIn.body (by repeat constructor) (by assumption)) rfl (by decide)).q ?_ | refine l_q (by decide) (p_indexo Try.underlying39 inf_3 rfl rfl rfl (by omega)).q ?_
  first | refine l_q (by decide) (r_loado Try.underlying3 rfl rfl (by repeat constructor) (by rfl)).q ?_ | refine l_q (by decide) (r_load1 Try.underlying3 rfl rfl (by first | exact .fact (by repeat constructor) | exact .own (by repeat constructor) (by decide) (fun _ => rfl) | exact SlIn.body (by repeat constructor) (by assumption)) (by first | assumption | rfl) (by rfl)).q ?_ | refine l_q (by decide) (r_loadf Try.underlying3 rfl rfl (by first | exact .fact (by repeat constructor) | exact .own (by repeat constructor) (by decide) (fun _ => rfl) | exact SlIn.body (by repeat constructor) (by assumption)) (by assumption) (by rfl)).q ?_
  refine l_q (by decide) (p_assign rfl).q ?_
  refine l_nil ?_
  refine c_seq ?_
  refine c_reg ?_
  refine l_q (by decide) (p_move rfl).q ?_
  refine l_q (by decide) (p_move rfl).q ?_
  refine l_q (by decide) (q_callv hk rfl rfl (fun w2 hs => hcl x (List.mem_of_getElem? hx) w2 hs.ext)) ?_
  first | refine l_q (by decide) (p_notd rfl).q ?_ | refine l_q (by decide) (p_not rfl).q ?_
  refine l_nil ?_
  first | refine c_dec rfl (fun h16 => ?_) (fun h16 => ?_) | refine c_cond rfl (fun h16 => ?_) (fun h16 => ?_)
  ·skip
   refine c_seq ?_
   refine c_reg ?_
   refine l_q (by decide) (p_assign rfl).q ?_
   refine l_nil ?_
   refine c_ret ?_
   refine c_ret1 rfl rfl (fun w hs => ?_)
   refine ⟨?_, hs.ext⟩
   cases ha : l.all p with
   | false => rfl
   | true => have := List.all_eq_true.1 ha x (List.mem_of_getElem? hx); rw [this] at h16; cases h16
  ·skip
   refine c_skip ?_
   refine c_reg ?_
   first | refine l_q (by decide) (p_add (j := 1) rfl rfl rfl rfl (by show _ ≤ (9223372036854775807 : Nat); omega)).q ?_ | refine l_q (by decide) (p_addi rfl rfl (by show (-9223372036854775808 : Int) ≤ _; omega) (by show _ ≤ ((9223372036854775807 : Nat) : Int); omega)).q ?_
   refine l_q (by decide) (p_move rfl).q ?_
   refine l_nil ?_
   refine c_join ((j + 1)) ?_ ?_ ?_ ?_
   ·show ((j + 1) ≤ l.length ∧ (l.take (j + 1)).all p = true) ∧ l.length - (j + 1) < l.length - j
    exact ⟨⟨by omega, by rw [take_at hx, List.all_append, he]; simpa using h16⟩, by omega⟩
   · exact ⟨rfl, rfl, rfl, rfl, trivial⟩
   ·show List.Perm _ ([])
    exact .refl _
   · exact fun _ h => h
 ·skip
  refine c_exit ?_
  refine c_here ?_
  refine c_seq ?_
  refine c_reg ?_
  refine l_q (by decide) (p_assign rfl).q ?_
  refine l_nil ?_
  refine c_ret ?_
  refine c_ret1 rfl rfl (fun w hs => ?_)
  rw [List.take_of_length_le (by omega)] at he
  exact ⟨by rw [he], hs.ext⟩

theorem sym_ok (b1 b2 bo n : Nat) (hn : n ≤ 1000) (f : Nat → Bool) (tm : Bool) (x : Int) (hr : x < 0 → Ana.nt x < n) (w : World) (hq1 : (iCells b1 4 [.bool tm]).holds w) (hq2 : (iCells b2 29 [.slice (some ⟨bo, 0, none⟩) n n]).holds w) (hq3 : Sl 1 boolF (some ⟨bo, 0, none⟩) (Ana.mkl n f) w) :
   Calls Try.prog 51 #[.int .i64 x, .pointer (some ⟨b1, 0, none⟩), .pointer (some ⟨b2, 0, none⟩)] w (Ret fun v w' => v = .bool (Ana.good tm f x) ∧ Ext [] w w') := by
 refine calls_fx (l := [.int .i64 x, .pointer (some ⟨b1, 0, none⟩), .pointer (some ⟨b2, 0, none⟩)]) Try.func51 rfl Try.ntmps51 (Nat.le_of_ble_eq_true rfl) ((((St.start w).old hq3 (dep_sl (by decide) hq3)).old hq2 (old_cells hq2)).old hq1 (old_cells hq1)) ?_
 refine c_seq ?_
 refine c_reg ?_
 refine l_q (by decide) (p_assign rfl).q ?_
 refine l_nil ?_
 refine c_seq ?_
 refine c_reg ?_
 refine l_q (by decide) (p_move rfl).q ?_
 first | refine l_q (by decide) (p_geq (j := 0) rfl rfl rfl rfl).q ?_ | refine l_q (by decide) (p_geqi rfl rfl).q ?_
 refine l_q (by decide) (p_move rfl).q ?_
 first | refine l_splitd (t := 7) rfl (fun h7 => ?_) (fun h7 => ?_) | refine l_splitb (t := 7) rfl (fun h7 => ?_) (fun h7 => ?_)
 ·skip
  refine l_g (j := 2) rfl rfl (by decide) (r_loadq (q := (iCells b1 4 [.bool tm]).holds) Try.underlying4 rfl rfl (by repeat constructor) (fun w h => (cells_cell h 0).trans rfl)).q ?_
  refine l_q (by decide) (p_pick rfl rfl).q ?_
  refine l_q (by decide) (p_move rfl).q ?_
  first | refine l_splitd (t := 10) rfl (fun h10 => ?_) (fun h10 => ?_) | refine l_splitb (t := 10) rfl (fun h10 => ?_) (fun h10 => ?_)
  ·skip
   refine l_off (j := 5) rfl rfl (by first | (simp; done) | (simp [undef]; done)) (by decide) ?_
   refine l_off (j := 5) rfl rfl (by first | (simp; done) | (simp [undef]; done)) (by decide) ?_
   refine l_off (j := 5) rfl rfl (by first | (simp; done) | (simp [undef]; done)) (by decide) ?_
   refine l_off (j := 8) rfl rfl (by first | (simp; done) | (simp [undef]; done)) (by decide) ?_
   refine l_off (j := 8) rfl rfl (by first | (simp; done) | (simp [undef]; done)) (by decide) ?_
   refine l_off (j := 8) rfl rfl (by first | (simp; done) | (simp [undef]; done)) (by decide) ?_
   refine l_off (j := 8) rfl rfl (by first | (simp; done) | (simp [undef]; done)) (by decide) ?_
   refine l_off (j := 8) rfl rfl (by first | (simp; done) | (simp [undef]; done)) (by decide) ?_
   refine l_off (j := 5) rfl rfl (by first | (simp; done) | (simp [undef]; done)) (by decide) ?_
   refine l_q (by decide) (p_pick rfl rfl).q ?_
   refine l_q (by decide) (p_assign rfl).q ?_
   refine l_nil ?_
   refine c_ret ?_
   refine c_ret1 rfl rfl (fun w hs => ?_)
   exact ⟨by rw [good_term h7, h10], hs.ext⟩
  ·skip
   refine l_g (j := 5) rfl rfl (by decide) (p_move rfl).q ?_
   first | refine l_g (j := 5) rfl rfl (by decide) (p_lss (j := 0) rfl rfl rfl rfl).q ?_ | refine l_g (j := 5) rfl rfl (by decide) (p_lssi rfl rfl).q ?_
   refine l_g (j := 5) rfl rfl (by decide) (p_move rfl).q ?_
   first | refine l_splitd (t := 13) rfl (fun h13 => ?_) (fun h13 => ?_) | refine l_splitb (t := 13) rfl (fun h13 => ?_) (fun h13 => ?_)
   ·skip
    exfalso; omega
   ·skip
    refine l_off (j := 8) rfl rfl (by first | (simp; done) | (simp [undef]; done)) (by decide) ?_
    refine l_off (j := 8) rfl rfl (by first | (simp; done) | (simp [undef]; done)) (by decide) ?_
    refine l_off (j := 8) rfl rfl (by first | (simp; done) | (simp [undef]; done)) (by decide) ?_
    refine l_off (j := 8) rfl rfl (by first | (simp; done) | (simp [undef]; done)) (by decide) ?_
    refine l_off (j := 8) rfl rfl (by first | (simp; done) | (simp [undef]; done)) (by decide) ?_
    refine l_g (j := 5) rfl rfl (by decide) (p_pick rfl rfl).q ?_
    refine l_q (by decide) (p_pick rfl rfl).q ?_
    refine l_q (by decide) (p_assign rfl).q ?_
    refine l_nil ?_
    refine c_ret ?_
    refine c_ret1 rfl rfl (fun w hs => ?_)
    exact ⟨by rw [good_term h7, h10], hs.ext⟩
 ·skip
  refine l_off (j := 2) rfl rfl (by first | (simp; done) | (simp [undef]; done)) (by decide) ?_
  refine l_q (by decide) (p_pick rfl rfl).q ?_
  refine l_q (by decide) (p_move rfl).q ?_
  refine l_g (j := 5) rfl rfl (by decide) (p_move rfl).q ?_
  first | refine l_g (j := 5) rfl rfl (by decide) (p_lss (j := 0) rfl rfl rfl rfl).q ?_ | refine l_g (j := 5) rfl rfl (by decide) (p_lssi rfl rfl).q ?_
  refine l_g (j := 5) rfl rfl (by decide) (p_move rfl).q ?_
  first | refine l_splitd (t := 13) rfl (fun h13 => ?_) (fun h13 => ?_) | refine l_splitb (t := 13) rfl (fun h13 => ?_) (fun h13 => ?_)
  ·skip
   have hfx := Ana.mkl_at (f := f) (hr h13)
   refine l_g (j := 8) rfl rfl (by decide) (r_loadq (q := (iCells b2 29 [.slice (some ⟨bo, 0, none⟩) n n]).holds) Try.underlying29 rfl rfl (by repeat constructor) (fun w h => (cells_cell h 0).trans rfl)).q ?_
   refine l_g (j := 8) rfl rfl (by decide) (p_move rfl).q ?_
   refine l_g (j := 8) rfl rfl (by decide) (((p_subi rfl rfl (by show (-9223372036854775808 : Int) ≤ _; have := hr h13; unfold Ana.nt at this; omega) (by show _ ≤ ((9223372036854775807 : Nat) : Int); have := hr h13; unfold Ana.nt at this; omega))).to (u := .int .i64 ((Ana.nt x : Nat) : Int)) (by rw [Ana.nt_cast h13])).q ?_
   refine l_g (j := 8) rfl rfl (by decide) (r_index (A := some ⟨bo, 0, none⟩) (j := Ana.nt x) Try.underlying29 inf_4 rfl rfl rfl (.fact (by repeat constructor)) (by rw [Ana.mkl_len]) (by rw [Ana.mkl_len]; exact hr h13)).q ?_
   first | refine l_g (j := 8) rfl rfl (by decide) (r_loado Try.underlying4 rfl rfl (by repeat constructor) (by rfl)).q ?_ | refine l_g (j := 8) rfl rfl (by decide) (r_load1 Try.underlying4 rfl rfl (by first | exact .fact (by repeat constructor) | exact .own (by repeat constructor) (by decide) (fun _ => rfl) | exact SlIn.body (by repeat constructor) (by assumption)) (by first | assumption | rfl) (by rfl)).q ?_ | refine l_g (j := 8) rfl rfl (by decide) (r_loadf Try.underlying4 rfl rfl (by first | exact .fact (by repeat constructor) | exact .own (by repeat constructor) (by decide) (fun _ => rfl) | exact SlIn.body (by repeat constructor) (by assumption)) (by assumption) (by rfl)).q ?_
   refine l_g (j := 5) rfl rfl (by decide) (p_pick rfl rfl).q ?_
   refine l_q (by decide) (p_pick rfl rfl).q ?_
   refine l_q (by decide) (p_assign rfl).q ?_
   refine l_nil ?_
   refine c_ret ?_
   refine c_ret1 rfl rfl (fun w hs => ?_)
   exact ⟨by rw [good_non h13], hs.ext⟩
  ·skip
   exfalso; omega

theorem heads1_ok (X : GI) (ok : Ana.Ok X.g) (tm : Bool) (b1 b2 bo : Nat) (x : XR) (hx : x ∈ X.xs) (f : Nat → Bool) (hf : Ana.Sound X.g tm f) (ρ : Fx.Facts) (w : World) (h : St w (keysOf (tauH X b1 b2 bo tm f)) w (tauH X b1 b2 bo tm f) (Bd X.xs :: ρ)) :
   Calls Try.prog 50 #[.agg #[.int .i64 x.r.head, .slice x.A x.r.body.length x.c, .int .i64 x.r.price], .pointer (some ⟨b2, 0, none⟩), .pointer (some ⟨b1, 0, none⟩)] w (Ret fun v w' => ∃ (z : FixR (Ana.lack X.g.n) (Ana.Sound X.g tm) (GoodH X tm x) f) (ρ' : Facts), v = .bool z.1.1 ∧ St w (keysOf (tauH X b1 b2 bo tm f)) w' (tauH X b1 b2 bo tm z.1.2) ρ') := by
 refine calls_fx (l := [.agg #[.int .i64 x.r.head, .slice x.A x.r.body.length x.c, .int .i64 x.r.price], .pointer (some ⟨b2, 0, none⟩), .pointer (some ⟨b1, 0, none⟩)]) Try.func50 rfl Try.ntmps50 (Nat.le_of_ble_eq_true rfl) h ?_
 refine c_seq ?_
 refine c_reg ?_
 refine l_box (by decide) rfl _ rfl (fun b3 => ?_)
 refine l_q (by decide) (p_assign rfl).q ?_
 refine l_nil ?_
 refine c_seq ?_
 refine c_seq ?_
 obtain ⟨hh1, hh2⟩ := ok.hd (mem_g hx)
 have hnl := ok.nl
 have hbody : ∀ w2, Bd X.xs w2 → Sl 1 intF x.A x.r.body w2 := fun w2 hs => by
   obtain ⟨k, hk⟩ := List.getElem?_of_mem hx
   exact hs k x hk
 refine c_reg ?_
 first | refine l_q (by decide) (r_loado Try.underlying29 rfl rfl (by repeat constructor) (by rfl)).q ?_ | refine l_q (by decide) (r_load1 Try.underlying29 rfl rfl (by first | exact .fact (by repeat constructor) | exact .own (by repeat constructor) (by decide) (fun _ => rfl) | exact SlIn.body (by repeat constructor) (by assumption)) (by first | assumption | rfl) (by rfl)).q ?_ | refine l_q (by decide) (r_loadf Try.underlying29 rfl rfl (by first | exact .fact (by repeat constructor) | exact .own (by repeat constructor) (by decide) (fun _ => rfl) | exact SlIn.body (by repeat constructor) (by assumption)) (by assumption) (by rfl)).q ?_
 first | refine l_q (by decide) (p_faddr (i := 0) 0 Try.underlying41 rfl inf_3 (by decide) rfl rfl).q ?_ | refine l_q (by decide) (p_faddro (i := 0) 0 Try.underlying41 rfl inf_3 (by decide) rfl rfl).q ?_
 first | refine l_q (by decide) (((r_loado Try.underlying3 rfl rfl (by repeat constructor) (by rfl))).to (u := .int .i64 ((x.r.head.toNat : Nat) : Int)) (by rw [hh1])).q ?_ | refine l_q (by decide) (((r_load1 Try.underlying3 rfl rfl (by first | exact .fact (by repeat constructor) | exact .own (by repeat constructor) (by decide) (fun _ => rfl) | exact SlIn.body (by repeat constructor) (by assumption)) (by first | assumption | rfl) (by rfl))).to (u := .int .i64 ((x.r.head.toNat : Nat) : Int)) (by rw [hh1])).q ?_ | refine l_q (by decide) (((r_loadf Try.underlying3 rfl rfl (by first | exact .fact (by repeat constructor) | exact .own (by repeat constructor) (by decide) (fun _ => rfl) | exact SlIn.body (by repeat constructor) (by assumption)) (by assumption) (by rfl))).to (u := .int .i64 ((x.r.head.toNat : Nat) : Int)) (by rw [hh1])).q ?_
 first | refine l_q (by decide) (r_index Try.underlying29 inf_4 rfl rfl rfl (by first | exact .fact (by repeat constructor) | exact .own (by repeat constructor) (by decide) (fun _ => rfl) | exact SlIn.body (by repeat constructor) (by assumption)) rfl (by omega)).q ?_ | refine l_q (by decide) (r_index Try.underlying29 inf_4 rfl rfl rfl (by first | exact .fact (by repeat constructor) | exact .own (by repeat constructor) (by decide) (fun _ => rfl) | exact SlIn.body (by repeat constructor) (by assumption)) rfl (by decide)).q ?_ | refine l_q (by decide) (p_indexo Try.underlying29 inf_4 rfl rfl rfl (by omega)).q ?_
 refine l_q (by decide) (r_loado Try.underlying4 rfl rfl (by repeat constructor) (bl_at hh2)).q ?_
 refine l_q (by decide) (p_move rfl).q ?_
 first | refine l_splitd (t := 10) rfl (fun h10 => ?_) (fun h10 => ?_) | refine l_splitb (t := 10) rfl (fun h10 => ?_) (fun h10 => ?_)
 ·skip
  refine l_off (j := 5) rfl rfl (by first | (simp; done) | (simp [undef]; done)) (by decide) ?_
  refine l_off (j := 5) rfl rfl (by first | (simp; done) | (simp [undef]; done)) (by decide) ?_
  refine l_off (j := 5) rfl rfl (by first | (simp; done) | (simp [undef]; done)) (by decide) ?_
  refine l_off (j := 5) rfl rfl (by first | (simp; done) | (simp [undef]; done)) (by decide) ?_
  refine l_off (j := 5) rfl rfl (by first | (simp; done) | (simp [undef]; done)) (by decide) ?_
  refine l_q (by decide) (p_pick rfl rfl).q ?_
  refine l_nil ?_
  refine c_true rfl ?_
  refine c_seq ?_
  refine c_reg ?_
  refine l_q (by decide) (p_assign rfl).q ?_
  refine l_nil ?_
  refine c_ret ?_
  refine c_ret1 rfl rfl (fun w hs => ?_)
  exact ⟨⟨(false, f), hf, fun h => (by cases h), fun _ => ⟨rfl, fun _ => h10⟩⟩, _, rfl, hs.drop⟩
 ·skip
  first | refine l_g (j := 5) rfl rfl (by decide) (p_faddr (i := 1) 1 Try.underlying41 rfl inf_39 (by decide) rfl rfl).q ?_ | refine l_g (j := 5) rfl rfl (by decide) (p_faddro (i := 1) 1 Try.underlying41 rfl inf_39 (by decide) rfl rfl).q ?_
  first | refine l_g (j := 5) rfl rfl (by decide) (r_loado Try.underlying39 rfl rfl (by repeat constructor) (by rfl)).q ?_ | refine l_g (j := 5) rfl rfl (by decide) (r_load1 Try.underlying39 rfl rfl (by first | exact .fact (by repeat constructor) | exact .own (by repeat constructor) (by decide) (fun _ => rfl) | exact SlIn.body (by repeat constructor) (by assumption)) (by first | assumption | rfl) (by rfl)).q ?_ | refine l_g (j := 5) rfl rfl (by decide) (r_loadf Try.underlying39 rfl rfl (by first | exact .fact (by repeat constructor) | exact .own (by repeat constructor) (by decide) (fun _ => rfl) | exact SlIn.body (by repeat constructor) (by assumption)) (by assumption) (by rfl)).q ?_
  refine l_g (j := 5) rfl rfl (by decide) (p_makeFn rfl rfl).q ?_
  refine l_g (j := 5) rfl rfl (by decide) (q_call call_38 rfl (fun w hs => all_ok 51 call_51 #[.pointer (some ⟨b1, 0, none⟩), .pointer (some ⟨b2, 0, none⟩)] (Ana.good tm f) x.A x.c x.r.body (by have := ok.bl x.r (mem_g hx); omega) w (hbody w (hs.facts (Bd X.xs) (by repeat constructor)).1) (fun y hy w2 he => sym_ok b1 b2 bo X.g.n (by omega) f tm y (fun h0 => ok.nt_lt (mem_g hx) hy h0) w2 (hold_ext hs (x := iCells b1 4 [.bool tm]) (by repeat constructor) he) (hold_ext hs (x := iCells b2 29 [.slice (some ⟨bo, 0, none⟩) X.g.n X.g.n]) (by repeat constructor) he) (cells_sl (e := 4) (fun _ => rfl) (by have := hold_ext hs (x := iCells bo 4 (bl X.g.n f)) (by repeat constructor) he; rw [bl_flat] at this; exact this))))) ?_
  first | refine l_g (j := 5) rfl rfl (by decide) (p_notd rfl).q ?_ | refine l_g (j := 5) rfl rfl (by decide) (p_not rfl).q ?_
  refine l_q (by decide) (p_pick rfl rfl).q ?_
  refine l_nil ?_
  first | refine c_dec rfl (fun h16 => ?_) (fun h16 => ?_) | refine c_cond rfl (fun h16 => ?_) (fun h16 => ?_)
  ·skip
   refine c_seq ?_
   refine c_reg ?_
   refine l_q (by decide) (p_assign rfl).q ?_
   refine l_nil ?_
   refine c_ret ?_
   refine c_ret1 rfl rfl (fun w hs => ?_)
   exact ⟨⟨(false, f), hf, fun h => (by cases h), fun _ => ⟨rfl, fun ha => by have ha : x.r.body.all (Ana.good tm f) = true := ha; rw [ha] at h16; cases h16⟩⟩, _, rfl, hs.drop⟩
  ·skip
   refine c_skip ?_
   refine c_seq ?_
   refine c_reg ?_
   first | refine l_q (by decide) (r_loado Try.underlying29 rfl rfl (by repeat constructor) (by rfl)).q ?_ | refine l_q (by decide) (r_load1 Try.underlying29 rfl rfl (by first | exact .fact (by repeat constructor) | exact .own (by repeat constructor) (by decide) (fun _ => rfl) | exact SlIn.body (by repeat constructor) (by assumption)) (by first | assumption | rfl) (by rfl)).q ?_ | refine l_q (by decide) (r_loadf Try.underlying29 rfl rfl (by first | exact .fact (by repeat constructor) | exact .own (by repeat constructor) (by decide) (fun _ => rfl) | exact SlIn.body (by repeat constructor) (by assumption)) (by assumption) (by rfl)).q ?_
   first | refine l_q (by decide) (p_faddr (i := 0) 0 Try.underlying41 rfl inf_3 (by decide) rfl rfl).q ?_ | refine l_q (by decide) (p_faddro (i := 0) 0 Try.underlying41 rfl inf_3 (by decide) rfl rfl).q ?_
   first | refine l_q (by decide) (((r_loado Try.underlying3 rfl rfl (by repeat constructor) (by rfl))).to (u := .int .i64 ((x.r.head.toNat : Nat) : Int)) (by rw [hh1])).q ?_ | refine l_q (by decide) (((r_load1 Try.underlying3 rfl rfl (by first | exact .fact (by repeat constructor) | exact .own (by repeat constructor) (by decide) (fun _ => rfl) | exact SlIn.body (by repeat constructor) (by assumption)) (by first | assumption | rfl) (by rfl))).to (u := .int .i64 ((x.r.head.toNat : Nat) : Int)) (by rw [hh1])).q ?_ | refine l_q (by decide) (((r_loadf Try.underlying3 rfl rfl (by first | exact .fact (by repeat constructor) | exact .own (by repeat constructor) (by decide) (fun _ => rfl) | exact SlIn.body (by repeat constructor) (by assumption)) (by assumption) (by rfl))).to (u := .int .i64 ((x.r.head.toNat : Nat) : Int)) (by rw [hh1])).q ?_
   first | refine l_q (by decide) (r_index Try.underlying29 inf_4 rfl rfl rfl (by first | exact .fact (by repeat constructor) | exact .own (by repeat constructor) (by decide) (fun _ => rfl) | exact SlIn.body (by repeat constructor) (by assumption)) rfl (by omega)).q ?_ | refine l_q (by decide) (r_index Try.underlying29 inf_4 rfl rfl rfl (by first | exact .fact (by repeat constructor) | exact .own (by repeat constructor) (by decide) (fun _ => rfl) | exact SlIn.body (by repeat constructor) (by assumption)) rfl (by decide)).q ?_ | refine l_q (by decide) (p_indexo Try.underlying29 inf_4 rfl rfl rfl (by omega)).q ?_
   refine l_perm (front3 _ _ _ _ _) ?_
   refine l_store inf_4 rfl rfl rfl rfl (by rw [bl_len, Nat.mul_one]; exact hh2) ?_
   refine l_nil ?_
   refine c_seq ?_
   refine c_reg ?_
   refine l_q (by decide) (p_assign rfl).q ?_
   refine l_nil ?_
   refine c_ret ?_
   refine c_ret1 rfl rfl (fun w hs => ?_)
   rw [bl_set] at hs
   exact ⟨⟨(true, Ana.upd f x.r.head.toNat true), hf.step (mem_g hx) (by cases hb : x.r.body.all (Ana.good tm f) with | true => exact hb | false => rw [hb] at h16; cases h16), fun _ => Ana.lack_upd hh2 h10, fun h => (by cases h)⟩, _, rfl, ((hs.perm (front1 _ _ _)).drop).perm ((List.Perm.swap _ _ _).trans (List.Perm.cons _ (List.Perm.swap _ _ _)))⟩

theorem fix_ok {Y : Type} (X : GI) (hX : X.small) (k : FuncId) (hk : Callable Try.prog k) (cs : Array Value) (τ : Y → Fx.Own) (m : Y → Nat) (Inv : Y → Prop) (Good : XR → Y → Prop) (ρx : Fx.Facts) (hcl : ∀ x, x ∈ X.xs → ∀ y, Inv y → ∀ w, St w (keysOf (τ y)) w (τ y) (Bd X.xs :: Sl 3 ruF X.Ar X.xs :: Sl 1 strF X.An X.nts :: Sl 1 strF X.At X.terms :: ρx) → Calls Try.prog k (#[.agg (ruF x).toArray] ++ cs) w (Ret fun v w' => ∃ (z : FixR m Inv (Good x) y) (ρ' : Facts), v = .bool z.1.1 ∧ St w (keysOf (τ y)) w' (τ z.1.2) ρ')) (y0 : Y) (hy0 : Inv y0) (w : World) (h : St w (keysOf (τ y0)) w (τ y0) (Bd X.xs :: Sl 3 ruF X.Ar X.xs :: Sl 1 strF X.An X.nts :: Sl 1 strF X.At X.terms :: ρx)) :
   Calls Try.prog 36 #[.agg #[.slice X.At X.terms.length X.ct, .slice X.An X.nts.length X.cn, .int .i64 X.start, .slice X.Ar X.xs.length X.cr], .func (.func k) #[] cs] w (Ret fun v w' => ∃ (y : { y : Y // Inv y ∧ ∀ x, x ∈ X.xs → Good x y }) (ρ' : Facts), v = .tuple #[] ∧ St w (keysOf (τ y0)) w' (τ y.1) ρ') := by
 have hxl := hX.x
 refine calls_fx (l := [.agg #[.slice X.At X.terms.length X.ct, .slice X.An X.nts.length X.cn, .int .i64 X.start, .slice X.Ar X.xs.length X.cr], .func (.func k) #[] cs]) Try.func36 rfl Try.ntmps36 (Nat.le_of_ble_eq_true rfl) h ?_
 refine c_seq ?_
 refine c_reg ?_
 refine l_box (by decide) rfl _ rfl (fun b2 => ?_)
 refine l_nil ?_
 refine c_scope ?_
 refine c_seq ?_
 refine c_label ?_
 refine c_block ?_
 refine c_loop (S := Y) (fun zs => Inv zs) (fun zs => m zs) (fun zs => [(1, .func (.func k) #[] cs), (2, .pointer (some ⟨b2, 0, none⟩))]) (fun zs => (iCells b2 25 [.slice X.At X.terms.length X.ct, .slice X.An X.nts.length X.cn, .int .i64 X.start, .slice X.Ar X.xs.length X.cr] :: τ zs)) (fun zs => (Bd X.xs :: Sl 3 ruF X.Ar X.xs :: Sl 1 strF X.An X.nts :: Sl 1 strF X.At X.terms :: ρx)) (y0) ?_ ?_ ?_ ?_ ?_
 · show Inv (y0)
   exact hy0
 · exact ⟨rfl, rfl, trivial⟩
 · exact .refl _
 · exact fun _ h => h
 rintro y hinv
 have hinv : Inv y := hinv
 have hy := hinv
 show Cont _ _ _ _ [(1, .func (.func k) #[] cs), (2, .pointer (some ⟨b2, 0, none⟩))] ((iCells b2 25 [.slice X.At X.terms.length X.ct, .slice X.An X.nts.length X.cn, .int .i64 X.start, .slice X.Ar X.xs.length X.cr] :: τ y)) (Bd X.xs :: Sl 3 ruF X.Ar X.xs :: Sl 1 strF X.An X.nts :: Sl 1 strF X.At X.terms :: ρx)
 refine c_block ?_
 refine c_seq ?_
 refine c_seq ?_
 refine c_reg ?_
 first | refine l_q (by decide) (p_faddr (i := 3) 3 Try.underlying25 rfl inf_23 (by decide) rfl rfl).q ?_ | refine l_q (by decide) (p_faddro (i := 3) 3 Try.underlying25 rfl inf_23 (by decide) rfl rfl).q ?_
 first | refine l_q (by decide) (r_loado Try.underlying23 rfl rfl (by repeat constructor) (by rfl)).q ?_ | refine l_q (by decide) (r_load1 Try.underlying23 rfl rfl (by first | exact .fact (by repeat constructor) | exact .own (by repeat constructor) (by decide) (fun _ => rfl) | exact SlIn.body (by repeat constructor) (by assumption)) (by first | assumption | rfl) (by rfl)).q ?_ | refine l_q (by decide) (r_loadf Try.underlying23 rfl rfl (by first | exact .fact (by repeat constructor) | exact .own (by repeat constructor) (by decide) (fun _ => rfl) | exact SlIn.body (by repeat constructor) (by assumption)) (by assumption) (by rfl)).q ?_
 refine l_q (by decide) (p_len_sl Try.underlying23 rfl).q ?_
 refine l_q (by decide) (p_move (v := .int .i64 ((0 : Nat) : Int)) rfl).q ?_
 refine l_nil ?_
 refine c_block ?_
 refine c_loop (S := Nat) (fun zs => zs ≤ X.xs.length ∧ ∀ z, z ∈ X.xs.take zs → Good z y) (fun zs => X.xs.length - zs) (fun zs => [(1, .func (.func k) #[] cs), (2, .pointer (some ⟨b2, 0, none⟩)), (7, .slice X.Ar X.xs.length X.cr), (8, .int .i64 (X.xs.length : Int)), (9, .int .i64 (zs : Int))]) (fun zs => (iCells b2 25 [.slice X.At X.terms.length X.ct, .slice X.An X.nts.length X.cn, .int .i64 X.start, .slice X.Ar X.xs.length X.cr] :: τ y)) (fun zs => (Bd X.xs :: Sl 3 ruF X.Ar X.xs :: Sl 1 strF X.An X.nts :: Sl 1 strF X.At X.terms :: ρx)) (0) ?_ ?_ ?_ ?_ ?_
 · show (0) ≤ X.xs.length ∧ ∀ z, z ∈ X.xs.take (0) → Good z y
   exact ⟨Nat.zero_le _, fun z h => absurd h (by simp)⟩
 · exact ⟨rfl, rfl, rfl, rfl, rfl, trivial⟩
 · exact .refl _
 · exact fun _ h => h
 rintro j hinv
 have hinv : j ≤ X.xs.length ∧ ∀ z, z ∈ X.xs.take j → Good z y := hinv
 obtain ⟨hj, hg⟩ := hinv
 show Cont _ _ _ _ [(1, .func (.func k) #[] cs), (2, .pointer (some ⟨b2, 0, none⟩)), (7, .slice X.Ar X.xs.length X.cr), (8, .int .i64 (X.xs.length : Int)), (9, .int .i64 (j : Int))] ((iCells b2 25 [.slice X.At X.terms.length X.ct, .slice X.An X.nts.length X.cn, .int .i64 X.start, .slice X.Ar X.xs.length X.cr] :: τ y)) (Bd X.xs :: Sl 3 ruF X.Ar X.xs :: Sl 1 strF X.An X.nts :: Sl 1 strF X.At X.terms :: ρx)
 refine c_seq ?_
 refine c_reg ?_
 first | refine l_q (by decide) (p_lss rfl rfl rfl rfl).q ?_ | refine l_q (by decide) (p_lssi rfl rfl).q ?_
 refine l_nil ?_
 refine c_seq ?_
 first | refine c_dec rfl (fun h10 => ?_) (fun h10 => ?_) | refine c_cond rfl (fun h10 => ?_) (fun h10 => ?_)
 ·skip
  obtain ⟨x, hx⟩ := at_some (l := X.xs) (n := j) (by omega)
  refine c_skip ?_
  refine c_seq ?_
  refine c_block ?_
  refine c_seq ?_
  refine c_reg ?_
  first | refine l_q (by decide) (r_index Try.underlying23 inf_41 rfl rfl rfl (by first | exact .fact (by repeat constructor) | exact .own (by repeat constructor) (by decide) (fun _ => rfl) | exact SlIn.body (by repeat constructor) (by assumption)) rfl (by omega)).q ?_ | refine l_q (by decide) (r_index Try.underlying23 inf_41 rfl rfl rfl (by first | exact .fact (by repeat constructor) | exact .own (by repeat constructor) (by decide) (fun _ => rfl) | exact SlIn.body (by repeat constructor) (by assumption)) rfl (by decide)).q ?_ | refine l_q (by decide) (p_indexo Try.underlying23 inf_41 rfl rfl rfl (by omega)).q ?_
  first | refine l_q (by decide) (r_loada Try.underlying41 rfl inf_41 rfl (by first | exact .fact (by repeat constructor) | exact .own (by repeat constructor) (by decide) (fun _ => rfl) | exact SlIn.body (by repeat constructor) (by assumption)) (by assumption)).q ?_ | refine l_q (by decide) (r_loadow Try.underlying41 rfl inf_41 rfl (by repeat constructor) (by rfl)).q ?_ | refine l_q (by decide) (r_loadoa Try.underlying41 rfl inf_41 rfl (by repeat constructor) (by rfl) (fun j u h => h)).q ?_
  refine l_alloc (by decide) inf_41 _ rfl (fun b5 => ?_)
  first | (refine l_storew inf_41 rfl rfl rfl rfl rfl ?_) | (refine l_perm (front1 _ _ _) ?_; refine l_storew inf_41 rfl rfl rfl rfl rfl ?_) | (refine l_perm (front2 _ _ _ _) ?_; refine l_storew inf_41 rfl rfl rfl rfl rfl ?_) | (refine l_perm (front3 _ _ _ _ _) ?_; refine l_storew inf_41 rfl rfl rfl rfl rfl ?_) | (refine l_perm (front4 _ _ _ _ _ _) ?_; refine l_storew inf_41 rfl rfl rfl rfl rfl ?_) | (refine l_storea inf_41 rfl rfl rfl rfl (by decide) ?_) | (refine l_perm (front1 _ _ _) ?_; refine l_storea inf_41 rfl rfl rfl rfl (by decide) ?_) | (refine l_perm (front2 _ _ _ _) ?_; refine l_storea inf_41 rfl rfl rfl rfl (by decide) ?_)
  refine l_nil ?_
  refine c_seq ?_
  refine c_reg ?_
  refine l_q (by decide) (p_move rfl).q ?_
  first | refine l_q (by decide) (r_loada Try.underlying41 rfl inf_41 rfl (by first | exact .fact (by repeat constructor) | exact .own (by repeat constructor) (by decide) (fun _ => rfl) | exact SlIn.body (by repeat constructor) (by assumption)) (by assumption)).q ?_ | refine l_q (by decide) (r_loadow Try.underlying41 rfl inf_41 rfl (by repeat constructor) (by rfl)).q ?_ | refine l_q (by decide) (r_loadoa Try.underlying41 rfl inf_41 rfl (by repeat constructor) (by rfl) (fun j u h => h)).q ?_
  refine l_perm (List.perm_append_comm (l₁ := [_, _])) ?_
  refine l_callov (σ := [iCells b5 41 (ruF x), iCells b2 25 [.slice X.At X.terms.length X.ct, .slice X.An X.nts.length X.cn, .int .i64 X.start, .slice X.Ar X.xs.length X.cr]]) (fun z : FixR m Inv (Good x) y => .bool z.1.1) (fun z => τ z.1.2) (by decide) hk rfl rfl (fun w hs => hcl x (List.mem_of_getElem? hx) y hy w hs) (fun z => ?_)
  refine l_nil ?_
  first | refine c_dec rfl (fun h15 => ?_) (fun h15 => ?_) | refine c_cond rfl (fun h15 => ?_) (fun h15 => ?_)
  ·skip
   refine c_exit ?_
   refine c_out (by decide) ?_
   refine c_out (by decide) ?_
   refine c_here ?_
   refine c_perm (List.perm_append_comm (l₂ := [_, _])) ?_
   refine c_drop ?_
   refine c_join ((z.1.2)) ?_ ?_ ?_ ?_
   ·show (Inv (z.1.2)) ∧ m (z.1.2) < m y
    exact ⟨z.2.1, z.2.2.1 h15⟩
   · exact ⟨rfl, rfl, trivial⟩
   ·show List.Perm _ ((iCells b2 25 [.slice X.At X.terms.length X.ct, .slice X.An X.nts.length X.cn, .int .i64 X.start, .slice X.Ar X.xs.length X.cr] :: τ (z.1.2)))
    exact .refl _
   · exact fun _ h => h
  ·skip
   refine c_skip ?_
   refine c_reg ?_
   first | refine l_q (by decide) (p_add (j := 1) rfl rfl rfl rfl (by show _ ≤ (9223372036854775807 : Nat); omega)).q ?_ | refine l_q (by decide) (p_addi rfl rfl (by show (-9223372036854775808 : Int) ≤ _; omega) (by show _ ≤ ((9223372036854775807 : Nat) : Int); omega)).q ?_
   refine l_q (by decide) (p_move rfl).q ?_
   refine l_nil ?_
   obtain ⟨⟨zb, zy⟩, z1, z2, z3⟩ := z
   obtain ⟨hzy, hgx⟩ := z3 h15
   have hyz := Eq.symm hzy
   subst hyz
   refine c_perm (List.perm_append_comm (l₂ := [_, _])) ?_
   refine c_drop ?_
   refine c_join ((j + 1)) ?_ ?_ ?_ ?_
   ·show ((j + 1) ≤ X.xs.length ∧ ∀ z, z ∈ X.xs.take (j + 1) → Good z y) ∧ X.xs.length - (j + 1) < X.xs.length - j
    refine ⟨⟨by omega, fun u hu => ?_⟩, by omega⟩
    rw [take_at hx] at hu
    rcases List.mem_append.1 hu with h | h
    · exact hg u h
    · rw [List.mem_singleton.1 h]; exact hgx
   · exact ⟨rfl, rfl, rfl, rfl, rfl, trivial⟩
   ·show List.Perm _ ((iCells b2 25 [.slice X.At X.terms.length X.ct, .slice X.An X.nts.length X.cn, .int .i64 X.start, .slice X.Ar X.xs.length X.cr] :: τ y))
    exact .refl _
   · exact fun _ h => h
 ·skip
  refine c_exit ?_
  refine c_here ?_
  refine c_ret ?_
  refine c_ret0 rfl (fun w hs => ?_)
  rw [List.take_of_length_le (by omega)] at hg
  exact ⟨⟨y, hy, hg⟩, _, rfl, hs.drop⟩
end Go.Proofs.Ytidbhgolhiaijaa
