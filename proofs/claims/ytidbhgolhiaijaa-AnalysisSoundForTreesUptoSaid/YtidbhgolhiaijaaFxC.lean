/- A range over a function, and iterators: rules of walks. No program in sight; conditions: none. -/
import Derived.Test.YtidbhgolhiaijaaFxB
import Derived.RangeFuncNested
import Derived.RangeFuncLeaves
namespace Go.Fx
open Go Go.RowKit
theorem wpIn_any {r : Option Nat} {n m : Nat} {P : Program} {c : Code} {Q : Exit → Act → World → Prop} {a : Act} {w : World} (h : c.wpIn (FW r) n P Q a w) : c.wpIn (FW r) m P Q a w :=
  fun b k cs hro hb _ => h b k cs hro hb (fun _ hd => by simp [FW, Fence.wide] at hd)
/-- the block where the rounds' deferred calls would be gathered: none -/
def iDef (D : Nat) : Item := ⟨[D], fun w => w.heap[D]? = some (.deferred (some []))⟩
theorem iDef_dep (D : Nat) : (iDef D).dep := fun w1 w2 h hw => (h D (by simp [iDef])).trans hw
def coll (D : Nat) : Deferred := { target := .collected D, args := #[] }
def zipS : List (Nat × Value) → Slots → Slots
  | [], L => L
  | p :: ps, L => zipS ps (p :: L)
theorem fr_zip {n : Sz} : ∀ (ps : List (Nat × Value)) (t : Array Value) (L : Slots), (∀ p, p ∈ ps → p.1 < n.n) → Fr { tmps := t, defers := n.ds } n L → Fr { tmps := ps.foldl (fun t (p : Nat × Value) => t.setIfInBounds p.1 p.2) t, defers := n.ds } n (zipS ps L)
  | [], _, _, _, h => h
  | p :: ps, t, L, hp, h => by
    have h1 : Fr { tmps := t.setIfInBounds p.1 p.2, defers := n.ds } n (p :: L) := h.put (hp p (List.mem_cons_self ..)) p.2
    exact fr_zip ps _ _ (fun q hq => hp q (List.mem_cons_of_mem _ hq)) h1
/-- a block beyond B that is no cells of ours has turned -/
theorem St.turned {w0 W W' : World} {K : List Nat} {σ σ0 : Own} {ρ : Facts} {B : Nat} {row : Option Nat} (h : St w0 K W σ ρ) (hB0 : w0.heap.size ≤ B) (hBW : B ≤ W.heap.size) (hsub : ∀ k, k ∈ keysOf σ → k ∈ keysOf σ0) (hlt : ∀ k, k ∈ keysOf σ0 → k < B)
    (hF : ∀ q, q ∈ ρ → ∃ S : Nat → Prop, (∀ k, S k → k < B) ∧ DepS S q ∧ ∀ k, k ∈ keysOf σ0 → ¬ S k) (hg : W.grownBy W' row) (hr : ∀ r, row = some r → B ≤ r) : St w0 K W' σ ρ := by
  have hb : ∀ k, k < B → W'.heap[k]? = W.heap[k]? := fun k hk => hg.block k (by omega) (fun e => by have := hr k e.symm; omega)
  refine ⟨⟨hg.os.trans h.ext.os, hg.tape.trans h.ext.tape, hg.output.trans h.ext.output, Nat.le_trans h.ext.size hg.size, fun k hk hn => (hb k (by omega)).trans (h.ext.block k hk hn)⟩, h.nodup, fun x hx => ?_, fun q hq => ?_⟩
  · obtain ⟨h1, h2, h3⟩ := h.own x hx
    exact ⟨h2 W W' (fun k hk => hb k (hlt k (hsub k (mem_keysOf.2 ⟨x, hx, hk⟩)))) h1, h2, fun k hk => ⟨Nat.lt_of_lt_of_le (h3 k hk).1 hg.size, (h3 k hk).2⟩⟩
  · obtain ⟨S, h1, h2, h3⟩ := hF q hq
    exact ⟨h2 W W' (fun k hk => hb k (h1 k hk)) (h.facts q hq).1, S, fun k hk => Nat.lt_of_lt_of_le (h1 k hk) (Nat.le_trans hBW hg.size), h2, fun k hk => h3 k (hsub k hk)⟩
section
variable {P : Program} {r : Option Nat} {w0 : World} {K : List Nat} {N : Act → World → Prop} {E : Nat → Act → World → Prop} {R : Act → World → Prop} {L : Slots} {σ : Own} {ρ : Facts}
theorem c_range {α : Type} {n : Nat} {g : Operand} {ps : Array Tmp} {assign body : Code} {gf : Nat} {lb : Array Value} (encs : α → Array Value) (q : World → Prop) (S : List α → Prop) (Nm : Nat) (σf : List α → Own) (Lx : α → Slots)
    (hg : ev L g = some (.func (.func gf) #[] lb)) (hk : Callable P gf) (hq : q ∈ ρ) (hseq : ∀ w, q w → SeqStopsK (FW none) 10 P gf lb encs (fun A B => q A → q B) S (fun _ => True) Nm w) (hps : ∀ x, (encs x).size = ps.size) (hpn : ∀ p, p ∈ ps.toList → p < n)
    (h0 : σ = σf []) (hkeys : ∀ pre k, k ∈ keysOf (σf pre) → k ∈ keysOf σ)
    (hassign : ∀ (l : Nat) (pre : List α) (x : α) (w1 : World), Cont w1 (keysOf (σf pre)) ⟨n, []⟩ (W (some l) P assign (J w1 (keysOf (σf pre)) ⟨n, []⟩ (fun _ : Unit => True) (fun _ => Lx x) (fun _ => σf pre) (fun _ => ρ)) noE noR) (zipS (ps.zip (encs x)).toList L) (σf pre) ρ)
    (hbody : ∀ (l : Nat) (pre : List α) (x : α) (w1 : World), pre.length < Nm → Cont w1 (keysOf (σf pre)) ⟨n, []⟩ (W (some l) P body (J w1 (keysOf (σf pre)) ⟨n, []⟩ (fun _ : Unit => True) (fun _ => []) (fun _ => σf (pre ++ [x])) (fun _ => ρ)) noE noR) (Lx x) (σf pre) ρ)
    (hdone : ∀ (D : Nat) (xs : List α), S xs → Cont w0 K ⟨n, [coll D]⟩ N L (iDef D :: σf xs) ρ) :
    Cont w0 K ⟨n, []⟩ (W none P (.rangeFunc g ps assign body) N E R) L σ ρ := fun a w hf hs => by
  have hF : ∀ q, q ∈ ρ → ∃ S : Nat → Prop, (∀ k, S k → k < w.heap.size) ∧ DepS S q ∧ ∀ k, k ∈ keysOf σ → ¬ S k := fun q hq => by
    obtain ⟨_, S, h1, h2, h3⟩ := hs.facts q hq
    exact ⟨S, h1, h2, h3⟩
  have hlt : ∀ k, k ∈ keysOf σ → k < w.heap.size := fun k hk => (keys_lt hs hk).1
  have hB0 := hs.ext.size
  obtain ⟨S0, q1, q2, q3⟩ := hF q hq
  have hown : OwnFrom w.heap.size (fun (pre : List α) W' => St w0 K W' (σf pre) ρ ∧ w.heap.size ≤ W'.heap.size) := fun pre A B row hst hgr hr =>
    ⟨hst.1.turned hB0 hst.2 (hkeys pre) hlt hF hgr (fun r e => (hr r e).1), Nat.le_trans hst.2 hgr.size⟩
  have hfocus : ∀ {pre : List α} {A : World}, St w0 K A (σf pre) ρ → St A (keysOf (σf pre)) A (σf pre) ρ := fun {pre A} h => by
    have h1 : St w0 K A (σf pre ++ []) ρ := by rw [List.append_nil]; exact h
    exact h1.focus
  have hsplice : ∀ {pre pre' : List α} {A B : World}, St w0 K A (σf pre) ρ → St A (keysOf (σf pre)) B (σf pre') ρ → St w0 K B (σf pre') ρ := fun {pre pre' A B} h h' => by
    have h1 : St w0 K A (σf pre ++ []) ρ := by rw [List.append_nil]; exact h
    have h2 := h1.splice h'
    rwa [List.append_nil] at h2
  have hkeep : ∀ {pre pre' : List α} {A B : World}, St A (keysOf (σf pre)) B (σf pre') ρ → KeepsFrom w.heap.size A B := fun {pre pre' A B} h =>
    ⟨h.ext.size, fun k o hk ho _ => by
      rw [h.ext.block k (Array.getElem?_eq_some_iff.1 ho).1 (fun hkk => by have := hlt k (hkeys pre k hkk); omega)]; exact ho⟩
  show (Code.rangeFunc g ps assign body).wpIn (FW none) 9 P (post N E R) a w
  refine wpIn_any (n := 11) ?_
  refine wpIn_rangeFunc_ownH (α := α) (w0 := w) rfl (by decide) (hf.ev hg) trivial (fun args w => run_callFunc hk args w) (hseq w (hs.facts q hq).1) (fun h k z => k (h z)) ?_ (Below.refl _ _) hps
    (fun pre W' => St w0 K W' (σf pre) ρ ∧ w.heap.size ≤ W'.heap.size) (fun _ _ _ => False) hown (fun _ _ _ _ _ h _ _ => h.elim) ⟨h0 ▸ hs, Nat.le_refl _⟩ (fun x a' _ => Fr a' ⟨n, []⟩ (Lx x)) (fun _ _ _ _ _ _ h _ _ => h) ?_ ?_ ?_ ?_
  · intro A l o o' hl ho _ _ hqA
    exact q2 A _ (fun k hk => World.putObj_heap_other (by have := q1 k hk; omega)) hqA
  · intro l pre x A K' hI hK'
    have hfr : Fr { tmps := (ps.zip (encs x)).foldl (fun t (p, v) => t.setIfInBounds p v) a.tmps, defers := [] } ⟨n, []⟩ (zipS (ps.zip (encs x)).toList L) := by
      have h1 := fr_zip (n := ⟨n, []⟩) (ps.zip (encs x)).toList a.tmps L (fun p hp => hpn p.1 (by
        have := List.of_mem_zip (l₁ := ps.toList) (l₂ := (encs x).toList) (a := p.1) (b := p.2) (by simpa using hp)
        exact this.1)) ⟨rfl, hf.size, hf.at_⟩
      rw [← Array.foldl_toList]
      exact h1
    refine wpIn_mono (hassign l pre x A _ A hfr (hfocus hI.1)) fun e a' W' hpost => ?_
    cases e with
    | normal =>
      obtain ⟨_, _, hf', hs'⟩ := hpost
      exact hK' a' W' (hkeep hs') (fun _ => (hs'.facts q hq).1) ⟨hsplice hI.1 hs', Nat.le_trans hI.2 hs'.ext.size⟩ hf'
    | _ => exact hpost.elim
  · intro l pre x a' A _ _ hI hax hlen
    refine wpIn_mono (hbody l pre x A hlen _ A hax (hfocus hI.1)) fun e a' W' hpost => ?_
    cases e with
    | normal =>
      obtain ⟨_, _, _, hs'⟩ := hpost
      exact ⟨hkeep hs', fun _ => (hs'.facts q hq).1, hsplice hI.1 hs', Nat.le_trans hI.2 hs'.ext.size⟩
    | _ => exact hpost.elim
  · intro D xs A hD hS hI hdef
    refine hdone D xs hS _ A ⟨by rw [hf.dfr]; rfl, hf.size, hf.at_⟩ ?_
    have hDk : D ∉ keysOf (σf xs) := fun hk => by have := hlt D (hkeys xs D hk); omega
    refine ⟨hI.1.ext, List.nodup_cons.2 ⟨hDk, hI.1.nodup⟩, fun x hx => ?_, fun p hp => ?_⟩
    · rcases List.mem_cons.1 hx with rfl | hx
      · refine ⟨hdef, iDef_dep D, fun k hk => ?_⟩
        simp [iDef] at hk; subst hk
        exact ⟨(Array.getElem?_eq_some_iff.1 hdef).1, .inr (by omega)⟩
      · exact hI.1.own x hx
    · obtain ⟨S, h1, h2, h3⟩ := hF p hp
      refine ⟨(hI.1.facts p hp).1, S, fun k hk => Nat.lt_of_lt_of_le (h1 k hk) hI.2, h2, fun k hk => ?_⟩
      rcases List.mem_cons.1 hk with rfl | hk
      · exact fun hs => by have := h1 _ hs; omega
      · exact h3 k (hkeys xs k hk)
  · intro D c pre A _ _ h _
    exact h.elim
/-! a function that holds a range over a function -/
def RetM (P : Program) (fn : Func) (T : Value → World → Prop) (a : Act) (w : World) : Prop := LeavesInM (FW none) 9 P fn a.tmps (Ret T) a.defers .returning w
theorem calls_fm {f : FuncId} {fn : Func} {c : Code} {l : List Value} {w : World} {n : Nat} {T : Value → World → Prop} (hf : P.funcs[f]? = some fn) (hb : fn.body = some c) (hn : fn.ntmps = n) (hl : l.length ≤ n)
    (hst : St w K w σ ρ) (h : Cont w K ⟨n, []⟩ (W none P c (RetM P fn T) noE (RetM P fn T)) (slots0 0 l) σ ρ) : Calls P f l.toArray w (Ret T) := by
  refine calls_out (n := 9) (callsIn_of_wp_marks hf hb trivial ?_ rfl)
  rw [hn]
  refine wpIn_mono (h _ w (fr_start l n hl) hst) fun e a w q => ?_
  cases e with
  | normal => exact q
  | ret => exact q
  | _ => exact q.elim
theorem St.collected {w : World} {D : Nat} (hs : St w0 K w (iDef D :: σ) ρ) : ∃ w', (Instr.takeDeferred D).run P w = .ok [] w' ∧ St w0 K w' σ ρ := by
  have hd : w.heap[D]? = some (.deferred (some [])) := (hs.own _ (List.mem_cons_self ..)).1
  have hlt := (Array.getElem?_eq_some_iff.1 hd).1
  refine ⟨_, run_takeDeferred hd, ?_⟩
  have h1 : St w0 K (w.putObj D (.deferred none)) (⟨[D], fun w => w.heap[D]? = some (.deferred none)⟩ :: σ) ρ := by
    refine hs.turn ⟨rfl, rfl, rfl, by simp [World.putObj], fun k _ hk => World.putObj_heap_other (by simp [iDef] at hk; omega)⟩ (World.putObj_heap_same hlt) (fun w1 w2 h hw => (h D (by simp)).trans hw) (fun k hk => .inl hk) (by simp)
  exact h1.drop
theorem c_retm1 {m D : Nat} {fn : Func} {T : Value → World → Prop} {t : Nat} {v : Value} (hr : fn.results = #[.tmp t]) (hv : look L t = some v) (h : ∀ w, St w0 K w σ ρ → T v w) : Cont w0 K ⟨m, [coll D]⟩ (RetM P fn T) L (iDef D :: σ) ρ := fun a w hf hs => by
  obtain ⟨w', h1, h2⟩ := hs.collected (P := P)
  show LeavesInM _ _ _ _ _ _ a.defers _ _
  rw [hf.dfr]
  refine ⟨by simp, .inl ⟨D, w', rfl, h1, v, ?_, h w' h2⟩⟩
  have := hf.at_ t v hv
  simp [results, hr, Array.getD_eq_getD_getElem?, this]
/-! iterators: memory is abstract between two rounds -/
/-- the rest l of a region, in a round or in none -/
def WI (r : Option Nat) (P : Program) (w0 : World) (K : List Nat) (n : Sz) (ops : Array Oper) (l : List Oper) (N : Act → World → Prop) (L : Slots) (σ : Own) (ρ : Facts) : Prop :=
  ∀ a w, Fr a n L → St w0 K w σ ρ → wpListIn (FW r) 9 P ops (post N noE noR) l a w
theorem c_regi {n : Sz} {id : Nat} {l : List Oper} (h : WI r P w0 K n l.toArray l N L σ ρ) : Cont w0 K n (W r P (.region id l.toArray false) N E R) L σ ρ := fun a w hf hs =>
  wpIn_mono (wpIn_region_lit (h a w hf hs)) fun e a w q => by
    cases e with
    | normal => exact q
    | _ => exact q.elim
theorem wi_nil {n : Sz} {ops : Array Oper} (h : Cont w0 K n N L σ ρ) : WI r P w0 K n ops [] N L σ ρ := fun a w hf hs => h a w hf hs
theorem wi_one {n : Sz} {ops : Array Oper} {o : Oper} {rest : List Oper} (h : WL P w0 K n ops [o] (fun a w => wpListIn (FW r) 9 P ops (post N noE noR) rest a w) L σ ρ) (hc : calm o = true := by rfl) : WI r P w0 K n ops (o :: rest) N L σ ρ := fun a w hf hs => by
  have h1 := h a w hf hs
  unfold wpList at h1
  unfold wpListIn
  split
  · rename_i hw
    rw [if_pos hw] at h1
    rcases h1 with h1 | h1
    · exact oper_in hc (wp_post h1)
    · exact absurd h1.2 post_out
  · rename_i hw
    rw [if_neg hw] at h1
    exact ⟨fun _ _ => trivial, h1⟩
theorem wi_back {n : Sz} {ops : Array Oper} {rest : List Oper} (h : WI r P w0 K n ops rest N L σ ρ) : Cont w0 K n (fun a w => wpListIn (FW r) 9 P ops (post N noE noR) rest a w) L σ ρ := h
theorem round_any {r : Option Nat} {n m l : Nat} {f : FuncId} {tmps : Array Value} {assign body : Code} {w : World} {X : Ending → World → Prop} (h : RoundIn (FW r) n P l f tmps assign body w X) : RoundIn (FW r) m P l f tmps assign body w X :=
  ⟨h.1, fun c cs _ => h.2 c cs (fun _ hd => by simp [FW, Fence.wide] at hd)⟩
/-- facts that hold of a world by themselves -/
def Holds (ρ : Facts) (w : World) : Prop := ∀ q, q ∈ ρ → q w ∧ ∃ lo hi, hi ≤ w.heap.size ∧ Dep lo hi q
theorem Holds.st {w : World} (h : Holds ρ w) : St w [] w [] ρ := ⟨Ext.refl _ _, by simp [keysOf], fun x hx => absurd hx List.not_mem_nil, fun q hq => by
  obtain ⟨h1, lo, hi, h2, h3⟩ := h q hq
  exact ⟨h1, _, fun k hk => by omega, h3.s, fun k hk => by simp [keysOf] at hk⟩⟩
theorem Holds.ext {w w' : World} (h : Holds ρ w) (he : Ext [] w w') : Holds ρ w' := fun q hq => by
  obtain ⟨h1, lo, hi, h2, h3⟩ := h q hq
  exact ⟨h3 w w' (fun k _ hk => he.block k (by omega) (by simp)) h1, lo, hi, Nat.le_trans h2 he.size, h3⟩
/-- a call of yield -/
theorem wi_yield {n : Sz} {ops : Array Oper} {rest : List Oper} {d l : Nat} {ty : TypeId} {pos : String} {aft : Array Edge} {x : Operand} {xs : List Operand} {us : List Value} {at_ : Array TypeId} {Jt Jf : World → Prop} (hd : d < n)
    (hx : ev L x = some (.func (.yield l) #[] #[])) (ha : evl L xs = some us)
    (hY : ∀ w, Ext [] w0 w → YieldAt (FW none) 9 P l us.toArray w fun e W' => (e = .returned (.bool true) ∧ Jt W') ∨ (e = .returned (.bool false) ∧ Jf W'))
    (h1 : ∀ W', Jt W' → Holds ρ W' ∧ WI none P W' [] n ops rest N ((d, .bool true) :: L) [] ρ) (h2 : ∀ W', Jf W' → WI none P W' [] n ops rest N ((d, .bool false) :: L) [] []) :
    WI none P w0 [] n ops (⟨some d, .call { callee := .value x, args := xs.toArray, argTypes := at_ }, ty, pos, aft, none⟩ :: rest) N L [] ρ := fun a w hf hs => by
  unfold wpListIn
  rw [if_pos (show Region.wanted _ _ = true from rfl)]
  refine ⟨fun _ _ => trivial, ?_⟩
  obtain ⟨fn, tmps, assign, body, hy, hR⟩ := hY w hs.ext
  have hrun : (execOp a.eval ⟨some d, .call { callee := .value x, args := xs.toArray, argTypes := at_ }, ty, pos, aft, none⟩).run P w = .ok (.round l fn tmps assign body) w := by
    have := args_evl (fun x u hx => hf.ev hx) xs us ha
    simp [execOp, resolve, Deferred.ofValue, hf.ev hx, invoke, this, hy]
  rw [Oper.semAt_eq _ _ _ (fun c e => by cases e), hrun]
  refine ⟨fun hd => by simp [FW, Fence.wide] at hd, (round_any hR).mono fun e W' h => ?_⟩
  rcases h with ⟨rfl, hj⟩ | ⟨rfl, hj⟩
  · exact (h1 W' hj).2 _ W' (hf.put hd _) (h1 W' hj).1.st
  · exact h2 W' hj _ W' (hf.put hd _) (St.start W')
/-- a loop whose rounds call yield -/
theorem c_loopj {S : Type} {n : Sz} {c : Code} (inv : S → Prop) (m : S → Nat) (Lf : S → Slots) (Jf : S → World → Prop) (s0 : S) (hρ : ∀ s w, Jf s w → Holds ρ w) (hab : ∀ s w w', Jf s w → Ext [] w w' → Jf s w') (hi : inv s0) (hj : Jf s0 w0) (hL : SubL (Lf s0) L)
    (round : ∀ s w1, inv s → Jf s w1 → Cont w1 [] n (W r P c (fun a w => ∃ s', (inv s' ∧ m s' < m s) ∧ Fr a n (Lf s') ∧ Jf s' w) E R) (Lf s) [] ρ) : Cont w0 [] n (W r P (.loop c) N E R) L [] ρ := fun a w hf hst => by
  obtain ⟨f, hfun⟩ := least_fun (X := Act × World) (fun x i => ∃ s, inv s ∧ Fr x.1 n (Lf s) ∧ Jf s x.2 ∧ m s = i)
  refine wpIn_loop (fun a w => ∃ s, inv s ∧ Fr a n (Lf s) ∧ Jf s w) (fun a w => f (a, w)) ⟨s0, hi, hf.sub hL, hab _ _ _ hj hst.ext⟩ ?_
  intro a w ⟨s, h1, h2, h3⟩
  obtain ⟨⟨t, t1, t2, t3, t4⟩, _⟩ := hfun (a, w) (m s) ⟨s, h1, h2, h3, rfl⟩
  refine wpIn_mono (round t w t1 t3 a w t2 (hρ _ _ t3).st) fun e a' w' q => ?_
  cases e with
  | normal =>
    obtain ⟨u, ⟨u1, u2⟩, u3, u4⟩ := q
    refine ⟨⟨u, u1, u3, u4⟩, ?_⟩
    have := (hfun (a', w') (m u) ⟨u, u1, u3, u4, rfl⟩).2
    show f (a', w') < f (a, w)
    omega
  | _ => exact q
theorem c_joinj {S : Type} {n : Sz} {inv : S → Prop} {Lf : S → Slots} {Jf : S → World → Prop} (s : S) (hab : ∀ s w w', Jf s w → Ext [] w w' → Jf s w') (hi : inv s) (hj : Jf s w0) (hL : SubL (Lf s) L) :
    Cont w0 [] n (fun a w => ∃ s', inv s' ∧ Fr a n (Lf s') ∧ Jf s' w) L [] ρ := fun _ _ hf hs => ⟨s, hi, hf.sub hL, hab _ _ _ hj hs.ext⟩
theorem abides_ext {β : Type} {B : Nat} {J : β → World → Prop} (h : AbidesFrom B J) {s : β} {w w' : World} (hj : J s w) (he : Ext [] w w') : J s w' :=
  h s w w' none hj ⟨he.os, he.tape, he.output, he.size, fun k hk _ => he.block k hk (by simp)⟩ (fun r e => by cases e)
end
end Go.Fx
