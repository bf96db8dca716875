/- Rules for iterators that call themselves, and for a range over a function that is left early. No program in sight; conditions: none. -/
import Derived.Test.YtdpocfkbnfhcfaaFxT
namespace Go.Fx
open Go Go.RowKit
section
variable {P : Program} {r : Option Nat} {w0 : World} {K : List Nat} {N : Act → World → Prop} {E : Nat → Act → World → Prop} {R : Act → World → Prop} {L : Slots} {σ : Own} {ρ : Facts}
/-- a guard that holds -/
theorem wi_strip {n : Sz} {ops : Array Oper} {rest : List Oper} {d : Option Nat} {j dj : Nat} {b : Bool} {op : Op} {ty : TypeId} {pos : String} {aft : Array Edge} (hj : (ops[j]?).bind (·.dst) = some dj) (hv : look L dj = some (.bool b))
    (h : WI r P w0 K n ops (⟨d, op, ty, pos, aft, none⟩ :: rest) N L σ ρ) : WI r P w0 K n ops (⟨d, op, ty, pos, aft, some (j, b)⟩ :: rest) N L σ ρ := fun a w hf hs => by
  have h1 := h a w hf hs
  have hw : Region.wanted ⟨d, op, ty, pos, aft, some (j, b)⟩ (yielded ops a.tmps) = true := by simp [Region.wanted, hf.yielded hj hv]
  unfold wpListIn at h1 ⊢
  rw [if_pos (show Region.wanted ⟨d, op, ty, pos, aft, none⟩ (yielded ops a.tmps) = true from rfl)] at h1
  rw [if_pos hw]
  exact h1
/-- a call behind which memory is known by J alone -/
theorem wi_callj {n : Sz} {ops : Array Oper} {rest : List Oper} {d : Nat} {ty : TypeId} {pos : String} {aft : Array Edge} {k : FuncId} {xs : List Operand} {us : List Value} {at_ : Array TypeId} {Jt Jf : World → Prop} (hd : d < n) (hk : Callable P k) (ha : evl L xs = some us)
    (hY : ∀ w, Ext [] w0 w → Calls P k us.toArray w fun e W' => (e = .returned (.bool true) ∧ Jt W') ∨ (e = .returned (.bool false) ∧ Jf W'))
    (h1 : ∀ W', Jt W' → Holds ρ W' ∧ WI none P W' [] n ops rest N ((d, .bool true) :: L) [] ρ) (h2 : ∀ W', Jf W' → WI none P W' [] n ops rest N ((d, .bool false) :: L) [] []) :
    WI none P w0 [] n ops (⟨some d, .call { callee := .value (.func k), args := xs.toArray, argTypes := at_ }, ty, pos, aft, none⟩ :: rest) N L [] ρ := fun a w hf hs => by
  unfold wpListIn
  rw [if_pos (show Region.wanted _ _ = true from rfl)]
  refine ⟨fun _ _ => trivial, ?_⟩
  rw [Oper.semAt_eq _ _ _ (fun c e => by cases e), run_call hk (first := #[]) (cap := #[]) (w := w) rfl rfl (args_evl (fun x u hx => hf.ev hx) _ _ ha)]
  simp only [Array.empty_append, Array.append_empty, Oper.uponIn]
  refine ⟨fun hd => by simp [FW, Fence.wide] at hd, calls_in ((hY w hs.ext).mono fun e W' h => ?_)⟩
  rcases h with ⟨rfl, hj⟩ | ⟨rfl, hj⟩
  · exact (h1 W' hj).2 _ W' (hf.put hd _) (h1 W' hj).1.st
  · exact h2 W' hj _ W' (hf.put hd _) (St.start W')
theorem p_eqfn {x y : Operand} {t t2 ty : TypeId} {ps rs : Array TypeId} {vv : Bool} {fn : Fn} {fs cs : Array Value} (hu : P.underlying t = some (.func ps rs vv)) (hx : ev L x = some (.func fn fs cs)) (hy : ev L y = some .nilFunc) : Pure P (.binOp .eql t x y t2) ty L (.bool false) := fun e o w ho _ he => by
  have h : (Op.equal t (.func fn fs cs) .nilFunc).run P w = .ok false w := by
    unfold Op.equal Op.maxDepth
    rw [Op.equalIn]
    simp [run_underlying hu]
  simp only [execOp, ho, he x _ hx, he y _ hy, eqGuard, binOp]
  simp [h]
theorem c_ex {n : Sz} {i : Nat} {M : Act → World → Prop} (h : Cont w0 K n N L σ ρ) : Cont w0 K n (if i = i then N else M) L σ ρ := by rw [if_pos rfl]; exact h
theorem c_retm2 {m D : Nat} {fn : Func} {T : Value → World → Prop} {t s : Nat} {v u : Value} (hr : fn.results = #[.tmp t, .tmp s]) (hv : look L t = some v) (hu : look L s = some u) (h : ∀ w, St w0 K w σ ρ → T (.tuple #[v, u]) w) : Cont w0 K ⟨m, [coll D]⟩ (RetM P fn T) L (iDef D :: σ) ρ := fun a w hf hs => by
  obtain ⟨w', h1, h2⟩ := hs.collected (P := P)
  show LeavesInM _ _ _ _ _ _ a.defers _ _
  rw [hf.dfr]
  refine ⟨by simp, .inl ⟨D, w', rfl, h1, .tuple #[v, u], ?_, h w' h2⟩⟩
  have := hf.at_ t v hv
  have := hf.at_ s u hu
  simp [results, hr, Array.getD_eq_getD_getElem?, *]
theorem c_retn1 {m : Nat} {fn : Func} {T : Value → World → Prop} {t : Nat} {v : Value} (hr : fn.results = #[.tmp t]) (hv : look L t = some v) (h : ∀ w, St w0 K w σ ρ → T v w) : Cont w0 K ⟨m, []⟩ (RetM P fn T) L σ ρ := fun a w hf hs => by
  show LeavesInM _ _ _ _ _ _ a.defers _ _
  rw [hf.dfr]
  refine ⟨v, ?_, h w hs⟩
  have := hf.at_ t v hv
  simp [results, hr, Array.getD_eq_getD_getElem?, this]
theorem c_retn2 {m : Nat} {fn : Func} {T : Value → World → Prop} {t s : Nat} {v u : Value} (hr : fn.results = #[.tmp t, .tmp s]) (hv : look L t = some v) (hu : look L s = some u) (h : ∀ w, St w0 K w σ ρ → T (.tuple #[v, u]) w) : Cont w0 K ⟨m, []⟩ (RetM P fn T) L σ ρ := fun a w hf hs => by
  show LeavesInM _ _ _ _ _ _ a.defers _ _
  rw [hf.dfr]
  refine ⟨.tuple #[v, u], ?_, h w hs⟩
  have := hf.at_ t v hv
  have := hf.at_ s u hu
  simp [results, hr, Array.getD_eq_getD_getElem?, *]
/-- a range over a function that may be left by one exit -/
theorem c_rangex {α : Type} {n : Nat} {g : Operand} {ps : Array Tmp} {assign body : Code} {gf : Nat} {lb : Array Value} (id : Nat) (encs : α → Array Value) (q : World → Prop) (S Sp : List α → Prop) (Nm : Nat) (σf : List α → Own) (Lx : α → Slots) (G : List α → α → Prop)
    (hg : ev L g = some (.func (.func gf) #[] lb)) (hk : Callable P gf) (hq : q ∈ ρ) (hseq : ∀ w, q w → SeqStopsK (FW none) 10 P gf lb encs (fun A B => q A → q B) S Sp Nm w) (hps : ∀ x, (encs x).size = ps.size) (hpn : ∀ p, p ∈ ps.toList → p < n)
    (h0 : σ = σf []) (hkeys : ∀ pre k, k ∈ keysOf (σf pre) → k ∈ keysOf σ)
    (hassign : ∀ (l : Nat) (pre : List α) (x : α) (w1 : World), Cont w1 (keysOf (σf pre)) ⟨n, []⟩ (W (some l) P assign (J w1 (keysOf (σf pre)) ⟨n, []⟩ (fun _ : Unit => True) (fun _ => Lx x) (fun _ => σf pre) (fun _ => ρ)) noE noR) (zipS (ps.zip (encs x)).toList L) (σf pre) ρ)
    (hbody : ∀ (l : Nat) (pre : List α) (x : α) (w1 : World), pre.length < Nm → Cont w1 (keysOf (σf pre)) ⟨n, []⟩ (W (some l) P body (J w1 (keysOf (σf pre)) ⟨n, []⟩ (fun _ : Unit => True) (fun _ => []) (fun _ => σf (pre ++ [x])) (fun _ => ρ))
      (fun i => if i = id then J w1 (keysOf (σf pre)) ⟨n, []⟩ (fun _ : Unit => G pre x) (fun _ => []) (fun _ => σf pre) (fun _ => ρ) else noR) noR) (Lx x) (σf pre) ρ)
    (hdone : ∀ (D : Nat) (xs : List α), S xs → Cont w0 K ⟨n, [coll D]⟩ N L (iDef D :: σf xs) ρ)
    (hstop : ∀ (D : Nat) (pre : List α) (x : α), Sp (pre ++ [x]) → G pre x → Cont w0 K ⟨n, [coll D]⟩ (E id) L (iDef D :: σf pre) ρ) :
    Cont w0 K ⟨n, []⟩ (W none P (.rangeFunc g ps assign body) N E R) L σ ρ := fun a w hf hs => by
  have hF : ∀ q, q ∈ ρ → ∃ S : Nat → Prop, (∀ k, S k → k < w.heap.size) ∧ DepS S q ∧ ∀ k, k ∈ keysOf σ → ¬ S k := fun q hq => by
    obtain ⟨_, S, h1, h2, h3⟩ := hs.facts q hq
    exact ⟨S, h1, h2, h3⟩
  have hlt : ∀ k, k ∈ keysOf σ → k < w.heap.size := fun k hk => (keys_lt hs hk).1
  have hB0 := hs.ext.size
  obtain ⟨S0, q1, q2, q3⟩ := hF q hq
  have hown : OwnFrom w.heap.size (fun (pre : List α) W' => St w0 K W' (σf pre) ρ ∧ w.heap.size ≤ W'.heap.size) := fun pre A B row hst hgr hr =>
    ⟨hst.1.turned hB0 hst.2 (hkeys pre) hlt hF hgr (fun r e => (hr r e).1), Nat.le_trans hst.2 hgr.size⟩
  have hfocus : ∀ {pre : List α} {A : World}, St w0 K A (σf pre) ρ → St A (keysOf (σf pre)) A (σf pre) ρ := fun {pre A} h => by
    have h1 : St w0 K A (σf pre ++ []) ρ := by rw [List.append_nil]; exact h
    exact h1.focus
  have hsplice : ∀ {pre pre' : List α} {A B : World}, St w0 K A (σf pre) ρ → St A (keysOf (σf pre)) B (σf pre') ρ → St w0 K B (σf pre') ρ := fun {pre pre' A B} h h' => by
    have h1 : St w0 K A (σf pre ++ []) ρ := by rw [List.append_nil]; exact h
    have h2 := h1.splice h'
    rwa [List.append_nil] at h2
  have hkeep : ∀ {pre pre' : List α} {A B : World}, St A (keysOf (σf pre)) B (σf pre') ρ → KeepsFrom w.heap.size A B := fun {pre pre' A B} h =>
    ⟨h.ext.size, fun k o hk ho _ => by
      rw [h.ext.block k (Array.getElem?_eq_some_iff.1 ho).1 (fun hkk => by have := hlt k (hkeys pre k hkk); omega)]; exact ho⟩
  have hdef : ∀ {D : Nat} {pre : List α} {A : World} {N' : Act → World → Prop}, w.heap.size ≤ D → St w0 K A (σf pre) ρ → w.heap.size ≤ A.heap.size → A.heap[D]? = some (.deferred (some [])) → Cont w0 K ⟨n, [coll D]⟩ N' L (iDef D :: σf pre) ρ →
      N' { a with defers := { target := .collected D, args := #[] } :: a.defers } A := fun {D pre A N'} hD hI hle hdf hc => by
    refine hc _ A ⟨by show _ :: a.defers = _; rw [hf.dfr]; rfl, hf.size, hf.at_⟩ ?_
    have hDk : D ∉ keysOf (σf pre) := fun hk => by have := hlt D (hkeys pre D hk); omega
    refine ⟨hI.ext, List.nodup_cons.2 ⟨hDk, hI.nodup⟩, fun x hx => ?_, fun p hp => ?_⟩
    · rcases List.mem_cons.1 hx with rfl | hx
      · refine ⟨hdf, iDef_dep D, fun k hk => ?_⟩
        simp [iDef] at hk; subst hk
        exact ⟨(Array.getElem?_eq_some_iff.1 hdf).1, .inr (by omega)⟩
      · exact hI.own x hx
    · obtain ⟨S, h1, h2, h3⟩ := hF p hp
      refine ⟨(hI.facts p hp).1, S, fun k hk => Nat.lt_of_lt_of_le (h1 k hk) hle, h2, fun k hk => ?_⟩
      rcases List.mem_cons.1 hk with rfl | hk
      · exact fun hs => by have := h1 _ hs; omega
      · exact h3 k (hkeys pre k hk)
  show (Code.rangeFunc g ps assign body).wpIn (FW none) 9 P (post N E R) a w
  refine wpIn_any (n := 11) ?_
  refine wpIn_rangeFunc_ownH (α := α) (w0 := w) rfl (by decide) (hf.ev hg) trivial (fun args w => run_callFunc hk args w) (hseq w (hs.facts q hq).1) (fun h k z => k (h z)) ?_ (Below.refl _ _) hps
    (fun pre W' => St w0 K W' (σf pre) ρ ∧ w.heap.size ≤ W'.heap.size) (fun c p W' => ∃ pre x, c = .exit id ∧ p = pre ++ [x] ∧ G pre x ∧ St w0 K W' (σf pre) ρ ∧ w.heap.size ≤ W'.heap.size) hown
    (fun c p A B row h hgr hr => by
      obtain ⟨pre, x, h1, h2, h3, h4⟩ := h
      exact ⟨pre, x, h1, h2, h3, hown pre A B row h4 hgr hr⟩) ⟨h0 ▸ hs, Nat.le_refl _⟩ (fun x a' _ => Fr a' ⟨n, []⟩ (Lx x)) (fun _ _ _ _ _ _ h _ _ => h) ?_ ?_ ?_ ?_
  · intro A l o o' hl ho _ _ hqA
    exact q2 A _ (fun k hk => World.putObj_heap_other (by have := q1 k hk; omega)) hqA
  · intro l pre x A K' hI hK'
    have hfr : Fr { tmps := (ps.zip (encs x)).foldl (fun t (p, v) => t.setIfInBounds p v) a.tmps, defers := [] } ⟨n, []⟩ (zipS (ps.zip (encs x)).toList L) := by
      have h1 := fr_zip (n := ⟨n, []⟩) (ps.zip (encs x)).toList a.tmps L (fun p hp => hpn p.1 (by
        have := List.of_mem_zip (l₁ := ps.toList) (l₂ := (encs x).toList) (a := p.1) (b := p.2) (by simpa using hp)
        exact this.1)) ⟨rfl, hf.size, hf.at_⟩
      rw [← Array.foldl_toList]
      exact h1
    refine wpIn_mono (hassign l pre x A _ A hfr (hfocus hI.1)) fun e a' W' hpost => ?_
    cases e with
    | normal =>
      obtain ⟨_, _, hf', hs'⟩ := hpost
      exact hK' a' W' (hkeep hs') (fun _ => (hs'.facts q hq).1) ⟨hsplice hI.1 hs', Nat.le_trans hI.2 hs'.ext.size⟩ hf'
    | _ => exact hpost.elim
  · intro l pre x a' A _ _ hI hax hlen
    refine wpIn_mono (hbody l pre x A hlen _ A hax (hfocus hI.1)) fun e a' W' hpost => ?_
    cases e with
    | normal =>
      obtain ⟨_, _, _, hs'⟩ := hpost
      exact ⟨hkeep hs', fun _ => (hs'.facts q hq).1, hsplice hI.1 hs', Nat.le_trans hI.2 hs'.ext.size⟩
    | exit i =>
      have hpost : (if i = id then J A (keysOf (σf pre)) ⟨n, []⟩ (fun _ : Unit => G pre x) (fun _ => []) (fun _ => σf pre) (fun _ => ρ) else noR) a' W' := hpost
      by_cases hi : i = id
      · rw [if_pos hi] at hpost
        obtain ⟨_, hG, _, hs'⟩ := hpost
        exact ⟨hkeep hs', pre, x, by rw [hi], rfl, hG, hsplice hI.1 hs', Nat.le_trans hI.2 hs'.ext.size⟩
      · rw [if_neg hi] at hpost; exact hpost.elim
    | _ => exact hpost.elim
  · intro D xs A hD hS hI hdf
    exact hdef (N' := N) hD hI.1 hI.2 hdf (hdone D xs hS)
  · intro D c p A hD hSp h hdf
    obtain ⟨pre, x, rfl, rfl, hG, hI, hle⟩ := h
    exact wpIn_exit (hdef (N' := E id) hD hI hle hdf (hstop D pre x hSp hG))
end
end Go.Fx
