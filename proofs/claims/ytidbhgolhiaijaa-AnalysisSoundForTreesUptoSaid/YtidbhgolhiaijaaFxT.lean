/- Rules for structures that lie in memory and are never written again, and for calls that keep what the caller owns. No program in sight; conditions: none. -/
import Derived.Test.YtidbhgolhiaijaaFxD
namespace Go.Fx
open Go Go.RowKit
section
variable {P : Program} {r : Option Nat} {w0 : World} {K : List Nat} {n : Sz} {N : Act → World → Prop} {E : Nat → Act → World → Prop} {R : Act → World → Prop} {L : Slots} {σ : Own} {ρ : Facts} {ops : Array Oper} {rest : List Oper} {ty : TypeId}
/-- what a call has added is known besides -/
theorem St.joined {w w' : World} {ρ' : Facts} (hs : St w0 K w σ ρ) (h' : St w (keysOf σ) w' σ ρ') : St w0 K w' σ (ρ' ++ ρ) := by
  have h1 : St w0 K w' (σ ++ []) ρ := (show St w0 K w (σ ++ []) ρ by rw [List.append_nil]; exact hs).splice h'
  rw [List.append_nil] at h1
  exact ⟨h1.ext, h1.nodup, h1.own, fun q hq => (List.mem_append.1 hq).elim (h'.facts q) (h1.facts q)⟩
theorem St.own_world {w : World} (hs : St w0 K w σ ρ) : St w (keysOf σ) w σ ρ := (show St w0 K w (σ ++ []) ρ by rw [List.append_nil]; exact hs).focus
/-- a call that keeps what is owned and yields facts -/
theorem l_callf {X : Type} {d : Nat} {pos : String} {aft : Array Edge} {k : FuncId} {xs : List Operand} {us : List Value} {at_ : Array TypeId} (ρ' : Facts) (V : X → Value) (q : X → Facts) (hd : d < n) (hk : Callable P k) (ha : evl L xs = some us) (hρ : ∀ p, p ∈ ρ' → p ∈ ρ)
    (hc : ∀ w, St w (keysOf σ) w σ ρ' → Calls P k us.toArray w (Ret fun v w' => ∃ x, v = V x ∧ St w (keysOf σ) w' σ (q x))) (h : ∀ x, WL P w0 K n ops rest N ((d, V x) :: L) σ (q x ++ ρ)) :
    WL P w0 K n ops (⟨some d, .call { callee := .value (.func k), args := xs.toArray, argTypes := at_ }, ty, pos, aft, none⟩ :: rest) N L σ ρ := fun a w hf hs => by
  refine wpList_plain rfl fun K' hK => ?_
  unfold Oper.wp
  rw [run_call hk (first := #[]) (cap := #[]) (w := w) rfl rfl (args_evl (fun x u hx => hf.ev hx) _ _ ha)]
  simp only [Array.empty_append, Array.append_empty, Oper.upon]
  refine (hc w (hs.own_world.weak hρ)).mono fun e w' hr => ?_
  cases e with
  | returned v =>
    obtain ⟨x, rfl, h1⟩ := hr
    exact hK _ _ (h x _ _ (hf.put hd _) (hs.joined h1))
  | _ => exact hr.elim
/-- the facts in another form -/
theorem l_facts (ρ' : Facts) (h : ∀ w, St w0 K w σ ρ → St w0 K w σ ρ') (k : WL P w0 K n ops rest N L σ ρ') : WL P w0 K n ops rest N L σ ρ := fun a w hf hs => k a w hf (h w hs)
theorem c_facts (ρ' : Facts) (h : ∀ w, St w0 K w σ ρ → St w0 K w σ ρ') (k : Cont w0 K n N L σ ρ') : Cont w0 K n N L σ ρ := fun a w hf hs => k a w hf (h w hs)
/-- a fact that tells what a block holds hangs on that block -/
theorem key_in {S : Nat → Prop} {q : World → Prop} {w : World} {k : Nat} (hd : DepS S q) (hq : q w) (h : ∀ w, q w → ∃ cs t m, w.heap[k]? = some (.cells cs t m)) : S k := by
  apply Classical.byContradiction
  intro hn
  obtain ⟨cs, t, m, hk⟩ := h w hq
  have hlt := (Array.getElem?_eq_some_iff.1 hk).1
  obtain ⟨cs', t', m', hk'⟩ := h _ (hd w { w with heap := w.heap.setIfInBounds k (.deferred none) } (fun j hj => by
    have : k ≠ j := fun e => hn (e ▸ hj)
    simp [Array.getElem?_setIfInBounds_ne this]) hq)
  simp [hlt] at hk'
/-- what hangs on blocks that a fact hangs on may be known besides -/
theorem St.besides {w : World} {p q : World → Prop} (hs : St w0 K w σ ρ) (hp : p ∈ ρ) (hq : q w) (hd : ∀ S, DepS S p → DepS S q) : St w0 K w σ (q :: ρ) :=
  ⟨hs.ext, hs.nodup, hs.own, fun z hz => by
    rcases List.mem_cons.1 hz with rfl | hz
    · obtain ⟨_, S, h2, h3, h4⟩ := hs.facts p hp
      exact ⟨hq, S, h2, hd S h3, h4⟩
    · exact hs.facts z hz⟩
theorem St.sure {w : World} {q : World → Prop} (hs : St w0 K w σ ρ) (hq : ∀ w, q w) : St w0 K w σ (q :: ρ) :=
  ⟨hs.ext, hs.nodup, hs.own, fun z hz => by
    rcases List.mem_cons.1 hz with rfl | hz
    · exact ⟨hq w, fun _ => False, fun _ h => h.elim, fun _ w2 _ _ => hq w2, fun _ _ h => h⟩
    · exact hs.facts z hz⟩
/-- a drawn order; what is held on to between two operations: the facts alone -/
theorem m_draww {id : Nat} {l : List Oper} (hm : P.follows .mixedOrders = true) (h : Cont w0 K n (AT P w0 K l.toArray [] [] ρ N l.toArray.size (Array.replicate l.toArray.size false)) L σ ρ) (hc : l.all calm = true := by rfl) :
    Cont w0 K n (W r P (.region id l.toArray true) N E R) L σ ρ := fun a _ hf hs => by
  refine wpIn_mono (wpIn_region_any hm (any_in (Q := post N noE noR) post_out hc _ _ _ _ (wpAny_of_tail _ _ _ _ (h a _ hf hs.drewN)))) fun e a w q => ?_
  cases e with
  | normal => exact q
  | _ => exact q.elim
theorem p_max {x y : Operand} {at_ : Array TypeId} {k k2 : IntKind} {a b : Int} {i j : Nat} (hx : ev L x = some (.int k a)) (hy : ev L y = some (.int k2 b)) (ha : a = (i : Int)) (hb : b = (j : Int)) :
    Pure P (.call { callee := .builtin .max, args := #[x, y], argTypes := at_ }) ty L (.int k ((max i j : Nat) : Int)) := fun e o w ho _ he => by
  subst ha; subst hb
  have : (if (i : Int) < (j : Int) then (j : Int) else (i : Int)) = ((max i j : Nat) : Int) := by split <;> omega
  simp [execOp, ho, resolve, invoke, builtin, Builtin.max_, Builtin.max2, he x _ hx, he y _ hy]
  simpa using this
theorem p_maxi {x y : Operand} {at_ : Array TypeId} {k k2 : IntKind} {a b : Int} (hx : ev L x = some (.int k a)) (hy : ev L y = some (.int k2 b)) :
    Pure P (.call { callee := .builtin .max, args := #[x, y], argTypes := at_ }) ty L (.int k (max a b)) := fun e o w ho _ he => by
  have : (if a < b then b else a) = max a b := by split <;> omega
  simp [execOp, ho, resolve, invoke, builtin, Builtin.max_, Builtin.max2, he x _ hx, he y _ hy, this]
theorem c_retcw2 {m : Nat} {fn : Func} {T : Value → World → Prop} {t s : Nat} {u : Value} {ty e : TypeId} {d : TypeDesc} {b size bytes : Nat} {z : Value} {vs : List Value} (hr : fn.results = #[.cell t ty, .tmp s]) (hv : look L t = some (.pointer (some ⟨b, 0, none⟩))) (hs' : look L s = some u) (hd : P.underlying ty = some d) (ha : isAggD d = true) (hi : InfoIs P ty size bytes z)
    (hq : iCells b e vs ∈ σ) (hu : vs.length = size) (h : ∀ w, St w0 K w σ ρ → T (.tuple #[.agg vs.toArray, u]) w) : Cont w0 K ⟨m, []⟩ (RetP P fn T) L σ ρ := fun a w hf hs => by
  refine ⟨hf.dfr, _, ?_, h w hs⟩
  have hc := cells_cell (hs.own _ hq).1
  have h1 := run_loadCells_of (P := P) w b 0 vs (fun j u hj => by rw [hc, Nat.zero_add]; exact hj)
  rw [hu] at h1
  have h2 := hf.at_ t _ hv
  have h3 := hf.at_ s _ hs'
  simp [results, hr, Array.getD_eq_getD_getElem?, h2, h3, asAddr, loadVar, run_isAgg hd, ha, run_sizeOf' hi, h1]
end
end Go.Fx
