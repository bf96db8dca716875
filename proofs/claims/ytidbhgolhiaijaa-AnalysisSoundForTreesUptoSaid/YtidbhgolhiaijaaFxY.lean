/- More rules: results of three parts, loads by any reason, calls that read what the caller owns. No program in sight; conditions: none. -/
import Derived.Test.YtidbhgolhiaijaaFxN
namespace Go.Fx
open Go Go.RowKit
section
variable {P : Program} {r : Option Nat} {w0 : World} {K : List Nat} {n : Sz} {N : Act → World → Prop} {E : Nat → Act → World → Prop} {R : Act → World → Prop} {L : Slots} {σ : Own} {ρ : Facts} {ops : Array Oper} {rest : List Oper} {ty : TypeId}
theorem c_retcw3 {m : Nat} {fn : Func} {T : Value → World → Prop} {t s q : Nat} {u u2 : Value} {ty e : TypeId} {d : TypeDesc} {b size bytes : Nat} {z : Value} {vs : List Value} (hr : fn.results = #[.cell t ty, .tmp s, .tmp q]) (hv : look L t = some (.pointer (some ⟨b, 0, none⟩))) (hs' : look L s = some u) (hs2 : look L q = some u2) (hd : P.underlying ty = some d) (ha : isAggD d = true) (hi : InfoIs P ty size bytes z)
    (hq : iCells b e vs ∈ σ) (hu : vs.length = size) (h : ∀ w, St w0 K w σ ρ → T (.tuple #[.agg vs.toArray, u, u2]) w) : Cont w0 K ⟨m, []⟩ (RetP P fn T) L σ ρ := fun a w hf hs => by
  refine ⟨hf.dfr, _, ?_, h w hs⟩
  have hc := cells_cell (hs.own _ hq).1
  have h1 := run_loadCells_of (P := P) w b 0 vs (fun j u hj => by rw [hc, Nat.zero_add]; exact hj)
  rw [hu] at h1
  have h2 := hf.at_ t _ hv
  have h3 := hf.at_ s _ hs'
  have h4 := hf.at_ q _ hs2
  simp [results, hr, Array.getD_eq_getD_getElem?, h2, h3, h4, asAddr, loadVar, run_isAgg hd, ha, run_sizeOf' hi, h1]
/-- a load, the reason given as it is -/
theorem r_loadh {p : Operand} {t : TypeId} {d : TypeDesc} {b k : Nat} {v : Value} (hd : P.underlying t = some d) (ha : isAggD d = false) (hp : ev L p = some (.pointer (some ⟨b, k, none⟩))) (hv : ∀ w, St w0 K w σ ρ → w.cell? ⟨b, k, none⟩ = some v) : Reads P w0 K (.load t p) ty L σ ρ v := fun ee o w ho _ hev hs => by
  have hc := hv w hs
  simp [execOp, ho, Instr.loadAt, Instr.sureAddr, hev p _ hp, loadVar, run_isAgg hd, ha, hc]
/-- all of these lie in memory -/
def KeepF (l : Own) : World → Prop := fun w => ∀ x, x ∈ l → x.holds w
/-- a call that reads what the caller owns besides -/
theorem l_callk {X : Type} {d : Nat} {pos : String} {aft : Array Edge} {k : FuncId} {xs : List Operand} {us : List Value} {at_ : Array TypeId} {τ : Own} (V : X → Value) (τ' : X → Own) (hd : d < n) (hk : Callable P k) (ha : evl L xs = some us)
    (hc : ∀ w, St w (keysOf τ) w τ (KeepF σ :: ρ) → Calls P k us.toArray w (Ret fun v w' => ∃ x ρ', v = V x ∧ St w (keysOf τ) w' (τ' x) ρ')) (h : ∀ x, WL P w0 K n ops rest N ((d, V x) :: L) (τ' x ++ σ) ρ) :
    WL P w0 K n ops (⟨some d, .call { callee := .value (.func k), args := xs.toArray, argTypes := at_ }, ty, pos, aft, none⟩ :: rest) N L (τ ++ σ) ρ := fun a w hf hs => by
  refine wpList_plain rfl fun K' hK => ?_
  unfold Oper.wp
  rw [run_call hk (first := #[]) (cap := #[]) (w := w) rfl rfl (args_evl (fun x u hx => hf.ev hx) _ _ ha)]
  simp only [Array.empty_append, Array.append_empty, Oper.upon]
  refine (hc w ((hs.perm List.perm_append_comm).keepAll σ).own_world).mono fun e w' hr => ?_
  cases e with
  | returned v =>
    obtain ⟨x, ρ', rfl, h1⟩ := hr
    exact hK _ _ (h x _ _ (hf.put hd _) (hs.splice h1))
  | _ => exact hr.elim
/-- a drawn order; what is held on to between two operations: these items and the facts -/
theorem m_drawb {id : Nat} {l : List Oper} (late : List Nat) (σ0 : Own) (hm : P.follows .mixedOrders = true) (h : Cont w0 K n (AT P w0 K l.toArray late σ0 ρ N l.toArray.size (Array.replicate l.toArray.size false)) L σ ρ) (hc : l.all calm = true := by rfl) :
    Cont w0 K n (W r P (.region id l.toArray true) N E R) L σ ρ := fun a _ hf hs => by
  refine wpIn_mono (wpIn_region_any hm (any_in (Q := post N noE noR) post_out hc _ _ _ _ (wpAny_of_tail _ _ _ _ (h a _ hf hs.drewN)))) fun e a w q => ?_
  cases e with
  | normal => exact q
  | _ => exact q.elim
theorem c_pure {p : Prop} (h : ∀ w, St w0 K w σ ρ → p) (k : p → Cont w0 K n N L σ ρ) : Cont w0 K n N L σ ρ := fun a w hf hs => k (h w hs) a w hf hs
theorem c_keep {x : Item} (h : Cont w0 K n N L σ (x.holds :: ρ)) : Cont w0 K n N L (x :: σ) ρ := fun a w hf hs => h a w hf hs.keep
theorem c_sealr {α : Type} {e size c : Nat} {A : Option Addr} {f : α → List Value} {es : List α} (hs : 0 < size) (hf : ∀ x, (f x).length = size) (h : Cont w0 K n N L σ (Sl size f A es :: ρ)) : Cont w0 K n N L (iSl e size f A c es :: σ) ρ := fun a w hfr hst => h a w hfr (hst.sealr hs hf)
theorem c_sure {q : World → Prop} (hq : ∀ w, q w) (h : Cont w0 K n N L σ (q :: ρ)) : Cont w0 K n N L σ ρ := fun a w hf hs => h a w hf (hs.sure hq)
theorem c_rowc {α : Type} {b e size : Nat} {vs : List Value} (f : α → List Value) (es : List α) (hv : vs = es.flatMap f) (hl : vs.length = es.length * size) (hm : es.length ≤ maxLen) (h : Cont w0 K n N L (iSl e size f (some ⟨b, 0, none⟩) es.length es :: σ) ρ) : Cont w0 K n N L (iCells b e vs :: σ) ρ := fun a w hfr hs => by
  subst hv
  refine h a w hfr ⟨hs.ext, hs.nodup, fun x hx => ?_, hs.facts⟩
  rcases List.mem_cons.1 hx with rfl | hx
  · have := hs.own _ (List.mem_cons_self ..)
    refine ⟨⟨hl, .inr ⟨b, es.length, (es.flatMap f).toArray, rfl, Nat.zero_le _, this.1, Nat.le_refl _, hm, by simpa using hl, ?_⟩⟩, iRow_dep _ _ _ _ _, this.2.2⟩
    rw [← hl, show (es.flatMap f).toArray.toList = es.flatMap f from rfl, List.take_length]
  · exact hs.own x (List.mem_cons_of_mem _ hx)
/-- all that is owned is only read -/
theorem St.quiet {w : World} (hs : St w0 K w σ ρ) : St w [] w [] (KeepF σ :: ρ) := (St.keepAll (σ := []) σ (by rw [List.append_nil]; exact hs)).own_world
/-- the block of an own row is new, and it holds its elements -/
theorem St.row_new {α : Type} {w : World} {e size c : Nat} {A : Option Addr} {f : α → List Value} {es : List α} (h : St w0 [] w σ ρ) (hq : iSl e size f A c es ∈ σ) : es.length ≤ c ∧ ∀ a, A = some a → w0.heap.size ≤ a.block := by
  refine ⟨h.cap hq, fun a ha => ?_⟩
  subst ha
  have := (h.own _ hq).2.2 a.block (by simp [iSl, iRow, Value.ownBlock])
  simpa using this.2
theorem dep_sl2 {α : Type} {size : Nat} {f : α → List Value} {A : Option Addr} {es : List α} {w : World} {lo : Nat} (hs : 0 < size) (h : Sl size f A es w) (hlo : ∀ a, A = some a → lo ≤ a.block) : Dep lo w.heap.size (Sl size f A es) := by
  by_cases hne : es = []
  · subst hne; exact fun _ w2 _ _ => Sl.nil _ _ _ w2
  · obtain ⟨b, off, rfl, hlt⟩ := h.lt hs hne
    exact Sl.dep fun a ha => by injection ha with ha; subst ha; exact ⟨hlo _ rfl, hlt⟩
end
theorem front5 (x y z u v t : Item) (σ : Own) : (x :: y :: z :: u :: v :: t :: σ).Perm (t :: x :: y :: z :: u :: v :: σ) := ((front4 y z u v t σ).cons x).trans (List.Perm.swap t x (y :: z :: u :: v :: σ))
theorem front6 (x y z u v t s : Item) (σ : Own) : (x :: y :: z :: u :: v :: t :: s :: σ).Perm (s :: x :: y :: z :: u :: v :: t :: σ) := ((front5 y z u v t s σ).cons x).trans (List.Perm.swap s x (y :: z :: u :: v :: t :: σ))
end Go.Fx
