/- The walks of ropes, second part; conditions: lengths. -/
import Derived.Test.YtdpocfkbnfhcfaaWalks
namespace Go.Proofs.Ytdpocfkbnfhcfaa
open Go Go.Fx Go.Proofs

abbrev BX (b : Nat) := { p : Option Addr × Option Addr × Nat // p.1 = none ∨ p.1 = some ⟨b, 0, none⟩ }
theorem l_callov {P : Program} {w0 : World} {K : List Nat} {n : Sz} {N : Act → World → Prop} {L : Slots} {σ : Fx.Own} {ρ : Facts} {ops : Array Oper} {rest : List Oper} {ty : TypeId} {X : Type} {d : Nat} {pos : String} {aft : Array Edge} {k : FuncId} {f : Operand} {cs : Array Value} {xs : List Operand} {us : List Value} {at_ : Array TypeId} {τ : Fx.Own} (V : X → Value) (τ' : X → Fx.Own) (hd : d < n) (hk : Callable P k) (hf' : ev L f = some (.func (.func k) #[] cs)) (ha : evl L xs = some us)
    (hc : ∀ w, Fx.St w (keysOf τ) w τ ρ → Calls P k (us.toArray ++ cs) w (Ret fun v w' => ∃ x ρ', v = V x ∧ Fx.St w (keysOf τ) w' (τ' x) ρ')) (h : ∀ x, WL P w0 K n ops rest N ((d, V x) :: L) (τ' x ++ σ) ρ) :
    WL P w0 K n ops (⟨some d, .call { callee := .value f, args := xs.toArray, argTypes := at_ }, ty, pos, aft, none⟩ :: rest) N L (τ ++ σ) ρ := fun a w hf hs => by
  refine wpList_plain rfl fun K' hK => ?_
  unfold Oper.wp
  rw [run_call hk (first := #[]) (cap := cs) (w := w) rfl (hf.ev hf') (args_evl (fun x u hx => hf.ev hx) _ _ ha)]
  simp only [Array.empty_append, Oper.upon]
  refine (hc w hs.focus).mono fun e w' hr => ?_
  cases e with
  | returned v =>
    obtain ⟨x, ρ', rfl, h1⟩ := hr
    exact hK _ _ (h x _ _ (hf.put hd _) (hs.splice h1))
  | _ => exact hr.elim
theorem inf_9 : InfoIs Try.prog 9 1 16 (.string ⟨#[]⟩) := by unfold InfoIs; kernel_rfl
theorem call_33 : Callable Try.prog 33 := ⟨_, Try.func33, by kernel_rfl, rfl⟩
theorem call_37 : Callable Try.prog 37 := ⟨_, Try.func37, by kernel_rfl, rfl⟩
theorem call_38 : Callable Try.prog 38 := ⟨_, Try.func38, by kernel_rfl, rfl⟩
theorem piece_ok (b : Nat) (a A : Option Addr) (c : Nat) (l : List UInt8) (s : List UInt8) (ha : a = none ∨ a = some ⟨b, 0, none⟩) (hl : l.length + s.length ≤ 140737488355328) (ρ : Facts) (w : World) (h : St w (keysOf (bldI b a A (l) c)) w (bldI b a A (l) c) ρ) :
   Calls Try.prog 37 #[str s, .pointer (some ⟨b, 0, none⟩)] w (Ret fun v w' => ∃ (x : BX b) (ρ' : Facts), v = .bool true ∧ St w (keysOf (bldI b a A (l) c)) w' (bldI b x.1.1 x.1.2.1 (l ++ s) x.1.2.2) ρ') := by
 refine calls_fx (l := [str s, .pointer (some ⟨b, 0, none⟩)]) Try.func37 rfl Try.ntmps37 (Nat.le_of_ble_eq_true rfl) h ?_
 refine c_seq ?_
 refine c_reg ?_
 refine l_q (by decide) (p_assign rfl).q ?_
 refine l_nil ?_
 refine c_seq ?_
 refine c_reg ?_
 refine l_q (by decide) (p_move rfl).q ?_
 refine l_callo (τ := bldI b a A (l) c) (σ := []) (fun _ => .tuple #[.int .i64 (s.length : Int), .nilIface]) (fun x : Option Addr × Nat => bldI b (some ⟨b, 0, none⟩) x.1 (l ++ s) x.2) (by decide) call_38 rfl (fun w hs => writeString_ok b a A c l s ha hl _ w hs) (fun x => ?_)
 refine l_nil ?_
 refine c_seq ?_
 refine c_reg ?_
 refine l_q (by decide) (p_assign rfl).q ?_
 refine l_nil ?_
 refine c_ret ?_
 refine c_ret1 rfl rfl (fun w hs => ?_)
 exact ⟨⟨(_, x), .inr rfl⟩, ρ, rfl, hs⟩

def WalkC (t : Option T) : Prop := ∀ (b : Nat) (a A : Option Addr) (c : Nat) (l : List UInt8) (_ : a = none ∨ a = some ⟨b, 0, none⟩) (_ : l.length + szO t ≤ 140737488355328) (ρ : Facts) (w : World) (_ : St w (keysOf (bldI b a A (l) c)) w (bldI b a A (l) c) ρ), liesO t ∈ ρ →
  Calls Try.prog 33 #[ptrO t, .func (.func 37) #[] #[.pointer (some ⟨b, 0, none⟩)]] w (Ret fun v w' => ∃ (x : BX b) (ρ' : Facts), v = .bool true ∧ St w (keysOf (bldI b a A (l) c)) w' (bldI b x.1.1 x.1.2.1 (l ++ txO t) x.1.2.2) ρ')

theorem walk_step (t : Option T) (ih : ∀ b l r, t = some (T.node b l r) → WalkC (some l) ∧ WalkC (some r)) (b : Nat) (a A : Option Addr) (c : Nat) (l : List UInt8) (ha : a = none ∨ a = some ⟨b, 0, none⟩) (hl : l.length + szO t ≤ 140737488355328) (ρ : Facts) (w : World) (h : St w (keysOf (bldI b a A (l) c)) w (bldI b a A (l) c) ρ) (hm : liesO t ∈ ρ) :
   Calls Try.prog 33 #[ptrO t, .func (.func 37) #[] #[.pointer (some ⟨b, 0, none⟩)]] w (Ret fun v w' => ∃ (x : BX b) (ρ' : Facts), v = .bool true ∧ St w (keysOf (bldI b a A (l) c)) w' (bldI b x.1.1 x.1.2.1 (l ++ txO t) x.1.2.2) ρ') := by
 refine calls_fx (l := [ptrO t, .func (.func 37) #[] #[.pointer (some ⟨b, 0, none⟩)]]) Try.func33 rfl Try.ntmps33 (Nat.le_of_ble_eq_true rfl) h ?_
 refine c_seq ?_
 refine c_reg ?_
 refine l_q (by decide) (p_assign rfl).q ?_
 refine l_nil ?_
 refine c_seq ?_
 refine c_seq ?_
 refine c_reg ?_
 refine l_q (by decide) (p_move rfl).q ?_
 first | refine l_q (by decide) (p_eqpn Try.underlying24 rfl rfl).q ?_ | refine l_q (by decide) (p_eqps Try.underlying24 inf_64 rfl rfl).q ?_
 refine l_nil ?_
 first | refine c_dec rfl (fun h6 => ?_) (fun h6 => ?_) | refine c_cond rfl (fun h6 => ?_) (fun h6 => ?_)
 ·skip
  obtain rfl : t = none := by cases t <;> simp_all [adO]
  refine c_seq ?_
  refine c_reg ?_
  refine l_q (by decide) (p_assign rfl).q ?_
  refine l_nil ?_
  refine c_ret ?_
  refine c_ret1 rfl rfl (fun w hs => ?_)
  exact ⟨⟨(a, A, c), ha⟩, ρ, rfl, by rw [show txO none = [] from rfl, List.append_nil]; exact hs⟩
 ·skip
  obtain ⟨t, rfl⟩ : ∃ t2, t = some t2 := by cases t <;> simp_all [adO]
  refine c_skip ?_
  refine c_seq ?_
  refine c_seq ?_
  refine c_reg ?_
  refine l_q (by decide) (p_move rfl).q ?_
  refine l_q (by decide) (p_nilp rfl).q ?_
  first | refine l_q (by decide) (p_faddr (i := 1) 1 Try.underlying64 rfl inf_24 (by decide) rfl rfl).q ?_ | refine l_q (by decide) (p_faddro (i := 1) 1 Try.underlying64 rfl inf_24 (by decide) rfl rfl).q ?_
  refine l_q (by decide) (r_loadq (q := liesO (some (t))) Try.underlying24 rfl rfl hm (fun w h => T.c1 h)).q ?_
  first | refine l_q (by decide) (p_eqpn Try.underlying24 rfl rfl).q ?_ | refine l_q (by decide) (p_eqps Try.underlying24 inf_64 rfl rfl).q ?_
  refine l_nil ?_
  first | refine c_dec rfl (fun h11 => ?_) (fun h11 => ?_) | refine c_cond rfl (fun h11 => ?_) (fun h11 => ?_)
  ·skip
   obtain ⟨bt, st, rfl⟩ : ∃ bt st, t = T.leaf bt st := by cases t <;> simp_all [adO, T.lft]
   refine c_seq ?_
   refine c_reg ?_
   refine l_q (by decide) (p_move rfl).q ?_
   refine l_q (by decide) (p_move rfl).q ?_
   refine l_q (by decide) (p_nilp rfl).q ?_
   first | refine l_q (by decide) (p_faddr (i := 0) 0 Try.underlying64 rfl inf_9 (by decide) rfl rfl).q ?_ | refine l_q (by decide) (p_faddro (i := 0) 0 Try.underlying64 rfl inf_9 (by decide) rfl rfl).q ?_
   refine l_q (by decide) (r_loadq (q := liesO (some (T.leaf bt st))) Try.underlying9 rfl rfl hm (fun w h => T.c0 h)).q ?_
   refine l_callov (τ := bldI b a A (l) c) (σ := []) (fun _ => .bool true) (fun x : BX b => bldI b x.1.1 x.1.2.1 (l ++ txO (some (T.leaf bt st))) x.1.2.2) (by decide) call_37 rfl rfl (fun w hs => piece_ok b a A c l st ha hl _ w hs) (fun x => ?_)
   refine l_q (by decide) (p_assign rfl).q ?_
   refine l_nil ?_
   refine c_ret ?_
   refine c_ret1 rfl rfl (fun w hs => ?_)
   exact ⟨x, _, rfl, hs⟩
  ·skip
   obtain ⟨bt, lt, rt, rfl⟩ : ∃ bt lt rt, t = T.node bt lt rt := by cases t <;> simp_all [adO, T.lft]
   obtain ⟨ihl, ihr⟩ := ih _ _ _ rfl
   have hsz : szO (some (T.node bt lt rt)) = szO (some lt) + szO (some rt) := T.size_node _ _
   have htx : txO (some (T.node bt lt rt)) = txO (some lt) ++ txO (some rt) := rfl
   have hll : (txO (some lt)).length = szO (some lt) := rfl
   rw [htx]
   refine c_facts _ (fun w hs => T.open hs hm) ?_
   refine c_skip ?_
   refine c_seq ?_
   refine c_reg ?_
   refine l_q (by decide) (p_move rfl).q ?_
   refine l_q (by decide) (p_nilp rfl).q ?_
   first | refine l_q (by decide) (p_faddr (i := 1) 1 Try.underlying64 rfl inf_24 (by decide) rfl rfl).q ?_ | refine l_q (by decide) (p_faddro (i := 1) 1 Try.underlying64 rfl inf_24 (by decide) rfl rfl).q ?_
   refine l_q (by decide) (r_loadq (q := liesO (some (T.node bt lt rt))) Try.underlying24 rfl rfl (by exact List.mem_cons_of_mem _ (List.mem_cons_of_mem _ hm)) (fun w h => T.c1 h)).q ?_
   refine l_q (by decide) (p_move rfl).q ?_
   refine l_callo (τ := bldI b a A (l) c) (σ := []) (fun _ => .bool true) (fun x : BX b => bldI b x.1.1 x.1.2.1 (l ++ txO (some lt)) x.1.2.2) (by decide) call_33 rfl (fun w hs => ihl b a A c l ha (by omega) _ w hs (by repeat constructor)) (fun x => ?_)
   refine l_q (by decide) (p_move rfl).q ?_
   refine l_g (j := 6) rfl rfl (by decide) (p_move rfl).q ?_
   refine l_g (j := 6) rfl rfl (by decide) (p_nilp rfl).q ?_
   first | refine l_g (j := 6) rfl rfl (by decide) (p_faddr (i := 2) 2 Try.underlying64 rfl inf_24 (by decide) rfl rfl).q ?_ | refine l_g (j := 6) rfl rfl (by decide) (p_faddro (i := 2) 2 Try.underlying64 rfl inf_24 (by decide) rfl rfl).q ?_
   refine l_g (j := 6) rfl rfl (by decide) (r_loadq (q := liesO (some (T.node bt lt rt))) Try.underlying24 rfl rfl (by exact List.mem_cons_of_mem _ (List.mem_cons_of_mem _ hm)) (fun w h => T.c2 h)).q ?_
   refine l_g (j := 6) rfl rfl (by decide) (p_move rfl).q ?_
   refine l_strip (j := 6) rfl rfl ?_
   refine l_callo (τ := bldI b x.1.1 x.1.2.1 (l ++ txO (some lt)) x.1.2.2) (σ := []) (fun _ => .bool true) (fun x : BX b => bldI b x.1.1 x.1.2.1 (l ++ txO (some lt) ++ txO (some rt)) x.1.2.2) (by decide) call_33 rfl (fun w hs => ihr b x.1.1 x.1.2.1 x.1.2.2 (l ++ txO (some lt)) x.2 (by rw [List.length_append]; omega) _ w hs (by repeat constructor)) (fun y => ?_)
   refine l_q (by decide) (p_pick rfl rfl).q ?_
   refine l_q (by decide) (p_assign rfl).q ?_
   refine l_nil ?_
   refine c_ret ?_
   refine c_ret1 rfl rfl (fun w hs => ?_)
   exact ⟨y, _, rfl, by rw [← List.append_assoc]; exact hs⟩
end Go.Proofs.Ytdpocfkbnfhcfaa
