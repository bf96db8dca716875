/- The walks of ropes, ninth part; conditions: lengths. -/
import Derived.Test.YtdpocfkbnfhcfaaWalksH
import Derived.Test.YtdpocfkbnfhcfaaFxU
namespace Go.Proofs.Ytdpocfkbnfhcfaa
open Go Go.Fx Go.Proofs

abbrev Pc := { s : List UInt8 // 1 ≤ s.length ∧ s.length ≤ 64 }
def vals (ps : List Pc) : List (List UInt8) := ps.map (·.1)
def pcO : Option T → List (List UInt8)
  | none => []
  | some t => t.pl.pieces
def cat (ps : List Pc) : List UInt8 := (vals ps).flatten
theorem cat_snoc (ps : List Pc) (x : Pc) : cat (ps ++ [x]) = cat ps ++ x.1 := by simp [cat, vals]
theorem cat_len (ps : List Pc) : ps.length ≤ (cat ps).length ∧ (cat ps).length ≤ 64 * ps.length := by
  induction ps with
  | nil => simp [cat, vals]
  | cons x ps ih => have := x.2; simp only [cat, vals, List.map_cons, List.flatten_cons, List.length_append, List.length_cons] at ih ⊢; omega
theorem cat_tx {ps : List Pc} {t : Option T} (h : vals ps = pcO t) : cat ps = txO t := by
  rw [cat, h]
  cases t with
  | none => rfl
  | some t => exact Rope.pieces_text t.pl
theorem pcs_ex {t : Option T} (hg : Rope.GoodO (plO t)) : ∃ ps : List Pc, vals ps = pcO t := by
  have key : ∀ l : List (List UInt8), (∀ p, p ∈ l → 1 ≤ p.length ∧ p.length ≤ 64) → ∃ ps : List Pc, vals ps = l := fun l => by
    induction l with
    | nil => exact fun _ => ⟨[], rfl⟩
    | cons x l ih =>
      intro h
      obtain ⟨ps, hps⟩ := ih (fun p hp => h p (List.mem_cons_of_mem _ hp))
      exact ⟨⟨x, h x (List.mem_cons_self ..)⟩ :: ps, congrArg (x :: ·) hps⟩
  cases t with
  | none => exact ⟨[], rfl⟩
  | some t => exact key _ (Rope.Good.pieces hg)
def encs (x : Pc) : Array Value := #[str x.1]
def itv (b : Nat) : Value := .func (.func 32) #[] #[.pointer (some ⟨b, 0, none⟩)]
/-- the rope that an iterator has caught -/
def boxT (b : Nat) (t : Option T) : World → Prop := fun w => (iCells b 26 [ptrO t]).holds w ∧ liesO t w
theorem boxT_c {b : Nat} {t : Option T} (w : World) (h : boxT b t w) : w.cell? ⟨b, 0, none⟩ = some (ptrO t) := by rw [cells_cell h.1]; rfl
theorem dep0_lies (t : Option T) {w : World} (h : liesO t w) : Dep 0 w.heap.size (liesO t) := by
  cases t with
  | none => exact fun _ _ _ h => h
  | some t => exact fun w1 w2 hb h1 => T.dep t w1 w2 (fun k hk => hb k (Nat.zero_le _) (T.lt h hk)) h1
theorem boxT_holds {b : Nat} {t : Option T} {w : World} (h : boxT b t w) : Holds [boxT b t] w := fun q hq => by
  rw [List.mem_singleton.1 hq]
  have h1 : w.heap[b]? = some (.cells #[ptrO t] 26 (0, 0)) := h.1
  have hlt := (Array.getElem?_eq_some_iff.1 h1).1
  exact ⟨h, 0, w.heap.size, Nat.le_refl _, fun w1 w2 hb q => ⟨(hb b (Nat.zero_le _) hlt).trans q.1, dep0_lies t h.2 w1 w2 hb q.2⟩⟩
theorem boxT_ext {b : Nat} {t : Option T} {w w' : World} (h : boxT b t w) (he : Ext [] w w') : boxT b t w' := ((boxT_holds h).ext he _ (List.mem_singleton.2 rfl)).1
abbrev YWP (b l n : Nat) (t0 : Option T) (J Jx : List Pc → World → Prop) : Prop := ∀ (p : List Pc) (x : Pc) (W1 : World), J p W1 → p.length < n → YieldAt (FW none) 9 Try.prog l (encs x) W1 fun e W' => (e = .returned (.bool true) ∧ J (p ++ [x]) W' ∧ (boxT b t0 W1 → boxT b t0 W')) ∨ (e = .returned (.bool false) ∧ Jx (p ++ [x]) W')
theorem yieldC {b l n B : Nat} {t0 : Option T} {J Jx : List Pc → World → Prop} (hJ : AbidesFrom B J) (hY : YWP b l n t0 J Jx) {p : List Pc} {x : Pc} {w W : World} (hl : p.length < n) (hj : J p w ∧ boxT b t0 w) (he : Ext [] w W) :
    YieldAt (FW none) 9 Try.prog l [str x.1].toArray W fun e W' => (e = .returned (.bool true) ∧ (J (p ++ [x]) W' ∧ boxT b t0 W')) ∨ (e = .returned (.bool false) ∧ Jx (p ++ [x]) W') := by
  obtain ⟨fn, tmps, assign, body, h1, h2⟩ := hY p x W (abides_ext hJ hj.1 he) hl
  refine ⟨fn, tmps, assign, body, h1, h2.mono fun e W' h => ?_⟩
  rcases h with ⟨h3, h4, h5⟩ | ⟨h3, h4⟩
  · exact .inl ⟨h3, h4, h5 (boxT_ext hj.2 he)⟩
  · exact .inr ⟨h3, h4⟩
abbrev YOut (b : Nat) (t0 : Option T) (J Jx : List Pc → World → Prop) (all : List Pc) (v : Value) (w' : World) : Prop := (v = .bool true ∧ J all w' ∧ boxT b t0 w') ∨ (v = .bool false ∧ ∃ p q, p ++ q = all ∧ Jx p w')
def WalkYC (b l n : Nat) (t0 : Option T) (J Jx : List Pc → World → Prop) (t : Option T) : Prop := (∀ w, boxT b t0 w → liesO t w) → ∀ (ps pre : List Pc) (w : World), vals ps = pcO t → pre.length + ps.length ≤ n → boxT b t0 w → J pre w →
  Calls Try.prog 33 #[ptrO t, .func (.yield l) #[] #[]] w (Ret fun v w' => YOut b t0 J Jx (pre ++ ps) v w')
theorem retY {b : Nat} {t0 : Option T} {J Jx : List Pc → World → Prop} {all : List Pc} {k : FuncId} {args : Array Value} {w : World} (h : Calls Try.prog k args w (Ret fun v w' => YOut b t0 J Jx all v w')) :
    Calls Try.prog k args w fun e W' => (e = .returned (.bool true) ∧ (J all W' ∧ boxT b t0 W')) ∨ (e = .returned (.bool false) ∧ ∃ p q, p ++ q = all ∧ Jx p W') := h.mono fun e W' h => by
  cases e with
  | returned v =>
    rcases h with ⟨rfl, h⟩ | ⟨rfl, h⟩
    · exact .inl ⟨rfl, h⟩
    · exact .inr ⟨rfl, h⟩
  | _ => exact h.elim
theorem inf_4 : InfoIs Try.prog 4 1 1 (.bool false) := by unfold InfoIs; kernel_rfl
theorem call_27 : Callable Try.prog 27 := ⟨_, Try.func27, by kernel_rfl, rfl⟩
theorem call_32 : Callable Try.prog 32 := ⟨_, Try.func32, by kernel_rfl, rfl⟩
theorem chunks_ok (t : Option T) (σ : Fx.Own) (w : World) (h : St w (keysOf σ) w σ [liesO t]) :
   Calls Try.prog 27 #[.agg #[ptrO t]] w (Ret fun v w' => ∃ b : Nat, v = itv b ∧ St w (keysOf σ) w' σ [boxT b t]) := by
 refine calls_fx (l := [.agg #[ptrO t]]) Try.func27 rfl Try.ntmps27 (Nat.le_of_ble_eq_true rfl) h ?_
 refine c_seq ?_
 refine c_reg ?_
 refine l_box (by decide) rfl _ rfl (fun b1 => ?_)
 refine l_q (by decide) (p_assign rfl).q ?_
 refine l_nil ?_
 refine c_seq ?_
 refine c_reg ?_
 refine l_q (by decide) (p_makeFn rfl rfl).q ?_
 refine l_q (by decide) (p_assign rfl).q ?_
 refine l_nil ?_
 refine c_ret ?_
 refine c_ret1 rfl rfl (fun w hs => ?_)
 refine ⟨b1, rfl, St.sel (((hs.keep.and (p := liesO t) (q := (iCells b1 26 [ptrO t]).holds) (List.mem_cons_of_mem _ (List.mem_cons_self ..)) (List.mem_cons_self ..)).iff (q := boxT b1 t) (List.mem_cons_self ..) (fun w => And.comm))) (List.mem_cons_self ..)⟩

theorem walkY_step (b l n B : Nat) (t0 : Option T) (J Jx : List Pc → World → Prop) (hJ : AbidesFrom B J) (hJx : AbidesFrom B Jx) (hY : YWP b l n t0 J Jx) (t : Option T) (ih : ∀ b2 x y, t = some (T.node b2 x y) → WalkYC b l n t0 J Jx (some x) ∧ WalkYC b l n t0 J Jx (some y)) (hsub : ∀ w, boxT b t0 w → liesO t w) (ps pre : List Pc) (w : World) (hps : vals ps = pcO t) (hlen : pre.length + ps.length ≤ n) (hq : boxT b t0 w) (hj : J pre w) :
   Calls Try.prog 33 #[ptrO t, .func (.yield l) #[] #[]] w (Ret fun v w' => YOut b t0 J Jx (pre ++ ps) v w') := by
 refine calls_fx (l := [ptrO t, .func (.yield l) #[] #[]]) Try.func33 rfl Try.ntmps33 (Nat.le_of_ble_eq_true rfl) (boxT_holds hq).st ?_
 refine c_seq ?_
 refine c_reg ?_
 refine l_q (by decide) (p_assign rfl).q ?_
 refine l_nil ?_
 refine c_seq ?_
 refine c_seq ?_
 refine c_reg ?_
 refine l_q (by decide) (p_move rfl).q ?_
 first | refine l_q (by decide) (p_eqpn Try.underlying24 rfl rfl).q ?_ | refine l_q (by decide) (p_eqps Try.underlying24 inf_64 rfl rfl).q ?_
 refine l_nil ?_
 first | refine c_dec rfl (fun h6 => ?_) (fun h6 => ?_) | refine c_cond rfl (fun h6 => ?_) (fun h6 => ?_)
 ·skip
  obtain rfl : t = none := by cases t <;> simp_all [adO]
  obtain rfl : ps = [] := by cases ps <;> simp_all [vals, pcO]
  refine c_seq ?_
  refine c_reg ?_
  refine l_q (by decide) (p_assign rfl).q ?_
  refine l_nil ?_
  refine c_ret ?_
  refine c_ret1 rfl rfl (fun w hs => ?_)
  exact .inl ⟨rfl, by rw [List.append_nil]; exact abides_ext hJ hj hs.ext, boxT_ext hq hs.ext⟩
 ·skip
  obtain ⟨t, rfl⟩ : ∃ t2, t = some t2 := by cases t <;> simp_all [adO]
  refine c_skip ?_
  refine c_seq ?_
  refine c_seq ?_
  refine c_reg ?_
  refine l_q (by decide) (p_move rfl).q ?_
  refine l_q (by decide) (p_nilp rfl).q ?_
  first | refine l_q (by decide) (p_faddr (i := 1) 1 Try.underlying64 rfl inf_24 (by decide) rfl rfl).q ?_ | refine l_q (by decide) (p_faddro (i := 1) 1 Try.underlying64 rfl inf_24 (by decide) rfl rfl).q ?_
  refine l_q (by decide) (r_loadq (q := boxT b t0) Try.underlying24 rfl rfl (by repeat constructor) (fun w h => T.c1 (hsub w h))).q ?_
  first | refine l_q (by decide) (p_eqpn Try.underlying24 rfl rfl).q ?_ | refine l_q (by decide) (p_eqps Try.underlying24 inf_64 rfl rfl).q ?_
  refine l_nil ?_
  first | refine c_dec rfl (fun h11 => ?_) (fun h11 => ?_) | refine c_cond rfl (fun h11 => ?_) (fun h11 => ?_)
  ·skip
   obtain ⟨bt, st, rfl⟩ : ∃ bt st, t = T.leaf bt st := by cases t <;> simp_all [adO, T.lft]
   obtain ⟨x, rfl, hx⟩ : ∃ x : Pc, ps = [x] ∧ x.1 = st := by
     have hps : ps.map (·.1) = [st] := hps
     obtain ⟨x, rfl, hx⟩ := List.map_eq_singleton_iff.1 hps
     exact ⟨x, rfl, hx⟩
   refine c_seq ?_
   refine c_regi ?_
   refine wi_one ?_
   refine l_q (by decide) (p_move rfl).q ?_
   refine l_nil ?_
   refine wi_back ?_
   refine wi_one ?_
   refine l_q (by decide) (p_move rfl).q ?_
   refine l_nil ?_
   refine wi_back ?_
   refine wi_one ?_
   refine l_q (by decide) (p_nilp rfl).q ?_
   refine l_nil ?_
   refine wi_back ?_
   refine wi_one ?_
   first | refine l_q (by decide) (p_faddr (i := 0) 0 Try.underlying64 rfl inf_9 (by decide) rfl rfl).q ?_ | refine l_q (by decide) (p_faddro (i := 0) 0 Try.underlying64 rfl inf_9 (by decide) rfl rfl).q ?_
   refine l_nil ?_
   refine wi_back ?_
   refine wi_one ?_
   refine l_q (by decide) (((r_loadq (q := boxT b t0) Try.underlying9 rfl rfl (by repeat constructor) (fun w h => T.c0 (hsub w h)))).to (u := str x.1) (by rw [hx]; rfl)).q ?_
   refine l_nil ?_
   refine wi_back ?_
   refine wi_yield (by decide) rfl rfl (fun W he => yieldC (x := x) hJ hY (by simp only [List.length_cons, List.length_nil] at hlen; omega) ⟨hj, hq⟩ he) ?_ ?_
   ·skip
    intro w3 h3
    refine ⟨boxT_holds h3.2, ?_⟩
    refine wi_one ?_
    refine l_q (by decide) (p_assign rfl).q ?_
    refine l_nil ?_
    refine wi_back ?_
    refine wi_nil ?_
    refine c_ret ?_
    refine c_ret1 rfl rfl (fun w hs => ?_)
    exact .inl ⟨rfl, abides_ext hJ h3.1 hs.ext, boxT_ext h3.2 hs.ext⟩
   ·skip
    intro w3 h3
    refine wi_one ?_
    refine l_q (by decide) (p_assign rfl).q ?_
    refine l_nil ?_
    refine wi_back ?_
    refine wi_nil ?_
    refine c_ret ?_
    refine c_ret1 rfl rfl (fun w hs => ?_)
    exact .inr ⟨rfl, _, [], by rw [List.append_nil], abides_ext hJx h3 hs.ext⟩
  ·skip
   obtain ⟨bt, lt, rt, rfl⟩ : ∃ bt lt rt, t = T.node bt lt rt := by cases t <;> simp_all [adO, T.lft]
   obtain ⟨ihl, ihr⟩ := ih _ _ _ rfl
   obtain ⟨pl, pr, rfl, hpl, hpr⟩ : ∃ pl pr, ps = pl ++ pr ∧ vals pl = pcO (some lt) ∧ vals pr = pcO (some rt) := by
     have hps : ps.map (·.1) = lt.pl.pieces ++ rt.pl.pieces := hps
     obtain ⟨a, c, h1, h2, h3⟩ := List.map_eq_append_iff.1 hps
     exact ⟨a, c, h1, h2, h3⟩
   have hll : (pl ++ pr).length = pl.length + pr.length := List.length_append
   have hl2 : (pre ++ pl).length = pre.length + pl.length := List.length_append
   have ⟨hj0, hq0⟩ : J pre w ∧ boxT b t0 w := ⟨hj, hq⟩
   refine c_skip ?_
   refine c_seq ?_
   refine c_regi ?_
   refine wi_one ?_
   refine l_q (by decide) (p_move rfl).q ?_
   refine l_nil ?_
   refine wi_back ?_
   refine wi_one ?_
   refine l_q (by decide) (p_nilp rfl).q ?_
   refine l_nil ?_
   refine wi_back ?_
   refine wi_one ?_
   first | refine l_q (by decide) (p_faddr (i := 1) 1 Try.underlying64 rfl inf_24 (by decide) rfl rfl).q ?_ | refine l_q (by decide) (p_faddro (i := 1) 1 Try.underlying64 rfl inf_24 (by decide) rfl rfl).q ?_
   refine l_nil ?_
   refine wi_back ?_
   refine wi_one ?_
   refine l_q (by decide) (r_loadq (q := boxT b t0) Try.underlying24 rfl rfl (by repeat constructor) (fun w h => T.c1 (hsub w h))).q ?_
   refine l_nil ?_
   refine wi_back ?_
   refine wi_one ?_
   refine l_q (by decide) (p_move rfl).q ?_
   refine l_nil ?_
   refine wi_back ?_
   refine wi_callj (Jt := fun W => J (pre ++ pl) W ∧ boxT b t0 W) (Jf := fun W => ∃ p q, p ++ q = pre ++ pl ∧ Jx p W) (by decide) call_33 rfl (fun W he => retY (ihl (fun w h => (hsub w h).2.1) pl (pre) W hpl (by omega) (boxT_ext (And.intro hj hq).2 he) (abides_ext hJ (And.intro hj hq).1 he))) ?_ ?_
   ·skip
    intro w3 h3
    refine ⟨boxT_holds h3.2, ?_⟩
    refine wi_one ?_
    refine l_q (by decide) (p_move rfl).q ?_
    refine l_nil ?_
    refine wi_back ?_
    refine wi_one ?_
    refine l_g (j := 6) rfl rfl (by decide) (p_move rfl).q ?_
    refine l_nil ?_
    refine wi_back ?_
    refine wi_one ?_
    refine l_g (j := 6) rfl rfl (by decide) (p_nilp rfl).q ?_
    refine l_nil ?_
    refine wi_back ?_
    refine wi_one ?_
    first | refine l_g (j := 6) rfl rfl (by decide) (p_faddr (i := 2) 2 Try.underlying64 rfl inf_24 (by decide) rfl rfl).q ?_ | refine l_g (j := 6) rfl rfl (by decide) (p_faddro (i := 2) 2 Try.underlying64 rfl inf_24 (by decide) rfl rfl).q ?_
    refine l_nil ?_
    refine wi_back ?_
    refine wi_one ?_
    refine l_g (j := 6) rfl rfl (by decide) (r_loadq (q := boxT b t0) Try.underlying24 rfl rfl (by repeat constructor) (fun w h => T.c2 (hsub w h))).q ?_
    refine l_nil ?_
    refine wi_back ?_
    refine wi_one ?_
    refine l_g (j := 6) rfl rfl (by decide) (p_move rfl).q ?_
    refine l_nil ?_
    refine wi_back ?_
    refine wi_strip (j := 6) rfl rfl ?_
    refine wi_callj (Jt := fun W => J ((pre ++ pl) ++ pr) W ∧ boxT b t0 W) (Jf := fun W => ∃ p q, p ++ q = (pre ++ pl) ++ pr ∧ Jx p W) (by decide) call_33 rfl (fun W he => retY (ihr (fun w h => (hsub w h).2.2) pr ((pre ++ pl)) W hpr (by omega) (boxT_ext h3.2 he) (abides_ext hJ h3.1 he))) ?_ ?_
    ·skip
     intro w4 h4
     refine ⟨boxT_holds h4.2, ?_⟩
     refine wi_one ?_
     refine l_q (by decide) (p_pick rfl rfl).q ?_
     refine l_nil ?_
     refine wi_back ?_
     refine wi_one ?_
     refine l_q (by decide) (p_assign rfl).q ?_
     refine l_nil ?_
     refine wi_back ?_
     refine wi_nil ?_
     refine c_ret ?_
     refine c_ret1 rfl rfl (fun w hs => ?_)
     exact .inl ⟨rfl, by rw [← List.append_assoc]; exact abides_ext hJ h4.1 hs.ext, boxT_ext h4.2 hs.ext⟩
    ·skip
     intro w4 h4
     refine wi_one ?_
     refine l_q (by decide) (p_pick rfl rfl).q ?_
     refine l_nil ?_
     refine wi_back ?_
     refine wi_one ?_
     refine l_q (by decide) (p_assign rfl).q ?_
     refine l_nil ?_
     refine wi_back ?_
     refine wi_nil ?_
     refine c_ret ?_
     refine c_ret1 rfl rfl (fun w hs => ?_)
     obtain ⟨p, q, h5, h6⟩ := h4
     exact .inr ⟨rfl, p, q, by rw [h5, List.append_assoc], abides_ext hJx h6 hs.ext⟩
   ·skip
    intro w3 h3
    refine wi_one ?_
    refine l_q (by decide) (p_move rfl).q ?_
    refine l_nil ?_
    refine wi_back ?_
    refine wi_one ?_
    refine l_off (j := 6) rfl rfl (by first | (simp; done) | (simp [undef]; done)) (by decide) ?_
    refine l_nil ?_
    refine wi_back ?_
    refine wi_one ?_
    refine l_off (j := 6) rfl rfl (by first | (simp; done) | (simp [undef]; done)) (by decide) ?_
    refine l_nil ?_
    refine wi_back ?_
    refine wi_one ?_
    refine l_off (j := 6) rfl rfl (by first | (simp; done) | (simp [undef]; done)) (by decide) ?_
    refine l_nil ?_
    refine wi_back ?_
    refine wi_one ?_
    refine l_off (j := 6) rfl rfl (by first | (simp; done) | (simp [undef]; done)) (by decide) ?_
    refine l_nil ?_
    refine wi_back ?_
    refine wi_one ?_
    refine l_off (j := 6) rfl rfl (by first | (simp; done) | (simp [undef]; done)) (by decide) ?_
    refine l_nil ?_
    refine wi_back ?_
    refine wi_one ?_
    refine l_off (j := 6) rfl rfl (by first | (simp; done) | (simp [undef]; done)) (by decide) ?_
    refine l_nil ?_
    refine wi_back ?_
    refine wi_one ?_
    refine l_q (by decide) (p_pick rfl rfl).q ?_
    refine l_nil ?_
    refine wi_back ?_
    refine wi_one ?_
    refine l_q (by decide) (p_assign rfl).q ?_
    refine l_nil ?_
    refine wi_back ?_
    refine wi_nil ?_
    refine c_ret ?_
    refine c_ret1 rfl rfl (fun w hs => ?_)
    obtain ⟨p, q, h5, h6⟩ := h3
    exact .inr ⟨rfl, p, q ++ pr, by rw [← List.append_assoc, h5, List.append_assoc], abides_ext hJx h6 hs.ext⟩

theorem walkY_ok (b l n B : Nat) (t0 : Option T) (J Jx : List Pc → World → Prop) (hJ : AbidesFrom B J) (hJx : AbidesFrom B Jx) (hY : YWP b l n t0 J Jx) (t : Option T) : WalkYC b l n t0 J Jx t := by
  have key : ∀ t : T, WalkYC b l n t0 J Jx (some t) := fun t => by
    induction t with
    | leaf c s => exact fun hsub ps pre w h1 h2 h3 h4 => walkY_step b l n B t0 J Jx hJ hJx hY _ (fun _ _ _ e => by cases e) hsub ps pre w h1 h2 h3 h4
    | node c x y ihx ihy => exact fun hsub ps pre w h1 h2 h3 h4 => walkY_step b l n B t0 J Jx hJ hJx hY _ (fun _ _ _ e => by injection e with e; injection e with _ e1 e2; subst e1; subst e2; exact ⟨ihx, ihy⟩) hsub ps pre w h1 h2 h3 h4
  cases t with
  | none => exact fun hsub ps pre w h1 h2 h3 h4 => walkY_step b l n B t0 J Jx hJ hJx hY _ (fun _ _ _ e => by cases e) hsub ps pre w h1 h2 h3 h4
  | some t => exact key t

theorem chunk1_ok (b l B : Nat) (t : Option T) (ps : List Pc) (hps : vals ps = pcO t) (J Jx : List Pc → World → Prop) (hJ : AbidesFrom B J) (hJx : AbidesFrom B Jx) (hY : YWP b l ps.length t J Jx) (w : World) (hq : boxT b t w) (hj : J [] w) :
   Calls Try.prog 32 #[.func (.yield l) #[] #[], .pointer (some ⟨b, 0, none⟩)] w (Ret fun _ w' => J ps w' ∨ ∃ p q, p ++ q = ps ∧ Jx p w') := by
 refine calls_fx (l := [.func (.yield l) #[] #[], .pointer (some ⟨b, 0, none⟩)]) Try.func32 rfl Try.ntmps32 (Nat.le_of_ble_eq_true rfl) (boxT_holds hq).st ?_
 refine c_regi ?_
 refine wi_one ?_
 first | refine l_q (by decide) (p_faddr (i := 0) 0 Try.underlying26 rfl inf_24 (by decide) rfl rfl).q ?_ | refine l_q (by decide) (p_faddro (i := 0) 0 Try.underlying26 rfl inf_24 (by decide) rfl rfl).q ?_
 refine l_nil ?_
 refine wi_back ?_
 refine wi_one ?_
 refine l_q (by decide) (r_loadq (q := boxT b t) Try.underlying24 rfl rfl (by repeat constructor) boxT_c).q ?_
 refine l_nil ?_
 refine wi_back ?_
 refine wi_one ?_
 refine l_q (by decide) (p_move rfl).q ?_
 refine l_nil ?_
 refine wi_back ?_
 refine wi_callj (Jt := fun W => J ([] ++ ps) W ∧ boxT b t W) (Jf := fun W => ∃ p q, p ++ q = [] ++ ps ∧ Jx p W) (by decide) call_33 rfl (fun W he => retY (walkY_ok b l ps.length B t J Jx hJ hJx hY t (fun w h => h.2) ps [] W hps (by rw [List.length_nil, Nat.zero_add]; exact Nat.le_refl _) (boxT_ext hq he) (abides_ext hJ hj he))) ?_ ?_
 ·skip
  intro w3 h3
  refine ⟨boxT_holds h3.2, ?_⟩
  refine wi_nil ?_
  refine c_ret0 rfl (fun w hs => ?_)
  exact .inl (abides_ext hJ h3.1 hs.ext)
 ·skip
  intro w3 h3
  refine wi_nil ?_
  refine c_ret0 rfl (fun w hs => ?_)
  obtain ⟨p, q, h5, h6⟩ := h3
  exact .inr ⟨p, q, h5, abides_ext hJx h6 hs.ext⟩

theorem chunks_seq (b : Nat) (t : Option T) (ps : List Pc) (hps : vals ps = pcO t) (w : World) (hb : boxT b t w) :
    SeqStopsK (FW none) 10 Try.prog 32 #[.pointer (some ⟨b, 0, none⟩)] encs (fun A B => boxT b t A → boxT b t B) (fun xs => xs = ps) (fun p => ∃ q, p ++ q = ps) ps.length w :=
  fun l J Jx W hW hJ hJx hY h0 => by
    have hbW : boxT b t W := boxT_ext hb (Ext.of_below hW)
    refine (calls_in (r := none) (n := 10) (chunk1_ok b l W.heap.size t ps hps J Jx hJ hJx hY W hbW h0)).mono fun e W' h => ?_
    cases e with
    | returned v =>
      refine ⟨⟨v, rfl⟩, ?_⟩
      rcases h with h | ⟨p, q, h1, h2⟩
      · exact .inl ⟨_, rfl, h⟩
      · exact .inr ⟨p, ⟨q, h1⟩, h2⟩
    | _ => exact h.elim
theorem chunks_seqT (b : Nat) (t : Option T) (ps : List Pc) (hps : vals ps = pcO t) (w : World) (hb : boxT b t w) :
    SeqStopsK (FW none) 10 Try.prog 32 #[.pointer (some ⟨b, 0, none⟩)] encs (fun A B => boxT b t A → boxT b t B) (fun xs => xs = ps) (fun _ => True) ps.length w :=
  fun l J Jx W hW hJ hJx hY h0 => (chunks_seq b t ps hps w hb l J Jx W hW hJ hJx hY h0).mono fun e W' h => ⟨h.1, h.2.imp id fun ⟨p, _, h2⟩ => ⟨p, trivial, h2⟩⟩

theorem joined_ok (t : Option T) (hg : Rope.GoodO (plO t)) (hl : szO t ≤ 16000) (w : World) (h : liesO t w) :
   Calls Try.prog 26 #[.agg #[ptrO t]] w (Ret fun v w' => v = .tuple #[str (txO t), .bool true] ∧ Ext [] w w') := by
 obtain ⟨ps, hps⟩ := pcs_ex hg
 have hcn := cat_len ps
 have hct : (cat ps).length = szO t := congrArg List.length (cat_tx hps)
 refine calls_fm (l := [.agg #[ptrO t]]) Try.func26 rfl Try.ntmps26 (Nat.le_of_ble_eq_true rfl) (startO h) ?_
 refine c_seq ?_
 refine c_reg ?_
 refine l_box (by decide) rfl _ rfl (fun b1 => ?_)
 refine l_q (show 2 < 30 by decide) (p_assign (v := str []) rfl).q ?_
 refine l_q (show 3 < 30 by decide) (p_assign rfl).q ?_
 refine l_nil ?_
 refine c_seq ?_
 refine c_reg ?_
 first | refine l_q (show 8 < 30 by decide) (r_loada Try.underlying26 rfl inf_26 rfl (by first | exact .fact (by repeat constructor) | exact .own (by repeat constructor) (by decide) (fun _ => rfl)) (by assumption)).q ?_ | refine l_q (show 8 < 30 by decide) (r_loadow Try.underlying26 rfl inf_26 rfl (by repeat constructor) (by rfl)).q ?_ | refine l_q (show 8 < 30 by decide) (r_loadoa Try.underlying26 rfl inf_26 rfl (by repeat constructor) (by rfl) (fun j u h => h)).q ?_
 refine l_callf [liesO t] (X := Nat) itv (fun b => [boxT b t]) (by decide) call_27 rfl (by intro p hp; simp only [List.mem_cons, List.not_mem_nil, or_false] at hp; rcases hp with rfl <;> repeat constructor) (fun w hs => chunks_ok t _ w hs) (fun bx => ?_)
 refine l_q (show 4 < 30 by decide) (p_assign rfl).q ?_
 refine l_nil ?_
 refine c_seq ?_
 refine c_seq ?_
 refine c_reg ?_
 refine l_q (show 10 < 30 by decide) (p_move rfl).q ?_
 refine l_q (show 11 < 30 by decide) (((p_eqfn Try.underlying56 rfl rfl)).to (u := .bool false) (rfl)).q ?_
 refine l_nil ?_
 refine c_false rfl ?_
 refine c_skip ?_
 refine c_seq ?_
 refine c_reg ?_
 refine l_alloc (by decide) inf_9 _ rfl (fun b5 => ?_)
 refine l_alloc (by decide) inf_4 _ rfl (fun b6 => ?_)
 first | (refine l_store inf_9 rfl rfl rfl rfl (by first | decide | exact Nat.le_of_ble_eq_true rfl | (simp; done) | omega | (simp only [Nat.mul_one]; assumption)) ?_) | (refine l_perm (front1 _ _ _) ?_; refine l_store inf_9 rfl rfl rfl rfl (by first | decide | exact Nat.le_of_ble_eq_true rfl | (simp; done) | omega | (simp only [Nat.mul_one]; assumption)) ?_) | (refine l_perm (front2 _ _ _ _) ?_; refine l_store inf_9 rfl rfl rfl rfl (by first | decide | exact Nat.le_of_ble_eq_true rfl | (simp; done) | omega | (simp only [Nat.mul_one]; assumption)) ?_) | (refine l_perm (front3 _ _ _ _ _) ?_; refine l_store inf_9 rfl rfl rfl rfl (by first | decide | exact Nat.le_of_ble_eq_true rfl | (simp; done) | omega | (simp only [Nat.mul_one]; assumption)) ?_) | (refine l_perm (front4 _ _ _ _ _ _) ?_; refine l_store inf_9 rfl rfl rfl rfl (by first | decide | exact Nat.le_of_ble_eq_true rfl | (simp; done) | omega | (simp only [Nat.mul_one]; assumption)) ?_)
 first | (refine l_store inf_4 rfl rfl rfl rfl (by first | decide | exact Nat.le_of_ble_eq_true rfl | (simp; done) | omega | (simp only [Nat.mul_one]; assumption)) ?_) | (refine l_perm (front1 _ _ _) ?_; refine l_store inf_4 rfl rfl rfl rfl (by first | decide | exact Nat.le_of_ble_eq_true rfl | (simp; done) | omega | (simp only [Nat.mul_one]; assumption)) ?_) | (refine l_perm (front2 _ _ _ _) ?_; refine l_store inf_4 rfl rfl rfl rfl (by first | decide | exact Nat.le_of_ble_eq_true rfl | (simp; done) | omega | (simp only [Nat.mul_one]; assumption)) ?_) | (refine l_perm (front3 _ _ _ _ _) ?_; refine l_store inf_4 rfl rfl rfl rfl (by first | decide | exact Nat.le_of_ble_eq_true rfl | (simp; done) | omega | (simp only [Nat.mul_one]; assumption)) ?_) | (refine l_perm (front4 _ _ _ _ _ _) ?_; refine l_store inf_4 rfl rfl rfl rfl (by first | decide | exact Nat.le_of_ble_eq_true rfl | (simp; done) | omega | (simp only [Nat.mul_one]; assumption)) ?_)
 refine l_nil ?_
 refine c_seq ?_
 refine c_seq ?_
 refine c_reg ?_
 refine l_q (show 12 < 30 by decide) (p_move rfl).q ?_
 refine l_nil ?_
 refine c_block ?_
 refine c_range (α := Pc) encs (boxT bx t) (fun xs => xs = ps) ps.length (fun pre => [iCells b6 4 [.bool true], iCells b5 9 [str (cat pre)], iCells b1 26 [ptrO t]]) (fun x => [(5, .pointer (some ⟨b5, 0, none⟩)), (6, .pointer (some ⟨b6, 0, none⟩)), (7, str x.1), (12, itv bx)]) rfl call_32 (by repeat constructor) (fun w h => chunks_seqT bx t ps hps w h) (fun x => rfl) (by decide) rfl (fun _ _ h => h) ?_ ?_ ?_
 ·intro l pre x w1
  rw [show (#[13].zip (encs x)).toList = [(13, str x.1)] by simp [encs]]
  refine c_reg ?_
  refine l_q (show 7 < 30 by decide) (p_assign rfl).q ?_
  refine l_nil ?_
  refine c_join () trivial ?_ ?_ (fun _ h => h)
  · exact ⟨rfl, rfl, rfl, rfl, trivial⟩
  ·skip
   exact List.Perm.refl _
 ·intro l pre x w1 hlen
  have hcl := cat_len pre
  have hxl := x.2
  refine c_block ?_
  refine c_seq ?_
  refine c_reg ?_
  first | refine l_q (show 14 < 30 by decide) (((r_loado Try.underlying4 rfl rfl (by repeat constructor) (by rfl))).to (u := .bool true) (rfl)).q ?_ | refine l_q (show 14 < 30 by decide) (((r_load1 Try.underlying4 rfl rfl (by first | exact .fact (by repeat constructor) | exact .own (by repeat constructor) (by decide) (fun _ => rfl)) (by first | assumption | rfl) (by rfl))).to (u := .bool true) (rfl)).q ?_ | refine l_q (show 14 < 30 by decide) (((r_loadf Try.underlying4 rfl rfl (by first | exact .fact (by repeat constructor) | exact .own (by repeat constructor) (by decide) (fun _ => rfl)) (by assumption) (by rfl))).to (u := .bool true) (rfl)).q ?_
  refine l_q (show 15 < 30 by decide) (p_move rfl).q ?_
  refine l_g (j := 1) rfl rfl (show 16 < 30 by decide) (p_move rfl).q ?_
  refine l_g (j := 1) rfl rfl (show 17 < 30 by decide) (p_len_str Try.underlying9 rfl).q ?_
  first | refine l_g (j := 1) rfl rfl (show 18 < 30 by decide) (((p_geq (j := 1) rfl rfl rfl rfl)).to (u := .bool true) (by rw [decide_eq_true (x.2.1)])).q ?_ | refine l_g (j := 1) rfl rfl (show 18 < 30 by decide) (((p_geqi rfl rfl)).to (u := .bool true) (by rw [decide_eq_true (x.2.1)])).q ?_
  refine l_q (show 19 < 30 by decide) (p_pick rfl rfl).q ?_
  refine l_q (show 20 < 30 by decide) (p_move rfl).q ?_
  refine l_g (j := 6) rfl rfl (show 21 < 30 by decide) (p_move rfl).q ?_
  refine l_g (j := 6) rfl rfl (show 22 < 30 by decide) (p_len_str Try.underlying9 rfl).q ?_
  first | refine l_g (j := 6) rfl rfl (show 23 < 30 by decide) (((p_leq (j := 64) rfl rfl rfl rfl)).to (u := .bool true) (by rw [decide_eq_true (x.2.2)])).q ?_ | refine l_g (j := 6) rfl rfl (show 23 < 30 by decide) (((p_leqi rfl rfl)).to (u := .bool true) (by rw [decide_eq_true (x.2.2)])).q ?_
  refine l_q (show 24 < 30 by decide) (p_pick rfl rfl).q ?_
  first | (refine l_store inf_4 rfl rfl rfl rfl (by first | decide | exact Nat.le_of_ble_eq_true rfl | (simp; done) | omega | (simp only [Nat.mul_one]; assumption)) ?_) | (refine l_perm (front1 _ _ _) ?_; refine l_store inf_4 rfl rfl rfl rfl (by first | decide | exact Nat.le_of_ble_eq_true rfl | (simp; done) | omega | (simp only [Nat.mul_one]; assumption)) ?_) | (refine l_perm (front2 _ _ _ _) ?_; refine l_store inf_4 rfl rfl rfl rfl (by first | decide | exact Nat.le_of_ble_eq_true rfl | (simp; done) | omega | (simp only [Nat.mul_one]; assumption)) ?_) | (refine l_perm (front3 _ _ _ _ _) ?_; refine l_store inf_4 rfl rfl rfl rfl (by first | decide | exact Nat.le_of_ble_eq_true rfl | (simp; done) | omega | (simp only [Nat.mul_one]; assumption)) ?_) | (refine l_perm (front4 _ _ _ _ _ _) ?_; refine l_store inf_4 rfl rfl rfl rfl (by first | decide | exact Nat.le_of_ble_eq_true rfl | (simp; done) | omega | (simp only [Nat.mul_one]; assumption)) ?_)
  refine l_nil ?_
  refine c_reg ?_
  first | refine l_q (show 25 < 30 by decide) (r_loado Try.underlying9 rfl rfl (by repeat constructor) (by rfl)).q ?_ | refine l_q (show 25 < 30 by decide) (r_load1 Try.underlying9 rfl rfl (by first | exact .fact (by repeat constructor) | exact .own (by repeat constructor) (by decide) (fun _ => rfl)) (by first | assumption | rfl) (by rfl)).q ?_ | refine l_q (show 25 < 30 by decide) (r_loadf Try.underlying9 rfl rfl (by first | exact .fact (by repeat constructor) | exact .own (by repeat constructor) (by decide) (fun _ => rfl)) (by assumption) (by rfl)).q ?_
  refine l_q (show 26 < 30 by decide) (p_move rfl).q ?_
  first | refine l_q (show 27 < 30 by decide) (p_cat rfl rfl (by omega)).q ?_ | refine l_q (show 27 < 30 by decide) (p_cat rfl rfl (by simp; omega)).q ?_
  first | (refine l_store inf_9 rfl rfl rfl rfl (by first | decide | exact Nat.le_of_ble_eq_true rfl | (simp; done) | omega | (simp only [Nat.mul_one]; assumption)) ?_) | (refine l_perm (front1 _ _ _) ?_; refine l_store inf_9 rfl rfl rfl rfl (by first | decide | exact Nat.le_of_ble_eq_true rfl | (simp; done) | omega | (simp only [Nat.mul_one]; assumption)) ?_) | (refine l_perm (front2 _ _ _ _) ?_; refine l_store inf_9 rfl rfl rfl rfl (by first | decide | exact Nat.le_of_ble_eq_true rfl | (simp; done) | omega | (simp only [Nat.mul_one]; assumption)) ?_) | (refine l_perm (front3 _ _ _ _ _) ?_; refine l_store inf_9 rfl rfl rfl rfl (by first | decide | exact Nat.le_of_ble_eq_true rfl | (simp; done) | omega | (simp only [Nat.mul_one]; assumption)) ?_) | (refine l_perm (front4 _ _ _ _ _ _) ?_; refine l_store inf_9 rfl rfl rfl rfl (by first | decide | exact Nat.le_of_ble_eq_true rfl | (simp; done) | omega | (simp only [Nat.mul_one]; assumption)) ?_)
  refine l_nil ?_
  refine c_join () trivial ?_ ?_ (fun _ h => h)
  · exact trivial
  ·skip
   rw [cat_snoc]
   repeat (first | exact List.Perm.refl _ | refine List.Perm.cons _ ?_ | refine (front1 _ _ _).trans (List.Perm.cons _ ?_) | refine (front2 _ _ _ _).trans (List.Perm.cons _ ?_) | refine (front3 _ _ _ _ _).trans (List.Perm.cons _ ?_) | refine (front4 _ _ _ _ _ _).trans (List.Perm.cons _ ?_))
 ·intro D xs hxs
  subst hxs
  refine c_seq ?_
  refine c_draw mixed (by decide +kernel) ?_
  first | refine q_q (show 28 < 30 by decide) (r_loado Try.underlying9 rfl rfl (by repeat constructor) (by rfl)).q ?_ | refine q_q (show 28 < 30 by decide) (r_load1 Try.underlying9 rfl rfl (by first | exact .fact (by repeat constructor) | exact .own (by repeat constructor) (by decide) (fun _ => rfl)) (by first | assumption | rfl) (by rfl)).q ?_ | refine q_q (show 28 < 30 by decide) (r_loadf Try.underlying9 rfl rfl (by first | exact .fact (by repeat constructor) | exact .own (by repeat constructor) (by decide) (fun _ => rfl)) (by assumption) (by rfl)).q ?_
  first | refine q_q (show 29 < 30 by decide) (r_loado Try.underlying4 rfl rfl (by repeat constructor) (by rfl)).q ?_ | refine q_q (show 29 < 30 by decide) (r_load1 Try.underlying4 rfl rfl (by first | exact .fact (by repeat constructor) | exact .own (by repeat constructor) (by decide) (fun _ => rfl)) (by first | assumption | rfl) (by rfl)).q ?_ | refine q_q (show 29 < 30 by decide) (r_loadf Try.underlying4 rfl rfl (by first | exact .fact (by repeat constructor) | exact .own (by repeat constructor) (by decide) (fun _ => rfl)) (by assumption) (by rfl)).q ?_
  refine q_q (show 2 < 30 by decide) (p_assign rfl).q ?_
  refine q_q (show 3 < 30 by decide) (p_assign rfl).q ?_
  refine q_nil ?_
  refine c_ret ?_
  first | refine c_retm2 rfl rfl rfl (fun w hs => ?_) | refine c_retn2 rfl rfl rfl (fun w hs => ?_)
  exact ⟨by rw [← cat_tx hps], hs.ext⟩
end Go.Proofs.Ytdpocfkbnfhcfaa
