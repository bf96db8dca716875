/- The walks of textdiff, first part; conditions: lengths. -/
import Derived.Test.YtnkmemoagimddaaProg
import Derived.Test.YtnkmemoagimddaaFxD
import Derived.Test.YtnkmemoagimddaaPlain
namespace Go.Proofs.Ytnkmemoagimddaa
open Go Go.Fx Go.Proofs

/-- the two boxes that the iterator has caught -/
def boxes (b2 b3 n m : Nat) : World → Prop := fun w => w.heap[b2]? = some (.cells #[.int .i64 (n : Int)] 3 (0, 0)) ∧ w.heap[b3]? = some (.cells #[.int .i64 (m : Int)] 3 (0, 0))
def itv (b2 b3 : Nat) : Value := .func (.func 26) #[] #[.pointer (some ⟨b2, 0, none⟩), .pointer (some ⟨b3, 0, none⟩)]

theorem boxes_ext {b2 b3 n m : Nat} {w w' : World} (h : boxes b2 b3 n m w) (he : Ext [] w w') : boxes b2 b3 n m w' :=
  ⟨(he.block b2 (Array.getElem?_eq_some_iff.1 h.1).1 (by simp)).trans h.1, (he.block b3 (Array.getElem?_eq_some_iff.1 h.2).1 (by simp)).trans h.2⟩
theorem holds_boxes {b2 b3 n m : Nat} {w : World} (h : boxes b2 b3 n m w) : Holds [boxes b2 b3 n m] w := fun q hq => by
  simp only [List.mem_cons, List.not_mem_nil, or_false] at hq
  subst hq
  have k2 := (Array.getElem?_eq_some_iff.1 h.1).1
  have k3 := (Array.getElem?_eq_some_iff.1 h.2).1
  exact ⟨h, 0, w.heap.size, Nat.le_refl _, fun w1 w2 hb q => ⟨(hb b2 (Nat.zero_le _) k2).trans q.1, (hb b3 (Nat.zero_le _) k3).trans q.2⟩⟩
abbrev Pt (n m : Nat) := { x : Nat × Nat // x.1 ≤ n ∧ x.2 ≤ m }
def pt (n m k : Nat) : Pt n m := ⟨(n - k / (m + 1), m - k % (m + 1)), Nat.sub_le _ _, Nat.sub_le _ _⟩
def pre (n m k : Nat) : List (Pt n m) := (List.range k).map (pt n m)
theorem pre_succ (n m k : Nat) : pre n m (k + 1) = pre n m k ++ [pt n m k] := by simp [pre, List.range_succ]
theorem length_pre (n m k : Nat) : (pre n m k).length = k := by simp [pre]
def encs {n m : Nat} (x : Pt n m) : Array Value := #[.int .i64 (x.1.1 : Int), .int .i64 (x.1.2 : Int)]
theorem pt_at {n m a b : Nat} (ha : a ≤ n) (hb : b ≤ m) : encs (pt n m (a * (m + 1) + b)) = #[.int .i64 ((n : Int) - (a : Int)), .int .i64 ((m : Int) - (b : Int))] := by
  have h1 : (a * (m + 1) + b) / (m + 1) = a := by rw [Nat.mul_comm, Nat.mul_add_div (by omega), Nat.div_eq_of_lt (by omega)]; rfl
  have h2 : (a * (m + 1) + b) % (m + 1) = b := by rw [Nat.mul_comm, Nat.mul_add_mod, Nat.mod_eq_of_lt (by omega)]
  simp only [encs, pt, h1, h2]
  rw [Int.ofNat_sub ha, Int.ofNat_sub hb]
abbrev YW (n m b2 b3 l : Nat) (J Jx : List (Pt n m) → World → Prop) : Prop := ∀ (p : List (Pt n m)) (x : Pt n m) (W1 : World), J p W1 → p.length < (n + 1) * (m + 1) → YieldAt (FW none) 9 Try.prog l (encs x) W1 fun e W' => (e = .returned (.bool true) ∧ J (p ++ [x]) W' ∧ (boxes b2 b3 n m W1 → boxes b2 b3 n m W')) ∨ (e = .returned (.bool false) ∧ Jx (p ++ [x]) W')
theorem yield_at {n m b2 b3 l B a b : Nat} {J Jx : List (Pt n m) → World → Prop} (hJ : AbidesFrom B J) (hY : YW n m b2 b3 l J Jx) (ha : a ≤ n) (hb : b ≤ m) {w W : World} (hj : J (pre n m (a * (m + 1) + b)) w ∧ boxes b2 b3 n m w) (he : Ext [] w W) :
    YieldAt (FW none) 9 Try.prog l [.int .i64 ((n : Int) - (a : Int)), .int .i64 ((m : Int) - (b : Int))].toArray W fun e W' => (e = .returned (.bool true) ∧ (J (pre n m (a * (m + 1) + (b + 1))) W' ∧ boxes b2 b3 n m W')) ∨ (e = .returned (.bool false) ∧ Jx (pre n m (a * (m + 1) + (b + 1))) W') := by
  have hlt : a * (m + 1) + b < (n + 1) * (m + 1) := by
    have h1 : a * (m + 1) ≤ n * (m + 1) := Nat.mul_le_mul_right _ ha
    rw [Nat.add_mul]; omega
  obtain ⟨fn, tmps, assign, body, h1, h2⟩ := hY _ (pt n m (a * (m + 1) + b)) W (abides_ext hJ hj.1 he) (by rw [length_pre]; exact hlt)
  rw [pt_at ha hb] at h1
  refine ⟨fn, tmps, assign, body, h1, h2.mono fun e W' h => ?_⟩
  rw [show a * (m + 1) + (b + 1) = a * (m + 1) + b + 1 from rfl, pre_succ]
  rcases h with ⟨h3, h4, h5⟩ | ⟨h3, h4⟩
  · exact .inl ⟨h3, h4, h5 (boxes_ext hj.2 he)⟩
  · exact .inr ⟨h3, h4⟩
theorem boxes_2 {b2 b3 n m : Nat} (w : World) (h : boxes b2 b3 n m w) : w.cell? ⟨b2, 0, none⟩ = some (.int .i64 (n : Int)) := by simp [World.cell?, h.1]
theorem boxes_3 {b2 b3 n m : Nat} (w : World) (h : boxes b2 b3 n m w) : w.cell? ⟨b3, 0, none⟩ = some (.int .i64 (m : Int)) := by simp [World.cell?, h.2]

def costs (F : List Nat) : List Value := F.map fun (x : Nat) => Value.int .i64 (x : Int)
def Tab (tb c : Nat) (a b : List UInt8) (F : List Nat) : World → Prop := fun w => w.heap[tb]? = some (.cells #[str a, str b, .slice (some ⟨c, 0, none⟩) F.length F.length] 44 (0, 0)) ∧ w.heap[c]? = some (.cells (costs F).toArray 3 (0, 0))
theorem Tab.holds {tb c : Nat} {a b : List UInt8} {F : List Nat} {w : World} (h : Tab tb c a b F w) : Holds [Tab tb c a b F] w := fun q hq => by
  simp only [List.mem_cons, List.not_mem_nil, or_false] at hq
  subst hq
  have k2 := (Array.getElem?_eq_some_iff.1 h.1).1
  have k3 := (Array.getElem?_eq_some_iff.1 h.2).1
  exact ⟨h, 0, w.heap.size, Nat.le_refl _, fun w1 w2 hb q => ⟨(hb tb (Nat.zero_le _) k2).trans q.1, (hb c (Nat.zero_le _) k3).trans q.2⟩⟩
theorem tab_cost {tb c : Nat} {a b : List UInt8} {F : List Nat} (w : World) (h : Tab tb c a b F w) : w.cell? ⟨tb, 2, none⟩ = some (.slice (some ⟨c, 0, none⟩) F.length F.length) := by simp [World.cell?, h.1]
theorem tab_b {tb c : Nat} {a b : List UInt8} {F : List Nat} (w : World) (h : Tab tb c a b F w) : w.cell? ⟨tb, 1, none⟩ = some (str b) := by simp [World.cell?, h.1]
theorem tab_row {tb c : Nat} {a b : List UInt8} {F : List Nat} {k x : Nat} (hk : F[k]? = some x) (w : World) (h : Tab tb c a b F w) : w.cell? ⟨c, k * 1, none⟩ = some (.int .i64 (x : Int)) := by simp [World.cell?, h.2, costs, hk]
theorem mixed : Try.prog.follows .mixedOrders = true := by kernel_rfl
theorem inf_3 : InfoIs Try.prog 3 1 8 (.int .i64 0) := by unfold InfoIs; kernel_rfl
theorem inf_9 : InfoIs Try.prog 9 1 16 (.string ⟨#[]⟩) := by unfold InfoIs; kernel_rfl
theorem inf_41 : InfoIs Try.prog 41 1 24 (.slice none 0 0) := by unfold InfoIs; kernel_rfl
theorem pairs_ok (n m : Nat) (w : World) :
    Calls Try.prog 25 #[.int .i64 (n : Int), .int .i64 (m : Int)] w (Ret fun v w' => ∃ x : Nat × Nat, v = itv x.1 x.2 ∧ boxes x.1 x.2 n m w' ∧ Dep w.heap.size w'.heap.size (boxes x.1 x.2 n m) ∧ Ext [] w w') := by
  refine calls_fx (l := [.int .i64 (n : Int), .int .i64 (m : Int)]) Try.func25 rfl Try.ntmps25 (Nat.le_of_ble_eq_true rfl) (St.start w) ?_
  refine c_seq ?_
  refine c_reg ?_
  refine l_box (by decide) rfl _ rfl (fun b2 => ?_)
  refine l_box (by decide) rfl _ rfl (fun b3 => ?_)
  refine l_q (by decide) (p_assign rfl).q ?_
  refine l_nil ?_
  refine c_seq ?_
  refine c_reg ?_
  refine l_q (by decide) (p_makeFn rfl rfl).q ?_
  refine l_q (by decide) (p_assign rfl).q ?_
  refine l_nil ?_
  refine c_ret ?_
  refine c_ret1 rfl rfl (fun w hs => ?_)
  have h2 := hs.own _ (List.mem_cons_of_mem _ (List.mem_cons_self ..))
  have h3 := hs.own _ (List.mem_cons_self ..)
  have k2 := h2.2.2 b2 (by simp [iCells])
  have k3 := h3.2.2 b3 (by simp [iCells])
  exact ⟨(b2, b3), rfl, ⟨h2.1, h3.1⟩, fun w1 w2 h q => ⟨(h b2 (by simpa using k2.2) k2.1).trans q.1, (h b3 (by simpa using k3.2) k3.1).trans q.2⟩, hs.ext⟩

theorem pairs1_ok (n m b2 b3 l B : Nat) (hn : n ≤ 1000) (hm : m ≤ 1000) (J Jx : List (Pt n m) → World → Prop) (hJ : AbidesFrom B J) (hJx : AbidesFrom B Jx) (hY : YW n m b2 b3 l J Jx) (w : World) (hb : boxes b2 b3 n m w) (h0 : J [] w) :
    Calls Try.prog 26 #[.func (.yield l) #[] #[], .pointer (some ⟨b2, 0, none⟩), .pointer (some ⟨b3, 0, none⟩)] w (Ret fun _ w' => J (pre n m ((n + 1) * (m + 1))) w' ∨ ∃ p, Jx p w') := by
  refine calls_fx (l := [.func (.yield l) #[] #[], .pointer (some ⟨b2, 0, none⟩), .pointer (some ⟨b3, 0, none⟩)]) Try.func26 rfl Try.ntmps26 (Nat.le_of_ble_eq_true rfl) (holds_boxes hb).st ?_
  refine c_seq ?_
  refine c_reg ?_
  refine l_q (by decide) (r_loadq (q := boxes b2 b3 n m) Try.underlying3 rfl rfl (by repeat (first | exact List.Mem.head _ | apply List.Mem.tail)) boxes_2).q ?_
  refine l_q (by decide) (p_assign rfl).q ?_
  refine l_nil ?_
  refine c_block ?_
  refine c_loopj (S := Nat) (fun s => s ≤ n + 1) (fun s => n + 1 - s) (fun s => [(0, .func (.yield l) #[] #[]), (1, .pointer (some ⟨b2, 0, none⟩)), (2, .pointer (some ⟨b3, 0, none⟩)), (4, .int .i64 ((n : Int) - (s : Int)))]) (fun s => fun w => J (pre n m (s * (m + 1))) w ∧ boxes b2 b3 n m w) (0) (ρ := [boxes b2 b3 n m]) (fun s w h => holds_boxes h.2) (fun s w w' h he => ⟨abides_ext hJ h.1 he, boxes_ext h.2 he⟩) ?_ ?_ ?_ ?_
  · show (0) ≤ n + 1
    exact Nat.zero_le _
  · show (fun w => J (pre n m ((0) * (m + 1))) w ∧ boxes b2 b3 n m w) _
    exact ⟨by rw [Nat.zero_mul]; exact h0, hb⟩
  · exact ⟨rfl, rfl, rfl, by show some _ = some _; congr 2, trivial⟩
  rintro a w1 hinv hj1
  have hinv : a ≤ n + 1 := hinv
  have hj1 : (fun w => J (pre n m (a * (m + 1))) w ∧ boxes b2 b3 n m w) w1 := hj1
  have ha := hinv
  show Cont _ _ _ _ [(0, .func (.yield l) #[] #[]), (1, .pointer (some ⟨b2, 0, none⟩)), (2, .pointer (some ⟨b3, 0, none⟩)), (4, .int .i64 ((n : Int) - (a : Int)))] [] _
  refine c_seq ?_
  refine c_seq ?_
  refine c_reg ?_
  refine l_q (by decide) (p_move rfl).q ?_
  first | refine l_q (by decide) (p_geq (j := 0) rfl rfl rfl rfl).q ?_ | refine l_q (by decide) (p_geqi rfl rfl).q ?_
  refine l_nil ?_
  first | refine c_dec rfl (fun h8 => ?_) (fun h8 => ?_) | refine c_cond rfl (fun h8 => ?_) (fun h8 => ?_)
  · skip
    have h8 : (n : Int) - (a : Int) ≥ 0 := h8
    refine c_skip ?_
    refine c_seq ?_
    refine c_block ?_
    refine c_seq ?_
    refine c_reg ?_
    refine l_q (by decide) (r_loadq (q := boxes b2 b3 n m) Try.underlying3 rfl rfl (by repeat (first | exact List.Mem.head _ | apply List.Mem.tail)) boxes_3).q ?_
    refine l_q (by decide) (p_assign rfl).q ?_
    refine l_nil ?_
    refine c_block ?_
    refine c_loopj (S := Nat) (fun s => s ≤ m + 1) (fun s => m + 1 - s) (fun s => [(0, .func (.yield l) #[] #[]), (1, .pointer (some ⟨b2, 0, none⟩)), (2, .pointer (some ⟨b3, 0, none⟩)), (4, .int .i64 ((n : Int) - (a : Int))), (5, .int .i64 ((m : Int) - (s : Int)))]) (fun s => fun w => J (pre n m (a * (m + 1) + s)) w ∧ boxes b2 b3 n m w) (0) (ρ := [boxes b2 b3 n m]) (fun s w h => holds_boxes h.2) (fun s w w' h he => ⟨abides_ext hJ h.1 he, boxes_ext h.2 he⟩) ?_ ?_ ?_ ?_
    · show (0) ≤ m + 1
      exact Nat.zero_le _
    · show (fun w => J (pre n m (a * (m + 1) + (0))) w ∧ boxes b2 b3 n m w) _
      exact hj1
    · exact ⟨rfl, rfl, rfl, rfl, by show some _ = some _; congr 2, trivial⟩
    rintro b w2 hinv hj2
    have hinv : b ≤ m + 1 := hinv
    have hj2 : (fun w => J (pre n m (a * (m + 1) + b)) w ∧ boxes b2 b3 n m w) w2 := hj2
    have hb := hinv
    show Cont _ _ _ _ [(0, .func (.yield l) #[] #[]), (1, .pointer (some ⟨b2, 0, none⟩)), (2, .pointer (some ⟨b3, 0, none⟩)), (4, .int .i64 ((n : Int) - (a : Int))), (5, .int .i64 ((m : Int) - (b : Int)))] [] _
    refine c_seq ?_
    refine c_seq ?_
    refine c_reg ?_
    refine l_q (by decide) (p_move rfl).q ?_
    first | refine l_q (by decide) (p_geq (j := 0) rfl rfl rfl rfl).q ?_ | refine l_q (by decide) (p_geqi rfl rfl).q ?_
    refine l_nil ?_
    first | refine c_dec rfl (fun h13 => ?_) (fun h13 => ?_) | refine c_cond rfl (fun h13 => ?_) (fun h13 => ?_)
    · skip
      have h13 : (m : Int) - (b : Int) ≥ 0 := h13
      refine c_skip ?_
      refine c_seq ?_
      refine c_block ?_
      refine c_seq ?_
      refine c_regi ?_
      refine wi_one ?_
      refine l_q (by decide) (p_move rfl).q ?_
      refine l_nil ?_
      refine wi_back ?_
      refine wi_one ?_
      refine l_q (by decide) (p_move rfl).q ?_
      refine l_nil ?_
      refine wi_back ?_
      refine wi_one ?_
      refine l_q (by decide) (p_move rfl).q ?_
      refine l_nil ?_
      refine wi_back ?_
      have hy := fun W he => yield_at hJ hY (show a ≤ n by omega) (show b ≤ m by omega) (w := w2) (W := W) hj2 he
      refine wi_yield (by decide) rfl rfl hy ?_ ?_
      · skip
        intro w3 h3
        refine ⟨holds_boxes h3.2, ?_⟩
        refine wi_one ?_
        refine l_q (by decide) (p_not rfl).q ?_
        refine l_nil ?_
        refine wi_back ?_
        refine wi_nil ?_
        refine c_false rfl ?_
        refine c_skip ?_
        refine c_reg ?_
        refine l_q (by decide) (p_move rfl).q ?_
        first | refine l_q (by decide) (p_sub (j := 1) rfl rfl rfl rfl (by omega) (by show _ ≤ (9223372036854775807 : Nat); omega)).q ?_ | refine l_q (by decide) (p_subi rfl rfl (by show (-9223372036854775808 : Int) ≤ _; omega) (by show _ ≤ ((9223372036854775807 : Nat) : Int); omega)).q ?_
        refine l_q (by decide) (p_assign rfl).q ?_
        refine l_nil ?_
        refine c_joinj ((b + 1)) (fun s w w' h he => ⟨abides_ext hJ h.1 he, boxes_ext h.2 he⟩) ?_ ?_ ?_
        · show ((b + 1) ≤ m + 1) ∧ m + 1 - (b + 1) < m + 1 - b
          exact ⟨by omega, by omega⟩
        · show (fun w => J (pre n m (a * (m + 1) + (b + 1))) w ∧ boxes b2 b3 n m w) _
          exact h3
        · show SubL [(0, .func (.yield l) #[] #[]), (1, .pointer (some ⟨b2, 0, none⟩)), (2, .pointer (some ⟨b3, 0, none⟩)), (4, .int .i64 ((n : Int) - (a : Int))), (5, .int .i64 ((m : Int) - ((b + 1) : Int)))] _
          exact ⟨rfl, rfl, rfl, rfl, by show some _ = some _; congr 2; omega, trivial⟩
      · skip
        intro w3 h3
        refine wi_one ?_
        refine l_q (by decide) (p_not rfl).q ?_
        refine l_nil ?_
        refine wi_back ?_
        refine wi_nil ?_
        refine c_true rfl ?_
        refine c_ret ?_
        refine c_ret0 rfl (fun w hs => ?_)
        exact .inr ⟨_, abides_ext hJx h3 hs.ext⟩
    · skip
      have h13 : ¬ (m : Int) - (b : Int) ≥ 0 := h13
      obtain rfl : b = m + 1 := by omega
      refine c_exit ?_
      refine c_here ?_
      refine c_reg ?_
      refine l_q (by decide) (p_move rfl).q ?_
      first | refine l_q (by decide) (p_sub (j := 1) rfl rfl rfl rfl (by omega) (by show _ ≤ (9223372036854775807 : Nat); omega)).q ?_ | refine l_q (by decide) (p_subi rfl rfl (by show (-9223372036854775808 : Int) ≤ _; omega) (by show _ ≤ ((9223372036854775807 : Nat) : Int); omega)).q ?_
      refine l_q (by decide) (p_assign rfl).q ?_
      refine l_nil ?_
      refine c_joinj ((a + 1)) (fun s w w' h he => ⟨abides_ext hJ h.1 he, boxes_ext h.2 he⟩) ?_ ?_ ?_
      · show ((a + 1) ≤ n + 1) ∧ n + 1 - (a + 1) < n + 1 - a
        exact ⟨by omega, by omega⟩
      · show (fun w => J (pre n m ((a + 1) * (m + 1))) w ∧ boxes b2 b3 n m w) _
        rw [show (a + 1) * (m + 1) = a * (m + 1) + (m + 1) by rw [Nat.add_mul]; omega]; exact hj2
      · show SubL [(0, .func (.yield l) #[] #[]), (1, .pointer (some ⟨b2, 0, none⟩)), (2, .pointer (some ⟨b3, 0, none⟩)), (4, .int .i64 ((n : Int) - ((a + 1) : Int)))] _
        exact ⟨rfl, rfl, rfl, by show some _ = some _; congr 2; omega, trivial⟩
  · skip
    have h8 : ¬ (n : Int) - (a : Int) ≥ 0 := h8
    obtain rfl : a = n + 1 := by omega
    refine c_exit ?_
    refine c_here ?_
    refine c_ret0 rfl (fun w hs => ?_)
    exact .inl (abides_ext hJ hj1.1 hs.ext)


theorem pairs_seq (n m b2 b3 : Nat) (hn : n ≤ 1000) (hm : m ≤ 1000) (w : World) (hb : boxes b2 b3 n m w) :
    SeqStopsK (FW none) 10 Try.prog 26 #[.pointer (some ⟨b2, 0, none⟩), .pointer (some ⟨b3, 0, none⟩)] (encs (n := n) (m := m)) (fun A B => boxes b2 b3 n m A → boxes b2 b3 n m B) (fun xs => xs = pre n m ((n + 1) * (m + 1))) (fun _ => True) ((n + 1) * (m + 1)) w :=
  fun l J Jx W hW hJ hJx hY h0 => by
    have hbW : boxes b2 b3 n m W := ⟨(hW.block b2 (Array.getElem?_eq_some_iff.1 hb.1).1).trans hb.1, (hW.block b3 (Array.getElem?_eq_some_iff.1 hb.2).1).trans hb.2⟩
    refine (calls_in (r := none) (n := 10) (pairs1_ok n m b2 b3 l W.heap.size hn hm J Jx hJ hJx hY W hbW h0)).mono fun e W' h => ?_
    cases e with
    | returned v =>
      refine ⟨⟨v, rfl⟩, ?_⟩
      rcases h with h | ⟨p, h⟩
      · exact .inl ⟨_, rfl, h⟩
      · exact .inr ⟨p, trivial, h⟩
    | _ => exact h.elim

theorem at_ok (tb c : Nat) (a b : List UInt8) (F : List Nat) (i j x : Nat) (hi : i ≤ 1000) (hj : j ≤ 1000) (hbl : b.length ≤ 1000) (hx : F[i * (b.length + 1) + j]? = some x) (w : World) (hq : Tab tb c a b F w) :
    Calls Try.prog 22 #[.pointer (some ⟨tb, 0, none⟩), .int .i64 (i : Int), .int .i64 (j : Int)] w (Ret fun v w' => v = .int .i64 (x : Int) ∧ Ext [] w w') := by
  have hlt : i * (b.length + 1) + j < F.length := (List.getElem?_eq_some_iff.1 hx).1
  have hmul : i * (b.length + 1) ≤ 1000 * 1001 := Nat.mul_le_mul hi (by omega)
  refine calls_fx (l := [.pointer (some ⟨tb, 0, none⟩), .int .i64 (i : Int), .int .i64 (j : Int)]) Try.func22 rfl Try.ntmps22 (Nat.le_of_ble_eq_true rfl) hq.holds.st ?_
  refine c_seq ?_
  refine c_reg ?_
  refine l_q (by decide) (p_assign (v := .int .i64 ((0 : Nat) : Int)) rfl).q ?_
  refine l_nil ?_
  refine c_seq ?_
  refine c_draw mixed (by decide +kernel) ?_
  refine q_q (by decide) (p_move rfl).q ?_
  refine q_q (by decide) (p_nilp rfl).q ?_
  first | refine q_q (by decide) (p_faddr (i := 2) 2 Try.underlying44 rfl inf_41 (by decide) rfl rfl).q ?_ | refine q_q (by decide) (p_faddro (i := 2) 2 Try.underlying44 rfl inf_41 (by decide) rfl rfl).q ?_
  refine q_q (by decide) (r_loadq (q := Tab tb c a b F) Try.underlying41 rfl rfl (by repeat (first | exact List.Mem.head _ | apply List.Mem.tail)) tab_cost).q ?_
  refine q_q (by decide) (p_move rfl).q ?_
  refine q_q (by decide) (p_move rfl).q ?_
  refine q_q (by decide) (p_nilp rfl).q ?_
  first | refine q_q (by decide) (p_faddr (i := 1) 1 Try.underlying44 rfl inf_9 (by decide) rfl rfl).q ?_ | refine q_q (by decide) (p_faddro (i := 1) 1 Try.underlying44 rfl inf_9 (by decide) rfl rfl).q ?_
  refine q_q (by decide) (r_loadq (q := Tab tb c a b F) Try.underlying9 rfl rfl (by repeat (first | exact List.Mem.head _ | apply List.Mem.tail)) tab_b).q ?_
  refine q_q (by decide) (p_len_str Try.underlying9 rfl).q ?_
  first | refine q_q (by decide) (p_add (j := 1) rfl rfl rfl rfl (by show _ ≤ (9223372036854775807 : Nat); omega)).q ?_ | refine q_q (by decide) (p_addi rfl rfl (by show (-9223372036854775808 : Int) ≤ _; omega) (by show _ ≤ ((9223372036854775807 : Nat) : Int); omega)).q ?_
  refine q_q (by decide) (p_mul rfl rfl rfl rfl (by show _ ≤ (9223372036854775807 : Nat); omega)).q ?_
  refine q_q (by decide) (p_move rfl).q ?_
  first | refine q_q (by decide) (p_add rfl rfl rfl rfl (by show _ ≤ (9223372036854775807 : Nat); omega)).q ?_ | refine q_q (by decide) (p_addi rfl rfl (by show (-9223372036854775808 : Int) ≤ _; omega) (by show _ ≤ ((9223372036854775807 : Nat) : Int); omega)).q ?_
  first | refine q_q (by decide) (r_index Try.underlying41 inf_3 rfl rfl rfl (by first | exact .fact (by repeat (first | exact List.Mem.head _ | apply List.Mem.tail)) | exact .own (by repeat (first | exact List.Mem.head _ | apply List.Mem.tail)) (by decide) (fun _ => rfl)) rfl (by omega)).q ?_ | refine q_q (by decide) (r_index Try.underlying41 inf_3 rfl rfl rfl (by first | exact .fact (by repeat (first | exact List.Mem.head _ | apply List.Mem.tail)) | exact .own (by repeat (first | exact List.Mem.head _ | apply List.Mem.tail)) (by decide) (fun _ => rfl)) rfl (by decide)).q ?_ | refine q_q (by decide) (p_indexo Try.underlying41 inf_3 rfl rfl rfl (by omega)).q ?_
  refine q_q (by decide) (r_loadq (q := Tab tb c a b F) Try.underlying3 rfl rfl (by repeat (first | exact List.Mem.head _ | apply List.Mem.tail)) (tab_row hx)).q ?_
  refine q_q (by decide) (p_assign rfl).q ?_
  refine q_nil ?_
  refine c_ret ?_
  refine c_ret1 rfl rfl (fun w hs => ?_)
  exact ⟨rfl, hs.ext⟩

theorem few_ok (a b : List UInt8) (w : World) :
    Calls Try.prog 11 #[str a, str b] w (Ret fun v w' => v = .bool (decide (a.length ≤ 80 ∧ b.length ≤ 80)) ∧ Ext [] w w') := by
  refine calls_fx (l := [str a, str b]) Try.func11 rfl Try.ntmps11 (Nat.le_of_ble_eq_true rfl) (St.start w) ?_
  refine c_seq ?_
  refine c_reg ?_
  refine l_q (by decide) (p_assign rfl).q ?_
  refine l_nil ?_
  refine c_seq ?_
  refine c_reg ?_
  refine l_q (by decide) (p_move rfl).q ?_
  refine l_q (by decide) (p_len_str Try.underlying9 rfl).q ?_
  first | refine l_q (by decide) (p_leq (j := 80) rfl rfl rfl rfl).q ?_ | refine l_q (by decide) (p_leqi rfl rfl).q ?_
  refine l_q (by decide) (p_move rfl).q ?_
  first | refine l_splitd (t := 8) rfl (fun h8 => ?_) (fun h8 => ?_) | refine l_splitb (t := 8) rfl (fun h8 => ?_) (fun h8 => ?_)
  · skip
    refine l_g (j := 3) rfl rfl (by decide) (p_move rfl).q ?_
    refine l_g (j := 3) rfl rfl (by decide) (p_len_str Try.underlying9 rfl).q ?_
    first | refine l_g (j := 3) rfl rfl (by decide) (p_leq (j := 80) rfl rfl rfl rfl).q ?_ | refine l_g (j := 3) rfl rfl (by decide) (p_leqi rfl rfl).q ?_
    refine l_q (by decide) (p_pick rfl rfl).q ?_
    refine l_q (by decide) (p_assign rfl).q ?_
    refine l_nil ?_
    refine c_ret ?_
    refine c_ret1 rfl rfl (fun w hs => ?_)
    exact ⟨by simp_all, hs.ext⟩
  · skip
    refine l_off (j := 3) rfl rfl (by first | (simp; done) | (simp [undef]; done)) (by decide) ?_
    refine l_off (j := 3) rfl rfl (by first | (simp; done) | (simp [undef]; done)) (by decide) ?_
    refine l_off (j := 3) rfl rfl (by first | (simp; done) | (simp [undef]; done)) (by decide) ?_
    refine l_q (by decide) (p_pick rfl rfl).q ?_
    refine l_q (by decide) (p_assign rfl).q ?_
    refine l_nil ?_
    refine c_ret ?_
    refine c_ret1 rfl rfl (fun w hs => ?_)
    exact ⟨by rw [decide_eq_false (fun h => h8 h.1)], hs.ext⟩
end Go.Proofs.Ytnkmemoagimddaa
