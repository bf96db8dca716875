/- The walks of analysis: the leaf behind a node; conditions: sizes. -/
import Derived.Test.YtidbhgolhiaijaaWalksO
import Derived.Test.YtidbhgolhiaijaaWalksI
namespace Go.Proofs.Ytidbhgolhiaijaa
open Go Go.Fx Go.Proofs

theorem nodes_ok : ∀ (n : Nat) (x : XT), x.size ≤ n → x.size ≤ 1048576 → ∀ w : World, XT.In w x → Calls Try.prog 26 #[.agg #[.int .i64 x.rule, .int .i64 x.term, .slice x.A x.kids.length x.c]] w (Ret fun v w' => v = .int .i64 ((x.size : Nat) : Int) ∧ Ext [] w w')
  | 0, x, h, _, _, _ => by rw [XT.size_eq] at h; omega
  | n + 1, x, h, hsz, w, hI => nodes_step x hsz (fun k hk w2 h2 => nodes_ok n k (by have := kid_size hk; omega) (by have := kid_size hk; omega) w2 h2) w hI
theorem leaves_ok : ∀ (n : Nat) (x : XT), x.size ≤ n → x.size ≤ 1048576 → ∀ w : World, XT.In w x → Calls Try.prog 28 #[.agg #[.int .i64 x.rule, .int .i64 x.term, .slice x.A x.kids.length x.c]] w (Ret fun v w' => ∃ z : Option Addr × Nat, v = .slice z.1 x.leaves.length z.2 ∧ Sl 1 intF z.1 x.leaves w' ∧ Dep w.heap.size w'.heap.size (Sl 1 intF z.1 x.leaves) ∧ Ext [] w w')
  | 0, x, h, _, _, _ => by rw [XT.size_eq] at h; omega
  | n + 1, x, h, hsz, w, hI => leaves_step x hsz (fun k hk w2 h2 => leaves_ok n k (by have := kid_size hk; omega) (by have := kid_size hk; omega) w2 h2) w hI
theorem tree_ok (X : GI) (hX : X.small) (ok : Ana.Ok X.g) : ∀ (n : Nat) (x : XT), x.size ≤ n → x.size ≤ 1048576 → ∀ y : Int, -1000000 ≤ y → ∀ w : World, X.mem w → XT.In w x → Calls Try.prog 27 #[.agg #[.slice X.At X.terms.length X.ct, .slice X.An X.nts.length X.cn, .int .i64 X.start, .slice X.Ar X.xs.length X.cr], .int .i64 y, .agg #[.int .i64 x.rule, .int .i64 x.term, .slice x.A x.kids.length x.c]] w (Ret fun v w' => v = .bool (treB X.g y x) ∧ Ext [] w w')
  | 0, x, h, _, _, _, _, _, _ => by rw [XT.size_eq] at h; omega
  | n + 1, x, h, hsz, y, hy, w, hM, hI => tree_step X hX ok y hy x hsz (fun k hk z hz _ w2 hm h2 => tree_ok X hX ok n k (by have := kid_size hk; omega) (by have := kid_size hk; omega) z hz w2 hm h2) w hM hI
theorem in_yes (A : Option Addr) (c : Nat) (l : List Int) (hl : l.length ≤ 1000000) (a : Int) (h : a ∈ l) (w : World) (hq : Sl 1 intF A l w) : Calls Try.prog 29 #[.slice A l.length c, .int .i64 a] w (Ret fun v w' => v = .bool true ∧ Ext [] w w') := by
  have := in_ok A c l hl a w hq
  rw [decide_eq_true h] at this
  exact this
theorem tree_head {g : Ana.Gr} {y : Int} {q : Ana.Rl} (h : q.head = -1 - y) : Ana.nt y = q.head.toNat := by unfold Ana.nt; rw [h]
theorem tree_pn {g : Ana.Gr} {y : Int} {x : XT} (h : TreeP g y x) : y < 0 → Ana.PN g true (Ana.nt y) := by
  induction h with
  | leaf y x h0 => intro h; omega
  | node y x q h0 h1 h2 h3 h4 h5 _ ih =>
    intro _
    rw [tree_head (g := g) h4]
    refine .mk q (List.mem_of_getElem? h3) (fun _ _ _ => rfl) (fun z hz h => ?_)
    obtain ⟨i, hi⟩ := List.getElem?_of_mem hz
    obtain ⟨k, hk⟩ := at_some (l := x.kids) (n := i) (by have := (List.getElem?_eq_some_iff.1 hi).1; omega)
    exact ih i z k hi hk h
noncomputable abbrev nulF (g : Ana.Gr) : Nat → Bool := Ana.pn g false
abbrev fiP (g : Ana.Gr) : Nat → Int → Prop := Ana.FI g (Ana.pn g false)
/-- the first leaf of a tree of y -/
def LF (g : Ana.Gr) (y : Int) (x : XT) : Prop := (x.leaves = [] → y < 0 ∧ Ana.PN g false (Ana.nt y)) ∧ (∀ a r, x.leaves = a :: r → (0 ≤ y ∧ a = y) ∨ (y < 0 ∧ fiP g (Ana.nt y) a))
theorem lf_bg {g : Ana.Gr} {z : Int} {k : XT} {bs : List Int} {a : Int} {r : List Int} (h : LF g z k) (e : k.leaves = a :: r) : Ana.BG (nulF g) (fiP g) (z :: bs) a := by
  rcases h.2 a r e with h | h
  · exact .inl h
  · exact .inr (.inl h)
theorem lf_nul {g : Ana.Gr} {z : Int} {k : XT} (h : LF g z k) (e : k.leaves = []) : Ana.Nul (nulF g) z := ⟨(h.1 e).1, Ana.dec_true (h.1 e).2⟩
theorem forest_first {g : Ana.Gr} : ∀ (bs : List Int) (ks : List XT), ks.length = bs.length → (∀ (i : Nat) (z : Int) (k : XT), bs[i]? = some z → ks[i]? = some k → LF g z k) →
    (XT.leavesL ks = [] → ∀ z, z ∈ bs → z < 0 ∧ Ana.PN g false (Ana.nt z)) ∧ (∀ a r, XT.leavesL ks = a :: r → Ana.BG (nulF g) (fiP g) bs a)
  | [], [], _, _ => ⟨fun _ z hz => (by cases hz), fun a r h => (by rw [leavesL_nil] at h; cases h)⟩
  | [], _ :: _, h, _ => by cases h
  | _ :: _, [], h, _ => by cases h
  | z :: bs, k :: ks, h, hp => by
    have h0 : LF g z k := hp 0 z k rfl rfl
    have ih := forest_first bs ks (by simpa using h) (fun i z k h1 h2 => hp (i + 1) z k (by simpa using h1) (by simpa using h2))
    refine ⟨fun e => ?_, fun a r e => ?_⟩
    · rw [leavesL_cons] at e
      obtain ⟨e1, e2⟩ := List.append_eq_nil_iff.1 e
      intro y hy
      rcases List.mem_cons.1 hy with rfl | hy
      · exact h0.1 e1
      · exact ih.1 e2 y hy
    · rw [leavesL_cons] at e
      cases e1 : k.leaves with
      | nil =>
        rw [e1, List.nil_append] at e
        exact .inr (.inr ⟨lf_nul h0 e1, ih.2 a r e⟩)
      | cons b l =>
        rw [e1, List.cons_append] at e
        injection e with e2 _
        subst e2
        exact lf_bg h0 e1
theorem tree_first {g : Ana.Gr} {y : Int} {x : XT} (h : TreeP g y x) : LF g y x := by
  induction h with
  | leaf y x h0 h1 h2 h3 =>
    have e : x.leaves = [y] := by rw [XT.leaves_eq, if_pos h1, h2]
    exact ⟨fun h => (by rw [e] at h; cases h), fun a r h => (by rw [e] at h; injection h with h; exact .inl ⟨h0, h.symm⟩)⟩
  | node y x q h0 h1 h2 h3 h4 h5 _ ih =>
    have e : x.leaves = XT.leavesL x.kids := by rw [XT.leaves_eq, if_neg (by omega)]
    have hf := forest_first q.body x.kids h5 ih
    have hr := List.mem_of_getElem? h3
    refine ⟨fun h => ⟨h0, ?_⟩, fun a r h => .inr ⟨h0, ?_⟩⟩
    · rw [e] at h
      rw [tree_head (g := g) h4]
      exact .mk q hr (fun z hz h0 => by have := (hf.1 h z hz).1; omega) (fun z hz _ => (hf.1 h z hz).2)
    · rw [e] at h
      show fiP g (Ana.nt y) a
      rw [tree_head (g := g) h4]
      exact Ana.FI.of_bg (fun _ _ h => h) hr (hf.2 a r h)
theorem TreeP.neg {g : Ana.Gr} {y : Int} {x : XT} (h : TreeP g y x) (h0 : ¬ x.rule < 0) : y < 0 := by
  cases h with
  | leaf _ _ _ h1 => omega
  | node _ _ _ h1 => exact h1
/-- what stands behind the places from i on: a first symbol of theirs, or what stands behind all of them -/
def After (g : Ana.Gr) (body : List Int) (i : Nat) (a b : Int) : Prop := Ana.BG (nulF g) (fiP g) (body.drop i) b ∨ (Ana.allG false (nulF g) (body.drop i) = true ∧ b = a)
theorem after_end {g : Ana.Gr} {body : List Int} {i : Nat} {a : Int} (h : body.length ≤ i) : After g body i a a := .inr ⟨by rw [List.drop_eq_nil_of_le h]; rfl, rfl⟩
theorem drop_at {α : Type} {l : List α} {j : Nat} {z : α} (h : l[j]? = some z) : l.drop j = z :: l.drop (j + 1) := by
  rw [List.drop_eq_getElem_cons (List.getElem?_eq_some_iff.1 h).1, (List.getElem?_eq_some_iff.1 h).2]
theorem after_none {g : Ana.Gr} {body : List Int} {j : Nat} {z a b : Int} {k : XT} (hz : body[j]? = some z) (hl : LF g z k) (e : k.leaves = []) (h : After g body (j + 1) a b) : After g body j a b := by
  have hn := lf_nul hl e
  unfold After
  rw [drop_at hz]
  rcases h with h | ⟨h, rfl⟩
  · exact .inl (.inr (.inr ⟨hn, h⟩))
  · refine .inr ⟨?_, rfl⟩
    obtain ⟨h1, h2⟩ := Ana.allG_iff.1 h
    refine Ana.allG_iff.2 ⟨fun y hy h0 => ?_, fun y hy h0 => ?_⟩
    · rcases List.mem_cons.1 hy with rfl | hy
      · have := hn.1; omega
      · exact h1 y hy h0
    · rcases List.mem_cons.1 hy with rfl | hy
      · exact hn.2
      · exact h2 y hy h0
theorem after_some {g : Ana.Gr} {body : List Int} {j : Nat} {z a c : Int} {r : List Int} {k : XT} (hz : body[j]? = some z) (hl : LF g z k) (e : k.leaves = c :: r) : After g body j a c := by
  unfold After
  rw [drop_at hz]
  exact .inl (lf_bg hl e)
theorem after_fo {g : Ana.Gr} {q : Ana.Rl} {j : Nat} {z a b : Int} (hr : q ∈ g.rules) (hz : q.body[j]? = some z) (h0 : z < 0) (h : After g q.body (j + 1) a b) (hf : Ana.fo g q.head.toNat a = true) : Ana.fo g (Ana.nt z) b = true := by
  refine Ana.dec_true ?_
  rcases h with h | ⟨h, rfl⟩
  · exact .first q j z b hr hz h0 h
  · exact .inh q j z b hr hz h0 h (Ana.dec_iff.1 hf)
theorem row_at {n W k : Nat} {p : Nat → Int → Bool} {lst : Int} {m : List XL} {u : XL} (hm : m.map (·.l) = Ana.rowsOf n p lst W) (h : m[k]? = some u) (hk : k < n) : u.l = Ana.rowOf (p k) lst W := by
  have e := congrArg (fun l => l[k]?) hm
  simp only [List.getElem?_map, h, Option.map_some] at e
  rw [show (Ana.rowsOf n p lst W)[k]? = some (Ana.rowOf (p k) lst W) from Ana.mkl_at hk] at e
  injection e
theorem fo_mem {g : Ana.Gr} (ok : Ana.Ok g) {i : Nat} {a : Int} (h : Ana.fo g i a = true) : a ∈ Ana.rowOf (fun a => Ana.fo g i a) (-1) (g.t + 1) := by
  have := Ana.FO.range ok (fun i a h => Ana.FI.range ok h) (Ana.dec_iff.1 h)
  exact Ana.mem_rowOf.2 ⟨this.1, by omega, h⟩
theorem fi_mem {g : Ana.Gr} (ok : Ana.Ok g) {i : Nat} {a : Int} (h : Ana.FI g (Ana.pn g false) i a) : a ∈ Ana.rowOf (fun a => Ana.fi g i a) 0 g.t := by
  have := Ana.FI.range ok h
  exact Ana.mem_rowOf.2 ⟨this.1, by omega, Ana.dec_true h⟩
theorem tab_at {n j : Nat} {p : Nat → Bool} (h : j < n) (hp : p j = true) : (Ana.mkl n p)[j]? = some true := by rw [Ana.mkl_at h, hp]
theorem call_29 : Callable Try.prog 29 := ⟨_, Try.func29, by kernel_rfl, rfl⟩
theorem call_30 : Callable Try.prog 30 := ⟨_, Try.func30, by kernel_rfl, rfl⟩
theorem next_step (X : GI) (hX : X.small) (ok : Ana.Ok X.g) (A : Option Addr) (c : Nat) (m : List XL) (hm : m.map (·.l) = Ana.rowsOf X.g.n (fun i a => Ana.fo X.g i a) (-1) (X.g.t + 1)) (y : Int) (x : XT) (hsz : x.size ≤ 1048576) (hT : TreeP X.g y x) (a : Int) (hfo : y < 0 → Ana.fo X.g (Ana.nt y) a = true) (ih : ∀ k, k ∈ x.kids → ∀ z : Int, TreeP X.g z k → ∀ b : Int, (z < 0 → Ana.fo X.g (Ana.nt z) b = true) → ∀ w2, X.mem w2 → XT.In w2 k → Sl 1 lsF A m w2 → Ld m w2 → Calls Try.prog 30 #[.agg #[.slice X.At X.terms.length X.ct, .slice X.An X.nts.length X.cn, .int .i64 X.start, .slice X.Ar X.xs.length X.cr], .slice A m.length c, .agg #[.int .i64 k.rule, .int .i64 k.term, .slice k.A k.kids.length k.c], .int .i64 b] w2 (Ret fun v w3 => v = .bool true ∧ Ext [] w2 w3)) (w : World) (hM : X.mem w) (hI : XT.In w x) (hF1 : Sl 1 lsF A m w) (hF2 : Ld m w) :
   Calls Try.prog 30 #[.agg #[.slice X.At X.terms.length X.ct, .slice X.An X.nts.length X.cn, .int .i64 X.start, .slice X.Ar X.xs.length X.cr], .slice A m.length c, .agg #[.int .i64 x.rule, .int .i64 x.term, .slice x.A x.kids.length x.c], .int .i64 a] w (Ret fun v w' => v = .bool true ∧ Ext [] w w') := by
 have hkl := sizes_len x.kids
 have hxs0 := XT.size_eq x
 have hnl := ok.nl
 have hnn : X.nts.length ≤ 8 := hnl
 have htl := ok.tl
 have hxl := hX.x
 refine calls_fx (l := [.agg #[.slice X.At X.terms.length X.ct, .slice X.An X.nts.length X.cn, .int .i64 X.start, .slice X.Ar X.xs.length X.cr], .slice A m.length c, .agg #[.int .i64 x.rule, .int .i64 x.term, .slice x.A x.kids.length x.c], .int .i64 a]) Try.func30 rfl Try.ntmps30 (Nat.le_of_ble_eq_true rfl) ((((X.begin hM).old hI (dep_in hI)).old hF1 (dep_sl (by decide) hF1)).old hF2 (dep_ld hF2)) ?_
 refine c_seq ?_
 refine c_reg ?_
 refine l_box (by decide) rfl _ rfl (fun b4 => ?_)
 refine l_box (by decide) rfl _ rfl (fun b6 => ?_)
 refine l_q (by decide) (p_assign rfl).q ?_
 refine l_nil ?_
 refine c_seq ?_
 refine c_seq ?_
 refine c_reg ?_
 first | refine l_q (by decide) (p_faddr (i := 0) 0 Try.underlying36 rfl inf_3 (by decide) rfl rfl).q ?_ | refine l_q (by decide) (p_faddro (i := 0) 0 Try.underlying36 rfl inf_3 (by decide) rfl rfl).q ?_
 first | refine l_q (by decide) (r_loado Try.underlying3 rfl rfl (by repeat constructor) (by rfl)).q ?_ | refine l_q (by decide) (r_load1 Try.underlying3 rfl rfl (by first | exact .fact (by repeat constructor) | exact .own (by repeat constructor) (by decide) (fun _ => rfl) | exact (fun _ hs => (hs.facts (InF x) (by repeat constructor)).1.sl) | exact SlIn.row (by assumption) (by repeat constructor)) (by first | assumption | rfl) (by rfl)).q ?_ | refine l_q (by decide) (r_loadf Try.underlying3 rfl rfl (by first | exact .fact (by repeat constructor) | exact .own (by repeat constructor) (by decide) (fun _ => rfl) | exact (fun _ hs => (hs.facts (InF x) (by repeat constructor)).1.sl) | exact SlIn.row (by assumption) (by repeat constructor)) (by assumption) (by rfl)).q ?_
 first | refine l_q (by decide) (p_lss (j := 0) rfl rfl rfl rfl).q ?_ | refine l_q (by decide) (p_lssi rfl rfl).q ?_
 refine l_nil ?_
 first | refine c_dec rfl (fun h13 => ?_) (fun h13 => ?_) | refine c_cond rfl (fun h13 => ?_) (fun h13 => ?_)
 ·skip
  refine c_seq ?_
  refine c_reg ?_
  refine l_q (by decide) (p_assign rfl).q ?_
  refine l_nil ?_
  refine c_ret ?_
  refine c_ret1 rfl rfl (fun w hs => ?_)
  exact ⟨rfl, hs.ext⟩
 ·skip
  have hy0 := hT.neg h13
  have hr0 : 0 ≤ x.rule := by omega
  obtain ⟨q0, hn⟩ := hT.inv hy0
  have hlt : x.rule.toNat < X.xs.length := by have := (List.getElem?_eq_some_iff.1 hn.at_).1; rwa [show X.g.rules.length = X.xs.length from List.length_map ..] at this
  obtain ⟨q, hq⟩ := at_some hlt
  obtain rfl : q0 = q.r := by have h1 := hn.at_; rw [rule_ix hq] at h1; injection h1 with h1; exact h1.symm
  obtain ⟨hh1, hh2⟩ := ok.hd (rule_mem hq)
  have hml : m.length = X.g.n := by have := congrArg List.length hm; rwa [List.length_map, rowsOf_len] at this
  obtain ⟨u, hu⟩ := at_some (l := m) (n := q.r.head.toNat) (by omega)
  have hul := row_at hm hu hh2
  have hfo2 : Ana.fo X.g q.r.head.toNat a = true := by rw [← tree_head (g := X.g) hn.head]; exact hfo hy0
  have ham : a ∈ u.l := by rw [hul]; exact fo_mem ok hfo2
  refine c_skip ?_
  refine c_seq ?_
  refine c_seq ?_
  refine c_reg ?_
  refine l_q (by decide) (p_move rfl).q ?_
  first | refine l_q (by decide) (p_faddr (i := 3) 3 Try.underlying25 rfl inf_23 (by decide) rfl rfl).q ?_ | refine l_q (by decide) (p_faddro (i := 3) 3 Try.underlying25 rfl inf_23 (by decide) rfl rfl).q ?_
  first | refine l_q (by decide) (r_loado Try.underlying23 rfl rfl (by repeat constructor) (by rfl)).q ?_ | refine l_q (by decide) (r_load1 Try.underlying23 rfl rfl (by first | exact .fact (by repeat constructor) | exact .own (by repeat constructor) (by decide) (fun _ => rfl) | exact (fun _ hs => (hs.facts (InF x) (by repeat constructor)).1.sl) | exact SlIn.row (by assumption) (by repeat constructor)) (by first | assumption | rfl) (by rfl)).q ?_ | refine l_q (by decide) (r_loadf Try.underlying23 rfl rfl (by first | exact .fact (by repeat constructor) | exact .own (by repeat constructor) (by decide) (fun _ => rfl) | exact (fun _ hs => (hs.facts (InF x) (by repeat constructor)).1.sl) | exact SlIn.row (by assumption) (by repeat constructor)) (by assumption) (by rfl)).q ?_
  first | refine l_q (by decide) (p_faddr (i := 0) 0 Try.underlying36 rfl inf_3 (by decide) rfl rfl).q ?_ | refine l_q (by decide) (p_faddro (i := 0) 0 Try.underlying36 rfl inf_3 (by decide) rfl rfl).q ?_
  first | refine l_q (by decide) (((r_loado Try.underlying3 rfl rfl (by repeat constructor) (by rfl))).to (u := .int .i64 ((x.rule.toNat : Nat) : Int)) (by rw [Int.toNat_of_nonneg hr0])).q ?_ | refine l_q (by decide) (((r_load1 Try.underlying3 rfl rfl (by first | exact .fact (by repeat constructor) | exact .own (by repeat constructor) (by decide) (fun _ => rfl) | exact (fun _ hs => (hs.facts (InF x) (by repeat constructor)).1.sl) | exact SlIn.row (by assumption) (by repeat constructor)) (by first | assumption | rfl) (by rfl))).to (u := .int .i64 ((x.rule.toNat : Nat) : Int)) (by rw [Int.toNat_of_nonneg hr0])).q ?_ | refine l_q (by decide) (((r_loadf Try.underlying3 rfl rfl (by first | exact .fact (by repeat constructor) | exact .own (by repeat constructor) (by decide) (fun _ => rfl) | exact (fun _ hs => (hs.facts (InF x) (by repeat constructor)).1.sl) | exact SlIn.row (by assumption) (by repeat constructor)) (by assumption) (by rfl))).to (u := .int .i64 ((x.rule.toNat : Nat) : Int)) (by rw [Int.toNat_of_nonneg hr0])).q ?_
  first | refine l_q (by decide) (r_index Try.underlying23 inf_41 rfl rfl rfl (by first | exact .fact (by repeat constructor) | exact .own (by repeat constructor) (by decide) (fun _ => rfl) | exact (fun _ hs => (hs.facts (InF x) (by repeat constructor)).1.sl) | exact SlIn.row (by assumption) (by repeat constructor)) rfl (by omega)).q ?_ | refine l_q (by decide) (r_index Try.underlying23 inf_41 rfl rfl rfl (by first | exact .fact (by repeat constructor) | exact .own (by repeat constructor) (by decide) (fun _ => rfl) | exact (fun _ hs => (hs.facts (InF x) (by repeat constructor)).1.sl) | exact SlIn.row (by assumption) (by repeat constructor)) rfl (by decide)).q ?_ | refine l_q (by decide) (p_indexo Try.underlying23 inf_41 rfl rfl rfl (by omega)).q ?_
  first | refine l_q (by decide) (p_faddr (i := 0) 0 Try.underlying41 rfl inf_3 (by decide) rfl rfl).q ?_ | refine l_q (by decide) (p_faddro (i := 0) 0 Try.underlying41 rfl inf_3 (by decide) rfl rfl).q ?_
  first | refine l_q (by decide) (((r_loado Try.underlying3 rfl rfl (by repeat constructor) (by rfl))).to (u := .int .i64 ((q.r.head.toNat : Nat) : Int)) (by rw [hh1])).q ?_ | refine l_q (by decide) (((r_load1 Try.underlying3 rfl rfl (by first | exact .fact (by repeat constructor) | exact .own (by repeat constructor) (by decide) (fun _ => rfl) | exact (fun _ hs => (hs.facts (InF x) (by repeat constructor)).1.sl) | exact SlIn.row (by assumption) (by repeat constructor)) (by first | assumption | rfl) (by rfl))).to (u := .int .i64 ((q.r.head.toNat : Nat) : Int)) (by rw [hh1])).q ?_ | refine l_q (by decide) (((r_loadf Try.underlying3 rfl rfl (by first | exact .fact (by repeat constructor) | exact .own (by repeat constructor) (by decide) (fun _ => rfl) | exact (fun _ hs => (hs.facts (InF x) (by repeat constructor)).1.sl) | exact SlIn.row (by assumption) (by repeat constructor)) (by assumption) (by rfl))).to (u := .int .i64 ((q.r.head.toNat : Nat) : Int)) (by rw [hh1])).q ?_
  first | refine l_q (by decide) (r_index Try.underlying32 inf_39 rfl rfl rfl (by first | exact .fact (by repeat constructor) | exact .own (by repeat constructor) (by decide) (fun _ => rfl) | exact (fun _ hs => (hs.facts (InF x) (by repeat constructor)).1.sl) | exact SlIn.row (by assumption) (by repeat constructor)) rfl (by omega)).q ?_ | refine l_q (by decide) (r_index Try.underlying32 inf_39 rfl rfl rfl (by first | exact .fact (by repeat constructor) | exact .own (by repeat constructor) (by decide) (fun _ => rfl) | exact (fun _ hs => (hs.facts (InF x) (by repeat constructor)).1.sl) | exact SlIn.row (by assumption) (by repeat constructor)) rfl (by decide)).q ?_ | refine l_q (by decide) (p_indexo Try.underlying32 inf_39 rfl rfl rfl (by omega)).q ?_
  first | refine l_q (by decide) (r_loado Try.underlying39 rfl rfl (by repeat constructor) (by rfl)).q ?_ | refine l_q (by decide) (r_load1 Try.underlying39 rfl rfl (by first | exact .fact (by repeat constructor) | exact .own (by repeat constructor) (by decide) (fun _ => rfl) | exact (fun _ hs => (hs.facts (InF x) (by repeat constructor)).1.sl) | exact SlIn.row (by assumption) (by repeat constructor)) (by first | assumption | rfl) (by rfl)).q ?_ | refine l_q (by decide) (r_loadf Try.underlying39 rfl rfl (by first | exact .fact (by repeat constructor) | exact .own (by repeat constructor) (by decide) (fun _ => rfl) | exact (fun _ hs => (hs.facts (InF x) (by repeat constructor)).1.sl) | exact SlIn.row (by assumption) (by repeat constructor)) (by assumption) (by rfl)).q ?_
  refine l_q (by decide) (p_move rfl).q ?_
  refine l_q (by decide) (q_call call_29 rfl (fun w hs => in_yes u.A u.c u.l (by rw [hul]; have := Ana.rowOf_len (fun a => Ana.fo X.g q.r.head.toNat a) (-1) (X.g.t + 1); omega) a ham w ((hs.facts (Ld m) (by repeat constructor)).1 _ u hu))) ?_
  refine l_q (by decide) (p_not rfl).q ?_
  refine l_nil ?_
  refine c_false rfl ?_
  refine c_skip ?_
  refine c_seq ?_
  refine c_seq ?_
  refine c_reg ?_
  first | refine l_q (by decide) (p_faddr (i := 2) 2 Try.underlying36 rfl inf_34 (by decide) rfl rfl).q ?_ | refine l_q (by decide) (p_faddro (i := 2) 2 Try.underlying36 rfl inf_34 (by decide) rfl rfl).q ?_
  first | refine l_q (by decide) (r_loado Try.underlying34 rfl rfl (by repeat constructor) (by rfl)).q ?_ | refine l_q (by decide) (r_load1 Try.underlying34 rfl rfl (by first | exact .fact (by repeat constructor) | exact .own (by repeat constructor) (by decide) (fun _ => rfl) | exact (fun _ hs => (hs.facts (InF x) (by repeat constructor)).1.sl) | exact SlIn.row (by assumption) (by repeat constructor)) (by first | assumption | rfl) (by rfl)).q ?_ | refine l_q (by decide) (r_loadf Try.underlying34 rfl rfl (by first | exact .fact (by repeat constructor) | exact .own (by repeat constructor) (by decide) (fun _ => rfl) | exact (fun _ hs => (hs.facts (InF x) (by repeat constructor)).1.sl) | exact SlIn.row (by assumption) (by repeat constructor)) (by assumption) (by rfl)).q ?_
  refine l_q (by decide) (p_len_sl Try.underlying34 rfl).q ?_
  first | refine l_q (by decide) (p_sub (j := 1) rfl rfl rfl rfl (by omega) (by show _ ≤ (9223372036854775807 : Nat); omega)).q ?_ | refine l_q (by decide) (p_subi rfl rfl (by show (-9223372036854775808 : Int) ≤ _; omega) (by show _ ≤ ((9223372036854775807 : Nat) : Int); omega)).q ?_
  refine l_q (by decide) (p_assign rfl).q ?_
  refine l_nil ?_
  refine c_block ?_
  refine c_loop (S := Nat × Int) (fun zs => zs.1 ≤ x.kids.length ∧ After X.g q.r.body zs.1 a zs.2) (fun zs => zs.1) (fun zs => [(1, .slice A m.length c), (3, .int .i64 zs.2), (4, .pointer (some ⟨b4, 0, none⟩)), (6, .pointer (some ⟨b6, 0, none⟩)), (9, .int .i64 (((zs.1 : Nat) : Int) - 1))]) (fun zs => [iCells b6 36 [.int .i64 x.rule, .int .i64 x.term, .slice x.A x.kids.length x.c], iCells b4 25 [.slice X.At X.terms.length X.ct, .slice X.An X.nts.length X.cn, .int .i64 X.start, .slice X.Ar X.xs.length X.cr]]) (fun zs => (Ld m :: Sl 1 lsF A m :: InF x :: [Bd X.xs, Sl 3 ruF X.Ar X.xs, Sl 1 strF X.An X.nts, Sl 1 strF X.At X.terms])) (x.kids.length, a) ?_ ?_ ?_ ?_ ?_
  · show (x.kids.length) ≤ x.kids.length ∧ After X.g q.r.body (x.kids.length) a (a)
    exact ⟨Nat.le_refl _, after_end (by rw [hn.len]; exact Nat.le_refl _)⟩
  · exact ⟨rfl, rfl, rfl, rfl, rfl, trivial⟩
  · exact .refl _
  · exact fun _ h => h
  rintro ⟨i, b⟩ hinv
  have hinv : i ≤ x.kids.length ∧ After X.g q.r.body i a b := hinv
  obtain ⟨hi, hA⟩ := hinv
  show Cont _ _ _ _ [(1, .slice A m.length c), (3, .int .i64 b), (4, .pointer (some ⟨b4, 0, none⟩)), (6, .pointer (some ⟨b6, 0, none⟩)), (9, .int .i64 (((i : Nat) : Int) - 1))] ([iCells b6 36 [.int .i64 x.rule, .int .i64 x.term, .slice x.A x.kids.length x.c], iCells b4 25 [.slice X.At X.terms.length X.ct, .slice X.An X.nts.length X.cn, .int .i64 X.start, .slice X.Ar X.xs.length X.cr]]) (Ld m :: Sl 1 lsF A m :: InF x :: [Bd X.xs, Sl 3 ruF X.Ar X.xs, Sl 1 strF X.An X.nts, Sl 1 strF X.At X.terms])
  refine c_seq ?_
  refine c_seq ?_
  refine c_reg ?_
  refine l_q (by decide) (p_move rfl).q ?_
  first | refine l_q (by decide) (p_geq (j := 0) rfl rfl rfl rfl).q ?_ | refine l_q (by decide) (p_geqi rfl rfl).q ?_
  refine l_nil ?_
  first | refine c_dec rfl (fun h32 => ?_) (fun h32 => ?_) | refine c_cond rfl (fun h32 => ?_) (fun h32 => ?_)
  ·skip
   obtain ⟨j, hj⟩ : ∃ j, i = j + 1 := ⟨i - 1, by omega⟩
   rw [hj] at hA
   rw [show ((i : Nat) : Int) - 1 = ((j : Nat) : Int) by omega]
   obtain ⟨k, hk⟩ := at_some (l := x.kids) (n := j) (by omega)
   obtain ⟨z, hz⟩ := at_some (l := q.r.body) (n := j) (by have := hn.len; omega)
   have hks := kid_size (List.mem_of_getElem? hk)
   have hlk := leaves_len k.size k (Nat.le_refl _)
   refine c_skip ?_
   refine c_seq ?_
   refine c_block ?_
   refine c_seq ?_
   refine c_seq ?_
   refine c_draw mixed (by decide +kernel) ?_
   first | refine q_q (by decide) (r_loada Try.underlying25 rfl inf_25 rfl (by first | exact .fact (by repeat constructor) | exact .own (by repeat constructor) (by decide) (fun _ => rfl) | exact (fun _ hs => (hs.facts (InF x) (by repeat constructor)).1.sl) | exact SlIn.row (by assumption) (by repeat constructor)) (by assumption)).q ?_ | refine q_q (by decide) (r_loadow Try.underlying25 rfl inf_25 rfl (by repeat constructor) (by rfl)).q ?_ | refine q_q (by decide) (r_loadoa Try.underlying25 rfl inf_25 rfl (by repeat constructor) (by rfl) (fun j u h => h)).q ?_
   refine q_q (by decide) (p_move rfl).q ?_
   first | refine q_q (by decide) (p_faddr (i := 2) 2 Try.underlying36 rfl inf_34 (by decide) rfl rfl).q ?_ | refine q_q (by decide) (p_faddro (i := 2) 2 Try.underlying36 rfl inf_34 (by decide) rfl rfl).q ?_
   first | refine q_q (by decide) (r_loado Try.underlying34 rfl rfl (by repeat constructor) (by rfl)).q ?_ | refine q_q (by decide) (r_load1 Try.underlying34 rfl rfl (by first | exact .fact (by repeat constructor) | exact .own (by repeat constructor) (by decide) (fun _ => rfl) | exact (fun _ hs => (hs.facts (InF x) (by repeat constructor)).1.sl) | exact SlIn.row (by assumption) (by repeat constructor)) (by first | assumption | rfl) (by rfl)).q ?_ | refine q_q (by decide) (r_loadf Try.underlying34 rfl rfl (by first | exact .fact (by repeat constructor) | exact .own (by repeat constructor) (by decide) (fun _ => rfl) | exact (fun _ hs => (hs.facts (InF x) (by repeat constructor)).1.sl) | exact SlIn.row (by assumption) (by repeat constructor)) (by assumption) (by rfl)).q ?_
   refine q_q (by decide) (p_move rfl).q ?_
   first | refine q_q (by decide) (r_index Try.underlying34 inf_36 rfl rfl rfl (by first | exact .fact (by repeat constructor) | exact .own (by repeat constructor) (by decide) (fun _ => rfl) | exact (fun _ hs => (hs.facts (InF x) (by repeat constructor)).1.sl) | exact SlIn.row (by assumption) (by repeat constructor)) rfl (by omega)).q ?_ | refine q_q (by decide) (r_index Try.underlying34 inf_36 rfl rfl rfl (by first | exact .fact (by repeat constructor) | exact .own (by repeat constructor) (by decide) (fun _ => rfl) | exact (fun _ hs => (hs.facts (InF x) (by repeat constructor)).1.sl) | exact SlIn.row (by assumption) (by repeat constructor)) rfl (by decide)).q ?_ | refine q_q (by decide) (p_indexo Try.underlying34 inf_36 rfl rfl rfl (by omega)).q ?_
   first | refine q_q (by decide) (r_loada Try.underlying36 rfl inf_36 rfl (by first | exact .fact (by repeat constructor) | exact .own (by repeat constructor) (by decide) (fun _ => rfl) | exact (fun _ hs => (hs.facts (InF x) (by repeat constructor)).1.sl) | exact SlIn.row (by assumption) (by repeat constructor)) (by assumption)).q ?_ | refine q_q (by decide) (r_loadow Try.underlying36 rfl inf_36 rfl (by repeat constructor) (by rfl)).q ?_ | refine q_q (by decide) (r_loadoa Try.underlying36 rfl inf_36 rfl (by repeat constructor) (by rfl) (fun j u h => h)).q ?_
   refine q_q (by decide) (p_move rfl).q ?_
   refine q_q (by decide) (q_call call_30 rfl (fun w hs => ih k (List.mem_of_getElem? hk) z (hn.kids j z k hz hk) b (fun h0 => after_fo (rule_mem hq) hz h0 hA hfo2) w (GI.of hs (by repeat constructor) (by repeat constructor) (by repeat constructor) (by repeat constructor)) ((hs.facts (InF x) (by repeat constructor)).1.kid k (List.mem_of_getElem? hk)) (hs.facts (Sl 1 lsF A m) (by repeat constructor)).1 (hs.facts (Ld m) (by repeat constructor)).1)) ?_
   refine q_q (by decide) (p_not rfl).q ?_
   refine q_nil ?_
   refine c_false rfl ?_
   refine c_skip ?_
   refine c_seq ?_
   refine c_reg ?_
   first | refine l_q (by decide) (p_faddr (i := 2) 2 Try.underlying36 rfl inf_34 (by decide) rfl rfl).q ?_ | refine l_q (by decide) (p_faddro (i := 2) 2 Try.underlying36 rfl inf_34 (by decide) rfl rfl).q ?_
   first | refine l_q (by decide) (r_loado Try.underlying34 rfl rfl (by repeat constructor) (by rfl)).q ?_ | refine l_q (by decide) (r_load1 Try.underlying34 rfl rfl (by first | exact .fact (by repeat constructor) | exact .own (by repeat constructor) (by decide) (fun _ => rfl) | exact (fun _ hs => (hs.facts (InF x) (by repeat constructor)).1.sl) | exact SlIn.row (by assumption) (by repeat constructor)) (by first | assumption | rfl) (by rfl)).q ?_ | refine l_q (by decide) (r_loadf Try.underlying34 rfl rfl (by first | exact .fact (by repeat constructor) | exact .own (by repeat constructor) (by decide) (fun _ => rfl) | exact (fun _ hs => (hs.facts (InF x) (by repeat constructor)).1.sl) | exact SlIn.row (by assumption) (by repeat constructor)) (by assumption) (by rfl)).q ?_
   refine l_q (by decide) (p_move rfl).q ?_
   first | refine l_q (by decide) (r_index Try.underlying34 inf_36 rfl rfl rfl (by first | exact .fact (by repeat constructor) | exact .own (by repeat constructor) (by decide) (fun _ => rfl) | exact (fun _ hs => (hs.facts (InF x) (by repeat constructor)).1.sl) | exact SlIn.row (by assumption) (by repeat constructor)) rfl (by omega)).q ?_ | refine l_q (by decide) (r_index Try.underlying34 inf_36 rfl rfl rfl (by first | exact .fact (by repeat constructor) | exact .own (by repeat constructor) (by decide) (fun _ => rfl) | exact (fun _ hs => (hs.facts (InF x) (by repeat constructor)).1.sl) | exact SlIn.row (by assumption) (by repeat constructor)) rfl (by decide)).q ?_ | refine l_q (by decide) (p_indexo Try.underlying34 inf_36 rfl rfl rfl (by omega)).q ?_
   first | refine l_q (by decide) (r_loada Try.underlying36 rfl inf_36 rfl (by first | exact .fact (by repeat constructor) | exact .own (by repeat constructor) (by decide) (fun _ => rfl) | exact (fun _ hs => (hs.facts (InF x) (by repeat constructor)).1.sl) | exact SlIn.row (by assumption) (by repeat constructor)) (by assumption)).q ?_ | refine l_q (by decide) (r_loadow Try.underlying36 rfl inf_36 rfl (by repeat constructor) (by rfl)).q ?_ | refine l_q (by decide) (r_loadoa Try.underlying36 rfl inf_36 rfl (by repeat constructor) (by rfl) (fun j u h => h)).q ?_
   refine l_call (X := Option Addr × Nat) (fun z => .slice z.1 k.leaves.length z.2) (fun z => Sl 1 intF z.1 k.leaves) (by decide) call_28 rfl (fun w hs => leaves_ok k.size k (Nat.le_refl _) (by omega) w ((hs.facts (InF x) (by repeat constructor)).1.kid k (List.mem_of_getElem? hk))) (fun zl => ?_)
   refine l_q (by decide) (p_assign rfl).q ?_
   refine l_nil ?_
   refine c_seq ?_
   refine c_reg ?_
   refine l_q (by decide) (p_move rfl).q ?_
   refine l_q (by decide) (p_len_sl Try.underlying39 rfl).q ?_
   first | refine l_q (by decide) (p_gtr (j := 0) rfl rfl rfl rfl).q ?_ | refine l_q (by decide) (p_gtri rfl rfl).q ?_
   refine l_nil ?_
   first | refine c_dec rfl (fun h53 => ?_) (fun h53 => ?_) | refine c_cond rfl (fun h53 => ?_) (fun h53 => ?_)
   ·skip
    obtain ⟨cc, rl, hlv⟩ : ∃ cc rl, k.leaves = cc :: rl := by
      cases e : k.leaves with
      | nil => rw [e] at h53; simp at h53
      | cons cc rl => exact ⟨cc, rl, rfl⟩
    have hl0 : k.leaves[0]? = some cc := by rw [hlv]; rfl
    refine c_reg ?_
    refine l_q (by decide) (p_move rfl).q ?_
    first | refine l_q (by decide) (r_index (j := 0) Try.underlying39 inf_3 rfl rfl rfl (by first | exact .fact (by repeat constructor) | exact .own (by repeat constructor) (by decide) (fun _ => rfl) | exact (fun _ hs => (hs.facts (InF x) (by repeat constructor)).1.sl) | exact SlIn.row (by assumption) (by repeat constructor)) rfl (by omega)).q ?_ | refine l_q (by decide) (r_index (j := 0) Try.underlying39 inf_3 rfl rfl rfl (by first | exact .fact (by repeat constructor) | exact .own (by repeat constructor) (by decide) (fun _ => rfl) | exact (fun _ hs => (hs.facts (InF x) (by repeat constructor)).1.sl) | exact SlIn.row (by assumption) (by repeat constructor)) rfl (by decide)).q ?_ | refine l_q (by decide) (p_indexo (j := 0) Try.underlying39 inf_3 rfl rfl rfl (by omega)).q ?_
    first | refine l_q (by decide) (r_loado Try.underlying3 rfl rfl (by repeat constructor) (by rfl)).q ?_ | refine l_q (by decide) (r_load1 Try.underlying3 rfl rfl (by first | exact .fact (by repeat constructor) | exact .own (by repeat constructor) (by decide) (fun _ => rfl) | exact (fun _ hs => (hs.facts (InF x) (by repeat constructor)).1.sl) | exact SlIn.row (by assumption) (by repeat constructor)) (by first | assumption | rfl) (by rfl)).q ?_ | refine l_q (by decide) (r_loadf Try.underlying3 rfl rfl (by first | exact .fact (by repeat constructor) | exact .own (by repeat constructor) (by decide) (fun _ => rfl) | exact (fun _ hs => (hs.facts (InF x) (by repeat constructor)).1.sl) | exact SlIn.row (by assumption) (by repeat constructor)) (by assumption) (by rfl)).q ?_
    refine l_q (by decide) (p_assign rfl).q ?_
    refine l_nil ?_
    refine c_reg ?_
    refine l_q (by decide) (p_move rfl).q ?_
    first | refine l_q (by decide) (p_sub (j := 1) rfl rfl rfl rfl (by omega) (by show _ ≤ (9223372036854775807 : Nat); omega)).q ?_ | refine l_q (by decide) (p_subi rfl rfl (by show (-9223372036854775808 : Int) ≤ _; omega) (by show _ ≤ ((9223372036854775807 : Nat) : Int); omega)).q ?_
    refine l_q (by decide) (p_assign rfl).q ?_
    refine l_nil ?_
    refine c_join ((j), (cc)) ?_ ?_ ?_ ?_
    ·show ((j) ≤ x.kids.length ∧ After X.g q.r.body (j) a (cc)) ∧ (j) < i
     exact ⟨⟨by omega, after_some hz (tree_first (hn.kids j z k hz hk)) hlv⟩, by omega⟩
    · exact ⟨rfl, rfl, rfl, rfl, rfl, trivial⟩
    ·show List.Perm _ ([iCells b6 36 [.int .i64 x.rule, .int .i64 x.term, .slice x.A x.kids.length x.c], iCells b4 25 [.slice X.At X.terms.length X.ct, .slice X.An X.nts.length X.cn, .int .i64 X.start, .slice X.Ar X.xs.length X.cr]])
     exact .refl _
    · exact fun _ h => List.mem_cons_of_mem _ h
   ·skip
    refine c_skip ?_
    refine c_reg ?_
    refine l_q (by decide) (p_move rfl).q ?_
    first | refine l_q (by decide) (p_sub (j := 1) rfl rfl rfl rfl (by omega) (by show _ ≤ (9223372036854775807 : Nat); omega)).q ?_ | refine l_q (by decide) (p_subi rfl rfl (by show (-9223372036854775808 : Int) ≤ _; omega) (by show _ ≤ ((9223372036854775807 : Nat) : Int); omega)).q ?_
    refine l_q (by decide) (p_assign rfl).q ?_
    refine l_nil ?_
    refine c_join ((j), (b)) ?_ ?_ ?_ ?_
    ·show ((j) ≤ x.kids.length ∧ After X.g q.r.body (j) a (b)) ∧ (j) < i
     exact ⟨⟨by omega, after_none hz (tree_first (hn.kids j z k hz hk)) (List.length_eq_zero_iff.1 (by omega)) hA⟩, by omega⟩
    · exact ⟨rfl, rfl, rfl, rfl, rfl, trivial⟩
    ·show List.Perm _ ([iCells b6 36 [.int .i64 x.rule, .int .i64 x.term, .slice x.A x.kids.length x.c], iCells b4 25 [.slice X.At X.terms.length X.ct, .slice X.An X.nts.length X.cn, .int .i64 X.start, .slice X.Ar X.xs.length X.cr]])
     exact .refl _
    · exact fun _ h => List.mem_cons_of_mem _ h
  ·skip
   refine c_exit ?_
   refine c_here ?_
   refine c_seq ?_
   refine c_reg ?_
   refine l_q (by decide) (p_assign rfl).q ?_
   refine l_nil ?_
   refine c_ret ?_
   refine c_ret1 rfl rfl (fun w hs => ?_)
   exact ⟨rfl, hs.ext⟩
end Go.Proofs.Ytidbhgolhiaijaa
