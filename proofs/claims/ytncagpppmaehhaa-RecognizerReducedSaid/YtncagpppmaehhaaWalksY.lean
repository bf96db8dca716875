/- The walks of the recognizer: Expected; conditions: lengths. -/
import Derived.Test.YtncagpppmaehhaaWalksX
namespace Go.Proofs.Ytncagpppmaehhaa
open Go Go.Fx Go.Proofs

open Go.Proofs.Rec
def MayP (g : Ana.Gr) (es : List Im) (t : Nat) : Prop := ∃ y, y ∈ es ∧ ∃ q, g.rules[y.k]? = some q ∧ q.body[y.d]? = some (t : Int)
theorem mayP_take {g : Ana.Gr} {es : List Im} {k t : Nat} {y : Im} {q : Ana.Rl} (hy : es[k]? = some y) (hq : g.rules[y.k]? = some q) : MayP g (es.take (k + 1)) t ↔ MayP g (es.take k) t ∨ q.body[y.d]? = some (t : Int) := by
  unfold MayP
  rw [take_at hy]
  constructor
  · rintro ⟨u, h1, r, h2, h3⟩
    rcases List.mem_append.1 h1 with h1 | h1
    · exact .inl ⟨u, h1, r, h2, h3⟩
    · rw [List.mem_singleton.1 h1] at h2 h3
      rw [hq] at h2
      injection h2 with h2
      exact .inr (by rw [h2]; exact h3)
  · rintro (⟨u, h1, h⟩ | h)
    · exact ⟨u, List.mem_append.2 (.inl h1), h⟩
    · exact ⟨y, by simp, q, hq, h⟩
theorem mayP_skip {g : Ana.Gr} {es : List Im} {k : Nat} {y : Im} {q : Ana.Rl} {f : Nat → Bool} (hy : es[k]? = some y) (hq : g.rules[y.k]? = some q) (h : ∀ t : Nat, f t = true ↔ MayP g (es.take k) t) (hn : ∀ t : Nat, q.body[y.d]? ≠ some (t : Int)) : ∀ t : Nat, f t = true ↔ MayP g (es.take (k + 1)) t := fun t => by
  rw [mayP_take hy hq, h t]
  exact ⟨.inl, fun h => h.elim id (fun h => absurd h (hn t))⟩
theorem mayP_add {g : Ana.Gr} {es : List Im} {k : Nat} {y : Im} {q : Ana.Rl} {f : Nat → Bool} {u : Int} (hy : es[k]? = some y) (hq : g.rules[y.k]? = some q) (h : ∀ t : Nat, f t = true ↔ MayP g (es.take k) t) (hu : q.body[y.d]? = some u) (h0 : 0 ≤ u) : ∀ t : Nat, Ana.upd f u.toNat true t = true ↔ MayP g (es.take (k + 1)) t := fun t => by
  rw [mayP_take hy hq]
  unfold Ana.upd
  by_cases e : t = u.toNat
  · rw [if_pos e, hu]
    exact ⟨fun _ => .inr (by congr 1; omega), fun _ => rfl⟩
  · rw [if_neg e, h t, hu]
    exact ⟨.inl, fun h => h.elim id (fun h => by injection h with h; exfalso; omega)⟩
theorem may_via {X : GI} (ok : Ana.Ok2 X.g) {s : List Int} {z : RunV} (hz : LastP X s z) {f : Nat → Bool} (h : ∀ t : Nat, f t = true ↔ MayP X.g (lastS z).es t) (t : Nat) : f t = viaB X.g (s ++ [((t : Nat) : Int)]) := by
  refine Ana.eq_dec ?_
  rw [h t, ← exp_iff ok.h0 ok.s0 (by omega)]
  constructor
  · rintro ⟨y, h1, q, h2, h3⟩
    exact ⟨y, q, hz.set.2 y h1, h2, h3⟩
  · rintro ⟨y, q, h1, h2, h3⟩
    exact ⟨y, hz.all y h1, q, h2, h3⟩
theorem expected_ok (X : GI) (hX : X.small) (As : Option Addr) (cs : Nat) (s : List Int) (hsl : s.length ≤ 40) (w : World) (hM : X.mem w) (ok : Ana.Ok2 X.g) (hp : Sl 1 intF As s w) :
   Calls Try.prog 16 #[.agg #[.slice X.At X.terms.length X.ct, .slice X.An X.nts.length X.cn, .int .i64 X.start, .slice X.Ar X.xs.length X.cr], .slice As s.length cs] w (Ret fun v w' => ExpR X s w w' v) := by
 have htl : X.terms.length ≤ 12 := ok.tl
 have hxl : X.xs.length ≤ 20 := by have := ok.rl; rwa [show X.g.rules.length = X.xs.length from List.length_map ..] at this
 refine calls_fx (l := [.agg #[.slice X.At X.terms.length X.ct, .slice X.An X.nts.length X.cn, .int .i64 X.start, .slice X.Ar X.xs.length X.cr], .slice As s.length cs]) Try.func16 rfl Try.ntmps16 (Nat.le_of_ble_eq_true rfl) ((X.begin hM).old hp (dep_sl (by decide) hp)) ?_
 refine c_seq ?_
 refine c_reg ?_
 refine l_box (by decide) rfl _ rfl (fun b2 => ?_)
 refine l_q (by decide) (p_assign rfl).q ?_
 refine l_q (by decide) (p_assign rfl).q ?_
 refine l_nil ?_
 refine c_seq ?_
 refine c_reg ?_
 refine l_q (by decide) (r_loadow Try.underlying25 rfl inf_25 rfl (by repeat constructor) (by rfl)).q ?_
 refine l_q (by decide) (p_move rfl).q ?_
 refine l_callo (τ := []) (fun z : RunR X s => .pointer (some ⟨z.1.p, 0, none⟩)) (fun z => z.1.own X) (by decide) call_23 rfl (fun w hs => run_ok X hX As cs s hsl w (GI.of hs (by repeat constructor) (by repeat constructor) (by repeat constructor) (by repeat constructor)) ok (hs.facts (Sl 1 intF As s) (by repeat constructor)).1) (fun zz => ?_)
 obtain ⟨z, hzo⟩ := zz
 have hz := hzo.last
 have hbl : z.bs.length ≤ 1000000 := by rw [hzo.bs, List.length_map, hzo.len]; omega
 refine l_q (by decide) (p_assign rfl).q ?_
 refine l_nil ?_
 refine c_seq ?_
 refine c_keepAll (z.own X) ?_
 refine c_reg ?_
 refine l_q (by decide) (p_faddro (i := 0) 0 Try.underlying25 rfl inf_22 (by decide) rfl rfl).q ?_
 refine l_q (by decide) (r_loado Try.underlying22 rfl rfl (by repeat constructor) (by rfl)).q ?_
 refine l_q (by decide) (p_len_sl Try.underlying22 rfl).q ?_
 refine l_make (by decide) Try.underlying42 inf_4 rfl rfl rfl rfl rfl rfl (by omega) (by omega) (fun b19 => ?_)
 refine l_q (by decide) (p_assign rfl).q ?_
 refine l_nil ?_
 refine c_seq ?_
 refine c_seq ?_
 refine c_reg ?_
 refine l_q (by decide) (p_move rfl).q ?_
 refine l_q (by decide) (q_call call_27 rfl (fun w hs => last_ok X s z hz (z.own X) (fun _ h => h) hbl _ w (hs.quiet.weak (fun q h => List.mem_cons_of_mem _ h)))) ?_
 refine l_q (by decide) (p_len_sl Try.underlying46 rfl).q ?_
 refine l_q (by decide) (p_move (v := .int .i64 ((0 : Nat) : Int)) rfl).q ?_
 refine l_nil ?_
 refine c_block ?_
 rw [bl_rep]
 refine c_loop (S := Nat × BF) (fun zs => zs.1 ≤ (lastS z).es.length ∧ ∀ t : Nat, zs.2 t = true ↔ MayP X.g ((lastS z).es.take zs.1) t) (fun zs => (lastS z).es.length - zs.1) (fun zs => [(2, .pointer (some ⟨b2, 0, none⟩)), (6, .pointer (some ⟨z.p, 0, none⟩)), (7, .slice (some ⟨b19, 0, none⟩) X.terms.length X.terms.length), (21, .slice (lastS z).A (lastS z).es.length (lastS z).c), (22, .int .i64 ((lastS z).es.length : Int)), (23, .int .i64 (zs.1 : Int))]) (fun zs => [iCells b19 4 (bl X.terms.length zs.2), iCells b2 25 [.slice X.At X.terms.length X.ct, .slice X.An X.nts.length X.cn, .int .i64 X.start, .slice X.Ar X.xs.length X.cr]]) (fun zs => (KeepF (z.own X) :: (Sl 1 intF As s :: [Bd X.xs, Sl 3 ruF X.Ar X.xs, Sl 1 strF X.An X.nts, Sl 1 strF X.At X.terms]))) (0, fun _ => false) ?_ ?_ ?_ ?_ ?_
 · show (0) ≤ (lastS z).es.length ∧ ∀ t : Nat, (fun _ => false) t = true ↔ MayP X.g ((lastS z).es.take (0)) t
   exact ⟨Nat.zero_le _, fun t => ⟨fun h => (by cases h), fun ⟨y, h, _⟩ => by simp at h⟩⟩
 · exact ⟨rfl, rfl, rfl, rfl, rfl, rfl, trivial⟩
 · exact .refl _
 · exact fun _ h => h
 rintro ⟨i, f⟩ hinv
 have hinv : i ≤ (lastS z).es.length ∧ ∀ t : Nat, f t = true ↔ MayP X.g ((lastS z).es.take i) t := hinv
 obtain ⟨hi, hf⟩ := hinv
 show Cont _ _ _ _ [(2, .pointer (some ⟨b2, 0, none⟩)), (6, .pointer (some ⟨z.p, 0, none⟩)), (7, .slice (some ⟨b19, 0, none⟩) X.terms.length X.terms.length), (21, .slice (lastS z).A (lastS z).es.length (lastS z).c), (22, .int .i64 ((lastS z).es.length : Int)), (23, .int .i64 (i : Int))] ([iCells b19 4 (bl X.terms.length f), iCells b2 25 [.slice X.At X.terms.length X.ct, .slice X.An X.nts.length X.cn, .int .i64 X.start, .slice X.Ar X.xs.length X.cr]]) (KeepF (z.own X) :: (Sl 1 intF As s :: [Bd X.xs, Sl 3 ruF X.Ar X.xs, Sl 1 strF X.An X.nts, Sl 1 strF X.At X.terms]))
 refine c_seq ?_
 have hlen := hz.set.len ok hsl
 refine c_reg ?_
 refine l_q (by decide) (p_lss rfl rfl rfl rfl).q ?_
 refine l_nil ?_
 refine c_seq ?_
 refine c_dec rfl (fun h24 => ?_) (fun h24 => ?_)
 ·skip
  obtain ⟨y, hy⟩ := at_some (l := (lastS z).es) (n := i) (by omega)
  have hyit := hz.set.2 y (List.mem_of_getElem? hy)
  obtain ⟨r1, hgy⟩ := hyit.good ok.h0
  obtain ⟨ry, hry, hr1⟩ := at_rule hgy.rule
  subst hr1
  have hyk : y.k < X.xs.length := (List.getElem?_eq_some_iff.1 hry).1
  have hbly := ok.bl _ (rule_mem hry)
  have hyd := hgy.dot
  have hyf := hgy.pos
  refine c_skip ?_
  refine c_seq ?_
  refine c_block ?_
  refine c_seq ?_
  refine c_reg ?_
  refine l_q (by decide) (r_index (es := (lastS z).es) (f := imF) (j := i) Try.underlying46 inf_52 rfl rfl rfl (fun w hs => (keep_last hz (fun _ h => h) (hs.facts (KeepF (z.own X)) (by repeat constructor)).1).2) rfl h24).q ?_
  refine l_q (by decide) (r_loada (es := (lastS z).es) (f := imF) (j := i) Try.underlying52 rfl inf_52 rfl (fun w hs => (keep_last hz (fun _ h => h) (hs.facts (KeepF (z.own X)) (by repeat constructor)).1).2) hy).q ?_
  refine l_alloc (by decide) inf_52 _ rfl (fun b9 => ?_)
  (refine l_storew inf_52 rfl rfl rfl rfl rfl ?_)
  refine l_nil ?_
  refine c_seq ?_
  refine c_reg ?_
  refine l_q (by decide) (p_faddro (i := 3) 3 Try.underlying25 rfl inf_23 (by decide) rfl rfl).q ?_
  refine l_q (by decide) (r_loado Try.underlying23 rfl rfl (by repeat constructor) (by rfl)).q ?_
  refine l_q (by decide) (p_faddro (i := 0) 0 Try.underlying52 rfl inf_3 (by decide) rfl rfl).q ?_
  refine l_q (by decide) (r_loado Try.underlying3 rfl rfl (by repeat constructor) (by rfl)).q ?_
  refine l_q (by decide) (r_index Try.underlying23 inf_49 rfl rfl rfl (by exact .fact (by repeat constructor)) rfl (by omega)).q ?_
  refine l_q (by decide) (p_faddr (i := 1) 1 Try.underlying49 rfl inf_26 (by decide) rfl rfl).q ?_
  refine l_q (by decide) (r_loadf Try.underlying26 rfl rfl (by exact .fact (by repeat constructor)) (by assumption) (by rfl)).q ?_
  refine l_q (by decide) (p_assign rfl).q ?_
  refine l_nil ?_
  refine c_seq ?_
  refine c_reg ?_
  refine l_q (by decide) (p_faddro (i := 1) 1 Try.underlying52 rfl inf_3 (by decide) rfl rfl).q ?_
  refine l_q (by decide) (r_loado Try.underlying3 rfl rfl (by repeat constructor) (by rfl)).q ?_
  refine l_q (by decide) (p_move rfl).q ?_
  refine l_q (by decide) (p_len_sl Try.underlying26 rfl).q ?_
  refine l_q (by decide) (p_lss rfl rfl rfl rfl).q ?_
  refine l_q (by decide) (p_move rfl).q ?_
  refine l_splitd (t := 39) rfl (fun h39 => ?_) (fun h39 => ?_)
  ·skip
   obtain ⟨u, hu⟩ := at_some (l := ry.r.body) (n := y.d) (by omega)
   have hub := ok.b1 _ (rule_mem hry) u (List.mem_of_getElem? hu)
   have hub : u < (X.terms.length : Int) := hub
   refine l_g (j := 5) rfl rfl (by decide) (p_move rfl).q ?_
   refine l_g (j := 5) rfl rfl (by decide) (p_faddro (i := 1) 1 Try.underlying52 rfl inf_3 (by decide) rfl rfl).q ?_
   refine l_g (j := 5) rfl rfl (by decide) (r_loado Try.underlying3 rfl rfl (by repeat constructor) (by rfl)).q ?_
   refine l_g (j := 5) rfl rfl (by decide) (r_index Try.underlying26 inf_3 rfl rfl rfl (by exact SlIn.body (by repeat constructor) (by assumption)) rfl (by omega)).q ?_
   refine l_g (j := 5) rfl rfl (by decide) (r_load1 Try.underlying3 rfl rfl (by exact SlIn.body (by repeat constructor) (by assumption)) (by assumption) (by rfl)).q ?_
   refine l_g (j := 5) rfl rfl (by decide) (p_geqi rfl rfl).q ?_
   refine l_q (by decide) (p_pick rfl rfl).q ?_
   refine l_nil ?_
   refine c_dec rfl (fun h46 => ?_) (fun h46 => ?_)
   ·skip
    have hkb : u.toNat * 1 < (bl X.terms.length f).length := by rw [bl_len]; omega
    refine c_reg ?_
    refine l_q (by decide) (p_move rfl).q ?_
    refine l_q (by decide) (p_move rfl).q ?_
    refine l_q (by decide) (p_faddro (i := 1) 1 Try.underlying52 rfl inf_3 (by decide) rfl rfl).q ?_
    refine l_q (by decide) (r_loado Try.underlying3 rfl rfl (by repeat constructor) (by rfl)).q ?_
    refine l_q (by decide) (r_index Try.underlying26 inf_3 rfl rfl rfl (by exact SlIn.body (by repeat constructor) (by assumption)) rfl (by omega)).q ?_
    refine l_q (by decide) (((r_load1 Try.underlying3 rfl rfl (by exact SlIn.body (by repeat constructor) (by assumption)) (by assumption) (by rfl))).to (u := .int .i64 ((u.toNat : Nat) : Int)) (by rw [Int.toNat_of_nonneg h46])).q ?_
    refine l_q (by decide) (p_indexo Try.underlying42 inf_4 rfl rfl rfl (by omega)).q ?_
    (refine l_perm (front1 _ _ _) ?_; refine l_store inf_4 rfl rfl rfl rfl (by omega) ?_)
    refine l_nil ?_
    refine c_reg ?_
    refine l_q (by decide) (p_add (j := 1) rfl rfl rfl rfl (by show _ ≤ (9223372036854775807 : Nat); omega)).q ?_
    refine l_q (by decide) (p_move rfl).q ?_
    refine l_nil ?_
    (refine c_perm (front1 _ _ _) ?_; refine c_drop (x := iCells b9 _ _) ?_)
    refine c_join ((i + 1), (Ana.upd f u.toNat true)) ?_ ?_ ?_ ?_
    ·show ((i + 1) ≤ (lastS z).es.length ∧ ∀ t : Nat, (Ana.upd f u.toNat true) t = true ↔ MayP X.g ((lastS z).es.take (i + 1)) t) ∧ (lastS z).es.length - (i + 1) < (lastS z).es.length - i
     exact ⟨⟨by omega, mayP_add hy (rule_at hry) hf hu h46⟩, by omega⟩
    · exact ⟨rfl, rfl, rfl, rfl, rfl, rfl, trivial⟩
    ·show List.Perm _ ([iCells b19 4 (bl X.terms.length (Ana.upd f u.toNat true)), iCells b2 25 [.slice X.At X.terms.length X.ct, .slice X.An X.nts.length X.cn, .int .i64 X.start, .slice X.Ar X.xs.length X.cr]])
     rw [bl_set]
     repeat (first | exact List.Perm.refl _ | refine List.Perm.cons _ ?_ | refine (front1 _ _ _).trans (List.Perm.cons _ ?_) | refine (front2 _ _ _ _).trans (List.Perm.cons _ ?_) | refine (front3 _ _ _ _ _).trans (List.Perm.cons _ ?_) | refine (front4 _ _ _ _ _ _).trans (List.Perm.cons _ ?_))
    · exact fun _ h => h
   ·skip
    refine c_skip ?_
    refine c_reg ?_
    refine l_q (by decide) (p_add (j := 1) rfl rfl rfl rfl (by show _ ≤ (9223372036854775807 : Nat); omega)).q ?_
    refine l_q (by decide) (p_move rfl).q ?_
    refine l_nil ?_
    (refine c_drop (x := iCells b9 _ _) ?_)
    refine c_join ((i + 1), (f)) ?_ ?_ ?_ ?_
    ·show ((i + 1) ≤ (lastS z).es.length ∧ ∀ t : Nat, (f) t = true ↔ MayP X.g ((lastS z).es.take (i + 1)) t) ∧ (lastS z).es.length - (i + 1) < (lastS z).es.length - i
     exact ⟨⟨by omega, mayP_skip hy (rule_at hry) hf (fun t ht => by rw [hu] at ht; injection ht with ht; omega)⟩, by omega⟩
    · exact ⟨rfl, rfl, rfl, rfl, rfl, rfl, trivial⟩
    ·show List.Perm _ ([iCells b19 4 (bl X.terms.length (f)), iCells b2 25 [.slice X.At X.terms.length X.ct, .slice X.An X.nts.length X.cn, .int .i64 X.start, .slice X.Ar X.xs.length X.cr]])
     repeat (first | exact List.Perm.refl _ | refine List.Perm.cons _ ?_ | refine (front1 _ _ _).trans (List.Perm.cons _ ?_) | refine (front2 _ _ _ _).trans (List.Perm.cons _ ?_) | refine (front3 _ _ _ _ _).trans (List.Perm.cons _ ?_) | refine (front4 _ _ _ _ _ _).trans (List.Perm.cons _ ?_))
    · exact fun _ h => h
  ·skip
   refine l_off (j := 5) rfl rfl (by (simp; done)) (by decide) ?_
   refine l_off (j := 5) rfl rfl (by (simp; done)) (by decide) ?_
   refine l_off (j := 5) rfl rfl (by (simp; done)) (by decide) ?_
   refine l_off (j := 5) rfl rfl (by (simp; done)) (by decide) ?_
   refine l_off (j := 5) rfl rfl (by (simp; done)) (by decide) ?_
   refine l_off (j := 5) rfl rfl (by (simp; done)) (by decide) ?_
   refine l_q (by decide) (p_pick rfl rfl).q ?_
   refine l_nil ?_
   refine c_false rfl ?_
   refine c_skip ?_
   refine c_reg ?_
   refine l_q (by decide) (p_add (j := 1) rfl rfl rfl rfl (by show _ ≤ (9223372036854775807 : Nat); omega)).q ?_
   refine l_q (by decide) (p_move rfl).q ?_
   refine l_nil ?_
   (refine c_drop (x := iCells b9 _ _) ?_)
   refine c_join ((i + 1), (f)) ?_ ?_ ?_ ?_
   ·show ((i + 1) ≤ (lastS z).es.length ∧ ∀ t : Nat, (f) t = true ↔ MayP X.g ((lastS z).es.take (i + 1)) t) ∧ (lastS z).es.length - (i + 1) < (lastS z).es.length - i
    exact ⟨⟨by omega, mayP_skip hy (rule_at hry) hf (fun t ht => h39 (List.getElem?_eq_some_iff.1 ht).1)⟩, by omega⟩
   · exact ⟨rfl, rfl, rfl, rfl, rfl, rfl, trivial⟩
   ·show List.Perm _ ([iCells b19 4 (bl X.terms.length (f)), iCells b2 25 [.slice X.At X.terms.length X.ct, .slice X.An X.nts.length X.cn, .int .i64 X.start, .slice X.Ar X.xs.length X.cr]])
    repeat (first | exact List.Perm.refl _ | refine List.Perm.cons _ ?_ | refine (front1 _ _ _).trans (List.Perm.cons _ ?_) | refine (front2 _ _ _ _).trans (List.Perm.cons _ ?_) | refine (front3 _ _ _ _ _).trans (List.Perm.cons _ ?_) | refine (front4 _ _ _ _ _ _).trans (List.Perm.cons _ ?_))
   · exact fun _ h => h
 ·skip
  refine c_exit ?_
  refine c_here ?_
  refine c_seq ?_
  rw [List.take_of_length_le (by omega)] at hf
  have hvia := may_via ok hz hf
  refine c_reg ?_
  refine l_q (by decide) (p_assign rfl).q ?_
  refine l_nil ?_
  refine c_seq ?_
  refine c_seq ?_
  refine c_reg ?_
  refine l_q (by decide) (p_faddro (i := 0) 0 Try.underlying25 rfl inf_22 (by decide) rfl rfl).q ?_
  refine l_q (by decide) (r_loado Try.underlying22 rfl rfl (by repeat constructor) (by rfl)).q ?_
  refine l_q (by decide) (p_len_sl Try.underlying22 rfl).q ?_
  refine l_q (by decide) (p_move (v := .int .i64 ((0 : Nat) : Int)) rfl).q ?_
  refine l_nil ?_
  refine c_block ?_
  refine c_sl0 3 1 intF ?_
  refine c_loop (S := Nat × Option Addr × Nat) (fun zs => zs.1 ≤ X.terms.length) (fun zs => X.terms.length - zs.1) (fun zs => [(6, .pointer (some ⟨z.p, 0, none⟩)), (7, .slice (some ⟨b19, 0, none⟩) X.terms.length X.terms.length), (11, .slice zs.2.1 (expL X.g s zs.1).length zs.2.2), (57, .int .i64 (X.terms.length : Int)), (58, .int .i64 (zs.1 : Int))]) (fun zs => [iSl 3 1 intF zs.2.1 zs.2.2 (expL X.g s zs.1), iCells b19 4 (bl X.terms.length f), iCells b2 25 [.slice X.At X.terms.length X.ct, .slice X.An X.nts.length X.cn, .int .i64 X.start, .slice X.Ar X.xs.length X.cr]]) (fun zs => (KeepF (z.own X) :: (Sl 1 intF As s :: [Bd X.xs, Sl 3 ruF X.Ar X.xs, Sl 1 strF X.An X.nts, Sl 1 strF X.At X.terms]))) (0, none, 0) ?_ ?_ ?_ ?_ ?_
  · show (0) ≤ X.terms.length
    exact Nat.zero_le _
  · exact ⟨rfl, rfl, rfl, rfl, rfl, trivial⟩
  · exact .refl _
  · exact fun _ h => h
  rintro ⟨k, A, c⟩ hinv
  have hinv : k ≤ X.terms.length := hinv
  have hk := hinv
  show Cont _ _ _ _ [(6, .pointer (some ⟨z.p, 0, none⟩)), (7, .slice (some ⟨b19, 0, none⟩) X.terms.length X.terms.length), (11, .slice A (expL X.g s k).length c), (57, .int .i64 (X.terms.length : Int)), (58, .int .i64 (k : Int))] ([iSl 3 1 intF A c (expL X.g s k), iCells b19 4 (bl X.terms.length f), iCells b2 25 [.slice X.At X.terms.length X.ct, .slice X.An X.nts.length X.cn, .int .i64 X.start, .slice X.Ar X.xs.length X.cr]]) (KeepF (z.own X) :: (Sl 1 intF As s :: [Bd X.xs, Sl 3 ruF X.Ar X.xs, Sl 1 strF X.An X.nts, Sl 1 strF X.At X.terms]))
  refine c_seq ?_
  refine c_reg ?_
  refine l_q (by decide) (p_lss rfl rfl rfl rfl).q ?_
  refine l_nil ?_
  refine c_seq ?_
  refine c_dec rfl (fun h59 => ?_) (fun h59 => ?_)
  ·skip
   refine c_skip ?_
   refine c_seq ?_
   refine c_block ?_
   refine c_seq ?_
   refine c_reg ?_
   refine l_q (by decide) (p_move rfl).q ?_
   refine l_q (by decide) (p_assign rfl).q ?_
   refine l_nil ?_
   refine c_seq ?_
   refine c_reg ?_
   refine l_q (by decide) (p_move rfl).q ?_
   refine l_q (by decide) (p_move rfl).q ?_
   refine l_q (by decide) (p_indexo Try.underlying42 inf_4 rfl rfl rfl (by omega)).q ?_
   refine l_q (by decide) (((r_loado Try.underlying4 rfl rfl (by repeat constructor) (bl_at h59))).to (u := .bool (viaB X.g (s ++ [((k : Nat) : Int)]))) (by rw [hvia k])).q ?_
   refine l_nil ?_
   refine c_cond rfl (fun h64 => ?_) (fun h64 => ?_)
   ·skip
    refine c_reg ?_
    refine l_q (by decide) (p_move rfl).q ?_
    refine l_q (by decide) (p_move rfl).q ?_
    refine l_buildSlice (by decide) Try.underlying26 inf_3 (by decide) (by decide) rfl rfl rfl rfl (fun b67 => ?_)
    (refine l_append1 (((k : Nat) : Int)) (by decide) Try.underlying26 inf_3 rfl (by decide) rfl rfl rfl rfl rfl rfl (by have := expL_len X.g s k; omega) (by have := expL_len X.g s k; omega) (fun A68 c68 hA68 => ?_))
    refine l_q (by decide) (p_assign rfl).q ?_
    refine l_nil ?_
    refine c_reg ?_
    refine l_q (by decide) (p_add (j := 1) rfl rfl rfl rfl (by show _ ≤ (9223372036854775807 : Nat); omega)).q ?_
    refine l_q (by decide) (p_move rfl).q ?_
    refine l_nil ?_
    refine c_join ((k + 1), (A68), (c68)) ?_ ?_ ?_ ?_
    ·show ((k + 1) ≤ X.terms.length) ∧ X.terms.length - (k + 1) < X.terms.length - k
     exact ⟨by omega, by omega⟩
    · exact ⟨rfl, rfl, (by show some (Value.slice A68 (expL X.g s k ++ [((k : Nat) : Int)]).length c68) = some (Value.slice A68 (expL X.g s (k + 1)).length c68); rw [expL_yes h64]), rfl, rfl, trivial⟩
    ·show List.Perm _ ([iSl 3 1 intF (A68) (c68) (expL X.g s (k + 1)), iCells b19 4 (bl X.terms.length f), iCells b2 25 [.slice X.At X.terms.length X.ct, .slice X.An X.nts.length X.cn, .int .i64 X.start, .slice X.Ar X.xs.length X.cr]])
     rw [expL_yes h64]
     repeat (first | exact List.Perm.refl _ | refine List.Perm.cons _ ?_ | refine (front1 _ _ _).trans (List.Perm.cons _ ?_) | refine (front2 _ _ _ _).trans (List.Perm.cons _ ?_) | refine (front3 _ _ _ _ _).trans (List.Perm.cons _ ?_) | refine (front4 _ _ _ _ _ _).trans (List.Perm.cons _ ?_))
    · exact fun _ h => h
   ·skip
    refine c_skip ?_
    refine c_reg ?_
    refine l_q (by decide) (p_add (j := 1) rfl rfl rfl rfl (by show _ ≤ (9223372036854775807 : Nat); omega)).q ?_
    refine l_q (by decide) (p_move rfl).q ?_
    refine l_nil ?_
    refine c_join ((k + 1), (A), (c)) ?_ ?_ ?_ ?_
    ·show ((k + 1) ≤ X.terms.length) ∧ X.terms.length - (k + 1) < X.terms.length - k
     exact ⟨by omega, by omega⟩
    · exact ⟨rfl, rfl, (by show some (Value.slice A (expL X.g s k).length c) = some (Value.slice A (expL X.g s (k + 1)).length c); rw [expL_no h64]), rfl, rfl, trivial⟩
    ·show List.Perm _ ([iSl 3 1 intF (A) (c) (expL X.g s (k + 1)), iCells b19 4 (bl X.terms.length f), iCells b2 25 [.slice X.At X.terms.length X.ct, .slice X.An X.nts.length X.cn, .int .i64 X.start, .slice X.Ar X.xs.length X.cr]])
     rw [expL_no h64]
     repeat (first | exact List.Perm.refl _ | refine List.Perm.cons _ ?_ | refine (front1 _ _ _).trans (List.Perm.cons _ ?_) | refine (front2 _ _ _ _).trans (List.Perm.cons _ ?_) | refine (front3 _ _ _ _ _).trans (List.Perm.cons _ ?_) | refine (front4 _ _ _ _ _ _).trans (List.Perm.cons _ ?_))
    · exact fun _ h => h
  ·skip
   refine c_exit ?_
   refine c_here ?_
   refine c_seq ?_
   refine c_reg ?_
   refine l_q (by decide) (p_move rfl).q ?_
   refine l_q (by decide) (p_move rfl).q ?_
   refine l_q (by decide) (q_call call_24 rfl (fun w hs => sentence_ok X hX ok s hsl z hz (z.own X) (fun _ h => h) hbl w (hs.quiet.weak (fun q h => List.mem_cons_of_mem _ (two_facts q h))))) ?_
   refine l_q (by decide) (p_assign rfl).q ?_
   refine l_q (by decide) (p_assign rfl).q ?_
   refine l_nil ?_
   refine c_ret ?_
   refine c_ret2 rfl rfl rfl (fun w hs => ?_)
   obtain rfl : k = X.terms.length := by omega
   have g := hs.give (e := 3) (size := 1) (f := intF) (es := expL X.g s X.terms.length) (A := A) (c := c) (by repeat constructor) (by decide) (fun _ => rfl)
   exact ⟨(A, c), rfl, g.1, g.2.1, hs.ext⟩
end Go.Proofs.Ytncagpppmaehhaa
