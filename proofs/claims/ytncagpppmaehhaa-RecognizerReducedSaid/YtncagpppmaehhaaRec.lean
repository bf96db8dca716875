/- The plain laws of recognition: derivations, items, the references, reduced grammars; no program in sight; conditions: none. -/
import Derived.Test.YtncagpppmaehhaaPlain
namespace Go.Proofs.Ana
/-- the bounds of this chapter -/
structure Ok2 (g : Gr) : Prop where
  tl : g.t ≤ 12
  n1 : 1 ≤ g.n
  nl : g.n ≤ 16
  rl : g.rules.length ≤ 20
  s0 : 0 ≤ g.start
  s1 : g.start < g.n
  h0 : ∀ r, r ∈ g.rules → 0 ≤ r.head
  h1 : ∀ r, r ∈ g.rules → r.head < g.n
  bl : ∀ r, r ∈ g.rules → r.body.length ≤ 6
  b0 : ∀ r, r ∈ g.rules → ∀ x, x ∈ r.body → -(g.n : Int) ≤ x
  b1 : ∀ r, r ∈ g.rules → ∀ x, x ∈ r.body → x < g.t
theorem Ok2.nt_lt {g : Gr} (h : Ok2 g) {r : Rl} (hr : r ∈ g.rules) {x : Int} (hx : x ∈ r.body) (h0 : x < 0) : nt x < g.n := by
  have := h.b0 r hr x hx
  unfold nt
  omega
theorem Ok2.hd {g : Gr} (h : Ok2 g) {r : Rl} (hr : r ∈ g.rules) : ((r.head.toNat : Nat) : Int) = r.head ∧ r.head.toNat < g.n := by
  have h1 := h.h0 r hr
  have h2 := h.h1 r hr
  omega
end Go.Proofs.Ana
namespace Go.Proofs.Rec
open Go.Proofs.Ana
/-- a list of symbols derives a list of terminals -/
inductive Der (g : Gr) : List Int → List Int → Prop where
  | nil : Der g [] []
  | term (a : Int) (l s : List Int) : 0 ≤ a → Der g l s → Der g (a :: l) (a :: s)
  | nont (r : Rl) (x : Int) (l s t : List Int) : r ∈ g.rules → x < 0 → r.head = -1 - x → Der g r.body s → Der g l t → Der g (x :: l) (s ++ t)
theorem Der.app {g : Gr} {l1 l2 s1 s2 : List Int} (h1 : Der g l1 s1) (h2 : Der g l2 s2) : Der g (l1 ++ l2) (s1 ++ s2) := by
  induction h1 with
  | nil => exact h2
  | term a l s h0 _ ih => exact .term a _ _ h0 ih
  | nont r x l s t hr h0 hx hb _ _ ih => rw [List.append_assoc]; exact .nont r x _ _ _ hr h0 hx hb ih
theorem Der.split {g : Gr} {l2 : List Int} : ∀ {l1 s : List Int}, Der g (l1 ++ l2) s → ∃ s1 s2, s = s1 ++ s2 ∧ Der g l1 s1 ∧ Der g l2 s2
  | [], s, h => ⟨[], s, rfl, .nil, h⟩
  | x :: l1, s, h => by
    cases h with
    | term _ _ s h0 h =>
      obtain ⟨s1, s2, e, h1, h2⟩ := Der.split h
      exact ⟨x :: s1, s2, by rw [e]; rfl, .term x _ _ h0 h1, h2⟩
    | nont r _ _ s t hr h0 hx hb h =>
      obtain ⟨s1, s2, e, h1, h2⟩ := Der.split h
      exact ⟨s ++ s1, s2, by rw [e, List.append_assoc], .nont r x _ _ _ hr h0 hx hb h1, h2⟩
theorem Der.one {g : Gr} {r : Rl} {x : Int} {s : List Int} (hr : r ∈ g.rules) (h0 : x < 0) (hx : r.head = -1 - x) (h : Der g r.body s) : Der g [x] s := by
  have := Der.nont r x [] s [] hr h0 hx h .nil
  rwa [List.append_nil] at this
theorem Der.of_one {g : Gr} {x : Int} {s : List Int} (h : Der g [x] s) (h0 : x < 0) : ∃ r, r ∈ g.rules ∧ r.head = -1 - x ∧ Der g r.body s := by
  cases h with
  | term _ _ s h1 _ => omega
  | nont r _ _ s t hr _ hx hb h =>
    cases h
    exact ⟨r, hr, hx, by rw [List.append_nil]; exact hb⟩
/-- all nonterminals of these symbols are productive -/
def Works (g : Gr) (l : List Int) : Prop := ∀ x, x ∈ l → x < 0 → PN g true (nt x)
theorem works_der {g : Gr} {l s : List Int} (h : Der g l s) : Works g l := by
  induction h with
  | nil => exact fun x hx => absurd hx List.not_mem_nil
  | term a l s h0 _ ih =>
    intro x hx h
    rcases List.mem_cons.1 hx with rfl | hx
    · omega
    · exact ih x hx h
  | nont r y l s t hr h0 hy _ _ ih1 ih2 =>
    intro x hx h
    rcases List.mem_cons.1 hx with rfl | hx
    · have := PN.mk (g := g) (tm := true) r hr (fun _ _ _ => rfl) (fun z hz hz0 => ih1 z hz hz0)
      rwa [hy] at this
    · exact ih2 x hx h
theorem pn_der {g : Gr} (ok : ∀ r, r ∈ g.rules → 0 ≤ r.head) {i : Nat} (h : PN g true i) : ∃ s, Der g [-1 - (i : Int)] s := by
  induction h with
  | mk r hr h1 h2 ih =>
    have key : ∀ l : List Int, (∀ x, x ∈ l → x < 0 → ∃ s, Der g [-1 - ((nt x : Nat) : Int)] s) → ∃ s, Der g l s := fun l => by
      induction l with
      | nil => exact fun _ => ⟨[], .nil⟩
      | cons x l ihl =>
        intro hh
        obtain ⟨s, hs⟩ := ihl fun y hy => hh y (List.mem_cons_of_mem _ hy)
        by_cases h0 : x < 0
        · obtain ⟨s1, hs1⟩ := hh x (List.mem_cons_self ..) h0
          have e : -1 - ((nt x : Nat) : Int) = x := by rw [nt_cast h0]; omega
          rw [e] at hs1
          exact ⟨s1 ++ s, hs1.app hs⟩
        · exact ⟨x :: s, .term x _ _ (by omega) hs⟩
    obtain ⟨s, hs⟩ := key r.body ih
    have := ok r hr
    exact ⟨s, Der.one hr (by omega) (by omega) hs⟩
theorem works_some {g : Gr} (ok : ∀ r, r ∈ g.rules → 0 ≤ r.head) : ∀ {l : List Int}, Works g l → ∃ s, Der g l s
  | [], _ => ⟨[], .nil⟩
  | x :: l, h => by
    obtain ⟨s, hs⟩ := works_some ok (l := l) fun y hy => h y (List.mem_cons_of_mem _ hy)
    by_cases h0 : x < 0
    · obtain ⟨s1, hs1⟩ := pn_der ok (h x (List.mem_cons_self ..) h0)
      rw [show -1 - ((nt x : Nat) : Int) = x by rw [nt_cast h0]; omega] at hs1
      exact ⟨s1 ++ s, hs1.app hs⟩
    · exact ⟨x :: s, .term x _ _ (by omega) hs⟩
/-! ## Earley's items: rule k, dot d, begun at f, after j terminals -/
structure Im where
  k : Nat
  d : Nat
  f : Nat
  deriving DecidableEq
inductive It (g : Gr) (s : List Int) : Nat → Im → Prop where
  | start (k : Nat) (r : Rl) : g.rules[k]? = some r → r.head = g.start → Works g r.body → It g s 0 ⟨k, 0, 0⟩
  | pred (j : Nat) (x : Im) (r : Rl) (y : Int) (k : Nat) (q : Rl) : It g s j x → g.rules[x.k]? = some r → r.body[x.d]? = some y → y < 0 → g.rules[k]? = some q → q.head = -1 - y → Works g q.body → It g s j ⟨k, 0, j⟩
  | scan (j : Nat) (x : Im) (r : Rl) (t : Int) : It g s j x → g.rules[x.k]? = some r → r.body[x.d]? = some t → 0 ≤ t → s[j]? = some t → It g s (j + 1) ⟨x.k, x.d + 1, x.f⟩
  | comp (j : Nat) (x : Im) (r : Rl) (y : Im) (q : Rl) : It g s j x → g.rules[x.k]? = some r → x.d = r.body.length → It g s x.f y → g.rules[y.k]? = some q → q.body[y.d]? = some (-1 - r.head) → It g s j ⟨y.k, y.d + 1, y.f⟩
/-- from j to i of a list -/
def part (s : List Int) (j i : Nat) : List Int := (s.drop j).take (i - j)
theorem part_self (s : List Int) (j : Nat) : part s j j = [] := by unfold part; rw [Nat.sub_self, List.take_zero]
theorem part_app {s : List Int} {a b c : Nat} (h1 : a ≤ b) (h2 : b ≤ c) : part s a b ++ part s b c = part s a c := by
  unfold part
  have e : s.drop b = (s.drop a).drop (b - a) := by rw [List.drop_drop]; congr 1; omega
  rw [e]
  have h3 : c - a = (b - a) + (c - b) := by omega
  rw [h3, List.take_add]
theorem part_succ {s : List Int} {a b : Nat} {t : Int} (h1 : a ≤ b) (h : s[b]? = some t) : part s a (b + 1) = part s a b ++ [t] := by
  rw [← part_app h1 (Nat.le_succ b)]
  congr 1
  unfold part
  obtain ⟨hb, rfl⟩ := List.getElem?_eq_some_iff.1 h
  rw [List.drop_eq_getElem_cons hb, show b + 1 - b = 1 by omega]
  rfl
theorem part_zero (s : List Int) (j : Nat) : part s 0 j = s.take j := by unfold part; rw [List.drop_zero, Nat.sub_zero]
theorem part_end (s : List Int) (j : Nat) : part s j s.length = s.drop j := by unfold part; rw [List.take_of_length_le (by rw [List.length_drop]; omega)]
/-- where a nonterminal may stand behind f terminals -/
def Ctx (g : Gr) (s : List Int) (f : Nat) (A : Int) : Prop := ∃ v, ∀ u, Der g [-1 - A] u → Der g [-1 - g.start] (s.take f ++ (u ++ v))
structure Good (g : Gr) (s : List Int) (j : Nat) (x : Im) (r : Rl) : Prop where
  rule : g.rules[x.k]? = some r
  works : Works g r.body
  dot : x.d ≤ r.body.length
  pos : x.f ≤ j
  fin : j ≤ s.length
  der : Der g (r.body.take x.d) (part s x.f j)
  ctx : Ctx g s x.f r.head
theorem take_at {α : Type} {l : List α} {k : Nat} {x : α} (h : l[k]? = some x) : l.take (k + 1) = l.take k ++ [x] := by
  obtain ⟨hk, rfl⟩ := List.getElem?_eq_some_iff.1 h
  exact List.take_succ_eq_append_getElem hk
theorem drop_at {α : Type} {l : List α} {k : Nat} {x : α} (h : l[k]? = some x) : l.drop k = x :: l.drop (k + 1) := by
  obtain ⟨hk, rfl⟩ := List.getElem?_eq_some_iff.1 h
  exact List.drop_eq_getElem_cons hk
theorem It.good {g : Gr} (ok : ∀ r, r ∈ g.rules → 0 ≤ r.head) {s : List Int} {j : Nat} {x : Im} (h : It g s j x) : ∃ r, Good g s j x r := by
  induction h with
  | start k r hk hr hw => exact ⟨r, hk, hw, Nat.zero_le _, Nat.le_refl _, Nat.zero_le _, by rw [part_self]; exact .nil, [], fun u hu => by rw [hr] at hu; simpa using hu⟩
  | pred j x r y k q _ hr hy h0 hk hq hw ih =>
    obtain ⟨r', g1⟩ := ih
    have e : r' = r := by have := g1.rule; rw [hr] at this; injection this with this; exact this.symm
    subst e
    obtain ⟨v, hv⟩ := g1.ctx
    obtain ⟨w, hw2⟩ := works_some ok (l := r'.body.drop (x.d + 1)) fun z hz => g1.works z (List.mem_of_mem_drop hz)
    refine ⟨q, hk, hw, Nat.zero_le _, Nat.le_refl _, g1.fin, by rw [part_self]; exact .nil, w ++ v, fun u hu => ?_⟩
    have hy2 : -1 - q.head = y := by omega
    rw [hy2] at hu
    have hb : Der g r'.body (part s x.f j ++ (u ++ w)) := by
      have := g1.der.app (hu.app hw2)
      rwa [List.singleton_append, ← drop_at hy, List.take_append_drop] at this
    have hm := List.mem_of_getElem? hr
    have h2 := hv _ (Der.one hm (by have := ok r' hm; omega) (by omega) hb)
    have e2 : s.take x.f ++ ((part s x.f j ++ (u ++ w)) ++ v) = s.take j ++ (u ++ (w ++ v)) := by
      rw [← part_zero, ← part_zero, ← part_app (Nat.zero_le _) g1.pos]
      simp only [List.append_assoc]
    rwa [e2] at h2
  | scan j x r t _ hr ht h0 hs ih =>
    obtain ⟨r', g1⟩ := ih
    have e : r' = r := by have := g1.rule; rw [hr] at this; injection this with this; exact this.symm
    subst e
    refine ⟨r', hr, g1.works, (List.getElem?_eq_some_iff.1 ht).1, Nat.le_succ_of_le g1.pos, (List.getElem?_eq_some_iff.1 hs).1, ?_, g1.ctx⟩
    show Der g (r'.body.take (x.d + 1)) (part s x.f (j + 1))
    rw [take_at ht, part_succ g1.pos hs]
    exact g1.der.app (.term t [] [] h0 .nil)
  | comp j x r y q _ hr hd _ hq hy ih1 ih2 =>
    obtain ⟨r', g1⟩ := ih1
    obtain ⟨q', g2⟩ := ih2
    have e : r' = r := by have := g1.rule; rw [hr] at this; injection this with this; exact this.symm
    subst e
    have e2 : q' = q := by have := g2.rule; rw [hq] at this; injection this with this; exact this.symm
    subst e2
    refine ⟨q', hq, g2.works, (List.getElem?_eq_some_iff.1 hy).1, Nat.le_trans g2.pos g1.pos, g1.fin, ?_, g2.ctx⟩
    show Der g (q'.body.take (y.d + 1)) (part s y.f j)
    rw [take_at hy, ← part_app g2.pos g1.pos]
    have hm := List.mem_of_getElem? hr
    have hb := g1.der
    rw [hd, List.take_length] at hb
    exact g2.der.app (Der.one hm (by have := ok r' hm; omega) (by omega) hb)
/-- what an item derives is read -/
theorem It.read {g : Gr} {s l u : List Int} (hd : Der g l u) : ∀ {j : Nat} {x : Im} {r : Rl} {l2 : List Int}, It g s j x → g.rules[x.k]? = some r → r.body.drop x.d = l ++ l2 → part s j (j + u.length) = u → It g s (j + u.length) ⟨x.k, x.d + l.length, x.f⟩ := by
  induction hd with
  | nil => intro j x r l2 hi _ _ _; exact hi
  | term a l s1 h0 _ ih =>
    intro j x r l2 hi hr hb hp
    have ha : r.body[x.d]? = some a := by rw [← List.head?_drop, hb]; rfl
    have hs : s[j]? = some a := by
      have h1 : (part s j (j + (a :: s1).length))[0]? = some a := by rw [hp]; rfl
      unfold part at h1
      rw [List.getElem?_take_of_lt (by simp), List.getElem?_drop] at h1
      exact h1
    have h1 := It.scan j x r a hi hr ha h0 hs
    have h2 := ih (j := j + 1) (x := ⟨x.k, x.d + 1, x.f⟩) (l2 := l2) h1 hr (by show r.body.drop (x.d + 1) = _; rw [← List.tail_drop, hb]; rfl) (by
      have e := part_app (s := s) (a := j) (b := j + 1) (c := j + (a :: s1).length) (Nat.le_succ j) (by simp)
      rw [part_succ (Nat.le_refl j) hs, part_self, hp] at e
      simp only [List.nil_append, List.singleton_append, List.cons.injEq, true_and] at e
      rw [show j + 1 + s1.length = j + (a :: s1).length by simp; omega]
      exact e)
    have e3 : j + 1 + s1.length = j + (a :: s1).length := by simp; omega
    have e4 : x.d + 1 + l.length = x.d + (a :: l).length := by simp; omega
    rw [e3] at h2
    show It g s _ ⟨x.k, x.d + (a :: l).length, x.f⟩
    rw [← e4]
    exact h2
  | nont q y l s1 t1 hq h0 hy hqb _ ih1 ih2 =>
    intro j x r l2 hi hr hb hp
    have ha : r.body[x.d]? = some y := by rw [← List.head?_drop, hb]; rfl
    obtain ⟨k, hk⟩ := List.getElem?_of_mem hq
    have hp1 := It.pred j x r y k q hi hr ha h0 hk hy (works_der hqb)
    have e := part_app (s := s) (a := j) (b := j + s1.length) (c := j + (s1 ++ t1).length) (by omega) (by rw [List.length_append]; omega)
    rw [hp] at e
    have hlen : (part s j (j + s1.length)).length = s1.length := by
      have h1 := congrArg List.length hp
      unfold part at h1 ⊢
      rw [List.length_take, List.length_drop] at h1 ⊢
      rw [List.length_append] at h1
      omega
    obtain ⟨e1, e2⟩ := List.append_inj e hlen
    have h1 := ih1 (j := j) (x := ⟨k, 0, j⟩) (r := q) (l2 := []) hp1 hk (by rw [List.append_nil]; rfl) e1
    have h2 := It.comp (j + s1.length) _ q x r h1 hk (by show 0 + q.body.length = _; omega) hi hr (by rw [ha]; congr 1; omega)
    have h3 := ih2 (j := j + s1.length) (x := ⟨x.k, x.d + 1, x.f⟩) (r := r) (l2 := l2) h2 hr (by show r.body.drop (x.d + 1) = _; rw [← List.tail_drop, hb]; rfl) (by rw [show j + s1.length + t1.length = j + (s1 ++ t1).length by rw [List.length_append]; omega]; exact e2)
    have e3 : j + s1.length + t1.length = j + (s1 ++ t1).length := by rw [List.length_append]; omega
    have e4 : x.d + 1 + l.length = x.d + (y :: l).length := by simp; omega
    rw [e3] at h3
    show It g s _ ⟨x.k, x.d + (y :: l).length, x.f⟩
    rw [← e4]
    exact h3
def Sent (g : Gr) (s : List Int) : Prop := Der g [-1 - g.start] s
def Via (g : Gr) (s : List Int) : Prop := ∃ t, Sent g (s ++ t)
theorem sent_iff {g : Gr} (ok : ∀ r, r ∈ g.rules → 0 ≤ r.head) (hst : 0 ≤ g.start) {s : List Int} : (∃ x r, It g s s.length x ∧ g.rules[x.k]? = some r ∧ x.f = 0 ∧ r.head = g.start ∧ x.d = r.body.length) ↔ Sent g s := by
  constructor
  · rintro ⟨x, r, hi, hr, hf, hh, hd⟩
    obtain ⟨r', g1⟩ := hi.good ok
    have e : r' = r := by have := g1.rule; rw [hr] at this; injection this with this; exact this.symm
    subst e
    have hb := g1.der
    rw [hd, List.take_length, hf, part_zero, List.take_length] at hb
    exact Der.one (List.mem_of_getElem? hr) (by omega) (by omega) hb
  · intro h
    obtain ⟨r, hr, hh, hb⟩ := Der.of_one h (by omega)
    obtain ⟨k, hk⟩ := List.getElem?_of_mem hr
    have h0 := It.start (s := s) k r hk (by omega) (works_der hb)
    have h1 := It.read hb (l2 := []) h0 hk (by rw [List.append_nil]; rfl) (by rw [Nat.zero_add, part_zero, List.take_length])
    rw [Nat.zero_add] at h1
    exact ⟨_, r, h1, hk, rfl, by omega, by show 0 + r.body.length = _; omega⟩
/-- what goes beyond the end leaves an item there -/
theorem It.view {g : Gr} {s l u : List Int} (hd : Der g l u) : ∀ {j : Nat} {x : Im} {r : Rl} {l2 w : List Int}, It g s j x → g.rules[x.k]? = some r → r.body.drop x.d = l ++ l2 → j ≤ s.length → s.drop j ++ w = u → ∃ y, It g s s.length y := by
  induction hd with
  | nil =>
    intro j x r l2 w hi _ _ hj hu
    have h1 := (List.append_eq_nil_iff.1 hu).1
    have h2 := congrArg List.length h1
    rw [List.length_drop] at h2
    have e : j = s.length := by have : (([] : List Int)).length = 0 := rfl; omega
    exact ⟨x, e ▸ hi⟩
  | term a l s1 h0 _ ih =>
    intro j x r l2 w hi hr hb hj hu
    by_cases e : j = s.length
    · exact ⟨x, e ▸ hi⟩
    · have hlt : j < s.length := by omega
      have ha : r.body[x.d]? = some a := by rw [← List.head?_drop, hb]; rfl
      rw [List.drop_eq_getElem_cons hlt, List.cons_append] at hu
      injection hu with hu1 hu2
      have hs : s[j]? = some a := by rw [List.getElem?_eq_getElem hlt, hu1]
      exact ih (j := j + 1) (x := ⟨x.k, x.d + 1, x.f⟩) (l2 := l2) (It.scan j x r a hi hr ha h0 hs) hr (by show r.body.drop (x.d + 1) = _; rw [← List.tail_drop, hb]; rfl) hlt hu2
  | nont q y l s1 t1 hq h0 hy hqb _ ih1 ih2 =>
    intro j x r l2 w hi hr hb hj hu
    have ha : r.body[x.d]? = some y := by rw [← List.head?_drop, hb]; rfl
    obtain ⟨k, hk⟩ := List.getElem?_of_mem hq
    have hp1 := It.pred j x r y k q hi hr ha h0 hk hy (works_der hqb)
    by_cases hlen : (s.drop j).length ≤ s1.length
    · obtain ⟨w1, hw1, _⟩ : ∃ w1, s1 = s.drop j ++ w1 ∧ w = w1 ++ t1 := by
        rcases List.append_eq_append_iff.1 hu with ⟨z, e1, e2⟩ | ⟨z, e1, e2⟩
        · exact ⟨z, e1, e2⟩
        · have hz : z = [] := by
            have := congrArg List.length e1
            rw [List.length_append] at this
            exact List.eq_nil_of_length_eq_zero (by omega)
          subst hz
          exact ⟨[], by rw [List.append_nil] at e1 ⊢; exact e1.symm, by simpa using e2.symm⟩
      exact ih1 (j := j) (x := ⟨k, 0, j⟩) (r := q) (l2 := []) (w := w1) hp1 hk (by rw [List.append_nil]; rfl) hj hw1.symm
    · obtain ⟨z, hz1, hz2⟩ : ∃ z, s.drop j = s1 ++ z ∧ t1 = z ++ w := by
        rcases List.append_eq_append_iff.1 hu with ⟨z, e1, e2⟩ | ⟨z, e1, e2⟩
        · have := congrArg List.length e1
          rw [List.length_append] at this
          omega
        · exact ⟨z, e1, e2⟩
      have e1 : part s j (j + s1.length) = s1 := by
        unfold part
        rw [hz1, show j + s1.length - j = s1.length by omega, List.take_left]
      have h1 := It.read hqb (j := j) (x := ⟨k, 0, j⟩) (r := q) (l2 := []) hp1 hk (by rw [List.append_nil]; rfl) e1
      have h2 := It.comp (j + s1.length) _ q x r h1 hk (by show 0 + q.body.length = _; omega) hi hr (by rw [ha]; congr 1; omega)
      have hl : s1.length ≤ s.length - j := by rw [List.length_drop] at hlen; omega
      exact ih2 (j := j + s1.length) (x := ⟨x.k, x.d + 1, x.f⟩) (r := r) (l2 := l2) (w := w) h2 hr (by show r.body.drop (x.d + 1) = _; rw [← List.tail_drop, hb]; rfl) (by omega) (by
        rw [hz2, ← List.drop_drop, hz1, List.drop_left])
theorem via_iff {g : Gr} (ok : ∀ r, r ∈ g.rules → 0 ≤ r.head) (hst : 0 ≤ g.start) {s : List Int} : (∃ x, It g s s.length x) ↔ Via g s := by
  constructor
  · rintro ⟨x, hi⟩
    obtain ⟨r, g1⟩ := hi.good ok
    obtain ⟨v, hv⟩ := g1.ctx
    obtain ⟨w, hw⟩ := works_some ok (l := r.body.drop x.d) fun z hz => g1.works z (List.mem_of_mem_drop hz)
    have hb : Der g r.body (part s x.f s.length ++ w) := by
      have := g1.der.app hw
      rwa [List.take_append_drop] at this
    have hm := List.mem_of_getElem? g1.rule
    have h2 := hv _ (Der.one hm (by have := ok r hm; omega) (by omega) hb)
    refine ⟨w ++ v, ?_⟩
    have e : s.take x.f ++ ((part s x.f s.length ++ w) ++ v) = s ++ (w ++ v) := by
      rw [← part_zero]
      simp only [← List.append_assoc]
      rw [part_app (Nat.zero_le _) g1.pos, part_zero, List.take_length]
    rw [e] at h2
    exact h2
  · rintro ⟨t, h⟩
    obtain ⟨r, hr, hh, hb⟩ := Der.of_one h (by omega)
    obtain ⟨k, hk⟩ := List.getElem?_of_mem hr
    exact It.view hb (l2 := []) (w := t) (It.start (s := s) k r hk (by omega) (works_der hb)) hk (by rw [List.append_nil]; rfl) (Nat.zero_le _) rfl
theorem It.ext {g : Gr} (ok : ∀ r, r ∈ g.rules → 0 ≤ r.head) {s s' : List Int} {m : Nat} (hs : ∀ i, i < m → s'[i]? = s[i]?) {j : Nat} {x : Im} (h : It g s j x) : j ≤ m → It g s' j x := by
  induction h with
  | start k r hk hr hw => exact fun _ => .start k r hk hr hw
  | pred j x r y k q _ hr hy h0 hk hq hw ih => exact fun hj => .pred j x r y k q (ih hj) hr hy h0 hk hq hw
  | scan j x r t _ hr ht h0 hst ih => exact fun hj => .scan j x r t (ih (by omega)) hr ht h0 (by rw [hs j (by omega)]; exact hst)
  | comp j x r y q hx hr hd _ hq hy ih1 ih2 =>
    intro hj
    obtain ⟨_, g1⟩ := hx.good ok
    exact .comp j x r y q (ih1 hj) hr hd (ih2 (Nat.le_trans g1.pos hj)) hq hy
theorem It.last {g : Gr} {s : List Int} {j n : Nat} {x : Im} (h : It g s j x) : j = n + 1 → ∃ y r t, It g s n y ∧ g.rules[y.k]? = some r ∧ r.body[y.d]? = some t ∧ 0 ≤ t ∧ s[n]? = some t := by
  induction h with
  | start k r hk hr hw => intro h; omega
  | pred j x r y k q _ hr hy h0 hk hq hw ih => exact ih
  | scan j x r t hi hr ht h0 hst _ =>
    intro hj
    obtain rfl : j = n := by omega
    exact ⟨x, r, t, hi, hr, ht, h0, hst⟩
  | comp j x r y q _ hr hd _ hq hy ih1 _ => exact ih1
/-- the terminals that may follow -/
theorem exp_iff {g : Gr} (ok : ∀ r, r ∈ g.rules → 0 ≤ r.head) (hst : 0 ≤ g.start) {s : List Int} {t : Int} (h0 : 0 ≤ t) : (∃ x r, It g s s.length x ∧ g.rules[x.k]? = some r ∧ r.body[x.d]? = some t) ↔ Via g (s ++ [t]) := by
  have hlast : (s ++ [t])[s.length]? = some t := by rw [List.getElem?_append_right (Nat.le_refl _), Nat.sub_self]; rfl
  have hpre : ∀ i, i < s.length → (s ++ [t])[i]? = s[i]? := fun i hi => List.getElem?_append_left hi
  have hlen : (s ++ [t]).length = s.length + 1 := by simp
  rw [← via_iff ok hst, hlen]
  constructor
  · rintro ⟨x, r, hi, hr, ht⟩
    exact ⟨_, It.scan _ x r t (It.ext ok hpre hi (Nat.le_refl _)) hr ht h0 hlast⟩
  · rintro ⟨x, hi⟩
    obtain ⟨y, r, t', h1, h2, h3, _, h5⟩ := It.last hi rfl
    rw [hlast] at h5
    injection h5 with h5
    subst h5
    exact ⟨y, r, It.ext ok (fun i hi => (hpre i hi).symm) h1 (Nat.le_refl _), h2, h3⟩
theorem sent_via {g : Gr} {s : List Int} (h : Sent g s) : Via g s := ⟨[], by rw [List.append_nil]; exact h⟩
theorem via_take {g : Gr} {s : List Int} (h : Via g s) (i : Nat) : Via g (s.take i) := by
  obtain ⟨t, ht⟩ := h
  exact ⟨s.drop i ++ t, by rw [← List.append_assoc, List.take_append_drop]; exact ht⟩
theorem der_terms {g : Gr} {l s : List Int} (h : Der g l s) : ∀ t, t ∈ s → 0 ≤ t := by
  induction h with
  | nil => exact fun t ht => absurd ht List.not_mem_nil
  | term a l s h0 _ ih =>
    intro t ht
    rcases List.mem_cons.1 ht with rfl | ht
    · exact h0
    · exact ih t ht
  | nont r x l s t hr h0 hx _ _ ih1 ih2 =>
    intro u hu
    exact (List.mem_append.1 hu).elim (ih1 u) (ih2 u)
theorem der_range {g : Gr} {n : Int} (hg : ∀ r, r ∈ g.rules → ∀ x, x ∈ r.body → x < n) {l s : List Int} (h : Der g l s) : (∀ x, x ∈ l → x < n) → ∀ t, t ∈ s → t < n := by
  induction h with
  | nil => exact fun _ t ht => absurd ht List.not_mem_nil
  | term a l s h0 _ ih =>
    intro hl t ht
    rcases List.mem_cons.1 ht with rfl | ht
    · exact hl _ (List.mem_cons_self ..)
    · exact ih (fun x hx => hl x (List.mem_cons_of_mem _ hx)) t ht
  | nont r x l s t hr h0 hx _ _ ih1 ih2 =>
    intro hl u hu
    exact (List.mem_append.1 hu).elim (ih1 (hg r hr) u) (ih2 (fun x hx => hl x (List.mem_cons_of_mem _ hx)) u)
/-- a viable sequence is a sentence or goes on -/
theorem via_on {g : Gr} {s : List Int} (h : Via g s) (hn : ¬ Sent g s) : ∃ t, 0 ≤ t ∧ Via g (s ++ [t]) := by
  obtain ⟨u, hu⟩ := h
  cases u with
  | nil => rw [List.append_nil] at hu; exact absurd hu hn
  | cons t u =>
    refine ⟨t, der_terms hu t (by simp), u, ?_⟩
    rw [List.append_assoc]
    exact hu
end Go.Proofs.Rec
namespace Go.Proofs.Rec
open Go.Proofs.Ana
abbrev T3 := Nat → Nat → Nat → Bool
abbrev T2 := Nat → Nat → Bool
/-- a body over a table -/
def BD (d : T3) (s : List Int) : List Int → Nat → Nat → Prop
  | [], i, k => i = k
  | x :: l, i, k => (0 ≤ x ∧ i < k ∧ s[i]? = some x ∧ BD d s l (i + 1) k) ∨ (x < 0 ∧ ∃ m, i ≤ m ∧ m ≤ k ∧ d (nt x) i m = true ∧ BD d s l m k)
def SoundD (g : Gr) (s : List Int) (d : T3) : Prop := ∀ A i k, d A i k = true → i ≤ k ∧ k ≤ s.length ∧ Der g [-1 - (A : Int)] (part s i k)
def FullD (g : Gr) (s : List Int) (d : T3) : Prop := ∀ r, r ∈ g.rules → ∀ i k, i ≤ k → k ≤ s.length → BD d s r.body i k → d r.head.toNat i k = true
theorem bd_der {g : Gr} {s : List Int} {d : T3} (hs : SoundD g s d) : ∀ {l : List Int} {i k : Nat}, k ≤ s.length → BD d s l i k → i ≤ k ∧ Der g l (part s i k)
  | [], i, k, _, h => by
    obtain rfl : i = k := h
    exact ⟨Nat.le_refl _, by rw [part_self]; exact .nil⟩
  | x :: l, i, k, hk, h => by
    rcases h with ⟨h0, h1, h2, h3⟩ | ⟨h0, m, h1, h2, h3, h4⟩
    · obtain ⟨g1, g2⟩ := bd_der hs hk h3
      refine ⟨by omega, ?_⟩
      rw [← part_app (Nat.le_succ i) g1, part_succ (Nat.le_refl i) h2, part_self]
      exact .term x l _ h0 g2
    · obtain ⟨g1, g2⟩ := bd_der hs hk h4
      obtain ⟨_, _, g3⟩ := hs _ _ _ h3
      rw [show -1 - ((nt x : Nat) : Int) = x by rw [nt_cast h0]; omega] at g3
      refine ⟨by omega, ?_⟩
      rw [← part_app h1 g1]
      exact g3.app g2
theorem part_len {s : List Int} {i k : Nat} (h1 : i ≤ k) (h2 : k ≤ s.length) : (part s i k).length = k - i := by unfold part; rw [List.length_take, List.length_drop]; omega
theorem der_bd {g : Gr} {s l u : List Int} {d : T3} (hf : FullD g s d) (h : Der g l u) : ∀ {i : Nat}, i + u.length ≤ s.length → part s i (i + u.length) = u → BD d s l i (i + u.length) := by
  induction h with
  | nil => intro i _ _; rfl
  | term a l s1 h0 _ ih =>
    intro i hle hp
    have hl : (a :: s1).length = s1.length + 1 := rfl
    have hs : s[i]? = some a := by
      have h1 : (part s i (i + (a :: s1).length))[0]? = some a := by rw [hp]; rfl
      unfold part at h1
      rw [List.getElem?_take_of_lt (by simp), List.getElem?_drop] at h1
      exact h1
    refine .inl ⟨h0, by omega, hs, ?_⟩
    have e := part_app (s := s) (a := i) (b := i + 1) (c := i + (a :: s1).length) (Nat.le_succ i) (by omega)
    rw [part_succ (Nat.le_refl i) hs, part_self, hp] at e
    simp only [List.nil_append, List.singleton_append, List.cons.injEq, true_and] at e
    have e3 : i + 1 + s1.length = i + (a :: s1).length := by omega
    have := ih (i := i + 1) (by omega) (by rw [e3]; exact e)
    rwa [e3] at this
  | nont r x l s1 t1 hr h0 hx _ _ ih1 ih2 =>
    intro i hle hp
    have hl : (s1 ++ t1).length = s1.length + t1.length := List.length_append
    have e := part_app (s := s) (a := i) (b := i + s1.length) (c := i + (s1 ++ t1).length) (by omega) (by omega)
    rw [hp] at e
    obtain ⟨e1, e2⟩ := List.append_inj e (by rw [part_len (by omega) (by omega)]; omega)
    have b1 := ih1 (i := i) (by omega) e1
    have b2 := ih2 (i := i + s1.length) (by omega) (by rw [show i + s1.length + t1.length = i + (s1 ++ t1).length by omega]; exact e2)
    have hd := hf r hr i (i + s1.length) (by omega) (by omega) b1
    refine .inr ⟨h0, i + s1.length, by omega, by omega, ?_, ?_⟩
    · rw [show nt x = r.head.toNat by unfold nt; omega]; exact hd
    · rwa [show i + s1.length + t1.length = i + (s1 ++ t1).length by omega] at b2
/-- the table holds what is derived -/
theorem derives_iff {g : Gr} {s : List Int} {d : T3} (hs : SoundD g s d) (hf : FullD g s d) {A i k : Nat} (h1 : i ≤ k) (h2 : k ≤ s.length) : d A i k = true ↔ Der g [-1 - (A : Int)] (part s i k) := by
  refine ⟨fun h => (hs A i k h).2.2, fun h => ?_⟩
  have hl := part_len h1 h2
  have hb := der_bd hf h (i := i) (by omega) (by rw [hl, show i + (k - i) = k by omega])
  rw [hl, show i + (k - i) = k by omega] at hb
  rcases hb with ⟨h0, _⟩ | ⟨_, m, _, _, hd, he⟩
  · omega
  · obtain rfl : m = k := he
    rwa [show nt (-1 - (A : Int)) = A by unfold nt; omega] at hd
theorem bd_mono {d d' : T3} (h : ∀ A i k, d A i k = true → d' A i k = true) {s : List Int} : ∀ {l : List Int} {i k : Nat}, BD d s l i k → BD d' s l i k
  | [], _, _, hb => hb
  | _ :: _, _, _, .inl ⟨h0, h1, h2, h3⟩ => .inl ⟨h0, h1, h2, bd_mono h h3⟩
  | _ :: _, _, _, .inr ⟨h0, m, h1, h2, h3, h4⟩ => .inr ⟨h0, m, h1, h2, h _ _ _ h3, bd_mono h h4⟩
/-- symbols begin with what is left of s -/
def BE (d : T3) (b : T2) (s : List Int) : List Int → Nat → Prop
  | [], i => i = s.length
  | x :: l, i => i = s.length ∨ (0 ≤ x ∧ s[i]? = some x ∧ BE d b s l (i + 1)) ∨ (x < 0 ∧ (b (nt x) i = true ∨ ∃ m, i ≤ m ∧ m ≤ s.length ∧ d (nt x) i m = true ∧ BE d b s l m))
def Beg (g : Gr) (s l : List Int) (i : Nat) : Prop := ∃ w, Der g l (s.drop i ++ w)
def SoundB (g : Gr) (s : List Int) (b : T2) : Prop := ∀ A i, b A i = true → i ≤ s.length ∧ Beg g s [-1 - (A : Int)] i
def FullB (g : Gr) (s : List Int) (d : T3) (b : T2) : Prop := ∀ r, r ∈ g.rules → ∀ i, i ≤ s.length → BE d b s r.body i → b r.head.toNat i = true
theorem be_beg {g : Gr} (ok : ∀ r, r ∈ g.rules → 0 ≤ r.head) {s : List Int} {d : T3} {b : T2} (hd : SoundD g s d) (hb : SoundB g s b) : ∀ {l : List Int} {i : Nat}, Works g l → i ≤ s.length → BE d b s l i → Beg g s l i
  | [], i, _, _, h => by
    obtain rfl : i = s.length := h
    exact ⟨[], by rw [List.drop_length]; exact .nil⟩
  | x :: l, i, hw, hi, h => by
    have hw2 : Works g l := fun y hy => hw y (List.mem_cons_of_mem _ hy)
    rcases h with rfl | ⟨h0, h1, h2⟩ | ⟨h0, h1 | ⟨m, h1, h2, h3, h4⟩⟩
    · obtain ⟨w, hw⟩ := works_some ok hw
      exact ⟨w, by rw [List.drop_length]; exact hw⟩
    · obtain ⟨hlt, hx⟩ := List.getElem?_eq_some_iff.1 h1
      obtain ⟨w, hw⟩ := be_beg ok hd hb hw2 (by omega) h2
      refine ⟨w, ?_⟩
      rw [List.drop_eq_getElem_cons hlt, hx]
      exact .term x l _ h0 hw
    · obtain ⟨_, w, hw1⟩ := hb _ _ h1
      rw [show -1 - ((nt x : Nat) : Int) = x by rw [nt_cast h0]; omega] at hw1
      obtain ⟨v, hv⟩ := works_some ok hw2
      exact ⟨w ++ v, by rw [← List.append_assoc]; exact hw1.app hv⟩
    · obtain ⟨_, _, g3⟩ := hd _ _ _ h3
      rw [show -1 - ((nt x : Nat) : Int) = x by rw [nt_cast h0]; omega] at g3
      obtain ⟨w, hw1⟩ := be_beg ok hd hb hw2 h2 h4
      refine ⟨w, ?_⟩
      have e : s.drop i = part s i m ++ s.drop m := by
        have := part_app (s := s) h1 h2
        rw [part_end, part_end] at this
        exact this.symm
      rw [e, List.append_assoc]
      exact g3.app hw1
theorem beg_be {g : Gr} {s l u : List Int} {d : T3} {b : T2} (hd : FullD g s d) (hb : FullB g s d b) (h : Der g l u) : ∀ {i : Nat} {w : List Int}, i ≤ s.length → s.drop i ++ w = u → BE d b s l i := by
  induction h with
  | nil =>
    intro i w hi hu
    have h1 := (List.append_eq_nil_iff.1 hu).1
    have h2 := congrArg List.length h1
    rw [List.length_drop] at h2
    have : (([] : List Int)).length = 0 := rfl
    show i = s.length
    omega
  | term a l s1 h0 _ ih =>
    intro i w hi hu
    by_cases e : i = s.length
    · exact .inl e
    · have hlt : i < s.length := by omega
      rw [List.drop_eq_getElem_cons hlt, List.cons_append] at hu
      injection hu with hu1 hu2
      exact .inr (.inl ⟨h0, by rw [List.getElem?_eq_getElem hlt, hu1], ih hlt hu2⟩)
  | nont r x l s1 t1 hr h0 hx hrb _ ih1 ih2 =>
    intro i w hi hu
    have hnt : nt x = r.head.toNat := by unfold nt; omega
    by_cases hlen : (s.drop i).length ≤ s1.length
    · obtain ⟨w1, hw1⟩ : ∃ w1, s1 = s.drop i ++ w1 := by
        rcases List.append_eq_append_iff.1 hu with ⟨z, e1, _⟩ | ⟨z, e1, _⟩
        · exact ⟨z, e1⟩
        · have hz : z = [] := by
            have := congrArg List.length e1
            rw [List.length_append] at this
            exact List.eq_nil_of_length_eq_zero (by omega)
          subst hz
          exact ⟨[], by rw [List.append_nil] at e1 ⊢; exact e1.symm⟩
      exact .inr (.inr ⟨h0, .inl (by rw [hnt]; exact hb r hr i hi (ih1 hi hw1.symm))⟩)
    · obtain ⟨z, hz1, hz2⟩ : ∃ z, s.drop i = s1 ++ z ∧ t1 = z ++ w := by
        rcases List.append_eq_append_iff.1 hu with ⟨z, e1, e2⟩ | ⟨z, e1, e2⟩
        · have := congrArg List.length e1
          rw [List.length_append] at this
          omega
        · exact ⟨z, e1, e2⟩
      have hl : s1.length ≤ s.length - i := by rw [List.length_drop] at hlen; omega
      have e1 : part s i (i + s1.length) = s1 := by
        unfold part
        rw [hz1, show i + s1.length - i = s1.length by omega, List.take_left]
      have hdd := hd r hr i (i + s1.length) (by omega) (by omega) (der_bd hd hrb (by omega) e1)
      exact .inr (.inr ⟨h0, .inr ⟨i + s1.length, by omega, by omega, by rw [hnt]; exact hdd, ih2 (by omega) (by rw [hz2, ← List.drop_drop, hz1, List.drop_left])⟩⟩)
theorem beg_iff {g : Gr} {s : List Int} {d : T3} {b : T2} (hf : FullD g s d) (hb : SoundB g s b) (hfb : FullB g s d b) {A i : Nat} (hi : i ≤ s.length) : b A i = true ↔ Beg g s [-1 - (A : Int)] i := by
  refine ⟨fun h => (hb A i h).2, fun ⟨w, hw⟩ => ?_⟩
  obtain ⟨r, hr, hh, hrb⟩ := Der.of_one hw (by omega)
  have := hfb r hr i hi (beg_be hf hfb hrb hi rfl)
  rwa [show r.head.toNat = A by omega] at this
end Go.Proofs.Rec
namespace Go.Proofs.Rec
open Go.Proofs.Ana
/-- the new number of nonterminal i -/
def num (U : Nat → Bool) (i : Nat) : Nat := ((List.range i).filter U).length
theorem num_succ (U : Nat → Bool) (i : Nat) : num U (i + 1) = num U i + (if U i = true then 1 else 0) := by
  unfold num
  rw [List.range_succ, List.filter_append, List.length_append, List.filter_cons, List.filter_nil]
  by_cases h : U i = true
  · rw [if_pos h, if_pos h]; rfl
  · rw [if_neg h, if_neg h]; rfl
theorem num_le {U : Nat → Bool} {i j : Nat} (h : i ≤ j) : num U i ≤ num U j := by
  induction h with
  | refl => exact Nat.le_refl _
  | step _ ih => rw [num_succ]; omega
theorem num_lt {U : Nat → Bool} {i j : Nat} (h : i < j) (hu : U i = true) : num U i < num U j := by
  have h1 := num_succ U i
  rw [if_pos hu] at h1
  have h2 := num_le (U := U) (show i + 1 ≤ j from h)
  omega
theorem num_inj {U : Nat → Bool} {i j : Nat} (hi : U i = true) (hj : U j = true) (h : num U i = num U j) : i = j := by
  rcases Nat.lt_trichotomy i j with h1 | h1 | h1
  · have := num_lt h1 hi; omega
  · exact h1
  · have := num_lt h1 hj; omega
def ren (U : Nat → Bool) (x : Int) : Int := if x < 0 then -1 - ((num U (nt x) : Nat) : Int) else x
theorem ren_neg {U : Nat → Bool} {x : Int} (h : x < 0) : ren U x = -1 - ((num U (nt x) : Nat) : Int) := if_pos h
theorem ren_pos {U : Nat → Bool} {x : Int} (h : 0 ≤ x) : ren U x = x := if_neg (by omega)
theorem ren_sign {U : Nat → Bool} {x : Int} : ren U x < 0 ↔ x < 0 := by
  unfold ren
  by_cases h : x < 0
  · rw [if_pos h]; exact ⟨fun _ => h, fun _ => by omega⟩
  · rw [if_neg h]
def renR (U : Nat → Bool) (r : Rl) : Rl := { r with head := ((num U r.head.toNat : Nat) : Int), body := r.body.map (ren U) }
/-- which rules stay -/
def stays (U : Nat → Bool) (P : Nat → Bool) (r : Rl) : Bool := U r.head.toNat && r.body.all (fun x => decide (0 ≤ x) || P (nt x))
def red (g : Gr) (U P : Nat → Bool) : Gr := { g with n := num U g.n, start := ((num U g.start.toNat : Nat) : Int), rules := (g.rules.filter (stays U P)).map (renR U) }
/-- what the two sets are like -/
structure Useful (g : Gr) (U P : Nat → Bool) : Prop where
  prod : ∀ i, P i = true ↔ PN g true i
  start : U g.start.toNat = true
  closed : ∀ r, r ∈ g.rules → stays U P r = true → ∀ x, x ∈ r.body → x < 0 → U (nt x) = true
theorem stays_iff {g : Gr} {U P : Nat → Bool} (hP : ∀ i, P i = true ↔ PN g true i) {r : Rl} : stays U P r = true ↔ U r.head.toNat = true ∧ Works g r.body := by
  unfold stays Works
  rw [Bool.and_eq_true, List.all_eq_true]
  refine ⟨fun h => ⟨h.1, fun x hx h0 => ?_⟩, fun h => ⟨h.1, fun x hx => ?_⟩⟩
  · have := h.2 x hx
    rw [Bool.or_eq_true] at this
    rcases this with h1 | h1
    · have := of_decide_eq_true h1; omega
    · exact (hP _).1 h1
  · by_cases h0 : 0 ≤ x
    · simp [h0]
    · rw [Bool.or_eq_true]; exact .inr ((hP _).2 (h.2 x hx (by omega)))
def AllU (U : Nat → Bool) (l : List Int) : Prop := ∀ x, x ∈ l → x < 0 → U (nt x) = true
theorem der_red {g : Gr} {U P : Nat → Bool} (hu : Useful g U P) {l u : List Int} (h : Der g l u) : AllU U l → Der (red g U P) (l.map (ren U)) u := by
  induction h with
  | nil => exact fun _ => .nil
  | term a l s h0 _ ih =>
    intro hl
    rw [List.map_cons, ren_pos h0]
    exact .term a _ _ h0 (ih fun x hx => hl x (List.mem_cons_of_mem _ hx))
  | nont r x l s t hr h0 hx hb _ ih1 ih2 =>
    intro hl
    have hxu := hl x (List.mem_cons_self ..) h0
    have hnt : nt x = r.head.toNat := by unfold nt; omega
    have hst : stays U P r = true := (stays_iff hu.prod).2 ⟨by rw [← hnt]; exact hxu, works_der hb⟩
    rw [List.map_cons]
    refine .nont (renR U r) _ _ _ _ (List.mem_map.2 ⟨r, List.mem_filter.2 ⟨hr, hst⟩, rfl⟩) (ren_sign.2 h0) ?_ (ih1 (hu.closed r hr hst)) (ih2 fun y hy => hl y (List.mem_cons_of_mem _ hy))
    rw [ren_neg h0, hnt]
    show ((num U r.head.toNat : Nat) : Int) = _
    omega
theorem der_unred {g : Gr} (ok : ∀ r, r ∈ g.rules → 0 ≤ r.head) {U P : Nat → Bool} (hu : Useful g U P) {l' u : List Int} (h : Der (red g U P) l' u) : ∀ {l : List Int}, l' = l.map (ren U) → AllU U l → Der g l u := by
  induction h with
  | nil =>
    intro l hl _
    cases l with
    | nil => exact .nil
    | cons => cases hl
  | term a l1 s h0 _ ih =>
    intro l hl ha
    cases l with
    | nil => cases hl
    | cons x l =>
      rw [List.map_cons] at hl
      injection hl with hl1 hl2
      have hx : 0 ≤ x := by
        by_cases h : x < 0
        · have := (ren_sign (U := U)).2 h; omega
        · omega
      rw [ren_pos hx] at hl1
      subst hl1
      exact .term a _ _ h0 (ih hl2 fun y hy => ha y (List.mem_cons_of_mem _ hy))
  | nont r' x' l1 s t hr h0 hx _ _ ih1 ih2 =>
    intro l hl ha
    cases l with
    | nil => cases hl
    | cons x l =>
      rw [List.map_cons] at hl
      injection hl with hl1 hl2
      have hx0 : x < 0 := ren_sign.1 (hl1 ▸ h0)
      obtain ⟨r, hr1, rfl⟩ := List.mem_map.1 hr
      obtain ⟨hr2, hst⟩ := List.mem_filter.1 hr1
      have hxu := ha x (List.mem_cons_self ..) hx0
      rw [hl1, ren_neg hx0] at hx
      have hx : ((num U r.head.toNat : Nat) : Int) = -1 - (-1 - ((num U (nt x) : Nat) : Int)) := hx
      have he := num_inj ((stays_iff hu.prod).1 hst).1 hxu (by omega)
      have hh := ok r hr2
      exact .nont r x _ _ _ hr2 hx0 (by unfold nt at he; omega) (ih1 rfl (hu.closed r hr2 hst)) (ih2 hl2 fun y hy => ha y (List.mem_cons_of_mem _ hy))
theorem sent_red {g : Gr} (ok : ∀ r, r ∈ g.rules → 0 ≤ r.head) (hst : 0 ≤ g.start) {U P : Nat → Bool} (hu : Useful g U P) {s : List Int} : Sent (red g U P) s ↔ Sent g s := by
  have e : [-1 - g.start].map (ren U) = [-1 - (red g U P).start] := by
    rw [List.map_cons, List.map_nil, ren_neg (by omega), show nt (-1 - g.start) = g.start.toNat by unfold nt; omega]
    rfl
  have ha : AllU U [-1 - g.start] := fun x hx _ => by
    rw [List.mem_singleton.1 hx, show nt (-1 - g.start) = g.start.toNat by unfold nt; omega]
    exact hu.start
  unfold Sent
  rw [← e]
  exact ⟨fun h => der_unred ok hu h rfl ha, fun h => der_red hu h ha⟩
theorem via_red {g : Gr} (ok : ∀ r, r ∈ g.rules → 0 ≤ r.head) (hst : 0 ≤ g.start) {U P : Nat → Bool} (hu : Useful g U P) {s : List Int} : Via (red g U P) s ↔ Via g s := by
  unfold Via
  exact ⟨fun ⟨t, h⟩ => ⟨t, (sent_red ok hst hu).1 h⟩, fun ⟨t, h⟩ => ⟨t, (sent_red ok hst hu).2 h⟩⟩
/-- an unproductive start: no viable sequence -/
theorem via_empty {g : Gr} (hst : 0 ≤ g.start) (hn : ¬ PN g true g.start.toNat) (s : List Int) : ¬ Via g s := fun ⟨t, h⟩ => by
  have := works_der h (-1 - g.start) (List.mem_cons_self ..) (by omega)
  rw [show nt (-1 - g.start) = g.start.toNat by unfold nt; omega] at this
  exact hn this
/-- in the reduced grammar all works -/
theorem works_red {g : Gr} (ok : ∀ r, r ∈ g.rules → 0 ≤ r.head) {U P : Nat → Bool} (hu : Useful g U P) {r : Rl} (hr : r ∈ (red g U P).rules) : Works (red g U P) r.body := by
  obtain ⟨q, hq1, rfl⟩ := List.mem_map.1 hr
  obtain ⟨hq2, hst⟩ := List.mem_filter.1 hq1
  obtain ⟨w, hw⟩ := works_some ok ((stays_iff hu.prod).1 hst).2
  exact works_der (der_red hu hw (hu.closed q hq2 hst))
end Go.Proofs.Rec
namespace Go.Proofs.Rec
open Go.Proofs.Ana
def ne0 : Rl := ⟨0, [0, -1, 1], 0⟩
def ne1 : Rl := ⟨0, [], 0⟩
def neG : Gr := ⟨2, 1, 0, [ne0, ne1]⟩
theorem ne_mem {r : Rl} (h : r ∈ neG.rules) : r = ne0 ∨ r = ne1 := by
  unfold neG at h
  simp only [List.mem_cons, List.not_mem_nil, or_false] at h
  exact h
def anbm (n m : Nat) : List Int := List.replicate n 0 ++ List.replicate m 1
theorem anbm_succ (k : Nat) : anbm (k + 1) (k + 1) = (0 : Int) :: (anbm k k ++ [1]) := by
  unfold anbm
  rw [List.replicate_succ, List.replicate_succ', List.cons_append, List.append_assoc]
theorem ne_der_of : ∀ k, Der neG [-1] (anbm k k)
  | 0 => Der.one (r := ne1) (List.mem_cons_of_mem _ (List.mem_cons_self ..)) (by omega) rfl .nil
  | k + 1 => by
    rw [anbm_succ]
    refine Der.one (r := ne0) (List.mem_cons_self ..) (by omega) rfl ?_
    exact .term 0 _ _ (by omega) ((ne_der_of k).app (.term 1 _ _ (by omega) .nil))
theorem ne_of_der : ∀ (m : Nat) {u : List Int}, u.length ≤ m → Der neG [-1] u → ∃ k, u = anbm k k
  | m, u, hm, h => by
    obtain ⟨r, hr, _, hb⟩ := Der.of_one h (by omega)
    rcases ne_mem hr with rfl | rfl
    · cases hb with
      | term _ _ s _ hb =>
        obtain ⟨s1, s2, e, h1, h2⟩ := Der.split (l1 := [-1]) (l2 := [1]) hb
        cases h2 with
        | term _ _ s3 _ h3 =>
          cases h3
          subst e
          cases m with
          | zero => simp at hm
          | succ m =>
            obtain ⟨k, rfl⟩ := ne_of_der m (by simp at hm; omega) h1
            exact ⟨k + 1, (anbm_succ k).symm⟩
        | nont _ _ _ _ _ _ h0 => omega
      | nont _ _ _ _ _ _ h0 => omega
    · cases hb
      exact ⟨0, rfl⟩
theorem ne_sent {u : List Int} : Sent neG u ↔ ∃ k, u = anbm k k := ⟨fun h => ne_of_der _ (Nat.le_refl _) h, fun ⟨k, h⟩ => h ▸ ne_der_of k⟩
theorem anbm_count (n m : Nat) : (anbm n m).count 0 = n ∧ (anbm n m).count 1 = m := by
  unfold anbm
  rw [List.count_append, List.count_append, List.count_replicate, List.count_replicate, List.count_replicate, List.count_replicate]
  simp
theorem ne_sent_iff (n m : Nat) : Sent neG (anbm n m) ↔ n = m := by
  rw [ne_sent]
  refine ⟨fun ⟨k, h⟩ => ?_, fun h => ⟨n, by rw [← h]⟩⟩
  have h1 := anbm_count n m
  rw [h] at h1
  have h2 := anbm_count k k
  omega
theorem ne_via_iff (n m : Nat) : Via neG (anbm n m) ↔ m ≤ n := by
  constructor
  · rintro ⟨t, h⟩
    obtain ⟨k, hk⟩ := ne_sent.1 h
    by_cases hm : m = 0
    · omega
    · have h1 : m ≤ k := by
        have h2 := congrArg (List.count (1 : Int)) hk
        rw [List.count_append, (anbm_count n m).2, (anbm_count k k).2] at h2
        omega
      have h2 : k ≤ n := by
        apply Classical.byContradiction
        intro hn
        have e := congrArg (fun l : List Int => l[n]?) hk
        simp only [anbm] at e
        rw [List.append_assoc, List.getElem?_append_right (by simp), List.getElem?_append_left (l₁ := List.replicate k 0) (by simp; omega), List.length_replicate, Nat.sub_self, List.getElem?_append_left (by simp; omega)] at e
        rw [List.getElem?_replicate, List.getElem?_replicate, if_pos (by omega), if_pos (by omega)] at e
        injection e with e
        omega
      omega
  · intro h
    refine ⟨List.replicate (n - m) 1, ?_⟩
    have e : anbm n m ++ List.replicate (n - m) 1 = anbm n n := by
      unfold anbm
      rw [List.append_assoc, List.replicate_append_replicate]
      congr 2; omega
    rw [e]
    exact ne_sent.2 ⟨n, rfl⟩
end Go.Proofs.Rec
