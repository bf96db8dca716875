/- Earley's sets as lists: what is added, when a set is full; no program in sight; conditions: none. -/
import Derived.Test.YtncagpppmaehhaaRec
import Derived.Test.YtncagpppmaehhaaFxM
namespace Go.Proofs.Rec
open Go.Proofs.Ana Go.Fx
theorem nodup_lt : ∀ (N : Nat) (l : List Nat), l.Nodup → (∀ x, x ∈ l → x < N) → l.length ≤ N
  | 0, [], _, _ => Nat.le_refl _
  | 0, x :: l, _, h => absurd (h x (List.mem_cons_self ..)) (Nat.not_lt_zero _)
  | N + 1, l, hn, h => by
    by_cases hm : N ∈ l
    · have h1 := nodup_lt N (l.erase N) (hn.erase _) (fun x hx => by
        have hx' := (List.Nodup.mem_erase_iff hn).1 hx
        have := h x hx'.2
        have := hx'.1
        omega)
      rw [List.length_erase_of_mem hm] at h1
      omega
    · have h1 := nodup_lt N l hn (fun x hx => by
        have := h x hx
        have : x ≠ N := fun e => hm (e ▸ hx)
        omega)
      omega
theorem It.bounds {g : Gr} (ok : Ok2 g) {s : List Int} {j : Nat} {x : Im} (h : It g s j x) : x.k < 20 ∧ x.d ≤ 6 ∧ x.f ≤ j ∧ j ≤ s.length := by
  obtain ⟨r, g1⟩ := h.good ok.h0
  have h1 := (List.getElem?_eq_some_iff.1 g1.rule).1
  have h2 := ok.rl
  have h3 := ok.bl r (List.mem_of_getElem? g1.rule)
  have h4 := g1.dot
  exact ⟨by omega, by omega, g1.pos, g1.fin⟩
/-- items without repetition, all of them right -/
def IsSet (g : Gr) (s : List Int) (j : Nat) (es : List Im) : Prop := es.Nodup ∧ ∀ x, x ∈ es → It g s j x
def code (x : Im) : Nat := (x.k * 7 + x.d) * 41 + x.f
theorem code_inj {x y : Im} (h1 : x.d ≤ 6) (h2 : y.d ≤ 6) (h3 : x.f ≤ 40) (h4 : y.f ≤ 40) (h : code x = code y) : x = y := by
  unfold code at h
  cases x; cases y
  simp only at *
  have e1 : ∀ a b c d : Nat, b ≤ 40 → d ≤ 40 → a * 41 + b = c * 41 + d → a = c ∧ b = d := fun a b c d _ _ _ => by omega
  obtain ⟨h5, h6⟩ := e1 _ _ _ _ h3 h4 h
  have e2 : ∀ a b c d : Nat, b ≤ 6 → d ≤ 6 → a * 7 + b = c * 7 + d → a = c ∧ b = d := fun a b c d _ _ _ => by omega
  obtain ⟨h7, h8⟩ := e2 _ _ _ _ h1 h2 h5
  subst h6; subst h7; subst h8; rfl
theorem IsSet.len {g : Gr} (ok : Ok2 g) {s : List Int} (hs : s.length ≤ 40) {j : Nat} {es : List Im} (h : IsSet g s j es) : es.length ≤ 5740 := by
  have hb : ∀ x, x ∈ es → x.k < 20 ∧ x.d ≤ 6 ∧ x.f ≤ 40 := fun x hx => by
    have := (h.2 x hx).bounds ok
    omega
  have h1 : (es.map code).Nodup := by
    refine List.pairwise_map.2 ?_
    refine List.Pairwise.imp_of_mem ?_ h.1
    intro a b ha hb2 hne e
    exact hne (code_inj (hb a ha).2.1 (hb b hb2).2.1 (hb a ha).2.2 (hb b hb2).2.2 e)
  have h2 := nodup_lt 5740 _ h1 (fun n hn => by
    obtain ⟨x, hx, rfl⟩ := List.mem_map.1 hn
    have := hb x hx
    unfold code
    omega)
  rwa [List.length_map] at h2
/-- items of P have been added, all of them -/
structure Adds (P : Im → Prop) (es es' : List Im) : Prop where
  ext : ∃ e, es' = es ++ e
  nodup : es.Nodup → es'.Nodup
  only : ∀ x, x ∈ es' → x ∈ es ∨ P x
  all : ∀ x, P x → x ∈ es'
theorem Adds.none (es : List Im) {P : Im → Prop} (h : ∀ x, ¬ P x) : Adds P es es := ⟨⟨[], by simp⟩, id, fun _ h => .inl h, fun x hx => absurd hx (h x)⟩
theorem Adds.sub {P Q : Im → Prop} {es es' : List Im} (h : Adds P es es') (hpq : ∀ x, P x → Q x) (hqp : ∀ x, Q x → P x ∨ x ∈ es') : Adds Q es es' := ⟨h.ext, h.nodup, fun x hx => (h.only x hx).imp id (hpq x), fun x hx => (hqp x hx).elim (h.all x) id⟩
theorem nodup_ins {es : List Im} {x : Im} (h : es.Nodup) : (ins es x).Nodup := by
  unfold ins
  split
  · exact h
  · rename_i hn
    exact List.nodup_append.2 ⟨h, by simp, fun a ha b hb e => by rw [List.mem_singleton.1 hb] at e; exact hn (e ▸ ha)⟩
theorem ins_ext (es : List Im) (x : Im) : ∃ e, ins es x = es ++ e := by
  unfold ins
  split
  · exact ⟨[], by simp⟩
  · exact ⟨[x], rfl⟩
theorem ins_len (es : List Im) (x : Im) : (ins es x).length ≤ es.length + 1 := by
  unfold ins
  split
  · omega
  · simp
theorem Adds.step {P Q : Im → Prop} {es es' : List Im} {x : Im} (h : Adds P es es') (hx : Q x) (hpq : ∀ y, P y → Q y) (hqp : ∀ y, Q y → P y ∨ y = x) : Adds Q es (ins es' x) := by
  obtain ⟨e1, h1⟩ := h.ext
  obtain ⟨e2, h2⟩ := ins_ext es' x
  refine ⟨⟨e1 ++ e2, by rw [h2, h1, List.append_assoc]⟩, fun hn => nodup_ins (h.nodup hn), fun y hy => ?_, fun y hy => ?_⟩
  · rcases mem_ins.1 hy with hy | rfl
    · exact (h.only y hy).imp id (hpq y)
    · exact .inr hx
  · rcases hqp y hy with hy | rfl
    · exact mem_ins.2 (.inl (h.all y hy))
    · exact mem_ins.2 (.inr rfl)
theorem Adds.isSet {P : Im → Prop} {es es' : List Im} {g : Gr} {s : List Int} {j : Nat} (h : Adds P es es') (hi : IsSet g s j es) (hp : ∀ x, P x → It g s j x) : IsSet g s j es' := ⟨h.nodup hi.1, fun x hx => (h.only x hx).elim (hi.2 x) (hp x)⟩
theorem Adds.mem {P : Im → Prop} {es es' : List Im} (h : Adds P es es') {x : Im} (hx : x ∈ es) : x ∈ es' := by
  obtain ⟨e, rfl⟩ := h.ext
  exact List.mem_append.2 (.inl hx)
theorem Adds.len {P : Im → Prop} {es es' : List Im} (h : Adds P es es') : es.length ≤ es'.length := by
  obtain ⟨e, rfl⟩ := h.ext
  simp
theorem Adds.same {P : Im → Prop} {es es' : List Im} (h : Adds P es es') (hl : es'.length ≤ es.length) : es' = es := by
  obtain ⟨e, rfl⟩ := h.ext
  rw [List.length_append] at hl
  rw [List.eq_nil_of_length_eq_zero (by omega : e.length = 0), List.append_nil]
/-- beginnings of the rules of a nonterminal -/
def PredP (g : Gr) (j : Nat) (h : Int) (x : Im) : Prop := ∃ q, g.rules[x.k]? = some q ∧ q.head = h ∧ Works g q.body ∧ x.d = 0 ∧ x.f = j
/-- the items of a set that wait for a nonterminal, one on -/
def CompP (g : Gr) (orig : List Im) (h : Int) (x : Im) : Prop := ∃ y, y ∈ orig ∧ ∃ q, g.rules[y.k]? = some q ∧ q.body[y.d]? = some (-1 - h) ∧ x = ⟨y.k, y.d + 1, y.f⟩
/-- the items of a set that wait for a terminal, one on -/
def ScanP (g : Gr) (orig : List Im) (t : Int) (x : Im) : Prop := ∃ y, y ∈ orig ∧ ∃ q, g.rules[y.k]? = some q ∧ q.body[y.d]? = some t ∧ 0 ≤ t ∧ x = ⟨y.k, y.d + 1, y.f⟩
/-- what follows from item x is in the set -/
def DoneAt (g : Gr) (j : Nat) (sets : Nat → List Im) (es : List Im) (x : Im) : Prop := ∀ r, g.rules[x.k]? = some r → (∀ y, r.body[x.d]? = some y → y < 0 → ∀ z, PredP g j (-1 - y) z → z ∈ es) ∧ (x.d = r.body.length → ∀ z, CompP g (if x.f = j then es else sets x.f) r.head z → z ∈ es)
theorem It.full {g : Gr} (ok : ∀ r, r ∈ g.rules → 0 ≤ r.head) {s : List Int} {j : Nat} {sets : Nat → List Im} {es : List Im} (h0 : j = 0 → ∀ z, PredP g 0 g.start z → z ∈ es) (h1 : ∀ i, j = i + 1 → ∀ t, s[i]? = some t → ∀ z, ScanP g (sets i) t z → z ∈ es) (hlow : ∀ i, i < j → ∀ x, It g s i x → x ∈ sets i) (hc : ∀ x, x ∈ es → DoneAt g j sets es x) {i : Nat} {x : Im} (h : It g s i x) : i = j → x ∈ es := by
  induction h with
  | start k r hk hr hw => intro e; exact h0 e.symm _ ⟨r, hk, hr, hw, rfl, rfl⟩
  | pred i x r y k q _ hr hy hy0 hk hq hw ih =>
    intro e
    subst e
    exact (hc x (ih rfl) r hr).1 y hy hy0 _ ⟨q, hk, hq, hw, rfl, rfl⟩
  | scan i x r t hi hr ht ht0 hst ih =>
    intro e
    exact h1 i e.symm t hst _ ⟨x, hlow i (by omega) x hi, r, hr, ht, ht0, rfl⟩
  | comp i x r y q hx hr hd hy hq hyd ih1 ih2 =>
    intro e
    subst e
    refine (hc x (ih1 rfl) r hr).2 hd _ ⟨y, ?_, q, hq, hyd, rfl⟩
    obtain ⟨_, g1⟩ := hx.good ok
    have hpos := g1.pos
    by_cases hf : x.f = i
    · rw [if_pos hf]; exact ih2 hf
    · rw [if_neg hf]; exact hlow _ (by omega) y hy
theorem pred_it {g : Gr} {s : List Int} {j : Nat} {x z : Im} {r : Rl} {y : Int} (h : It g s j x) (hr : g.rules[x.k]? = some r) (hy : r.body[x.d]? = some y) (hy0 : y < 0) (hz : PredP g j (-1 - y) z) : It g s j z := by
  obtain ⟨q, h1, h2, h3, h4, h5⟩ := hz
  obtain ⟨k, d, f⟩ := z
  simp only at h1 h4 h5
  subst h4; subst h5
  exact .pred _ x r y k q h hr hy hy0 h1 h2 h3
theorem start_it {g : Gr} {s : List Int} {z : Im} (hz : PredP g 0 g.start z) : It g s 0 z := by
  obtain ⟨q, h1, h2, h3, h4, h5⟩ := hz
  obtain ⟨k, d, f⟩ := z
  simp only at h1 h4 h5
  subst h4; subst h5
  exact .start k q h1 h2 h3
theorem comp_it {g : Gr} {s : List Int} {j : Nat} {x z : Im} {r : Rl} {orig : List Im} (h : It g s j x) (hr : g.rules[x.k]? = some r) (hd : x.d = r.body.length) (ho : ∀ y, y ∈ orig → It g s x.f y) (hz : CompP g orig r.head z) : It g s j z := by
  obtain ⟨y, h1, q, h2, h3, rfl⟩ := hz
  exact .comp j x r y q h hr hd (ho y h1) h2 h3
theorem scan_it {g : Gr} {s : List Int} {j : Nat} {z : Im} {orig : List Im} {t : Int} (ht : s[j]? = some t) (ho : ∀ y, y ∈ orig → It g s j y) (hz : ScanP g orig t z) : It g s (j + 1) z := by
  obtain ⟨y, h1, q, h2, h3, h4, rfl⟩ := hz
  exact .scan j y q t (ho y h1) h2 h3 h4 ht
end Go.Proofs.Rec
