/- The plain mathematics of the rope: trees of pieces, their texts, heights and bounds. No program in sight; conditions: none. -/
namespace Go.Proofs.Rope
abbrev Bs := List UInt8
inductive N where
  | leaf (s : Bs)
  | node (l r : N)
namespace N
def text : N → Bs
  | leaf s => s
  | node l r => l.text ++ r.text
def size (n : N) : Nat := n.text.length
def height : N → Nat
  | leaf _ => 0
  | node l r => 1 + max l.height r.height
def pieces : N → List Bs
  | leaf s => [s]
  | node l r => l.pieces ++ r.pieces
end N
theorem pieces_text : ∀ n : N, n.pieces.flatten = n.text
  | .leaf s => by simp [N.pieces, N.text]
  | .node l r => by simp [N.pieces, N.text, pieces_text l, pieces_text r]
/-- the number of binary digits -/
def blen (n : Nat) : Nat := if h : n = 0 then 0 else blen (n / 2) + 1
decreasing_by omega
theorem blen_zero : blen 0 = 0 := by unfold blen; simp
theorem blen_pos {n : Nat} (h : n ≠ 0) : blen n = blen (n / 2) + 1 := by rw [blen, dif_neg h]
theorem blen_mono : ∀ n m, n ≤ m → blen n ≤ blen m := by
  intro n
  induction n using Nat.strongRecOn with
  | _ n ih =>
    intro m h
    by_cases hn : n = 0
    · subst hn; rw [blen_zero]; omega
    · rw [blen_pos hn, blen_pos (n := m) (by omega)]
      exact Nat.succ_le_succ (ih (n / 2) (by omega) (m / 2) (Nat.div_le_div_right h))
theorem blen_pow : ∀ n k, blen n ≤ k ↔ n < 2 ^ k := by
  intro n
  induction n using Nat.strongRecOn with
  | _ n ih =>
    intro k
    by_cases hn : n = 0
    · subst hn; rw [blen_zero]; simp [Nat.pow_pos]
    · rw [blen_pos hn]
      cases k with
      | zero => simp; omega
      | succ k =>
        have := ih (n / 2) (by omega) k
        rw [Nat.pow_succ]
        omega
def blocks (n : Nat) : Nat := (n + 63) / 64
def bound (n : Nat) : Nat := if n ≤ 64 then 0 else 2 * blen (blocks n - 1) + 2
def Good : N → Prop
  | .leaf s => s ≠ [] ∧ s.length ≤ 64
  | .node l r => Good l ∧ Good r ∧ (N.node l r).height ≤ bound (N.node l r).size ∧ 64 < (N.node l r).size
theorem Good.bound {n : N} (h : Good n) : n.height ≤ bound n.size := by
  cases n with
  | leaf s => simp [N.height]
  | node l r => exact h.2.2.1
theorem Good.pos : ∀ {n : N}, Good n → 0 < n.size
  | .leaf s, h => by
    have := h.1
    simp only [N.size, N.text]
    exact List.length_pos_iff.2 this
  | .node l r, h => by have := h.2.2.2; omega
theorem Good.pieces : ∀ {n : N}, Good n → ∀ p, p ∈ n.pieces → 1 ≤ p.length ∧ p.length ≤ 64
  | .leaf s, h, p, hp => by
    simp only [N.pieces, List.mem_cons, List.not_mem_nil, or_false] at hp
    subst hp
    have := List.length_pos_iff.2 h.1
    exact ⟨by omega, h.2⟩
  | .node l r, h, p, hp => by
    simp only [N.pieces, List.mem_append] at hp
    rcases hp with hp | hp
    · exact Good.pieces h.1 p hp
    · exact Good.pieces h.2.1 p hp
def cut (n : Nat) : Nat := blocks n / 2 * 64
theorem cut_lt {n : Nat} (h : 64 < n) : 0 < cut n ∧ cut n < n := by unfold cut blocks; omega
/-- the balanced tree of a text that is not empty -/
def bld (s : Bs) : N := if _h : s.length ≤ 64 then .leaf s else .node (bld (s.take (cut s.length))) (bld (s.drop (cut s.length)))
termination_by s.length
decreasing_by
  · have := cut_lt (n := s.length) (by omega); simp only [List.length_take]; omega
  · have := cut_lt (n := s.length) (by omega); simp only [List.length_drop]; omega
theorem bld_small {s : Bs} (h : s.length ≤ 64) : bld s = .leaf s := by rw [bld, dif_pos h]
theorem bld_big {s : Bs} (h : ¬ s.length ≤ 64) : bld s = .node (bld (s.take (cut s.length))) (bld (s.drop (cut s.length))) := by rw [bld, dif_neg h]
theorem len_ind {P : Bs → Prop} (step : ∀ s, (∀ t : Bs, t.length < s.length → P t) → P s) (s : Bs) : P s := by
  have : ∀ n (s : Bs), s.length = n → P s := by
    intro n
    induction n using Nat.strongRecOn with
    | _ n ih => intro s hs; exact step s fun t ht => ih t.length (by omega) t rfl
  exact this _ s rfl
theorem bld_text (s : Bs) : (bld s).text = s := by
  induction s using len_ind with
  | step s ih =>
  by_cases h : s.length ≤ 64
  · rw [bld_small h]; rfl
  · have hc := cut_lt (n := s.length) (by omega)
    rw [bld_big h, N.text, ih _ (by simp only [List.length_take]; omega), ih _ (by simp only [List.length_drop]; omega), List.take_append_drop]
theorem bld_height (s : Bs) : (bld s).height ≤ blen (blocks s.length - 1) := by
  induction s using len_ind with
  | step s ih =>
  by_cases h : s.length ≤ 64
  · rw [bld_small h]; simp [N.height]
  · have hc := cut_lt (n := s.length) (by omega)
    have h1 := ih (s.take (cut s.length)) (by simp only [List.length_take]; omega)
    have h2 := ih (s.drop (cut s.length)) (by simp only [List.length_drop]; omega)
    simp only [List.length_take, List.length_drop, Nat.min_eq_left (Nat.le_of_lt hc.2)] at h1 h2
    have hb : blocks s.length - 1 ≠ 0 := by unfold blocks; omega
    rw [bld_big h, N.height, blen_pos hb]
    have h3 := blen_mono (blocks (cut s.length) - 1) ((blocks s.length - 1) / 2) (by unfold cut blocks; omega)
    have h4 := blen_mono (blocks (s.length - cut s.length) - 1) ((blocks s.length - 1) / 2) (by unfold cut blocks; omega)
    omega
theorem bld_good (s : Bs) : s ≠ [] → Good (bld s) := by
  induction s using len_ind with
  | step s ih =>
  intro hne
  by_cases h : s.length ≤ 64
  · rw [bld_small h]; exact ⟨hne, h⟩
  · have hc := cut_lt (n := s.length) (by omega)
    have hh := bld_height s
    have ht := bld_text s
    rw [bld_big h] at hh ht ⊢
    have hsz : (N.node (bld (s.take (cut s.length))) (bld (s.drop (cut s.length)))).size = s.length := by rw [N.size, ht]
    refine ⟨ih _ (by simp only [List.length_take]; omega) (fun e => ?_), ih _ (by simp only [List.length_drop]; omega) (fun e => ?_), ?_, by omega⟩
    · have := congrArg List.length e; simp only [List.length_take, List.length_nil] at this; omega
    · have := congrArg List.length e; simp only [List.length_drop, List.length_nil] at this; omega
    · rw [hsz, bound, if_neg h]; omega
/- trees that may be empty -/
def textO : Option N → Bs | none => [] | some n => n.text
def GoodO : Option N → Prop | none => True | some n => Good n
def build (s : Bs) : Option N := if s = [] then none else some (bld s)
theorem build_text (s : Bs) : textO (build s) = s := by
  unfold build; split
  · rename_i h; rw [h]; rfl
  · exact bld_text s
theorem build_good (s : Bs) : GoodO (build s) := by
  unfold build; split
  · trivial
  · rename_i h; exact bld_good s h
def join : Option N → Option N → Option N
  | none, b => b
  | some a, none => some a
  | some a, some b => if (N.node a b).size ≤ 64 ∨ bound (N.node a b).size < (N.node a b).height then some (bld (N.node a b).text) else some (.node a b)
theorem join_some (a b : N) : join (some a) (some b) = if (N.node a b).size ≤ 64 ∨ bound (N.node a b).size < (N.node a b).height then some (bld (N.node a b).text) else some (.node a b) := rfl
theorem join_text (a b : Option N) : textO (join a b) = textO a ++ textO b := by
  cases a with
  | none => simp [join, textO]
  | some a =>
    cases b with
    | none => simp [join, textO]
    | some b =>
      rw [join_some]; split
      · exact bld_text _
      · rfl
theorem join_good {a b : Option N} (ha : GoodO a) (hb : GoodO b) : GoodO (join a b) := by
  cases a with
  | none => simpa [join] using hb
  | some a =>
    cases b with
    | none => simpa [join] using ha
    | some b =>
      rw [join_some]; split
      · refine bld_good _ (fun e => ?_)
        have := Good.pos (n := a) ha
        have h2 : (a.text ++ b.text).length = 0 := by rw [show a.text ++ b.text = (N.node a b).text from rfl, e]; rfl
        rw [List.length_append] at h2
        simp only [N.size] at this; omega
      · rename_i h; exact ⟨ha, hb, by omega, by omega⟩
def slice : N → Nat → Nat → Option N
  | n, f, t => if t ≤ f then none else if f = 0 ∧ t = n.size then some n else match n with
    | .leaf s => some (.leaf ((s.drop f).take (t - f)))
    | .node l r => if t ≤ l.size then slice l f t else if l.size ≤ f then slice r (f - l.size) (t - l.size) else join (slice l f l.size) (slice r 0 (t - l.size))
theorem slice_none {n : N} {f t : Nat} (h : t ≤ f) : slice n f t = none := by unfold slice; rw [if_pos h]
theorem slice_all {n : N} {f t : Nat} (h : ¬ t ≤ f) (h0 : f = 0 ∧ t = n.size) : slice n f t = some n := by unfold slice; rw [if_neg h, if_pos h0]
theorem slice_leaf {s : Bs} {f t : Nat} (h : ¬ t ≤ f) (h0 : ¬ (f = 0 ∧ t = s.length)) : slice (.leaf s) f t = some (.leaf ((s.drop f).take (t - f))) := by unfold slice; rw [if_neg h, if_neg (show ¬ (f = 0 ∧ t = (N.leaf s).size) from h0)]
theorem slice_node {l r : N} {f t : Nat} (h : ¬ t ≤ f) (h0 : ¬ (f = 0 ∧ t = (N.node l r).size)) : slice (.node l r) f t = if t ≤ l.size then slice l f t else if l.size ≤ f then slice r (f - l.size) (t - l.size) else join (slice l f l.size) (slice r 0 (t - l.size)) := by
  rw [slice, if_neg h, if_neg h0]
theorem slice_text : ∀ (n : N) (f t : Nat), t ≤ n.size → textO (slice n f t) = (n.text.drop f).take (t - f) := by
  intro n
  induction n with
  | leaf s =>
    intro f t ht
    by_cases h : t ≤ f
    · rw [slice_none h, show t - f = 0 by omega]; simp [textO]
    · by_cases h0 : f = 0 ∧ t = s.length
      · rw [slice_all (n := .leaf s) h h0]; obtain ⟨rfl, rfl⟩ := h0; simp [textO, N.text]
      · rw [slice_leaf h h0]; rfl
  | node l r ihl ihr =>
    intro f t ht
    have hs : (N.node l r).size = l.size + r.size := by simp [N.size, N.text]
    by_cases h : t ≤ f
    · rw [slice_none h, show t - f = 0 by omega]; simp [textO]
    · by_cases h0 : f = 0 ∧ t = (N.node l r).size
      · rw [slice_all h h0]; obtain ⟨rfl, rfl⟩ := h0
        simp [textO, N.size]
      · have hl : l.text.length = l.size := rfl
        rw [slice_node h h0, N.text]
        split
        · rename_i h1
          rw [ihl f t h1, List.drop_append_of_le_length (by omega), List.take_append_of_le_length (by simp only [List.length_drop]; omega)]
        · split
          · rename_i h1 h2
            rw [ihr _ _ (by omega), List.drop_append, List.drop_of_length_le (l := l.text) (by omega), List.nil_append, hl]
            congr 1; omega
          · rename_i h1 h2
            rw [join_text, ihl f l.size (Nat.le_refl _), ihr 0 (t - l.size) (by omega), List.drop_append_of_le_length (show f ≤ l.text.length by omega), List.drop_zero, List.take_append]
            congr 1
            · rw [List.take_of_length_le (by simp only [List.length_drop]; omega), List.take_of_length_le (by simp only [List.length_drop]; omega)]
            · congr 1; simp only [List.length_drop]; omega
theorem slice_good : ∀ (n : N) (f t : Nat), Good n → t ≤ n.size → GoodO (slice n f t) := by
  intro n
  induction n with
  | leaf s =>
    intro f t hg ht
    have hsz : (N.leaf s).size = s.length := rfl
    by_cases h : t ≤ f
    · rw [slice_none h]; trivial
    · by_cases h0 : f = 0 ∧ t = s.length
      · rw [slice_all (n := .leaf s) h h0]; exact hg
      · rw [slice_leaf h h0]
        refine ⟨fun e => ?_, ?_⟩
        · have := congrArg List.length e
          simp only [List.length_take, List.length_drop, List.length_nil] at this; omega
        · have := hg.2
          simp only [List.length_take, List.length_drop]; omega
  | node l r ihl ihr =>
    intro f t hg ht
    have hs : (N.node l r).size = l.size + r.size := by simp [N.size, N.text]
    by_cases h : t ≤ f
    · rw [slice_none h]; trivial
    · by_cases h0 : f = 0 ∧ t = (N.node l r).size
      · rw [slice_all h h0]; exact hg
      · rw [slice_node h h0]
        split
        · exact ihl f t hg.1 (by omega)
        · split
          · exact ihr _ _ hg.2.1 (by omega)
          · exact join_good (ihl f l.size hg.1 (Nat.le_refl _)) (ihr 0 _ hg.2.1 (by omega))
end Go.Proofs.Rope
