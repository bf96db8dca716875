/- More plain facts on edits, told by positions in two lists of bytes; conditions: none. -/
import Derived.Test.YtnkmemoagimddaaTable
namespace Go.Proofs.Td
theorem lcp_exit {a b : Bs} {n : Nat} (hn : n ≤ lcp a b) (h : ¬ n < a.length ∨ ¬ n < b.length ∨ ∃ u u2, a[n]? = some u ∧ b[n]? = some u2 ∧ u ≠ u2) : n = lcp a b := by
  have h1 := lcp_le a b
  rcases lcp_step a b n hn with h2 | ⟨x, hx, hy⟩
  · exact h2
  · have hxa := (List.getElem?_eq_some_iff.1 hx).1
    have hxb := (List.getElem?_eq_some_iff.1 hy).1
    rcases h with h | h | ⟨u, u2, h3, h4, h5⟩
    · omega
    · omega
    · rw [hx] at h3; rw [hy] at h4; injection h3 with h3; injection h4 with h4
      subst h3; subst h4; exact absurd rfl h5
theorem lcp_more {a b : Bs} {n : Nat} (hn : n ≤ lcp a b) {u : UInt8} (h1 : a[n]? = some u) (h2 : b[n]? = some u) : n + 1 ≤ lcp a b := by
  rcases Nat.eq_or_lt_of_le hn with h | h
  · subst h; exact absurd rfl (lcp_stop a b u u h1 h2)
  · exact h
theorem rev_at {a : Bs} {p k : Nat} (hp : p ≤ a.length) (hk : k < a.length - p) : (a.drop p).reverse[k]? = a[a.length - 1 - k]? := by
  rw [List.getElem?_reverse (by simpa using hk), List.getElem?_drop]
  simp only [List.length_drop]
  congr 1; omega
theorem suf_exit {a b : Bs} {k : Nat} (hk : k ≤ suf a b) (h : ¬ k < a.length - lcp a b ∨ ¬ k < b.length - lcp a b ∨ (k < a.length - lcp a b ∧ k < b.length - lcp a b ∧ ∃ u u2, a[a.length - 1 - k]? = some u ∧ b[b.length - 1 - k]? = some u2 ∧ u ≠ u2)) : k = suf a b := by
  have hl := lcp_le a b
  refine lcp_exit hk ?_
  simp only [List.length_reverse, List.length_drop]
  rcases h with h | h | ⟨h1, h2, u, u2, h3, h4, h5⟩
  · exact .inl h
  · exact .inr (.inl h)
  · exact .inr (.inr ⟨u, u2, by rw [rev_at hl.1 h1]; exact h3, by rw [rev_at hl.2 h2]; exact h4, h5⟩)
theorem suf_more {a b : Bs} {k : Nat} (hk : k ≤ suf a b) (h1 : k < a.length - lcp a b) (h2 : k < b.length - lcp a b) {u : UInt8} (h3 : a[a.length - 1 - k]? = some u) (h4 : b[b.length - 1 - k]? = some u) : k + 1 ≤ suf a b := by
  have hl := lcp_le a b
  exact lcp_more hk (by rw [rev_at hl.1 h1]; exact h3) (by rw [rev_at hl.2 h2]; exact h4)
/-- the distance of the rest -/
def Dr (a b : Bs) (i j : Nat) : Nat := D (a.drop i) (b.drop j)
/-- the edits of the rest -/
def gor (a b : Bs) (i j : Nat) (o : Option E) : List E := go i (a.drop i) (b.drop j) o
theorem gor_end (a b : Bs) (o : Option E) {i j : Nat} (hi : ¬ i < a.length) (hj : ¬ j < b.length) : gor a b i j o = o.toList := by
  unfold gor; rw [List.drop_of_length_le (by omega), List.drop_of_length_le (by omega), go_nil]
theorem gor_same {a b : Bs} {i j : Nat} {u : UInt8} (o : Option E) (h1 : a[i]? = some u) (h2 : b[j]? = some u) : gor a b i j o = o.toList ++ gor a b (i + 1) (j + 1) none := by
  obtain ⟨ha, e1⟩ := List.getElem?_eq_some_iff.1 h1
  obtain ⟨hb, e2⟩ := List.getElem?_eq_some_iff.1 h2
  unfold gor
  rw [List.drop_eq_getElem_cons ha, List.drop_eq_getElem_cons hb, e1, e2, go_same]
def Neq (a b : Bs) (i j : Nat) : Prop := ¬ ∃ u, a[i]? = some u ∧ b[j]? = some u
theorem gor_del {a b : Bs} {i j : Nat} (o : Option E) (hn : Neq a b i j) (hi : i < a.length) (h : ¬ j < b.length ∨ Dr a b (i + 1) j ≤ Dr a b i (j + 1)) : gor a b i j o = gor a b (i + 1) j (some (delE i o)) := by
  unfold gor Dr at *
  by_cases hj : j < b.length
  · rw [List.drop_eq_getElem_cons hi, List.drop_eq_getElem_cons hj] at *
    have hne : a[i] ≠ b[j] := fun e => hn ⟨a[i], List.getElem?_eq_getElem hi, by rw [e]; exact List.getElem?_eq_getElem hj⟩
    rw [go_diff i hne, if_pos]
    rcases h with h | h
    · omega
    · exact h
  · rw [List.drop_eq_getElem_cons hi, List.drop_of_length_le (l := b) (i := j) (by omega), go_del]
theorem gor_ins {a b : Bs} {i j : Nat} (o : Option E) (hn : Neq a b i j) {u : UInt8} (hj : b[j]? = some u) (h : ¬ i < a.length ∨ ¬ Dr a b (i + 1) j ≤ Dr a b i (j + 1)) : gor a b i j o = gor a b i (j + 1) (some (insE u i o)) := by
  obtain ⟨hb, e2⟩ := List.getElem?_eq_some_iff.1 hj
  unfold gor Dr at *
  by_cases hi : i < a.length
  · rw [List.drop_eq_getElem_cons hi, List.drop_eq_getElem_cons hb] at *
    have hne : a[i] ≠ b[j] := fun e => hn ⟨a[i], List.getElem?_eq_getElem hi, by rw [e]; exact List.getElem?_eq_getElem hb⟩
    rw [go_diff i hne, if_neg]
    · rw [e2]
    · rcases h with h | h
      · omega
      · exact h
  · rw [List.drop_of_length_le (l := a) (i := i) (by omega), List.drop_eq_getElem_cons hb, go_ins, e2]
theorem diff_gor (a b : Bs) : diff a b = gor a b 0 0 none := rfl
theorem full_dr (a b : Bs) {i j : Nat} (hi : i ≤ a.length) (hj : j ≤ b.length) : (full a b)[i * (b.length + 1) + j]? = some (Dr a b i j) := full_at a b i j hi hj
/-- the open edit -/
def opn (op : Bool) (e : E) : Option E := if op then some e else none
def cur (i : Nat) (op : Bool) (e : E) : E := if op then e else ⟨i, 0, []⟩
theorem delE_cur (i : Nat) (op : Bool) (e : E) : delE i (opn op e) = ⟨(cur i op e).at_, (cur i op e).del + 1, (cur i op e).ins⟩ := by cases op <;> rfl
theorem insE_cur (u : UInt8) (i : Nat) (op : Bool) (e : E) : insE u i (opn op e) = ⟨(cur i op e).at_, (cur i op e).del, (cur i op e).ins ++ [u]⟩ := by cases op <;> rfl
/-- what a loop that finds the edits knows -/
structure Mid (a b : Bs) (i j : Nat) (acc : List E) (op : Bool) (e : E) : Prop where
  hi : i ≤ a.length
  hj : j ≤ b.length
  eq : diff a b = acc ++ gor a b i j (opn op e)
  at_ : op = true → e.at_ ≤ i
  del : op = true → e.del ≤ i
  ins : op = true → e.ins.length ≤ j
  len : acc.length ≤ i + j
theorem Mid.start (a b : Bs) (e : E) : Mid a b 0 0 [] false e := ⟨Nat.zero_le _, Nat.zero_le _, rfl, by simp, by simp, by simp, Nat.zero_le _⟩
theorem Mid.same1 {a b : Bs} {i j : Nat} {acc : List E} {e : E} {u : UInt8} (h : Mid a b i j acc true e) (h1 : a[i]? = some u) (h2 : b[j]? = some u) : Mid a b (i + 1) (j + 1) (acc ++ [e]) false e :=
  ⟨(List.getElem?_eq_some_iff.1 h1).1, (List.getElem?_eq_some_iff.1 h2).1, by rw [h.eq, gor_same _ h1 h2]; simp [opn], by simp, by simp, by simp, by have := h.len; simp; omega⟩
theorem Mid.same0 {a b : Bs} {i j : Nat} {acc : List E} {e : E} {u : UInt8} (h : Mid a b i j acc false e) (h1 : a[i]? = some u) (h2 : b[j]? = some u) : Mid a b (i + 1) (j + 1) acc false e :=
  ⟨(List.getElem?_eq_some_iff.1 h1).1, (List.getElem?_eq_some_iff.1 h2).1, by rw [h.eq, gor_same _ h1 h2]; simp [opn], by simp, by simp, by simp, by have := h.len; omega⟩
theorem Mid.cur {a b : Bs} {i j : Nat} {acc : List E} {op : Bool} {e : E} (h : Mid a b i j acc op e) : (cur i op e).at_ ≤ i ∧ (cur i op e).del ≤ i ∧ (cur i op e).ins.length ≤ j := by
  cases op with
  | true => exact ⟨h.at_ rfl, h.del rfl, h.ins rfl⟩
  | false => simp [Td.cur]
theorem Mid.del' {a b : Bs} {i j : Nat} {acc : List E} {op : Bool} {e : E} (h : Mid a b i j acc op e) (hn : Neq a b i j) (hi : i < a.length) (hd : ¬ j < b.length ∨ Dr a b (i + 1) j ≤ Dr a b i (j + 1)) : Mid a b (i + 1) j acc true ⟨(Td.cur i op e).at_, (Td.cur i op e).del + 1, (Td.cur i op e).ins⟩ := by
  obtain ⟨h1, h2, h3⟩ := h.cur
  exact ⟨hi, h.hj, by rw [h.eq, gor_del _ hn hi hd, delE_cur]; rfl, fun _ => by simp only; omega, fun _ => by simp only; omega, fun _ => h3, by have := h.len; omega⟩
theorem Mid.ins' {a b : Bs} {i j : Nat} {acc : List E} {op : Bool} {e : E} {u : UInt8} (h : Mid a b i j acc op e) (hn : Neq a b i j) (hj : b[j]? = some u) (hd : ¬ i < a.length ∨ ¬ Dr a b (i + 1) j ≤ Dr a b i (j + 1)) : Mid a b i (j + 1) acc true ⟨(Td.cur i op e).at_, (Td.cur i op e).del, (Td.cur i op e).ins ++ [u]⟩ := by
  obtain ⟨h1, h2, h3⟩ := h.cur
  exact ⟨h.hi, (List.getElem?_eq_some_iff.1 hj).1, by rw [h.eq, gor_ins _ hn hj hd, insE_cur]; rfl, fun _ => h1, fun _ => h2, fun _ => by simp; omega, by have := h.len; omega⟩
theorem Mid.end1 {a b : Bs} {i j : Nat} {acc : List E} {e : E} (h : Mid a b i j acc true e) (hi : ¬ i < a.length) (hj : ¬ j < b.length) : diff a b = acc ++ [e] := by rw [h.eq, gor_end _ _ _ hi hj]; rfl
theorem Mid.end0 {a b : Bs} {i j : Nat} {acc : List E} {e : E} (h : Mid a b i j acc false e) (hi : ¬ i < a.length) (hj : ¬ j < b.length) : diff a b = acc := by rw [h.eq, gor_end _ _ _ hi hj]; simp [opn]
theorem take_one' {b : Bs} {j : Nat} {u : UInt8} (h : b[j]? = some u) : (b.drop j).take (j + 1 - j) = [u] := by
  obtain ⟨hb, e⟩ := List.getElem?_eq_some_iff.1 h
  rw [List.drop_eq_getElem_cons hb, e, show j + 1 - j = 1 by omega]; rfl
end Go.Proofs.Td
