/- The plain mathematics of the shortest edit scripts: the distance of two lists of bytes, the canonical edits, the hull. No program in sight. -/
namespace Go.Proofs.Td
abbrev Bs := List UInt8

def row (x : UInt8) (prev : Bs → Nat) (n : Nat) : Bs → Nat
  | [] => n
  | y :: b => if x = y then prev b else 1 + min (prev (y :: b)) (row x prev n b)
def D : Bs → Bs → Nat
  | [] => List.length
  | x :: a => row x (D a) (a.length + 1)

theorem D_nil (b : Bs) : D [] b = b.length := rfl
theorem D_nil_r (a : Bs) : D a [] = a.length := by cases a <;> rfl
theorem D_cons (x y : UInt8) (a b : Bs) : D (x :: a) (y :: b) = if x = y then D a b else 1 + min (D a (y :: b)) (D (x :: a) b) := rfl
theorem D_same (x : UInt8) (a b : Bs) : D (x :: a) (x :: b) = D a b := by rw [D_cons, if_pos rfl]
theorem D_diff {x y : UInt8} (h : x ≠ y) (a b : Bs) : D (x :: a) (y :: b) = 1 + min (D a (y :: b)) (D (x :: a) b) := by rw [D_cons, if_neg h]

/-- a script of n single deletions and insertions -/
inductive Ed : Bs → Bs → Nat → Prop
  | nil : Ed [] [] 0
  | keep (x : UInt8) {a b : Bs} {n : Nat} : Ed a b n → Ed (x :: a) (x :: b) n
  | del (x : UInt8) {a b : Bs} {n : Nat} : Ed a b n → Ed (x :: a) b (n + 1)
  | ins (y : UInt8) {a b : Bs} {n : Nat} : Ed a b n → Ed a (y :: b) (n + 1)

theorem Ed.ins_all : ∀ b : Bs, Ed [] b b.length
  | [] => .nil
  | y :: b => .ins y (Ed.ins_all b)
theorem Ed.del_all : ∀ a : Bs, Ed a [] a.length
  | [] => .nil
  | x :: a => .del x (Ed.del_all a)
theorem ed_D : ∀ n (a b : Bs), a.length + b.length ≤ n → Ed a b (D a b) := by
  intro n
  induction n with
  | zero =>
    intro a b h
    have ha : a = [] := List.eq_nil_of_length_eq_zero (by omega)
    have hb : b = [] := List.eq_nil_of_length_eq_zero (by omega)
    subst ha; subst hb; exact .nil
  | succ n ih =>
    intro a b h
    cases a with
    | nil => exact Ed.ins_all b
    | cons x a =>
      cases b with
      | nil => rw [D_nil_r]; exact Ed.del_all _
      | cons y b =>
        simp only [List.length_cons] at h
        rw [D_cons]
        by_cases hxy : x = y
        · subst hxy; rw [if_pos rfl]; exact .keep x (ih a b (by omega))
        · rw [if_neg hxy, Nat.add_comm]
          by_cases hm : D a (y :: b) ≤ D (x :: a) b
          · rw [Nat.min_eq_left hm]; exact .del x (ih _ _ (by simp; omega))
          · rw [Nat.min_eq_right (by omega)]; exact .ins y (ih _ _ (by simp; omega))
theorem Ed.D (a b : Bs) : Ed a b (D a b) := ed_D _ a b (Nat.le_refl _)
theorem lip : ∀ n (a b : Bs), a.length + b.length ≤ n → (∀ x, D a b ≤ D (x :: a) b + 1) ∧ (∀ y, D a b ≤ D a (y :: b) + 1) ∧ (∀ x, D (x :: a) b ≤ D a b + 1) ∧ (∀ y, D a (y :: b) ≤ D a b + 1) := by
  intro n
  induction n with
  | zero =>
    intro a b h
    have ha : a = [] := List.eq_nil_of_length_eq_zero (by omega)
    have hb : b = [] := List.eq_nil_of_length_eq_zero (by omega)
    subst ha; subst hb
    refine ⟨fun x => ?_, fun y => ?_, fun x => ?_, fun y => ?_⟩ <;> simp [D_nil, D_nil_r]
  | succ n ih =>
    intro a b h
    refine ⟨fun x => ?_, fun y => ?_, fun x => ?_, fun y => ?_⟩
    · cases b with
      | nil => simp [D_nil_r]; omega
      | cons y b =>
        simp only [List.length_cons] at h
        rw [D_cons]
        split
        · have := (ih a b (by omega)).2.2.2 y; omega
        · have h1 := (ih a b (by omega)).1 x
          have h2 := (ih a b (by omega)).2.2.2 y
          omega
    · cases a with
      | nil => simp [D_nil]; omega
      | cons x a =>
        simp only [List.length_cons] at h
        rw [D_cons]
        split
        · have := (ih a b (by omega)).2.2.1 x; omega
        · have h1 := (ih a b (by omega)).2.1 y
          have h2 := (ih a b (by omega)).2.2.1 x
          omega
    · cases b with
      | nil => simp [D_nil_r]
      | cons y b =>
        simp only [List.length_cons] at h
        rw [D_cons]
        split
        · have := (ih a b (by omega)).2.1 y; omega
        · omega
    · cases a with
      | nil => simp [D_nil]
      | cons x a =>
        simp only [List.length_cons] at h
        rw [D_cons]
        split
        · have := (ih a b (by omega)).1 x; omega
        · omega
theorem D_le_del (x : UInt8) (a b : Bs) : D (x :: a) b ≤ D a b + 1 := (lip _ a b (Nat.le_refl _)).2.2.1 x
theorem D_le_ins (y : UInt8) (a b : Bs) : D a (y :: b) ≤ D a b + 1 := (lip _ a b (Nat.le_refl _)).2.2.2 y
theorem D_keep_le (x : UInt8) (a b : Bs) : D (x :: a) (x :: b) ≤ D a b := by rw [D_same]; exact Nat.le_refl _
theorem Ed.le {a b : Bs} {n : Nat} (h : Ed a b n) : Td.D a b ≤ n := by
  induction h with
  | nil => simp [D_nil]
  | keep x _ ih => rw [D_same]; exact ih
  | del x _ ih => exact Nat.le_trans (D_le_del _ _ _) (by omega)
  | ins y _ ih => exact Nat.le_trans (D_le_ins _ _ _) (by omega)
theorem Ed.symm {a b : Bs} {n : Nat} (h : Ed a b n) : Ed b a n := by
  induction h with
  | nil => exact .nil
  | keep x _ ih => exact .keep x ih
  | del x _ ih => exact .ins x ih
  | ins y _ ih => exact .del y ih
theorem D_symm (a b : Bs) : D a b = D b a := by
  have h1 := (Ed.D a b).symm.le
  have h2 := (Ed.D b a).symm.le
  omega
theorem Ed.trans {a b : Bs} {m : Nat} (h : Ed a b m) : ∀ {c : Bs} {n : Nat}, Ed b c n → ∃ k, k ≤ m + n ∧ Ed a c k := by
  have key : ∀ s {a b c : Bs} {m n : Nat}, a.length + b.length + c.length ≤ s → Ed a b m → Ed b c n → ∃ k, k ≤ m + n ∧ Ed a c k := by
    intro s
    induction s with
    | zero =>
      intro a b c m n hs h1 h2
      cases h1 with
      | nil => cases h2 with
        | nil => exact ⟨0, by omega, .nil⟩
        | ins y _ => simp at hs
      | keep x _ => simp at hs
      | del x _ => simp at hs
      | ins y _ => simp at hs
    | succ s ih =>
      intro a b c m n hs h1 h2
      cases h2 with
      | nil =>
        exact ⟨m, by omega, h1⟩
      | @ins y _ c' n' h2' =>
        obtain ⟨k, hk, he⟩ := ih (by simp at hs; omega) h1 h2'
        exact ⟨k + 1, by omega, .ins y he⟩
      | @keep y b' c' n' h2' =>
        cases h1 with
        | @keep _ a' _ m' h1' =>
          obtain ⟨k, hk, he⟩ := ih (by simp at hs; omega) h1' h2'
          exact ⟨k, hk, .keep y he⟩
        | @del x a' _ m' h1' =>
          obtain ⟨k, hk, he⟩ := ih (by simp at hs ⊢; omega) h1' (Ed.keep y h2')
          exact ⟨k + 1, by omega, .del x he⟩
        | @ins _ a' _ m' h1' =>
          obtain ⟨k, hk, he⟩ := ih (by simp at hs; omega) h1' h2'
          exact ⟨k + 1, by omega, .ins y he⟩
      | @del y b' c' n' h2' =>
        cases h1 with
        | @keep _ a' _ m' h1' =>
          obtain ⟨k, hk, he⟩ := ih (by simp at hs; omega) h1' h2'
          exact ⟨k + 1, by omega, .del y he⟩
        | @del x a' _ m' h1' =>
          obtain ⟨k, hk, he⟩ := ih (by simp at hs ⊢; omega) h1' (Ed.del y h2')
          exact ⟨k + 1, by omega, .del x he⟩
        | @ins _ a' _ m' h1' =>
          obtain ⟨k, hk, he⟩ := ih (by simp at hs; omega) h1' h2'
          exact ⟨k, by omega, he⟩
  intro c n h2
  exact key _ (Nat.le_refl _) h h2
theorem D_triangle (a b c : Bs) : D a c ≤ D a b + D b c := by
  obtain ⟨k, hk, he⟩ := (Ed.D a b).trans (Ed.D b c)
  exact Nat.le_trans he.le hk
theorem D_self (a : Bs) : D a a = 0 := by
  induction a with
  | nil => rfl
  | cons x a ih => rw [D_same, ih]
theorem Ed.zero {a b : Bs} {n : Nat} (h : Ed a b n) (hn : n = 0) : a = b := by
  induction h with
  | nil => rfl
  | keep x _ ih => rw [ih hn]
  | del x _ _ => omega
  | ins y _ _ => omega
theorem D_zero (a b : Bs) : D a b = 0 ↔ a = b :=
  ⟨fun h => (Ed.D a b).zero h, fun h => by subst h; exact D_self a⟩
theorem D_pre (c a b : Bs) : D (c ++ a) (c ++ b) = D a b := by
  induction c with
  | nil => rfl
  | cons x c ih => simp only [List.cons_append]; rw [D_same, ih]
theorem Ed.snoc_keep {a b : Bs} {n : Nat} (h : Ed a b n) (x : UInt8) : Ed (a ++ [x]) (b ++ [x]) n := by
  induction h with
  | nil => exact .keep x .nil
  | keep y _ ih => exact .keep y ih
  | del y _ ih => exact .del y ih
  | ins y _ ih => exact .ins y ih
theorem Ed.snoc_del {a b : Bs} {n : Nat} (h : Ed a b n) (x : UInt8) : Ed (a ++ [x]) b (n + 1) := by
  induction h with
  | nil => exact .del x .nil
  | keep y _ ih => exact .keep y ih
  | del y _ ih => exact .del y ih
  | ins y _ ih => exact .ins y ih
theorem Ed.snoc_ins {a b : Bs} {n : Nat} (h : Ed a b n) (x : UInt8) : Ed a (b ++ [x]) (n + 1) := by
  induction h with
  | nil => exact .ins x .nil
  | keep y _ ih => exact .keep y ih
  | del y _ ih => exact .del y ih
  | ins y _ ih => exact .ins y ih
theorem Ed.rev {a b : Bs} {n : Nat} (h : Ed a b n) : Ed a.reverse b.reverse n := by
  induction h with
  | nil => exact .nil
  | keep x _ ih => simp only [List.reverse_cons]; exact ih.snoc_keep x
  | del x _ ih => simp only [List.reverse_cons]; exact ih.snoc_del x
  | ins y _ ih => simp only [List.reverse_cons]; exact ih.snoc_ins y
theorem D_rev (a b : Bs) : D a.reverse b.reverse = D a b := by
  have h1 := (Ed.D a b).rev.le
  have h2 := (Ed.D a.reverse b.reverse).rev.le
  simp only [List.reverse_reverse] at h2
  omega
theorem D_suf (c a b : Bs) : D (a ++ c) (b ++ c) = D a b := by
  rw [← D_rev, List.reverse_append, List.reverse_append, D_pre, D_rev]
theorem D_le_sum (a b : Bs) : D a b ≤ a.length + b.length := by
  have h := D_triangle a [] b
  rw [D_nil_r, D_nil] at h
  exact h

/- the canonical edits -/
structure E where
  at_ : Nat
  del : Nat
  ins : Bs
deriving DecidableEq
def delE (i : Nat) (o : Option E) : E := let e := o.getD ⟨i, 0, []⟩; ⟨e.at_, e.del + 1, e.ins⟩
def insE (y : UInt8) (i : Nat) (o : Option E) : E := let e := o.getD ⟨i, 0, []⟩; ⟨e.at_, e.del, e.ins ++ [y]⟩
def goF : Nat → Nat → Bs → Bs → Option E → List E
  | 0, _, _, _, o => o.toList
  | f + 1, i, a, b, o => match a, b with
    | [], [] => o.toList
    | _ :: a', [] => goF f (i + 1) a' [] (some (delE i o))
    | [], y :: b' => goF f i [] b' (some (insE y i o))
    | x :: a', y :: b' =>
      if x = y then o.toList ++ goF f (i + 1) a' b' none
      else if D a' (y :: b') ≤ D (x :: a') b' then goF f (i + 1) a' (y :: b') (some (delE i o))
      else goF f i (x :: a') b' (some (insE y i o))
def go (i : Nat) (a b : Bs) (o : Option E) : List E := goF (a.length + b.length) i a b o
theorem go_nil (i : Nat) (o : Option E) : go i [] [] o = o.toList := rfl
theorem go_del (i : Nat) (x : UInt8) (a : Bs) (o : Option E) : go i (x :: a) [] o = go (i + 1) a [] (some (delE i o)) := rfl
theorem go_ins (i : Nat) (y : UInt8) (b : Bs) (o : Option E) : go i [] (y :: b) o = go i [] b (some (insE y i o)) := by
  unfold go; simp [goF]
theorem goF_nil (f i : Nat) (o : Option E) : goF f i [] [] o = o.toList := by cases f <;> rfl
theorem goF_cc (f i : Nat) (x y : UInt8) (a b : Bs) (o : Option E) : goF (f + 1) i (x :: a) (y :: b) o =
    if x = y then o.toList ++ goF f (i + 1) a b none
    else if D a (y :: b) ≤ D (x :: a) b then goF f (i + 1) a (y :: b) (some (delE i o)) else goF f i (x :: a) b (some (insE y i o)) := rfl
theorem goF_any : ∀ f g i a b o, a.length + b.length ≤ f → a.length + b.length ≤ g → goF f i a b o = goF g i a b o := by
  intro f
  induction f with
  | zero =>
    intro g i a b o h _
    have ha : a = [] := List.eq_nil_of_length_eq_zero (by omega)
    have hb : b = [] := List.eq_nil_of_length_eq_zero (by omega)
    subst ha; subst hb; rw [goF_nil, goF_nil]
  | succ f ih =>
    intro g i a b o h hg
    cases g with
    | zero =>
      have ha : a = [] := List.eq_nil_of_length_eq_zero (by omega)
      have hb : b = [] := List.eq_nil_of_length_eq_zero (by omega)
      subst ha; subst hb; rw [goF_nil, goF_nil]
    | succ g =>
      cases a with
      | nil =>
        cases b with
        | nil => rfl
        | cons y b => exact ih g i [] b _ (by simp at h ⊢; omega) (by simp at hg ⊢; omega)
      | cons x a =>
        cases b with
        | nil => exact ih g (i + 1) a [] _ (by simp at h ⊢; omega) (by simp at hg ⊢; omega)
        | cons y b =>
          simp only [List.length_cons] at h hg
          rw [goF_cc, goF_cc, ih g (i + 1) a b none (by omega) (by omega), ih g (i + 1) a (y :: b) _ (by simp; omega) (by simp; omega), ih g i (x :: a) b _ (by simp; omega) (by simp; omega)]
theorem goF_more (f i : Nat) (a b : Bs) (o : Option E) (h : a.length + b.length ≤ f) : goF f i a b o = go i a b o := goF_any _ _ i a b o h (Nat.le_refl _)
theorem go_cc (i : Nat) (x y : UInt8) (a b : Bs) (o : Option E) : go i (x :: a) (y :: b) o =
    if x = y then o.toList ++ go (i + 1) a b none
    else if D a (y :: b) ≤ D (x :: a) b then go (i + 1) a (y :: b) (some (delE i o)) else go i (x :: a) b (some (insE y i o)) := by
  show goF ((a.length + 1) + (b.length + 1)) _ _ _ _ = _
  rw [show a.length + 1 + (b.length + 1) = (a.length + b.length + 1) + 1 by omega, goF_cc, goF_more _ _ _ _ _ (by omega), goF_more _ _ _ _ _ (by simp; omega), goF_more _ _ _ _ _ (by simp; omega)]
theorem go_same (i : Nat) (x : UInt8) (a b : Bs) (o : Option E) : go i (x :: a) (x :: b) o = o.toList ++ go (i + 1) a b none := by rw [go_cc, if_pos rfl]
theorem go_diff (i : Nat) {x y : UInt8} (h : x ≠ y) (a b : Bs) (o : Option E) : go i (x :: a) (y :: b) o =
    if D a (y :: b) ≤ D (x :: a) b then go (i + 1) a (y :: b) (some (delE i o)) else go i (x :: a) b (some (insE y i o)) := by rw [go_cc, if_neg h]
def diff (a b : Bs) : List E := go 0 a b none

def size (l : List E) : Nat := (l.map fun e => e.del + e.ins.length).sum
def sizeO : Option E → Nat | none => 0 | some e => e.del + e.ins.length
theorem size_toList (o : Option E) : size o.toList = sizeO o := by cases o <;> simp [size, sizeO]
theorem sizeO_del (i : Nat) (o : Option E) : sizeO (some (delE i o)) = sizeO o + 1 := by cases o <;> simp [sizeO, delE]; omega
theorem sizeO_ins (y : UInt8) (i : Nat) (o : Option E) : sizeO (some (insE y i o)) = sizeO o + 1 := by cases o <;> simp [sizeO, insE]; omega
theorem go_size : ∀ n i (a b : Bs) o, a.length + b.length ≤ n → size (go i a b o) = D a b + sizeO o := by
  intro n
  induction n with
  | zero =>
    intro i a b o h
    have ha : a = [] := List.eq_nil_of_length_eq_zero (by omega)
    have hb : b = [] := List.eq_nil_of_length_eq_zero (by omega)
    subst ha; subst hb; simp [go_nil, size_toList, D_nil]
  | succ n ih =>
    intro i a b o h
    match a, b with
    | [], [] => simp [go_nil, size_toList, D_nil]
    | x :: a, [] =>
      simp only [List.length_cons] at h
      rw [go_del, ih _ _ _ _ (by simp at h ⊢; omega), sizeO_del, D_nil_r, D_nil_r]; simp; omega
    | [], y :: b =>
      simp only [List.length_cons] at h
      rw [go_ins, ih _ _ _ _ (by simp at h ⊢; omega), sizeO_ins, D_nil, D_nil]; simp; omega
    | x :: a, y :: b =>
      simp only [List.length_cons] at h
      by_cases hxy : x = y
      · subst hxy
        rw [go_same, D_same]
        have : size (o.toList ++ go (i + 1) a b none) = sizeO o + size (go (i + 1) a b none) := by
          rw [← size_toList]; simp [size]
        rw [this, ih _ _ _ _ (by omega)]; simp [sizeO]; omega
      · rw [go_diff i hxy, D_diff hxy]
        split
        · rw [ih _ _ _ _ (by simp; omega), sizeO_del, Nat.min_eq_left (by assumption)]; omega
        · rw [ih _ _ _ _ (by simp; omega), sizeO_ins, Nat.min_eq_right (by omega)]; omega
theorem diff_size (a b : Bs) : size (diff a b) = D a b := by
  unfold diff; rw [go_size _ 0 a b none (Nat.le_refl _)]; simp [sizeO]

def Sep : Nat → List E → Prop
  | _, [] => True
  | lo, e :: l => lo ≤ e.at_ ∧ Sep (e.at_ + e.del + 1) l
theorem Sep.mono {lo lo' : Nat} {l : List E} (h : Sep lo l) (hl : lo' ≤ lo) : Sep lo' l := by
  cases l with
  | nil => trivial
  | cons e l => exact ⟨Nat.le_trans hl h.1, h.2⟩
def Opens (i : Nat) : Option E → Prop | none => True | some e => e.at_ + e.del = i
def lowO (i : Nat) : Option E → Nat | none => i | some e => e.at_
theorem opens_del {i : Nat} {o : Option E} (h : Opens i o) : Opens (i + 1) (some (delE i o)) ∧ lowO (i + 1) (some (delE i o)) = lowO i o := by
  cases o with
  | none => simp [Opens, delE, lowO]
  | some e => simp only [Opens] at h; simp [Opens, delE, lowO]; omega
theorem opens_ins {y : UInt8} {i : Nat} {o : Option E} (h : Opens i o) : Opens i (some (insE y i o)) ∧ lowO i (some (insE y i o)) = lowO i o := by
  cases o with
  | none => simp [Opens, insE, lowO]
  | some e => simp only [Opens] at h; simp [Opens, insE, lowO]; omega
theorem go_sep : ∀ n i (a b : Bs) o, a.length + b.length ≤ n → Opens i o → Sep (lowO i o) (go i a b o) := by
  intro n
  induction n with
  | zero =>
    intro i a b o h ho
    have ha : a = [] := List.eq_nil_of_length_eq_zero (by omega)
    have hb : b = [] := List.eq_nil_of_length_eq_zero (by omega)
    subst ha; subst hb
    cases o <;> simp [go_nil, Sep, lowO]
  | succ n ih =>
    intro i a b o h ho
    match a, b with
    | [], [] => cases o <;> simp [go_nil, Sep, lowO]
    | x :: a, [] =>
      simp only [List.length_cons] at h
      rw [go_del, ← (opens_del ho).2]; exact ih _ _ _ _ (by simp at h ⊢; omega) (opens_del ho).1
    | [], y :: b =>
      simp only [List.length_cons] at h
      rw [go_ins, ← (opens_ins (y := y) ho).2]; exact ih _ _ _ _ (by simp at h ⊢; omega) (opens_ins ho).1
    | x :: a, y :: b =>
      simp only [List.length_cons] at h
      by_cases hxy : x = y
      · subst hxy
        rw [go_same]
        have h1 := ih (i + 1) a b none (by omega) trivial
        cases o with
        | none => exact h1.mono (by simp [lowO])
        | some e =>
          simp only [Opens] at ho
          refine ⟨Nat.le_refl _, ?_⟩
          rw [ho]; exact h1
      · rw [go_diff i hxy]
        split
        · rw [← (opens_del ho).2]; exact ih _ _ _ _ (by simp; omega) (opens_del ho).1
        · rw [← (opens_ins (y := y) ho).2]; exact ih _ _ _ _ (by simp; omega) (opens_ins ho).1
theorem diff_sep (a b : Bs) : Sep 0 (diff a b) := go_sep _ 0 a b none (Nat.le_refl _) trivial

/-- the reference's application of several edits, from an offset on -/
def tog (a : Bs) : Nat → List E → Option Bs
  | at_, [] => some (a.drop at_)
  | at_, e :: l => if e.at_ < at_ ∨ a.length < e.at_ ∨ a.length - e.at_ < e.del then none
    else (tog a (e.at_ + e.del) l).map fun s => (a.drop at_).take (e.at_ - at_) ++ e.ins ++ s
def insO : Option E → Bs | none => [] | some e => e.ins
theorem ins_del (i : Nat) (o : Option E) : insO (some (delE i o)) = insO o := by cases o <;> rfl
theorem ins_ins (y : UInt8) (i : Nat) (o : Option E) : insO (some (insE y i o)) = insO o ++ [y] := by cases o <;> rfl
theorem take_one (A : Bs) (at_ i : Nat) (x : UInt8) (a : Bs) (h : A.drop i = x :: a) (hi : at_ ≤ i) :
    (A.drop at_).take (i - at_) ++ [x] = (A.drop at_).take (i + 1 - at_) := by
  have hx : (A.drop at_)[i - at_]? = some x := by
    rw [List.getElem?_drop, show at_ + (i - at_) = i + 0 by omega, ← List.getElem?_drop, h]; rfl
  rw [show i + 1 - at_ = (i - at_) + 1 by omega, List.take_add_one, hx]; rfl
theorem drop_one {A : Bs} {i : Nat} {x : UInt8} {a : Bs} (h : A.drop i = x :: a) : A.drop (i + 1) = a ∧ i < A.length := by
  constructor
  · rw [← List.drop_drop, h]; rfl
  · have := congrArg List.length h; simp at this; omega
theorem go_tog (A : Bs) : ∀ n i (b : Bs) o at_, (A.drop i).length + b.length ≤ n → i ≤ A.length → Opens i o → at_ ≤ lowO i o →
    tog A at_ (go i (A.drop i) b o) = some ((A.drop at_).take (lowO i o - at_) ++ insO o ++ b) := by
  intro n
  induction n with
  | zero =>
    intro i b o at_ h hi ho hat
    have ha : A.drop i = [] := List.eq_nil_of_length_eq_zero (by omega)
    have hb : b = [] := List.eq_nil_of_length_eq_zero (by omega)
    have hil : i = A.length := by have := congrArg List.length ha; simp at this; omega
    subst hb
    rw [ha, go_nil]
    cases o with
    | none =>
      simp only [Option.toList, tog, insO, lowO, List.append_nil]
      rw [List.take_of_length_le (by simp; omega)]
    | some e =>
      simp only [Opens] at ho
      simp only [lowO] at hat
      simp only [Option.toList, tog, insO, lowO]
      rw [if_neg (by omega), ho, ha]; rfl
  | succ n ih =>
    intro i b o at_ h hi ho hat
    cases ha : A.drop i with
    | nil =>
      have hil : i = A.length := by have := congrArg List.length ha; simp at this; omega
      cases b with
      | nil =>
        rw [go_nil]
        cases o with
        | none =>
          simp only [Option.toList, tog, insO, lowO, List.append_nil]
          rw [List.take_of_length_le (by simp; omega)]
        | some e =>
          simp only [Opens] at ho
          simp only [lowO] at hat
          simp only [Option.toList, tog, insO, lowO]
          rw [if_neg (by omega), ho, ha]; rfl
      | cons y b =>
        rw [go_ins, ← ha, ih i b _ at_ (by simp only [List.length_cons] at h; omega) hi (opens_ins ho).1 (by rw [(opens_ins ho).2]; exact hat), (opens_ins ho).2, ins_ins]
        simp
    | cons x a =>
      obtain ⟨hd1, hlt⟩ := drop_one ha
      have hlen : (A.drop (i + 1)).length + 1 = (A.drop i).length := by rw [hd1, ha]; rfl
      cases b with
      | nil =>
        rw [go_del, ← hd1, ih (i + 1) [] _ at_ (by simp only [List.length_nil] at h ⊢; omega) (by omega) (opens_del ho).1 (by rw [(opens_del ho).2]; exact hat), (opens_del ho).2, ins_del]
      | cons y b =>
        simp only [List.length_cons] at h
        by_cases hxy : x = y
        · subst hxy
          rw [go_same, ← hd1]
          cases o with
          | none =>
            simp only [lowO] at hat
            simp only [Option.toList, List.nil_append]
            rw [ih (i + 1) b none at_ (by omega) (by omega) trivial (by simp only [lowO]; omega)]
            simp only [lowO, insO, List.append_nil]
            rw [← take_one A at_ i x a ha hat]; simp
          | some e =>
            simp only [Opens] at ho
            simp only [lowO] at hat
            simp only [Option.toList, List.cons_append, List.nil_append, tog, lowO, insO]
            rw [if_neg (by omega), ho, ih (i + 1) b none i (by omega) (by omega) trivial (by simp [lowO])]
            simp only [lowO, insO, List.append_nil, Option.map_some]
            rw [← take_one A i i x a ha (Nat.le_refl _)]; simp
        · rw [go_diff i hxy]
          split
          · rw [← hd1, ih (i + 1) (y :: b) _ at_ (by simp only [List.length_cons]; omega) (by omega) (opens_del ho).1 (by rw [(opens_del ho).2]; exact hat), (opens_del ho).2, ins_del]
          · rw [← ha, ih i b _ at_ (by omega) hi (opens_ins ho).1 (by rw [(opens_ins ho).2]; exact hat), (opens_ins ho).2, ins_ins]
            simp
theorem diff_tog (a b : Bs) : tog a 0 (diff a b) = some b := by
  have := go_tog a _ 0 b none 0 (Nat.le_refl _) (Nat.zero_le _) trivial (Nat.zero_le _)
  simpa [diff, lowO, insO] using this

/- the hull -/
def lcp : Bs → Bs → Nat
  | x :: a, y :: b => if x = y then lcp a b + 1 else 0
  | _, _ => 0
theorem lcp_le : ∀ a b : Bs, lcp a b ≤ a.length ∧ lcp a b ≤ b.length
  | [], b => by simp [lcp]
  | x :: a, [] => by simp [lcp]
  | x :: a, y :: b => by
    have := lcp_le a b
    simp only [lcp, List.length_cons]
    split <;> omega
theorem lcp_take : ∀ a b : Bs, a.take (lcp a b) = b.take (lcp a b)
  | [], b => by simp [lcp]
  | x :: a, [] => by simp [lcp]
  | x :: a, y :: b => by
    have := lcp_take a b
    simp only [lcp]
    split
    · rename_i h; subst h; simp [this]
    · simp
theorem lcp_stop : ∀ a b : Bs, ∀ x y, a[lcp a b]? = some x → b[lcp a b]? = some y → x ≠ y
  | [], b => by intro x y h; simp at h
  | x :: a, [] => by intro x y _ h; simp at h
  | x :: a, y :: b => by
    intro x' y'
    have := lcp_stop a b
    simp only [lcp]
    split
    · rename_i h; subst h; simpa using this x' y'
    · rename_i h
      intro h1 h2
      simp at h1 h2
      rw [← h1, ← h2]; exact h
theorem lcp_ge : ∀ (c a b : Bs), c.length ≤ lcp (c ++ a) (c ++ b)
  | [], a, b => by simp
  | x :: c, a, b => by
    have := lcp_ge c a b
    simp only [List.cons_append, lcp, if_true, List.length_cons]; omega
/-- one step of the loop that counts the common beginning -/
theorem lcp_step (a b : Bs) (n : Nat) (hn : n ≤ lcp a b) : n = lcp a b ∨ ∃ x, a[n]? = some x ∧ b[n]? = some x := by
  rcases Nat.eq_or_lt_of_le hn with h | h
  · exact .inl h
  · right
    have h1 := (lcp_le a b).1
    have ha : n < a.length := by omega
    refine ⟨a[n], List.getElem?_eq_getElem ha, ?_⟩
    have e := congrArg (fun l : Bs => l[n]?) (lcp_take a b)
    simp only [List.getElem?_take, if_pos h] at e
    rw [← e]; exact List.getElem?_eq_getElem ha
theorem lcp_reach : ∀ (a b : Bs) (n : Nat), (∀ i, i < n → i < a.length → i < b.length → a[i]? = b[i]?) → n ≤ lcp a b ∨ lcp a b = a.length ∨ lcp a b = b.length
  | [], b, n, _ => by simp [lcp]
  | x :: a, [], n, _ => by simp [lcp]
  | x :: a, y :: b, 0, _ => by simp
  | x :: a, y :: b, n + 1, h => by
    have h0 := h 0 (by omega) (by simp) (by simp)
    simp at h0
    have := lcp_reach a b n (fun i hi h1 h2 => by have := h (i + 1) (by omega) (by simpa using h1) (by simpa using h2); simpa using this)
    simp only [lcp, if_pos h0, List.length_cons]
    omega
def suf (a b : Bs) : Nat := lcp (a.drop (lcp a b)).reverse (b.drop (lcp a b)).reverse
def hull (a b : Bs) : E := ⟨lcp a b, a.length - lcp a b - suf a b, (b.drop (lcp a b)).take (b.length - lcp a b - suf a b)⟩
theorem suf_le (a b : Bs) : suf a b ≤ a.length - lcp a b ∧ suf a b ≤ b.length - lcp a b := by
  have := lcp_le (a.drop (lcp a b)).reverse (b.drop (lcp a b)).reverse
  simpa [suf] using this
theorem suf_drop (a b : Bs) : a.drop (a.length - suf a b) = b.drop (b.length - suf a b) := by
  have h := lcp_take (a.drop (lcp a b)).reverse (b.drop (lcp a b)).reverse
  have hs := suf_le a b
  have hl := lcp_le a b
  have h' := congrArg List.reverse h
  rw [List.reverse_take, List.reverse_take] at h'
  simp only [List.reverse_reverse, List.length_reverse, List.length_drop, List.drop_drop] at h'
  have e1 : lcp a b + (a.length - lcp a b - suf a b) = a.length - suf a b := by omega
  have e2 : lcp a b + (b.length - lcp a b - suf a b) = b.length - suf a b := by omega
  unfold suf at e1 e2 ⊢
  rw [e1, e2] at h'
  exact h'
theorem hull_parts (a b : Bs) : a = a.take (lcp a b) ++ ((a.drop (lcp a b)).take (hull a b).del ++ a.drop (a.length - suf a b)) ∧
    b = a.take (lcp a b) ++ ((hull a b).ins ++ a.drop (a.length - suf a b)) := by
  have hs := suf_le a b
  have hl := lcp_le a b
  constructor
  · have e : a.drop (a.length - suf a b) = (a.drop (lcp a b)).drop (hull a b).del := by
      rw [List.drop_drop]; congr 1; simp [hull]; omega
    rw [e, List.take_append_drop, List.take_append_drop]
  · rw [suf_drop, lcp_take]
    have e : b.drop (b.length - suf a b) = (b.drop (lcp a b)).drop (b.length - lcp a b - suf a b) := by
      rw [List.drop_drop]; congr 1; omega
    show b = _ ++ ((b.drop (lcp a b)).take (b.length - lcp a b - suf a b) ++ _)
    rw [e, List.take_append_drop, List.take_append_drop]
theorem hull_ins_length (a b : Bs) : (hull a b).ins.length = b.length - lcp a b - suf a b := by simp [hull]
theorem hull_tog (a b : Bs) : tog a 0 [hull a b] = some b := by
  have hs := suf_le a b
  have hl := lcp_le a b
  have e1 : (hull a b).at_ = lcp a b := rfl
  have e2 : (hull a b).del = a.length - lcp a b - suf a b := rfl
  simp only [tog]
  rw [if_neg (by omega)]
  simp only [Option.map_some, List.drop_zero, Nat.sub_zero]
  congr 1
  conv => rhs; rw [(hull_parts a b).2]
  rw [show (hull a b).at_ + (hull a b).del = a.length - suf a b by omega, e1, List.append_assoc]
theorem hull_D (a b : Bs) : D a b ≤ (hull a b).del + (hull a b).ins.length := by
  have h := hull_parts a b
  have h1 : D a b = D ((a.drop (lcp a b)).take (hull a b).del) (hull a b).ins := by
    conv => lhs; rw [h.1]
    rw [show D (a.take (lcp a b) ++ ((a.drop (lcp a b)).take (hull a b).del ++ a.drop (a.length - suf a b))) b = D (a.take (lcp a b) ++ ((a.drop (lcp a b)).take (hull a b).del ++ a.drop (a.length - suf a b))) (a.take (lcp a b) ++ ((hull a b).ins ++ a.drop (a.length - suf a b))) from by rw [← h.2]]
    rw [D_pre, D_suf]
  rw [h1]
  refine Nat.le_trans (D_le_sum _ _) ?_
  have : ((a.drop (lcp a b)).take (hull a b).del).length ≤ (hull a b).del := List.length_take_le _ _
  omega
theorem hull_first (a b : Bs) (x y : UInt8) (hi : 0 < (hull a b).ins.length) (hx : a[lcp a b]? = some x) (hy : (hull a b).ins[0]? = some y) : x ≠ y := by
  have hi' : 0 < b.length - lcp a b - suf a b := by rw [hull_ins_length] at hi; exact hi
  have : b[lcp a b]? = some y := by
    simp only [hull] at hy
    rw [List.getElem?_take, if_pos hi', List.getElem?_drop] at hy
    exact hy
  exact lcp_stop a b x y hx this
theorem hull_last (a b : Bs) (x y : UInt8) (hd : 0 < (hull a b).del) (hi : 0 < (hull a b).ins.length) (hx : a[lcp a b + (hull a b).del - 1]? = some x)
    (hy : (hull a b).ins[(hull a b).ins.length - 1]? = some y) : x ≠ y := by
  have hi' : 0 < b.length - lcp a b - suf a b := by rw [hull_ins_length] at hi; exact hi
  have hs := suf_le a b
  have hl := lcp_le a b
  have e2 : (hull a b).del = a.length - lcp a b - suf a b := rfl
  refine lcp_stop (a.drop (lcp a b)).reverse (b.drop (lcp a b)).reverse x y ?_ ?_
  · show (a.drop (lcp a b)).reverse[suf a b]? = _
    rw [List.getElem?_reverse (by simp; omega), List.getElem?_drop, ← hx]
    congr 1; simp; omega
  · show (b.drop (lcp a b)).reverse[suf a b]? = _
    rw [hull_ins_length] at hy
    simp only [hull] at hy
    rw [List.getElem?_take, if_pos (by omega), List.getElem?_drop] at hy
    rw [List.getElem?_reverse (by simp; omega), List.getElem?_drop, ← hy]
    congr 1; simp; omega
/-- one edit -/
theorem one_edit (p x y s : Bs) : D (p ++ (x ++ s)) (p ++ (y ++ s)) ≤ x.length + y.length ∧
    (hull (p ++ (x ++ s)) (p ++ (y ++ s))).del ≤ x.length ∧ (hull (p ++ (x ++ s)) (p ++ (y ++ s))).ins.length ≤ y.length ∧
    (hull (p ++ (x ++ s)) (p ++ (y ++ s))).del + y.length = (hull (p ++ (x ++ s)) (p ++ (y ++ s))).ins.length + x.length := by
  refine ⟨by rw [D_pre, D_suf]; exact D_le_sum x y, ?_⟩
  generalize ha : p ++ (x ++ s) = a
  generalize hb : p ++ (y ++ s) = b
  have hla : a.length = p.length + x.length + s.length := by rw [← ha]; simp; omega
  have hlb : b.length = p.length + y.length + s.length := by rw [← hb]; simp; omega
  have hp : p.length ≤ lcp a b := by rw [← ha, ← hb]; exact lcp_ge p _ _
  have hs := suf_le a b
  have hl := lcp_le a b
  have e2 : (hull a b).del = a.length - lcp a b - suf a b := rfl
  have e3 := hull_ins_length a b
  have hta : ∀ j, p.length + x.length ≤ j → a[j]? = s[j - (p.length + x.length)]? := by
    intro j hj
    rw [← ha, ← List.append_assoc, List.getElem?_append_right (by simp; omega)]; simp
  have htb : ∀ j, p.length + y.length ≤ j → b[j]? = s[j - (p.length + y.length)]? := by
    intro j hj
    rw [← hb, ← List.append_assoc, List.getElem?_append_right (by simp; omega)]; simp
  -- the common end is as long as s, or all that is left
  have hsuf : s.length ≤ suf a b ∨ suf a b = a.length - lcp a b ∨ suf a b = b.length - lcp a b := by
    rcases lcp_reach (a.drop (lcp a b)).reverse (b.drop (lcp a b)).reverse s.length (by
      intro i hi h1 h2
      simp only [List.length_reverse, List.length_drop] at h1 h2
      rw [List.getElem?_reverse (by simpa using h1), List.getElem?_reverse (by simpa using h2), List.getElem?_drop, List.getElem?_drop]
      simp only [List.length_drop]
      rw [hta _ (by omega), htb _ (by omega)]
      congr 1; omega) with h | h | h
    · exact .inl h
    · right; left; simpa [suf] using h
    · right; right; simpa [suf] using h
  omega
end Go.Proofs.Td
