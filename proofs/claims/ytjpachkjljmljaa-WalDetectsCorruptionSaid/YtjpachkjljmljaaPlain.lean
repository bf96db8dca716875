/- The plain mathematics of the write-ahead log: what Encode, Append and Decode compute on lists of bytes, and its laws. No program in sight. -/
namespace Go.Proofs.Wal
abbrev Bs := List UInt8

def little (n : Nat) : Bs := [UInt8.ofNat n, UInt8.ofNat (n / 256), UInt8.ofNat (n / 65536), UInt8.ofNat (n / 16777216)]
theorem stepH_ex (h : Nat) (b : UInt8) : ∃ n, n = ((h ^^^ b.toNat) * 16777619) % 4294967296 := ⟨_, rfl⟩
noncomputable def stepH (h : Nat) (b : UInt8) : Nat := Classical.choose (stepH_ex h b)
theorem stepH_def (h : Nat) (b : UInt8) : stepH h b = ((h ^^^ b.toNat) * 16777619) % 4294967296 := Classical.choose_spec (stepH_ex h b)
noncomputable def hash (h : Nat) (l : Bs) : Nat := l.foldl stepH h
noncomputable def chk (r : Bs) : Bs := little (hash (hash 2166136261 (little r.length)) r)
noncomputable def rcd (r : Bs) : Bs := little r.length ++ chk r ++ r
noncomputable def enc : List Bs → Bs
  | [] => []
  | r :: l => rcd r ++ enc l
/-- (behind a choice: so that no checker multiplies an open term by a large literal) -/
theorem num_ex (t : Bs) : ∃ n, n = (t[0]?.getD 0).toNat + (t[1]?.getD 0).toNat * 256 + (t[2]?.getD 0).toNat * 65536 + (t[3]?.getD 0).toNat * 16777216 := ⟨_, rfl⟩
noncomputable def num (t : Bs) : Nat := Classical.choose (num_ex t)
theorem num_def (t : Bs) : num t = (t[0]?.getD 0).toNat + (t[1]?.getD 0).toNat * 256 + (t[2]?.getD 0).toNat * 65536 + (t[3]?.getD 0).toNat * 16777216 := Classical.choose_spec (num_ex t)
/-- the next record of what is left of a log -/
noncomputable def next (t : Bs) : Option Bs :=
  if t.length < 8 then none
  else if t.length - 8 < num t then none
  else if (t.drop 4).take 4 = chk ((t.drop 8).take (num t)) then some ((t.drop 8).take (num t)) else none
noncomputable def decF : Nat → Bs → List Bs
  | 0, _ => []
  | f + 1, t => match next t with
    | none => []
    | some r => r :: decF f (t.drop (8 + r.length))
noncomputable def dec (t : Bs) : List Bs := decF t.length t

@[simp] theorem length_little (n : Nat) : (little n).length = 4 := rfl
@[simp] theorem length_chk (r : Bs) : (chk r).length = 4 := rfl
@[simp] theorem length_rcd (r : Bs) : (rcd r).length = 8 + r.length := by simp [rcd, length_little, length_chk]; omega
theorem enc_append (a b : List Bs) : enc (a ++ b) = enc a ++ enc b := by
  induction a with
  | nil => rfl
  | cons r a ih => simp [enc, ih]
theorem next_lt {t r : Bs} (h : next t = some r) : 8 + r.length ≤ t.length ∧ r = (t.drop 8).take (num t) ∧ r.length = num t ∧ (t.drop 4).take 4 = chk r := by
  unfold next at h
  split at h
  · cases h
  · split at h
    · cases h
    · split at h
      · injection h with h
        subst h
        refine ⟨?_, rfl, ?_, by assumption⟩
        · simp; omega
        · simp; omega
      · cases h
theorem decF_enough : ∀ f t, t.length ≤ f → decF f t = dec t := by
  intro f
  induction f using Nat.strongRecOn with
  | _ f ih =>
    intro t ht
    rcases Nat.eq_or_lt_of_le ht with h | h
    · rw [← h]; rfl
    · cases f with
      | zero => omega
      | succ f =>
        unfold dec
        cases hn : next t with
        | none =>
          cases hl : t.length with
          | zero => simp [decF, hn]
          | succ k => simp [decF, hn]
        | some r =>
          have hb := (next_lt hn).1
          cases hl : t.length with
          | zero => omega
          | succ k =>
            simp only [decF, hn]
            congr 1
            rw [ih f (by omega) _ (by simp; omega), ih k (by omega) _ (by simp; omega)]
theorem dec_eq (t : Bs) : dec t = match next t with
    | none => []
    | some r => r :: dec (t.drop (8 + r.length)) := by
  cases hn : next t with
  | none => unfold dec; cases t.length <;> simp [decF, hn]
  | some r =>
    have hb := (next_lt hn).1
    unfold dec
    cases hl : t.length with
    | zero => omega
    | succ k =>
      simp only [decF, hn]
      congr 1
      rw [decF_enough k _ (by simp; omega)]
      rfl
theorem num_little (n : Nat) (h : n < 4294967296) (t : Bs) : num (little n ++ t) = n := by
  simp [num_def, little]
  omega
theorem little_num (t : Bs) (h : 4 ≤ t.length) : little (num t) = t.take 4 := by
  match t, h with
  | a :: b :: c :: d :: t, _ =>
    have ha := a.toNat_lt; have hb := b.toNat_lt; have hc := c.toNat_lt; have hd := d.toNat_lt
    simp only [little, num_def, List.getElem?_cons_zero, List.getElem?_cons_succ, Option.getD_some, List.take_succ_cons, List.take_zero]
    refine congr (congrArg _ (UInt8.toNat_inj.1 ?_)) (congr (congrArg _ (UInt8.toNat_inj.1 ?_)) (congr (congrArg _ (UInt8.toNat_inj.1 ?_)) (congr (congrArg _ (UInt8.toNat_inj.1 ?_)) rfl)))
    all_goals (simp only [UInt8.toNat_ofNat']; omega)
theorem rcd_split (r t : Bs) : (rcd r ++ t).drop 4 = chk r ++ (r ++ t) ∧ (rcd r ++ t).drop 8 = r ++ t := by
  constructor
  · have : rcd r ++ t = little r.length ++ (chk r ++ (r ++ t)) := by simp [rcd]
    rw [this, List.drop_append_of_le_length (by simp [length_little])]
    rfl
  · have : rcd r ++ t = (little r.length ++ chk r) ++ (r ++ t) := by simp [rcd]
    rw [this, List.drop_append_of_le_length (by simp [length_little, length_chk])]
    rfl
theorem num_rcd (r t : Bs) (h : r.length < 4294967296) : num (rcd r ++ t) = r.length := by
  have : rcd r ++ t = little r.length ++ (chk r ++ (r ++ t)) := by simp [rcd]
  rw [this, num_little _ h]
theorem next_rcd (r t : Bs) (h : r.length < 4294967296) : next (rcd r ++ t) = some r := by
  unfold next
  rw [num_rcd r t h, (rcd_split r t).1, (rcd_split r t).2]
  have hl : (rcd r ++ t).length = 8 + r.length + t.length := by simp [length_rcd]
  rw [if_neg (by omega), if_neg (by omega)]
  have h1 : (r ++ t).take r.length = r := by simp
  have h2 : (chk r ++ (r ++ t)).take 4 = chk r := by
    rw [List.take_append_of_le_length (by simp [length_chk])]; rfl
  rw [h1, h2, if_pos rfl]
theorem dec_rcd (r t : Bs) (h : r.length < 4294967296) : dec (rcd r ++ t) = r :: dec t := by
  rw [dec_eq, next_rcd r t h]
  show r :: dec (List.drop (8 + r.length) (rcd r ++ t)) = r :: dec t
  congr 2
  rw [← length_rcd]
  simp
def Short (l : List Bs) : Prop := ∀ r ∈ l, r.length < 4294967296
theorem dec_enc_append (l : List Bs) (t : Bs) (h : Short l) : dec (enc l ++ t) = l ++ dec t := by
  induction l with
  | nil => rfl
  | cons r l ih =>
    simp only [enc, List.append_assoc]
    rw [dec_rcd _ _ (h r (by simp)), ih (fun x hx => h x (by simp [hx]))]
    rfl
theorem next_short (t : Bs) (h : t.length < 8) : next t = none := by unfold next; rw [if_pos h]
theorem dec_short (t : Bs) (h : t.length < 8) : dec t = [] := by rw [dec_eq, next_short t h]
theorem dec_nil : dec [] = [] := rfl
theorem dec_enc (l : List Bs) (h : Short l) : dec (enc l) = l := by
  have := dec_enc_append l [] h
  simpa [dec_nil] using this
/-- how many records are complete within the first 'cut' bytes -/
def fits : List Bs → Nat → Nat
  | [], _ => 0
  | r :: l, cut => if 8 + r.length ≤ cut then fits l (cut - (8 + r.length)) + 1 else 0
theorem dec_take (l : List Bs) (h : Short l) : ∀ cut, dec ((enc l).take cut) = l.take (fits l cut) := by
  induction l with
  | nil => intro cut; simp [enc, fits, dec_nil]
  | cons r l ih =>
    intro cut
    simp only [enc, fits]
    by_cases hc : 8 + r.length ≤ cut
    · rw [if_pos hc]
      have : (rcd r ++ enc l).take cut = rcd r ++ (enc l).take (cut - (8 + r.length)) := by
        rw [List.take_append, length_rcd, List.take_of_length_le (by rw [length_rcd]; omega)]
      rw [this, dec_rcd _ _ (h r (by simp)), ih (fun x hx => h x (by simp [hx]))]
      rfl
    · rw [if_neg hc]
      simp only [List.take_zero]
      rw [List.take_append, length_rcd, show cut - (8 + r.length) = 0 by omega]
      simp only [List.take_zero, List.append_nil]
      by_cases h8 : cut < 8
      · exact dec_short _ (by simp; omega)
      · have hn : num ((rcd r).take cut) = r.length := by
          have h1 : num ((rcd r).take cut) = num (rcd r ++ []) := by
            have e : ∀ i, i < 4 → ((rcd r).take cut)[i]? = (rcd r ++ [])[i]? := by
              intro i hi
              rw [List.getElem?_take, if_pos (by omega), List.append_nil]
            simp only [num_def, e 0 (by omega), e 1 (by omega), e 2 (by omega), e 3 (by omega)]
          rw [h1, num_rcd _ _ (h r (by simp))]
        have : next ((rcd r).take cut) = none := by
          unfold next
          rw [hn]
          have hl : ((rcd r).take cut).length = cut := by simp [length_rcd]; omega
          rw [hl, if_neg h8, if_pos (by omega)]
        rw [dec_eq, this]
theorem fits_le (l : List Bs) : ∀ cut, fits l cut ≤ l.length := by
  induction l with
  | nil => intro cut; simp [fits]
  | cons r l ih =>
    intro cut
    simp only [fits]
    split
    · have := ih (cut - (8 + r.length)); simp; omega
    · simp
theorem enc_dec (t : Bs) : enc (dec t) = t.take (enc (dec t)).length := by
  have key : ∀ n t, t.length ≤ n → ∃ s, t = enc (dec t) ++ s := by
    intro n
    induction n with
    | zero => intro t ht; exact ⟨t, by rw [dec_short t (by omega)]; rfl⟩
    | succ n ih =>
      intro t ht
      rw [dec_eq]
      cases hn : next t with
      | none => exact ⟨t, rfl⟩
      | some r =>
        obtain ⟨h1, h2, h3, h4⟩ := next_lt hn
        obtain ⟨s, hs⟩ := ih (t.drop (8 + r.length)) (by simp; omega)
        refine ⟨s, ?_⟩
        simp only [enc, List.append_assoc]
        rw [← hs]
        have e1 : little r.length = t.take 4 := by rw [h3]; exact little_num t (by omega)
        have e2 : r = (t.drop 8).take r.length := by rw [h3]; exact h2
        have a1 : t = t.take 4 ++ ((t.drop 4).take 4 ++ ((t.drop 8).take r.length ++ t.drop (8 + r.length))) := by
          rw [show t.drop (8 + r.length) = (t.drop 8).drop r.length by rw [List.drop_drop], List.take_append_drop,
            show t.drop 8 = (t.drop 4).drop 4 by rw [List.drop_drop], List.take_append_drop, List.take_append_drop]
        rw [← e1, h4, ← e2] at a1
        rw [rcd]
        simp only [List.append_assoc]
        exact a1
  obtain ⟨s, hs⟩ := key t.length t (Nat.le_refl _)
  have : t.take (enc (dec t)).length = (enc (dec t) ++ s).take (enc (dec t)).length := by rw [← hs]
  rw [this]
  simp
theorem enc_dec_le (t : Bs) : (enc (dec t)).length ≤ t.length := by
  have := congrArg List.length (enc_dec t)
  simp at this
  omega

/- one changed byte -/
theorem xor_lt (h b : Nat) (hh : h < 4294967296) (hb : b < 256) : h ^^^ b < 4294967296 := by
  have := @Nat.xor_lt_two_pow h b 32 (by simpa using hh) (by simp; omega)
  simpa using this
theorem xor_cancel_l (a b c : Nat) (h : a ^^^ b = a ^^^ c) : b = c := by
  have h' : a ^^^ (a ^^^ b) = a ^^^ (a ^^^ c) := by rw [h]
  simpa [← Nat.xor_assoc] using h'
theorem xor_cancel_r (a b c : Nat) (h : a ^^^ c = b ^^^ c) : a = b := xor_cancel_l c a b (by rw [Nat.xor_comm c a, Nat.xor_comm c b, h])
theorem mul_inj (a b : Nat) (ha : a < 4294967296) (hb : b < 4294967296) (h : (a * 16777619) % 4294967296 = (b * 16777619) % 4294967296) : a = b := by
  -- 899433627 is the inverse of 16777619 modulo 2^32
  have h' : ((a * 16777619) % 4294967296 * 899433627) % 4294967296 = ((b * 16777619) % 4294967296 * 899433627) % 4294967296 := by rw [h]
  simp only [Nat.mul_mod, Nat.mod_mod] at h'
  have e : ∀ x, x < 4294967296 → ((x * 16777619) % 4294967296 * 899433627) % 4294967296 = x := by
    intro x hx
    have : (x * 16777619) % 4294967296 * 899433627 % 4294967296 = (x * (16777619 * 899433627)) % 4294967296 := by
      rw [Nat.mod_mul_mod, Nat.mul_assoc]
    rw [this, show (16777619 * 899433627 : Nat) = 1 + 4294967296 * 3513497 by decide]
    rw [Nat.mul_add, Nat.mul_one, show x * (4294967296 * 3513497) = 4294967296 * (x * 3513497) by rw [← Nat.mul_assoc, Nat.mul_comm x, Nat.mul_assoc]]
    rw [Nat.add_mul_mod_self_left]
    exact Nat.mod_eq_of_lt hx
  rw [← e a ha, ← e b hb, h]
theorem stepH_lt (h : Nat) (b : UInt8) : stepH h b < 4294967296 := by rw [stepH_def]; exact Nat.mod_lt _ (by decide)
theorem hash_lt (l : Bs) : ∀ h, h < 4294967296 → hash h l < 4294967296 := by
  induction l with
  | nil => intro h hh; exact hh
  | cons b l ih => intro h _; exact ih _ (stepH_lt h b)
theorem hash_inj (l : Bs) : ∀ h k, h < 4294967296 → k < 4294967296 → hash h l = hash k l → h = k := by
  induction l with
  | nil => intro h k _ _ e; exact e
  | cons b l ih =>
    intro h k hh hk e
    have := ih (stepH h b) (stepH k b) (stepH_lt _ _) (stepH_lt _ _) e
    have hb := b.toNat_lt
    rw [stepH_def, stepH_def] at this
    have := mul_inj _ _ (xor_lt h _ hh hb) (xor_lt k _ hk hb) this
    exact xor_cancel_r _ _ _ this
theorem hash_append (a b : Bs) (h : Nat) : hash h (a ++ b) = hash (hash h a) b := by simp [hash, List.foldl_append]
theorem stepH_byte (h : Nat) (b c : UInt8) (hh : h < 4294967296) (e : stepH h b = stepH h c) : b = c := by
  rw [stepH_def, stepH_def] at e
  have := mul_inj _ _ (xor_lt h _ hh b.toNat_lt) (xor_lt h _ hh c.toNat_lt) e
  exact UInt8.toNat_inj.1 (xor_cancel_l _ _ _ this)
theorem hash_set (l : Bs) (i : Nat) (c : UInt8) (h : Nat) (hh : h < 4294967296) (hi : i < l.length) (hc : l[i]? ≠ some c) : hash h (l.set i c) ≠ hash h l := by
  intro e
  have hs : l.set i c = l.take i ++ c :: l.drop (i + 1) := by rw [List.set_eq_take_append_cons_drop, if_pos hi]
  have hl : l = l.take i ++ l[i] :: l.drop (i + 1) := by simp
  rw [hs] at e
  conv at e => rhs; rw [hl]
  rw [hash_append, hash_append] at e
  have h1 := hash_lt (l.take i) h hh
  have := hash_inj (l.drop (i + 1)) (stepH (hash h (l.take i)) c) (stepH (hash h (l.take i)) l[i]) (stepH_lt _ _) (stepH_lt _ _) e
  have := stepH_byte _ _ _ h1 this
  exact hc (by rw [List.getElem?_eq_getElem hi, this])
theorem little_inj (a b : Nat) (ha : a < 4294967296) (hb : b < 4294967296) (h : little a = little b) : a = b := by
  have h1 := num_little a ha []
  rw [h, num_little b hb []] at h1
  exact h1.symm
theorem hash0_lt (r : Bs) : hash 2166136261 (little r.length) < 4294967296 := hash_lt _ _ (by decide)
/-- a changed byte behind the length: the record is not read -/
theorem next_bad (r t : Bs) (hr : r.length < 4294967296) (i : Nat) (h4 : 4 ≤ i) (hi : i < 8 + r.length) (c : UInt8) (hc : (rcd r)[i]? ≠ some c) : next ((rcd r).set i c ++ t) = none := by
  have hl : ((rcd r).set i c ++ t).length = 8 + r.length + t.length := by simp [length_rcd]
  have hn : num ((rcd r).set i c ++ t) = r.length := by
    rw [← num_rcd r t hr]
    have e : ∀ j, j < 4 → ((rcd r).set i c ++ t)[j]? = (rcd r ++ t)[j]? := by
      intro j hj
      rw [List.getElem?_append_left (by simp [length_rcd]; omega), List.getElem?_append_left (by simp [length_rcd]; omega), List.getElem?_set_ne (by omega)]
    simp only [num_def, e 0 (by omega), e 1 (by omega), e 2 (by omega), e 3 (by omega)]
  unfold next
  rw [hn, hl, if_neg (by omega), if_neg (by omega)]
  rw [if_neg]
  intro e
  by_cases h8 : i < 8
  · -- the checksum was changed
    have e1 : (rcd r).set i c = little r.length ++ ((chk r).set (i - 4) c ++ r) := by
      unfold rcd
      rw [List.append_assoc, List.set_append, if_neg (by simp [length_little]; omega), length_little, List.set_append, if_pos (by simp [length_chk]; omega)]
    have e2 : (((rcd r).set i c ++ t).drop 4).take 4 = (chk r).set (i - 4) c := by
      rw [e1, List.append_assoc, List.drop_append_of_le_length (by simp [length_little])]
      simp only [show List.drop 4 (little r.length) = [] from rfl, List.nil_append, List.append_assoc]
      rw [List.take_append_of_le_length (by simp [length_chk])]
      rw [List.take_of_length_le (by simp [length_chk])]
    have e3 : (((rcd r).set i c ++ t).drop 8).take r.length = r := by
      rw [e1, ← List.append_assoc, List.append_assoc, List.drop_append_of_le_length (by simp [length_little, length_chk])]
      rw [List.drop_of_length_le (by simp [length_little, length_chk])]
      simp
    rw [e2, e3] at e
    apply hc
    unfold rcd
    rw [List.append_assoc, List.getElem?_append_right (by simp [length_little]; omega), length_little, List.getElem?_append_left (by simp [length_chk]; omega)]
    rw [← e, List.getElem?_set_self (by simp [length_chk]; omega)]
  · -- the content was changed
    have e1 : (rcd r).set i c = (little r.length ++ chk r) ++ r.set (i - 8) c := by
      unfold rcd
      rw [List.set_append, if_neg (by simp [length_little, length_chk]; omega)]
      rfl
    have e2 : (((rcd r).set i c ++ t).drop 4).take 4 = chk r := by
      rw [e1, List.append_assoc, List.append_assoc, List.drop_append_of_le_length (by simp [length_little])]
      simp only [show List.drop 4 (little r.length) = [] from rfl, List.nil_append]
      rw [List.take_append_of_le_length (by simp [length_chk])]
      rw [List.take_of_length_le (by simp [length_chk])]
    have e3 : (((rcd r).set i c ++ t).drop 8).take r.length = r.set (i - 8) c := by
      rw [e1, List.append_assoc, List.drop_append_of_le_length (by simp [length_little, length_chk])]
      rw [List.drop_of_length_le (by simp [length_little, length_chk])]
      rw [List.nil_append, List.take_append_of_le_length (by simp)]
      rw [List.take_of_length_le (by simp)]
    rw [e2, e3] at e
    have hlen : (r.set (i - 8) c).length = r.length := by simp
    unfold chk at e
    rw [hlen] at e
    have := little_inj _ _ (hash_lt _ _ (hash0_lt r)) (hash_lt _ _ (hash0_lt r)) e
    refine hash_set r (i - 8) c _ (hash0_lt r) (by omega) ?_ this.symm
    intro hcc
    apply hc
    unfold rcd
    rw [List.getElem?_append_right (by simp [length_little, length_chk]; omega)]
    exact hcc
theorem dec_bad (l m : List Bs) (r : Bs) (hs : Short l) (hr : r.length < 4294967296) (i : Nat) (h4 : 4 ≤ i) (hi : i < 8 + r.length) (c : UInt8) (hc : (rcd r)[i]? ≠ some c) :
    dec ((enc (l ++ r :: m)).set ((enc l).length + i) c) = l := by
  rw [enc_append, List.set_append, if_neg (by omega), show (enc l).length + i - (enc l).length = i by omega]
  rw [dec_enc_append _ _ hs]
  simp only [enc]
  rw [List.set_append, if_pos (by rw [length_rcd]; omega), dec_eq, next_bad r (enc m) hr i h4 hi c hc]
  simp

/- forms for the walks -/
theorem foldl_snoc (f : Nat → UInt8 → Nat) (h : Nat) (l : Bs) (u : UInt8) : (l ++ [u]).foldl f h = f (l.foldl f h) u := by rw [List.foldl_append, List.foldl_cons, List.foldl_nil]
theorem take_snoc (s : Bs) (i : Nat) (u : UInt8) (hu : s[i]? = some u) : s.take (i + 1) = s.take i ++ [u] := by
  rw [List.take_add_one, hu]; exact rfl
theorem hash_take (h : Nat) (s : Bs) (i : Nat) (u : UInt8) (hu : s[i]? = some u) : hash h (s.take (i + 1)) = stepH (hash h (s.take i)) u := by
  rw [take_snoc s i u hu]
  exact foldl_snoc stepH h (s.take i) u
theorem take_all (s : Bs) (i : Nat) (hi : i ≤ s.length) (h : ¬ i < s.length) : s.take i = s := List.take_of_length_le (by omega)
theorem or_sh (a b i : Nat) (h : a < 2 ^ i) : a ||| b * 2 ^ i = b * 2 ^ i + a := by rw [Nat.or_comm, ← Nat.shiftLeft_eq, Nat.shiftLeft_add_eq_or_of_lt h]
theorem p24 : (2 : Nat) ^ 24 = 16777216 := rfl
theorem p16 : (2 : Nat) ^ 16 = 65536 := rfl
theorem p8 : (2 : Nat) ^ 8 = 256 := rfl
theorem x1 (a b : Nat) (ha : a < 256) : a ||| b * 2 ^ 8 = b * 256 + a := by rw [or_sh a b 8 (by rw [p8]; exact ha), p8]
theorem x2 (a b : Nat) (ha : a < 65536) : a ||| b * 2 ^ 16 = b * 65536 + a := by rw [or_sh a b 16 (by rw [p16]; exact ha), p16]
theorem x3 (a b : Nat) (ha : a < 16777216) : a ||| b * 2 ^ 24 = b * 16777216 + a := by rw [or_sh a b 24 (by rw [p24]; exact ha), p24]
theorem or4 (a b c d : Nat) (ha : a < 256) (hb : b < 256) (hc : c < 256) : (a ||| b * 2 ^ 8) ||| c * 2 ^ 16 ||| d * 2 ^ 24 = a + b * 256 + c * 65536 + d * 16777216 := by
  rw [x1 a b ha, x2 _ c (by omega), x3 _ d (by omega)]
  omega
theorem num_eq (t : Bs) (a b c d : UInt8) (h0 : t[0]? = some a) (h1 : t[1]? = some b) (h2 : t[2]? = some c) (h3 : t[3]? = some d) : num t = a.toNat + b.toNat * 256 + c.toNat * 65536 + d.toNat * 16777216 := by
  simp [num_def, h0, h1, h2, h3]
theorem num_lt (t : Bs) : num t < 4294967296 := by
  have h0 := (t[0]?.getD 0).toNat_lt; have h1 := (t[1]?.getD 0).toNat_lt; have h2 := (t[2]?.getD 0).toNat_lt; have h3 := (t[3]?.getD 0).toNat_lt
  rw [num_def]; omega
theorem dec_stop2 (t : Bs) (h2 : t.length - 8 < num t) : dec t = [] := by
  rw [dec_eq]; unfold next
  by_cases h : t.length < 8
  · rw [if_pos h]
  · rw [if_neg h, if_pos h2]
theorem dec_stop3 (t : Bs) (h3 : (t.drop 4).take 4 ≠ chk ((t.drop 8).take (num t))) : dec t = [] := by
  have : next t = none := by
    unfold next
    by_cases h1 : t.length < 8
    · rw [if_pos h1]
    · rw [if_neg h1]
      by_cases h2 : t.length - 8 < num t
      · rw [if_pos h2]
      · rw [if_neg h2, if_neg h3]
  rw [dec_eq, this]
theorem dec_go (t : Bs) (h1 : ¬ t.length < 8) (h2 : ¬ t.length - 8 < num t) (h3 : (t.drop 4).take 4 = chk ((t.drop 8).take (num t))) :
    dec t = (t.drop 8).take (num t) :: dec (t.drop (8 + num t)) := by
  rw [dec_eq]
  have : next t = some ((t.drop 8).take (num t)) := by unfold next; rw [if_neg h1, if_neg h2, if_pos h3]
  rw [this]
  show _ :: dec (t.drop (8 + ((t.drop 8).take (num t)).length)) = _
  rw [show ((t.drop 8).take (num t)).length = num t by simp; omega]
def fewGo : Nat → List Bs → Bool
  | _, [] => true
  | n, r :: l => if 3000 < n + r.length then false else fewGo (n + r.length) l
def few (l : List Bs) : Bool := fewGo 0 l && decide (l.length ≤ 40)
theorem fewGo_le : ∀ (l : List Bs) (n : Nat), fewGo n l = true → n ≤ 3000 → n + (l.map List.length).sum ≤ 3000
  | [], n, _, hn => by simpa using hn
  | r :: l, n, h, _ => by
    simp only [fewGo] at h
    split at h
    · cases h
    · have := fewGo_le l _ h (by omega); simp; omega
theorem few_le {l : List Bs} (h : few l = true) : (l.map List.length).sum ≤ 3000 ∧ l.length ≤ 40 := by
  simp only [few, Bool.and_eq_true, decide_eq_true_eq] at h
  have := fewGo_le l 0 h.1 (by omega)
  omega
theorem mem_le_sum : ∀ (l : List Bs) (r : Bs), r ∈ l → r.length ≤ (l.map List.length).sum
  | x :: l, r, h => by
    simp only [List.map_cons, List.sum_cons]
    rcases List.mem_cons.1 h with rfl | h
    · omega
    · have := mem_le_sum l r h; omega
theorem length_enc : ∀ l : List Bs, (enc l).length = 8 * l.length + (l.map List.length).sum
  | [] => rfl
  | r :: l => by simp [enc, length_enc l]; omega
theorem few_enc {l : List Bs} (h : few l = true) : (enc l).length ≤ 3320 := by
  have := few_le h; rw [length_enc]; omega
theorem few_short {l : List Bs} (h : few l = true) : Short l := fun r hr => by
  have := few_le h; have := mem_le_sum l r hr; omega
theorem few_drop {l : List Bs} {i n : Nat} {r : Bs} (hr : l[i]? = some r) : fewGo n (l.drop i) = if 3000 < n + r.length then false else fewGo (n + r.length) (l.drop (i + 1)) := by
  have : l.drop i = r :: l.drop (i + 1) := by
    have := List.drop_eq_getElem_cons (List.getElem?_eq_some_iff.1 hr).1
    rw [this]; congr 1; exact (List.getElem?_eq_some_iff.1 hr).2
  rw [this, fewGo]
theorem enc_take {l : List Bs} {i : Nat} {r : Bs} (hr : l[i]? = some r) : enc (l.take (i + 1)) = enc (l.take i) ++ rcd r := by
  rw [List.take_add_one, hr, Option.toList, enc_append]; simp [enc]
theorem enc_take_le (l : List Bs) (i : Nat) : (enc (l.take i)).length ≤ (enc l).length := by
  have : enc l = enc (l.take i) ++ enc (l.drop i) := by rw [← enc_append, List.take_append_drop]
  rw [this]; simp
theorem and_mod (x : Nat) : x &&& 4294967295 = x % 4294967296 := Nat.and_two_pow_sub_one_eq_mod x 32
theorem num_at (log : Bs) (p : Nat) (a b c d : UInt8) (h0 : log[p]? = some a) (h1 : log[p + 1]? = some b) (h2 : log[p + 2]? = some c) (h3 : log[p + 3]? = some d) :
    a.toNat + b.toNat * 2 ^ 8 + c.toNat * 2 ^ 16 + d.toNat * 2 ^ 24 = num (log.drop p) := by
  rw [num_eq (log.drop p) a b c d (by simpa using h0) (by simpa using h1) (by simpa using h2) (by simpa using h3), p8, p16, p24]
theorem ref_form (log : Bs) (p n : Nat) (h8 : 8 ≤ log.length - p) (hn : n = num (log.drop p)) (h2 : ¬ log.length - p - 8 < n) :
    (log.drop (p + 8)).take (p + 8 + n - (p + 8)) = ((log.drop p).drop 8).take (num (log.drop p)) ∧
    (log.drop (p + 4)).take (p + 8 - (p + 4)) = ((log.drop p).drop 4).take 4 ∧
    little (hash 2166136261 ((log.drop p).take (p + 4 - p) ++ (log.drop (p + 8)).take (p + 8 + n - (p + 8)))) = chk (((log.drop p).drop 8).take (num (log.drop p))) := by
  have e1 : (log.drop (p + 8)).take (p + 8 + n - (p + 8)) = ((log.drop p).drop 8).take (num (log.drop p)) := by
    rw [List.drop_drop, show p + 8 + n - (p + 8) = n by omega, hn]
  have e2 : (log.drop (p + 4)).take (p + 8 - (p + 4)) = ((log.drop p).drop 4).take 4 := by
    rw [List.drop_drop, show p + 8 - (p + 4) = 4 by omega]
  refine ⟨e1, e2, ?_⟩
  rw [e1, show p + 4 - p = 4 by omega]
  have hl : (((log.drop p).drop 8).take (num (log.drop p))).length = num (log.drop p) := by simp; omega
  unfold chk
  rw [hl, little_num _ (by simp; omega), hash_append]
theorem len_next (acc : List Bs) (r : Bs) : (enc (acc ++ [r])).length = (enc acc).length + (8 + r.length) := by
  rw [enc_append]; simp [enc]
end Go.Proofs.Wal
