/- Families of items: memory of as many blocks as an index runs over. No program in sight; conditions: none. -/
import Derived.Test.YtidbhgolhiaijaaFxM
namespace Go.Fx
open Go Go.RowKit
/-- items 0 .. n-1 -/
def fam (n : Nat) (F : Nat → Item) : Own := (List.range n).map F
/-- the same but item i -/
def famx (n i : Nat) (F : Nat → Item) : Own := ((List.range n).erase i).map F
section
variable {n i : Nat} {F G : Nat → Item}
theorem mem_fam (h : i < n) : F i ∈ fam n F := List.mem_map.2 ⟨i, List.mem_range.2 h, rfl⟩
theorem fam_mem (l : Own) (h : i < n) : F i ∈ l ++ fam n F := List.mem_append.2 (.inr (mem_fam h))
theorem fam_at (h : i < n) : (fam n F).Perm (F i :: famx n i F) := (List.perm_cons_erase (List.mem_range.2 h)).map F
theorem famx_congr (hj : ∀ j, j < n → j ≠ i → F j = G j) : famx n i F = famx n i G := by
  unfold famx
  refine List.map_congr_left fun j h => ?_
  obtain ⟨h1, h2⟩ := (List.Nodup.mem_erase_iff List.nodup_range).1 h
  exact hj j (List.mem_range.1 h2) h1
theorem fam_congr (hj : ∀ j, j < n → F j = G j) : fam n F = fam n G := List.map_congr_left fun j h => hj j (List.mem_range.1 h)
theorem fam_succ (F : Nat → Item) (n : Nat) : fam (n + 1) F = fam n F ++ [F n] := by unfold fam; rw [List.range_succ, List.map_append]; rfl
/-- item i comes to the front -/
theorem fam_out (l : Own) (h : i < n) : (l ++ fam n F).Perm (F i :: (l ++ famx n i F)) := ((fam_at h).append_left l).trans List.perm_middle
/-- and goes back, turned -/
theorem fam_in (l : Own) (h : i < n) {x : Item} (hx : x = G i) (hj : ∀ j, j < n → j ≠ i → F j = G j) : (x :: (l ++ famx n i F)).Perm (l ++ fam n G) := by
  rw [hx, famx_congr hj]
  exact (fam_out l h).symm
theorem fam_push (l : Own) {x : Item} (hx : x = G n) (hj : ∀ j, j < n → F j = G j) : (x :: (l ++ fam n F)).Perm (l ++ fam (n + 1) G) := by
  rw [hx, fam_congr hj, fam_succ]
  exact List.perm_middle.symm.trans (List.Perm.append_left l (List.perm_append_comm (l₁ := [G n]) (l₂ := fam n G)))
theorem fam_perm (l : Own) (hj : ∀ j, j < n → F j = G j) : (l ++ fam n F).Perm (l ++ fam n G) := by rw [fam_congr hj]
end
section
variable {w0 : World} {K : List Nat} {n : Sz} {N : Act → World → Prop} {L : Slots} {σ : Own} {ρ : Facts}
theorem c_part (P : Program) {α : Type} {size : Nat} {f : α → List Value} {A : Option Addr} {es : List α} (c lo m : Nat) (hq : Sl size f A es ∈ ρ) (hc : es.length ≤ c) (hs : 0 < size) (h : Cont w0 K n N L σ (Sl size f (subA A c lo size) ((es.drop lo).take m) :: ρ)) : Cont w0 K n N L σ ρ := fun a w hf hst =>
  l_part (P := P) (ops := #[]) c lo m hq hc hs (l_nil h) a w hf hst
/-- own items that are not written again -/
theorem St.keepAll {w : World} (l : Own) (h : St w0 K w (l ++ σ) ρ) : St w0 K w σ ((fun w => ∀ x, x ∈ l → x.holds w) :: ρ) := by
  have hnd := h.nodup
  rw [keysOf_append] at hnd
  obtain ⟨_, h2, h3⟩ := List.nodup_append.1 hnd
  refine ⟨h.ext, h2, fun x hx => h.own x (List.mem_append.2 (.inr hx)), fun q hq => ?_⟩
  rcases List.mem_cons.1 hq with rfl | hq
  · refine ⟨fun x hx => (h.own x (List.mem_append.2 (.inl hx))).1, fun k => k ∈ keysOf l, fun k hk => ?_, fun w1 w2 hb hw x hx => ?_, fun k hk hs => h3 k hs k hk rfl⟩
    · obtain ⟨x, hx, hk⟩ := mem_keysOf.1 hk
      exact ((h.own x (List.mem_append.2 (.inl hx))).2.2 k hk).1
    · exact (h.own x (List.mem_append.2 (.inl hx))).2.1 w1 w2 (fun k hk => hb k (mem_keysOf.2 ⟨x, hx, hk⟩)) (hw x hx)
  · obtain ⟨f1, S, f2, f3, f4⟩ := h.facts q hq
    exact ⟨f1, S, f2, f3, fun k hk => f4 k (by rw [keysOf_append]; exact List.mem_append.2 (.inr hk))⟩
end
end Go.Fx
