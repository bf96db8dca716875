/- The walks of textdiff, second part; conditions: lengths. -/
import Derived.Test.YtnkmemoagimddaaWalks
import Derived.Test.YtnkmemoagimddaaTable
namespace Go.Proofs.Ytnkmemoagimddaa
open Go Go.Fx Go.Proofs

theorem costs_nil (a b : List UInt8) : costs (Td.tab a b []) = List.replicate ((a.length + 1) * (b.length + 1)) (.int .i64 0) := by simp [costs, Td.tab]
def pts {n m : Nat} (p : List (Pt n m)) : List (Nat × Nat) := p.map (·.1)
abbrev own5 (a b : List UInt8) (b2 b3 b5 b20 b18 : Nat) (F : List Nat) : Fx.Own := [iCells b2 9 [str a], iCells b3 9 [str b], iCells b5 38 [.pointer (some ⟨b20, 0, none⟩)], iCells b20 44 [str a, str b, .slice (some ⟨b18, 0, none⟩) ((a.length + 1) * (b.length + 1)) ((a.length + 1) * (b.length + 1))], iCells b18 3 (costs F)]
theorem keys5 (a b : List UInt8) (b2 b3 b5 b20 b18 : Nat) (F : List Nat) : keysOf (own5 a b b2 b3 b5 b20 b18 F) = [b2, b3, b5, b20, b18] := rfl
theorem tab5 {a b : List UInt8} {b20 b18 : Nat} {F : List Nat} {w0 w : World} {K : List Nat} {σ : Fx.Own} {ρ : Facts} (hl : F.length = (a.length + 1) * (b.length + 1)) (hs : St w0 K w σ ρ) (h1 : iCells b20 44 [str a, str b, .slice (some ⟨b18, 0, none⟩) ((a.length + 1) * (b.length + 1)) ((a.length + 1) * (b.length + 1))] ∈ σ) (h2 : iCells b18 3 (costs F) ∈ σ) : Tab b20 b18 a b F w :=
  ⟨by rw [hl]; exact (hs.own _ h1).1, (hs.own _ h2).1⟩
theorem idx_lt {n m i j : Nat} (hi : i ≤ n) (hj : j ≤ m) : i * (m + 1) + j < (n + 1) * (m + 1) := by
  have := Nat.mul_le_mul_right (m + 1) hi
  rw [Nat.add_mul]; omega
theorem pts_pre (n m k : Nat) : pts (Go.Proofs.Ytnkmemoagimddaa.pre n m k) = (List.range k).map (Td.pnt n m) := by simp [pts, pre, pt, Td.pnt]
theorem costs_set (F : List Nat) (k v : Nat) : (costs F).set k (.int .i64 (v : Int)) = costs (F.set k v) := by simp [costs, List.map_set]
theorem inf_38 : InfoIs Try.prog 38 1 8 (.pointer none) := by unfold InfoIs; kernel_rfl
theorem inf_44 : InfoIs Try.prog 44 3 56 (.agg #[.string ⟨#[]⟩, .string ⟨#[]⟩, .slice none 0 0]) := by unfold InfoIs; kernel_rfl
theorem pl_44 : PlacesIs Try.prog 44 [(0, 1), (1, 1), (2, 1)] := ⟨_, Try.underlying44, by kernel_rfl⟩
theorem call_22 : Callable Try.prog 22 := ⟨_, Try.func22, by kernel_rfl, rfl⟩
theorem call_25 : Callable Try.prog 25 := ⟨_, Try.func25, by kernel_rfl, rfl⟩
theorem call_26 : Callable Try.prog 26 := ⟨_, Try.func26, by kernel_rfl, rfl⟩
theorem of_ok (a b : List UInt8) (hal : a.length ≤ 1000) (hbl : b.length ≤ 1000) (w : World) :
    Calls Try.prog 21 #[str a, str b] w (Ret fun v w' => ∃ x : Nat × Nat, v = .pointer (some ⟨x.1, 0, none⟩) ∧ Tab x.1 x.2 a b (Td.full a b) w' ∧ Dep w.heap.size w'.heap.size (Tab x.1 x.2 a b (Td.full a b)) ∧ Ext [] w w') := by
  have hN : (a.length + 1) * (b.length + 1) ≤ 1001 * 1001 := Nat.mul_le_mul (by omega) (by omega)
  refine calls_fm (l := [str a, str b]) Try.func21 rfl Try.ntmps21 (Nat.le_of_ble_eq_true rfl) (St.start w) ?_
  refine c_seq ?_
  refine c_reg ?_
  refine l_box (by decide) rfl _ rfl (fun b2 => ?_)
  refine l_box (by decide) rfl _ rfl (fun b3 => ?_)
  refine l_q (show 4 < 86 by decide) (p_assign rfl).q ?_
  refine l_nil ?_
  refine c_seq ?_
  refine c_meetn (S := Nat × Nat × Nat) (fun s => True) (fun s => [(2, .pointer (some ⟨b2, 0, none⟩)), (3, .pointer (some ⟨b3, 0, none⟩)), (5, .pointer (some ⟨s.1, 0, none⟩))]) (fun s => own5 a b b2 b3 s.1 s.2.1 s.2.2 (Td.tab a b [])) (fun s => []) ?_ ?_
  · skip
    refine h_draw mixed ?_
    first | refine h_take 0 rfl (by kernel_rfl) (by kernel_rfl) (by kernel_rfl) (by decide) (by first | exact (List.Perm.refl _ : List.Perm _ ([] ++ _)) | exact (List.Perm.refl _ : List.Perm _ ([_] ++ _)) | exact (List.Perm.refl _ : List.Perm _ ([_, _] ++ _)) | exact (List.Perm.refl _ : List.Perm _ ([_, _, _] ++ _)) | exact (List.Perm.refl _ : List.Perm _ ([_, _, _, _] ++ _))) (by first | exact fun _ h => h | exact fun _ h => List.mem_cons_of_mem _ h | exact fun _ h => List.mem_cons_of_mem _ (List.mem_cons_of_mem _ h)) (r_loado Try.underlying9 rfl rfl (by repeat (first | exact List.Mem.head _ | apply List.Mem.tail)) (by rfl)).r ?_ | refine h_take 0 rfl (by kernel_rfl) (by kernel_rfl) (by kernel_rfl) (by decide) (by first | exact (List.Perm.refl _ : List.Perm _ ([] ++ _)) | exact (List.Perm.refl _ : List.Perm _ ([_] ++ _)) | exact (List.Perm.refl _ : List.Perm _ ([_, _] ++ _)) | exact (List.Perm.refl _ : List.Perm _ ([_, _, _] ++ _)) | exact (List.Perm.refl _ : List.Perm _ ([_, _, _, _] ++ _))) (by first | exact fun _ h => h | exact fun _ h => List.mem_cons_of_mem _ h | exact fun _ h => List.mem_cons_of_mem _ (List.mem_cons_of_mem _ h)) (r_load1 Try.underlying9 rfl rfl (by first | exact .fact (by repeat (first | exact List.Mem.head _ | apply List.Mem.tail)) | exact .own (by repeat (first | exact List.Mem.head _ | apply List.Mem.tail)) (by decide) (fun _ => rfl)) (by first | assumption | rfl) (by rfl)).r ?_ | refine h_take 0 rfl (by kernel_rfl) (by kernel_rfl) (by kernel_rfl) (by decide) (by first | exact (List.Perm.refl _ : List.Perm _ ([] ++ _)) | exact (List.Perm.refl _ : List.Perm _ ([_] ++ _)) | exact (List.Perm.refl _ : List.Perm _ ([_, _] ++ _)) | exact (List.Perm.refl _ : List.Perm _ ([_, _, _] ++ _)) | exact (List.Perm.refl _ : List.Perm _ ([_, _, _, _] ++ _))) (by first | exact fun _ h => h | exact fun _ h => List.mem_cons_of_mem _ h | exact fun _ h => List.mem_cons_of_mem _ (List.mem_cons_of_mem _ h)) (r_loadf Try.underlying9 rfl rfl (by first | exact .fact (by repeat (first | exact List.Mem.head _ | apply List.Mem.tail)) | exact .own (by repeat (first | exact List.Mem.head _ | apply List.Mem.tail)) (by decide) (fun _ => rfl)) (by assumption) (by rfl)).r ?_
    first | refine h_take 1 rfl (by kernel_rfl) (by kernel_rfl) (by kernel_rfl) (by decide) (by first | exact (List.Perm.refl _ : List.Perm _ ([] ++ _)) | exact (List.Perm.refl _ : List.Perm _ ([_] ++ _)) | exact (List.Perm.refl _ : List.Perm _ ([_, _] ++ _)) | exact (List.Perm.refl _ : List.Perm _ ([_, _, _] ++ _)) | exact (List.Perm.refl _ : List.Perm _ ([_, _, _, _] ++ _))) (by first | exact fun _ h => h | exact fun _ h => List.mem_cons_of_mem _ h | exact fun _ h => List.mem_cons_of_mem _ (List.mem_cons_of_mem _ h)) (r_loado Try.underlying9 rfl rfl (by repeat (first | exact List.Mem.head _ | apply List.Mem.tail)) (by rfl)).r ?_ | refine h_take 1 rfl (by kernel_rfl) (by kernel_rfl) (by kernel_rfl) (by decide) (by first | exact (List.Perm.refl _ : List.Perm _ ([] ++ _)) | exact (List.Perm.refl _ : List.Perm _ ([_] ++ _)) | exact (List.Perm.refl _ : List.Perm _ ([_, _] ++ _)) | exact (List.Perm.refl _ : List.Perm _ ([_, _, _] ++ _)) | exact (List.Perm.refl _ : List.Perm _ ([_, _, _, _] ++ _))) (by first | exact fun _ h => h | exact fun _ h => List.mem_cons_of_mem _ h | exact fun _ h => List.mem_cons_of_mem _ (List.mem_cons_of_mem _ h)) (r_load1 Try.underlying9 rfl rfl (by first | exact .fact (by repeat (first | exact List.Mem.head _ | apply List.Mem.tail)) | exact .own (by repeat (first | exact List.Mem.head _ | apply List.Mem.tail)) (by decide) (fun _ => rfl)) (by first | assumption | rfl) (by rfl)).r ?_ | refine h_take 1 rfl (by kernel_rfl) (by kernel_rfl) (by kernel_rfl) (by decide) (by first | exact (List.Perm.refl _ : List.Perm _ ([] ++ _)) | exact (List.Perm.refl _ : List.Perm _ ([_] ++ _)) | exact (List.Perm.refl _ : List.Perm _ ([_, _] ++ _)) | exact (List.Perm.refl _ : List.Perm _ ([_, _, _] ++ _)) | exact (List.Perm.refl _ : List.Perm _ ([_, _, _, _] ++ _))) (by first | exact fun _ h => h | exact fun _ h => List.mem_cons_of_mem _ h | exact fun _ h => List.mem_cons_of_mem _ (List.mem_cons_of_mem _ h)) (r_loadf Try.underlying9 rfl rfl (by first | exact .fact (by repeat (first | exact List.Mem.head _ | apply List.Mem.tail)) | exact .own (by repeat (first | exact List.Mem.head _ | apply List.Mem.tail)) (by decide) (fun _ => rfl)) (by assumption) (by rfl)).r ?_
    first | refine h_take 2 rfl (by kernel_rfl) (by kernel_rfl) (by kernel_rfl) (by decide) (by first | exact (List.Perm.refl _ : List.Perm _ ([] ++ _)) | exact (List.Perm.refl _ : List.Perm _ ([_] ++ _)) | exact (List.Perm.refl _ : List.Perm _ ([_, _] ++ _)) | exact (List.Perm.refl _ : List.Perm _ ([_, _, _] ++ _)) | exact (List.Perm.refl _ : List.Perm _ ([_, _, _, _] ++ _))) (by first | exact fun _ h => h | exact fun _ h => List.mem_cons_of_mem _ h | exact fun _ h => List.mem_cons_of_mem _ (List.mem_cons_of_mem _ h)) (r_loado Try.underlying9 rfl rfl (by repeat (first | exact List.Mem.head _ | apply List.Mem.tail)) (by rfl)).r ?_ | refine h_take 2 rfl (by kernel_rfl) (by kernel_rfl) (by kernel_rfl) (by decide) (by first | exact (List.Perm.refl _ : List.Perm _ ([] ++ _)) | exact (List.Perm.refl _ : List.Perm _ ([_] ++ _)) | exact (List.Perm.refl _ : List.Perm _ ([_, _] ++ _)) | exact (List.Perm.refl _ : List.Perm _ ([_, _, _] ++ _)) | exact (List.Perm.refl _ : List.Perm _ ([_, _, _, _] ++ _))) (by first | exact fun _ h => h | exact fun _ h => List.mem_cons_of_mem _ h | exact fun _ h => List.mem_cons_of_mem _ (List.mem_cons_of_mem _ h)) (r_load1 Try.underlying9 rfl rfl (by first | exact .fact (by repeat (first | exact List.Mem.head _ | apply List.Mem.tail)) | exact .own (by repeat (first | exact List.Mem.head _ | apply List.Mem.tail)) (by decide) (fun _ => rfl)) (by first | assumption | rfl) (by rfl)).r ?_ | refine h_take 2 rfl (by kernel_rfl) (by kernel_rfl) (by kernel_rfl) (by decide) (by first | exact (List.Perm.refl _ : List.Perm _ ([] ++ _)) | exact (List.Perm.refl _ : List.Perm _ ([_] ++ _)) | exact (List.Perm.refl _ : List.Perm _ ([_, _] ++ _)) | exact (List.Perm.refl _ : List.Perm _ ([_, _, _] ++ _)) | exact (List.Perm.refl _ : List.Perm _ ([_, _, _, _] ++ _))) (by first | exact fun _ h => h | exact fun _ h => List.mem_cons_of_mem _ h | exact fun _ h => List.mem_cons_of_mem _ (List.mem_cons_of_mem _ h)) (r_loadf Try.underlying9 rfl rfl (by first | exact .fact (by repeat (first | exact List.Mem.head _ | apply List.Mem.tail)) | exact .own (by repeat (first | exact List.Mem.head _ | apply List.Mem.tail)) (by decide) (fun _ => rfl)) (by assumption) (by rfl)).r ?_
    refine h_take 3 rfl (by kernel_rfl) (by kernel_rfl) (by kernel_rfl) (by decide) (by first | exact (List.Perm.refl _ : List.Perm _ ([] ++ _)) | exact (List.Perm.refl _ : List.Perm _ ([_] ++ _)) | exact (List.Perm.refl _ : List.Perm _ ([_, _] ++ _)) | exact (List.Perm.refl _ : List.Perm _ ([_, _, _] ++ _)) | exact (List.Perm.refl _ : List.Perm _ ([_, _, _, _] ++ _))) (by first | exact fun _ h => h | exact fun _ h => List.mem_cons_of_mem _ h | exact fun _ h => List.mem_cons_of_mem _ (List.mem_cons_of_mem _ h)) (p_len_str Try.underlying9 rfl).r ?_
    first | refine h_take 4 rfl (by kernel_rfl) (by kernel_rfl) (by kernel_rfl) (by decide) (by first | exact (List.Perm.refl _ : List.Perm _ ([] ++ _)) | exact (List.Perm.refl _ : List.Perm _ ([_] ++ _)) | exact (List.Perm.refl _ : List.Perm _ ([_, _] ++ _)) | exact (List.Perm.refl _ : List.Perm _ ([_, _, _] ++ _)) | exact (List.Perm.refl _ : List.Perm _ ([_, _, _, _] ++ _))) (by first | exact fun _ h => h | exact fun _ h => List.mem_cons_of_mem _ h | exact fun _ h => List.mem_cons_of_mem _ (List.mem_cons_of_mem _ h)) (p_add (j := 1) rfl rfl rfl rfl (by show _ ≤ (9223372036854775807 : Nat); omega)).r ?_ | refine h_take 4 rfl (by kernel_rfl) (by kernel_rfl) (by kernel_rfl) (by decide) (by first | exact (List.Perm.refl _ : List.Perm _ ([] ++ _)) | exact (List.Perm.refl _ : List.Perm _ ([_] ++ _)) | exact (List.Perm.refl _ : List.Perm _ ([_, _] ++ _)) | exact (List.Perm.refl _ : List.Perm _ ([_, _, _] ++ _)) | exact (List.Perm.refl _ : List.Perm _ ([_, _, _, _] ++ _))) (by first | exact fun _ h => h | exact fun _ h => List.mem_cons_of_mem _ h | exact fun _ h => List.mem_cons_of_mem _ (List.mem_cons_of_mem _ h)) (p_addi rfl rfl (by show (-9223372036854775808 : Int) ≤ _; omega) (by show _ ≤ ((9223372036854775807 : Nat) : Int); omega)).r ?_
    first | refine h_take 5 rfl (by kernel_rfl) (by kernel_rfl) (by kernel_rfl) (by decide) (by first | exact (List.Perm.refl _ : List.Perm _ ([] ++ _)) | exact (List.Perm.refl _ : List.Perm _ ([_] ++ _)) | exact (List.Perm.refl _ : List.Perm _ ([_, _] ++ _)) | exact (List.Perm.refl _ : List.Perm _ ([_, _, _] ++ _)) | exact (List.Perm.refl _ : List.Perm _ ([_, _, _, _] ++ _))) (by first | exact fun _ h => h | exact fun _ h => List.mem_cons_of_mem _ h | exact fun _ h => List.mem_cons_of_mem _ (List.mem_cons_of_mem _ h)) (r_loado Try.underlying9 rfl rfl (by repeat (first | exact List.Mem.head _ | apply List.Mem.tail)) (by rfl)).r ?_ | refine h_take 5 rfl (by kernel_rfl) (by kernel_rfl) (by kernel_rfl) (by decide) (by first | exact (List.Perm.refl _ : List.Perm _ ([] ++ _)) | exact (List.Perm.refl _ : List.Perm _ ([_] ++ _)) | exact (List.Perm.refl _ : List.Perm _ ([_, _] ++ _)) | exact (List.Perm.refl _ : List.Perm _ ([_, _, _] ++ _)) | exact (List.Perm.refl _ : List.Perm _ ([_, _, _, _] ++ _))) (by first | exact fun _ h => h | exact fun _ h => List.mem_cons_of_mem _ h | exact fun _ h => List.mem_cons_of_mem _ (List.mem_cons_of_mem _ h)) (r_load1 Try.underlying9 rfl rfl (by first | exact .fact (by repeat (first | exact List.Mem.head _ | apply List.Mem.tail)) | exact .own (by repeat (first | exact List.Mem.head _ | apply List.Mem.tail)) (by decide) (fun _ => rfl)) (by first | assumption | rfl) (by rfl)).r ?_ | refine h_take 5 rfl (by kernel_rfl) (by kernel_rfl) (by kernel_rfl) (by decide) (by first | exact (List.Perm.refl _ : List.Perm _ ([] ++ _)) | exact (List.Perm.refl _ : List.Perm _ ([_] ++ _)) | exact (List.Perm.refl _ : List.Perm _ ([_, _] ++ _)) | exact (List.Perm.refl _ : List.Perm _ ([_, _, _] ++ _)) | exact (List.Perm.refl _ : List.Perm _ ([_, _, _, _] ++ _))) (by first | exact fun _ h => h | exact fun _ h => List.mem_cons_of_mem _ h | exact fun _ h => List.mem_cons_of_mem _ (List.mem_cons_of_mem _ h)) (r_loadf Try.underlying9 rfl rfl (by first | exact .fact (by repeat (first | exact List.Mem.head _ | apply List.Mem.tail)) | exact .own (by repeat (first | exact List.Mem.head _ | apply List.Mem.tail)) (by decide) (fun _ => rfl)) (by assumption) (by rfl)).r ?_
    refine h_take 6 rfl (by kernel_rfl) (by kernel_rfl) (by kernel_rfl) (by decide) (by first | exact (List.Perm.refl _ : List.Perm _ ([] ++ _)) | exact (List.Perm.refl _ : List.Perm _ ([_] ++ _)) | exact (List.Perm.refl _ : List.Perm _ ([_, _] ++ _)) | exact (List.Perm.refl _ : List.Perm _ ([_, _, _] ++ _)) | exact (List.Perm.refl _ : List.Perm _ ([_, _, _, _] ++ _))) (by first | exact fun _ h => h | exact fun _ h => List.mem_cons_of_mem _ h | exact fun _ h => List.mem_cons_of_mem _ (List.mem_cons_of_mem _ h)) (p_len_str Try.underlying9 rfl).r ?_
    first | refine h_take 7 rfl (by kernel_rfl) (by kernel_rfl) (by kernel_rfl) (by decide) (by first | exact (List.Perm.refl _ : List.Perm _ ([] ++ _)) | exact (List.Perm.refl _ : List.Perm _ ([_] ++ _)) | exact (List.Perm.refl _ : List.Perm _ ([_, _] ++ _)) | exact (List.Perm.refl _ : List.Perm _ ([_, _, _] ++ _)) | exact (List.Perm.refl _ : List.Perm _ ([_, _, _, _] ++ _))) (by first | exact fun _ h => h | exact fun _ h => List.mem_cons_of_mem _ h | exact fun _ h => List.mem_cons_of_mem _ (List.mem_cons_of_mem _ h)) (p_add (j := 1) rfl rfl rfl rfl (by show _ ≤ (9223372036854775807 : Nat); omega)).r ?_ | refine h_take 7 rfl (by kernel_rfl) (by kernel_rfl) (by kernel_rfl) (by decide) (by first | exact (List.Perm.refl _ : List.Perm _ ([] ++ _)) | exact (List.Perm.refl _ : List.Perm _ ([_] ++ _)) | exact (List.Perm.refl _ : List.Perm _ ([_, _] ++ _)) | exact (List.Perm.refl _ : List.Perm _ ([_, _, _] ++ _)) | exact (List.Perm.refl _ : List.Perm _ ([_, _, _, _] ++ _))) (by first | exact fun _ h => h | exact fun _ h => List.mem_cons_of_mem _ h | exact fun _ h => List.mem_cons_of_mem _ (List.mem_cons_of_mem _ h)) (p_addi rfl rfl (by show (-9223372036854775808 : Int) ≤ _; omega) (by show _ ≤ ((9223372036854775807 : Nat) : Int); omega)).r ?_
    refine h_take 8 rfl (by kernel_rfl) (by kernel_rfl) (by kernel_rfl) (by decide) (by first | exact (List.Perm.refl _ : List.Perm _ ([] ++ _)) | exact (List.Perm.refl _ : List.Perm _ ([_] ++ _)) | exact (List.Perm.refl _ : List.Perm _ ([_, _] ++ _)) | exact (List.Perm.refl _ : List.Perm _ ([_, _, _] ++ _)) | exact (List.Perm.refl _ : List.Perm _ ([_, _, _, _] ++ _))) (by first | exact fun _ h => h | exact fun _ h => List.mem_cons_of_mem _ h | exact fun _ h => List.mem_cons_of_mem _ (List.mem_cons_of_mem _ h)) (p_mul rfl rfl rfl rfl (by show _ ≤ (9223372036854775807 : Nat); omega)).r ?_
    refine h_two 9 12 rfl rfl (by kernel_rfl) ?_ ?_
    · skip
      refine l_make (by decide) Try.underlying41 inf_3 rfl rfl rfl rfl rfl rfl (by omega) (by omega) (fun b18 => ?_)
      refine l_nil ?_
      refine h_next _ (by first | exact (List.Perm.refl _ : List.Perm _ ([] ++ _)) | exact (List.Perm.refl _ : List.Perm _ ([_] ++ _)) | exact (List.Perm.refl _ : List.Perm _ ([_, _] ++ _)) | exact (List.Perm.refl _ : List.Perm _ ([_, _, _] ++ _)) | exact (List.Perm.refl _ : List.Perm _ ([_, _, _, _] ++ _))) (by first | exact fun _ h => h | exact fun _ h => List.mem_cons_of_mem _ h | exact fun _ h => List.mem_cons_of_mem _ (List.mem_cons_of_mem _ h)) ?_
      refine h_take 10 rfl (by kernel_rfl) (by kernel_rfl) (by kernel_rfl) (by decide) (by first | exact (List.Perm.refl _ : List.Perm _ ([] ++ _)) | exact (List.Perm.refl _ : List.Perm _ ([_] ++ _)) | exact (List.Perm.refl _ : List.Perm _ ([_, _] ++ _)) | exact (List.Perm.refl _ : List.Perm _ ([_, _, _] ++ _)) | exact (List.Perm.refl _ : List.Perm _ ([_, _, _, _] ++ _))) (by first | exact fun _ h => h | exact fun _ h => List.mem_cons_of_mem _ h | exact fun _ h => List.mem_cons_of_mem _ (List.mem_cons_of_mem _ h)) (p_build (cells := #[_, _, _]) inf_44 pl_44 rfl rfl).r ?_
      refine h_two 11 12 rfl rfl (by kernel_rfl) ?_ ?_
      · skip
        refine l_box (by decide) rfl _ rfl (fun b20 => ?_)
        refine l_nil ?_
        refine h_next _ (by first | exact (List.Perm.refl _ : List.Perm _ ([] ++ _)) | exact (List.Perm.refl _ : List.Perm _ ([_] ++ _)) | exact (List.Perm.refl _ : List.Perm _ ([_, _] ++ _)) | exact (List.Perm.refl _ : List.Perm _ ([_, _, _] ++ _)) | exact (List.Perm.refl _ : List.Perm _ ([_, _, _, _] ++ _))) (by first | exact fun _ h => h | exact fun _ h => List.mem_cons_of_mem _ h | exact fun _ h => List.mem_cons_of_mem _ (List.mem_cons_of_mem _ h)) ?_
        refine h_run 12 rfl (by kernel_rfl) ?_
        refine l_alloc (by decide) inf_38 _ rfl (fun b5 => ?_)
        refine l_nil ?_
        refine h_next _ (by first | exact (List.Perm.refl _ : List.Perm _ ([] ++ _)) | exact (List.Perm.refl _ : List.Perm _ ([_] ++ _)) | exact (List.Perm.refl _ : List.Perm _ ([_, _] ++ _)) | exact (List.Perm.refl _ : List.Perm _ ([_, _, _] ++ _)) | exact (List.Perm.refl _ : List.Perm _ ([_, _, _, _] ++ _))) (by first | exact fun _ h => h | exact fun _ h => List.mem_cons_of_mem _ h | exact fun _ h => List.mem_cons_of_mem _ (List.mem_cons_of_mem _ h)) ?_
        refine h_run 13 rfl (by kernel_rfl) ?_
        first | (refine l_store inf_38 rfl rfl rfl rfl (by first | decide | exact Nat.le_of_ble_eq_true rfl | (simp; done) | omega | (simp only [Nat.mul_one]; assumption)) ?_) | (refine l_perm (front1 _ _ _) ?_; refine l_store inf_38 rfl rfl rfl rfl (by first | decide | exact Nat.le_of_ble_eq_true rfl | (simp; done) | omega | (simp only [Nat.mul_one]; assumption)) ?_) | (refine l_perm (front2 _ _ _ _) ?_; refine l_store inf_38 rfl rfl rfl rfl (by first | decide | exact Nat.le_of_ble_eq_true rfl | (simp; done) | omega | (simp only [Nat.mul_one]; assumption)) ?_) | (refine l_perm (front3 _ _ _ _ _) ?_; refine l_store inf_38 rfl rfl rfl rfl (by first | decide | exact Nat.le_of_ble_eq_true rfl | (simp; done) | omega | (simp only [Nat.mul_one]; assumption)) ?_) | (refine l_perm (front4 _ _ _ _ _ _) ?_; refine l_store inf_38 rfl rfl rfl rfl (by first | decide | exact Nat.le_of_ble_eq_true rfl | (simp; done) | omega | (simp only [Nat.mul_one]; assumption)) ?_)
        refine l_nil ?_
        refine h_next _ (by first | exact (List.Perm.refl _ : List.Perm _ ([] ++ _)) | exact (List.Perm.refl _ : List.Perm _ ([_] ++ _)) | exact (List.Perm.refl _ : List.Perm _ ([_, _] ++ _)) | exact (List.Perm.refl _ : List.Perm _ ([_, _, _] ++ _)) | exact (List.Perm.refl _ : List.Perm _ ([_, _, _, _] ++ _))) (by first | exact fun _ h => h | exact fun _ h => List.mem_cons_of_mem _ h | exact fun _ h => List.mem_cons_of_mem _ (List.mem_cons_of_mem _ h)) ?_
        refine h_done (by kernel_rfl) ?_
        refine c_join (b5, b20, b18) ?inv ?sub ?perm ?facts
        case sub => exact ⟨rfl, rfl, rfl, trivial⟩
        case perm =>
          unfold own5
          rw [costs_nil]
          repeat (first | exact List.Perm.refl _ | refine List.Perm.cons _ ?_ | refine (front1 _ _ _).trans (List.Perm.cons _ ?_) | refine (front2 _ _ _ _).trans (List.Perm.cons _ ?_) | refine (front3 _ _ _ _ _).trans (List.Perm.cons _ ?_) | refine (front4 _ _ _ _ _ _).trans (List.Perm.cons _ ?_))
        case facts => exact fun _ h => absurd h List.not_mem_nil
        case inv =>
          trivial
      · skip
        refine l_alloc (by decide) inf_38 _ rfl (fun b5 => ?_)
        refine l_nil ?_
        refine h_next _ (by first | exact (List.Perm.refl _ : List.Perm _ ([] ++ _)) | exact (List.Perm.refl _ : List.Perm _ ([_] ++ _)) | exact (List.Perm.refl _ : List.Perm _ ([_, _] ++ _)) | exact (List.Perm.refl _ : List.Perm _ ([_, _, _] ++ _)) | exact (List.Perm.refl _ : List.Perm _ ([_, _, _, _] ++ _))) (by first | exact fun _ h => h | exact fun _ h => List.mem_cons_of_mem _ h | exact fun _ h => List.mem_cons_of_mem _ (List.mem_cons_of_mem _ h)) ?_
        refine h_run 11 rfl (by kernel_rfl) ?_
        refine l_box (by decide) rfl _ rfl (fun b20 => ?_)
        refine l_nil ?_
        refine h_next _ (by first | exact (List.Perm.refl _ : List.Perm _ ([] ++ _)) | exact (List.Perm.refl _ : List.Perm _ ([_] ++ _)) | exact (List.Perm.refl _ : List.Perm _ ([_, _] ++ _)) | exact (List.Perm.refl _ : List.Perm _ ([_, _, _] ++ _)) | exact (List.Perm.refl _ : List.Perm _ ([_, _, _, _] ++ _))) (by first | exact fun _ h => h | exact fun _ h => List.mem_cons_of_mem _ h | exact fun _ h => List.mem_cons_of_mem _ (List.mem_cons_of_mem _ h)) ?_
        refine h_run 13 rfl (by kernel_rfl) ?_
        first | (refine l_store inf_38 rfl rfl rfl rfl (by first | decide | exact Nat.le_of_ble_eq_true rfl | (simp; done) | omega | (simp only [Nat.mul_one]; assumption)) ?_) | (refine l_perm (front1 _ _ _) ?_; refine l_store inf_38 rfl rfl rfl rfl (by first | decide | exact Nat.le_of_ble_eq_true rfl | (simp; done) | omega | (simp only [Nat.mul_one]; assumption)) ?_) | (refine l_perm (front2 _ _ _ _) ?_; refine l_store inf_38 rfl rfl rfl rfl (by first | decide | exact Nat.le_of_ble_eq_true rfl | (simp; done) | omega | (simp only [Nat.mul_one]; assumption)) ?_) | (refine l_perm (front3 _ _ _ _ _) ?_; refine l_store inf_38 rfl rfl rfl rfl (by first | decide | exact Nat.le_of_ble_eq_true rfl | (simp; done) | omega | (simp only [Nat.mul_one]; assumption)) ?_) | (refine l_perm (front4 _ _ _ _ _ _) ?_; refine l_store inf_38 rfl rfl rfl rfl (by first | decide | exact Nat.le_of_ble_eq_true rfl | (simp; done) | omega | (simp only [Nat.mul_one]; assumption)) ?_)
        refine l_nil ?_
        refine h_next _ (by first | exact (List.Perm.refl _ : List.Perm _ ([] ++ _)) | exact (List.Perm.refl _ : List.Perm _ ([_] ++ _)) | exact (List.Perm.refl _ : List.Perm _ ([_, _] ++ _)) | exact (List.Perm.refl _ : List.Perm _ ([_, _, _] ++ _)) | exact (List.Perm.refl _ : List.Perm _ ([_, _, _, _] ++ _))) (by first | exact fun _ h => h | exact fun _ h => List.mem_cons_of_mem _ h | exact fun _ h => List.mem_cons_of_mem _ (List.mem_cons_of_mem _ h)) ?_
        refine h_done (by kernel_rfl) ?_
        refine c_join (b5, b20, b18) ?inv ?sub ?perm ?facts
        case sub => exact ⟨rfl, rfl, rfl, trivial⟩
        case perm =>
          unfold own5
          rw [costs_nil]
          repeat (first | exact List.Perm.refl _ | refine List.Perm.cons _ ?_ | refine (front1 _ _ _).trans (List.Perm.cons _ ?_) | refine (front2 _ _ _ _).trans (List.Perm.cons _ ?_) | refine (front3 _ _ _ _ _).trans (List.Perm.cons _ ?_) | refine (front4 _ _ _ _ _ _).trans (List.Perm.cons _ ?_))
        case facts => exact fun _ h => absurd h List.not_mem_nil
        case inv =>
          trivial
    · skip
      refine l_alloc (by decide) inf_38 _ rfl (fun b5 => ?_)
      refine l_nil ?_
      refine h_next _ (by first | exact (List.Perm.refl _ : List.Perm _ ([] ++ _)) | exact (List.Perm.refl _ : List.Perm _ ([_] ++ _)) | exact (List.Perm.refl _ : List.Perm _ ([_, _] ++ _)) | exact (List.Perm.refl _ : List.Perm _ ([_, _, _] ++ _)) | exact (List.Perm.refl _ : List.Perm _ ([_, _, _, _] ++ _))) (by first | exact fun _ h => h | exact fun _ h => List.mem_cons_of_mem _ h | exact fun _ h => List.mem_cons_of_mem _ (List.mem_cons_of_mem _ h)) ?_
      refine h_run 9 rfl (by kernel_rfl) ?_
      refine l_make (by decide) Try.underlying41 inf_3 rfl rfl rfl rfl rfl rfl (by omega) (by omega) (fun b18 => ?_)
      refine l_nil ?_
      refine h_next _ (by first | exact (List.Perm.refl _ : List.Perm _ ([] ++ _)) | exact (List.Perm.refl _ : List.Perm _ ([_] ++ _)) | exact (List.Perm.refl _ : List.Perm _ ([_, _] ++ _)) | exact (List.Perm.refl _ : List.Perm _ ([_, _, _] ++ _)) | exact (List.Perm.refl _ : List.Perm _ ([_, _, _, _] ++ _))) (by first | exact fun _ h => h | exact fun _ h => List.mem_cons_of_mem _ h | exact fun _ h => List.mem_cons_of_mem _ (List.mem_cons_of_mem _ h)) ?_
      refine h_take 10 rfl (by kernel_rfl) (by kernel_rfl) (by kernel_rfl) (by decide) (by first | exact (List.Perm.refl _ : List.Perm _ ([] ++ _)) | exact (List.Perm.refl _ : List.Perm _ ([_] ++ _)) | exact (List.Perm.refl _ : List.Perm _ ([_, _] ++ _)) | exact (List.Perm.refl _ : List.Perm _ ([_, _, _] ++ _)) | exact (List.Perm.refl _ : List.Perm _ ([_, _, _, _] ++ _))) (by first | exact fun _ h => h | exact fun _ h => List.mem_cons_of_mem _ h | exact fun _ h => List.mem_cons_of_mem _ (List.mem_cons_of_mem _ h)) (p_build (cells := #[_, _, _]) inf_44 pl_44 rfl rfl).r ?_
      refine h_run 11 rfl (by kernel_rfl) ?_
      refine l_box (by decide) rfl _ rfl (fun b20 => ?_)
      refine l_nil ?_
      refine h_next _ (by first | exact (List.Perm.refl _ : List.Perm _ ([] ++ _)) | exact (List.Perm.refl _ : List.Perm _ ([_] ++ _)) | exact (List.Perm.refl _ : List.Perm _ ([_, _] ++ _)) | exact (List.Perm.refl _ : List.Perm _ ([_, _, _] ++ _)) | exact (List.Perm.refl _ : List.Perm _ ([_, _, _, _] ++ _))) (by first | exact fun _ h => h | exact fun _ h => List.mem_cons_of_mem _ h | exact fun _ h => List.mem_cons_of_mem _ (List.mem_cons_of_mem _ h)) ?_
      refine h_run 13 rfl (by kernel_rfl) ?_
      first | (refine l_store inf_38 rfl rfl rfl rfl (by first | decide | exact Nat.le_of_ble_eq_true rfl | (simp; done) | omega | (simp only [Nat.mul_one]; assumption)) ?_) | (refine l_perm (front1 _ _ _) ?_; refine l_store inf_38 rfl rfl rfl rfl (by first | decide | exact Nat.le_of_ble_eq_true rfl | (simp; done) | omega | (simp only [Nat.mul_one]; assumption)) ?_) | (refine l_perm (front2 _ _ _ _) ?_; refine l_store inf_38 rfl rfl rfl rfl (by first | decide | exact Nat.le_of_ble_eq_true rfl | (simp; done) | omega | (simp only [Nat.mul_one]; assumption)) ?_) | (refine l_perm (front3 _ _ _ _ _) ?_; refine l_store inf_38 rfl rfl rfl rfl (by first | decide | exact Nat.le_of_ble_eq_true rfl | (simp; done) | omega | (simp only [Nat.mul_one]; assumption)) ?_) | (refine l_perm (front4 _ _ _ _ _ _) ?_; refine l_store inf_38 rfl rfl rfl rfl (by first | decide | exact Nat.le_of_ble_eq_true rfl | (simp; done) | omega | (simp only [Nat.mul_one]; assumption)) ?_)
      refine l_nil ?_
      refine h_next _ (by first | exact (List.Perm.refl _ : List.Perm _ ([] ++ _)) | exact (List.Perm.refl _ : List.Perm _ ([_] ++ _)) | exact (List.Perm.refl _ : List.Perm _ ([_, _] ++ _)) | exact (List.Perm.refl _ : List.Perm _ ([_, _, _] ++ _)) | exact (List.Perm.refl _ : List.Perm _ ([_, _, _, _] ++ _))) (by first | exact fun _ h => h | exact fun _ h => List.mem_cons_of_mem _ h | exact fun _ h => List.mem_cons_of_mem _ (List.mem_cons_of_mem _ h)) ?_
      refine h_done (by kernel_rfl) ?_
      refine c_join (b5, b20, b18) ?inv ?sub ?perm ?facts
      case sub => exact ⟨rfl, rfl, rfl, trivial⟩
      case perm =>
        unfold own5
        rw [costs_nil]
        repeat (first | exact List.Perm.refl _ | refine List.Perm.cons _ ?_ | refine (front1 _ _ _).trans (List.Perm.cons _ ?_) | refine (front2 _ _ _ _).trans (List.Perm.cons _ ?_) | refine (front3 _ _ _ _ _).trans (List.Perm.cons _ ?_) | refine (front4 _ _ _ _ _ _).trans (List.Perm.cons _ ?_))
      case facts => exact fun _ h => absurd h List.not_mem_nil
      case inv =>
        trivial
  rintro ⟨b5, b20, b18⟩ hmeet
  have hmeet : True := hmeet
  have _ := hmeet
  show Cont _ _ _ _ [(2, .pointer (some ⟨b2, 0, none⟩)), (3, .pointer (some ⟨b3, 0, none⟩)), (5, .pointer (some ⟨b5, 0, none⟩))] (own5 a b b2 b3 b5 b20 b18 (Td.tab a b [])) []
  refine c_seq ?_
  refine c_seq ?_
  refine c_reg ?_
  first | refine l_q (show 21 < 86 by decide) (r_loado Try.underlying9 rfl rfl (by repeat (first | exact List.Mem.head _ | apply List.Mem.tail)) (by rfl)).q ?_ | refine l_q (show 21 < 86 by decide) (r_load1 Try.underlying9 rfl rfl (by first | exact .fact (by repeat (first | exact List.Mem.head _ | apply List.Mem.tail)) | exact .own (by repeat (first | exact List.Mem.head _ | apply List.Mem.tail)) (by decide) (fun _ => rfl)) (by first | assumption | rfl) (by rfl)).q ?_ | refine l_q (show 21 < 86 by decide) (r_loadf Try.underlying9 rfl rfl (by first | exact .fact (by repeat (first | exact List.Mem.head _ | apply List.Mem.tail)) | exact .own (by repeat (first | exact List.Mem.head _ | apply List.Mem.tail)) (by decide) (fun _ => rfl)) (by assumption) (by rfl)).q ?_
  refine l_q (show 22 < 86 by decide) (p_len_str Try.underlying9 rfl).q ?_
  first | refine l_q (show 23 < 86 by decide) (r_loado Try.underlying9 rfl rfl (by repeat (first | exact List.Mem.head _ | apply List.Mem.tail)) (by rfl)).q ?_ | refine l_q (show 23 < 86 by decide) (r_load1 Try.underlying9 rfl rfl (by first | exact .fact (by repeat (first | exact List.Mem.head _ | apply List.Mem.tail)) | exact .own (by repeat (first | exact List.Mem.head _ | apply List.Mem.tail)) (by decide) (fun _ => rfl)) (by first | assumption | rfl) (by rfl)).q ?_ | refine l_q (show 23 < 86 by decide) (r_loadf Try.underlying9 rfl rfl (by first | exact .fact (by repeat (first | exact List.Mem.head _ | apply List.Mem.tail)) | exact .own (by repeat (first | exact List.Mem.head _ | apply List.Mem.tail)) (by decide) (fun _ => rfl)) (by assumption) (by rfl)).q ?_
  refine l_q (show 24 < 86 by decide) (p_len_str Try.underlying9 rfl).q ?_
  refine l_call (X := Nat × Nat) (fun x => itv x.1 x.2) (fun x => boxes x.1 x.2 a.length b.length) (by decide) call_25 rfl (fun w hs => pairs_ok _ _ w) (fun bxz => ?_)
  refine l_nil ?_
  refine c_block ?_
  refine c_range (α := Pt a.length b.length) encs (boxes bxz.1 bxz.2 a.length b.length) (fun xs => xs = Go.Proofs.Ytnkmemoagimddaa.pre a.length b.length ((a.length + 1) * (b.length + 1))) ((a.length + 1) * (b.length + 1)) (fun pre => own5 a b b2 b3 b5 b20 b18 (Td.tab a b (pts pre))) (fun x => [(2, .pointer (some ⟨b2, 0, none⟩)), (3, .pointer (some ⟨b3, 0, none⟩)), (5, .pointer (some ⟨b5, 0, none⟩)), (6, .int .i64 (x.1.1 : Int)), (7, .int .i64 (x.1.2 : Int))]) rfl call_26 (by repeat (first | exact List.Mem.head _ | apply List.Mem.tail)) (fun w h => pairs_seq a.length b.length bxz.1 bxz.2 hal hbl w h) (fun x => rfl) (by decide) rfl (fun _ _ h => h) ?_ ?_ ?_
  · intro l pre x w1
    rw [show (#[26, 27].zip (encs x)).toList = [(26, .int .i64 (x.1.1 : Int)), (27, .int .i64 (x.1.2 : Int))] by simp [encs]]
    refine c_seq ?_
    refine c_reg ?_
    refine l_q (show 6 < 86 by decide) (p_assign rfl).q ?_
    refine l_nil ?_
    refine c_reg ?_
    refine l_q (show 7 < 86 by decide) (p_assign rfl).q ?_
    refine l_nil ?_
    refine c_join () trivial ?_ ?_ (fun _ h => h)
    · exact ⟨rfl, rfl, rfl, rfl, rfl, trivial⟩
    · skip
      exact List.Perm.refl _
  · intro l pre x w1 hlen
    have hl := Td.length_tab a b (pts pre)
    have hle := Td.tab_le a b (pts pre)
    have hpl : (pts pre).length < (a.length + 1) * (b.length + 1) := by rw [pts, List.length_map]; exact hlen
    have hcat : Td.tab a b (pts (pre ++ [x])) = Td.step a b (Td.tab a b (pts pre)) (x.1.1, x.1.2) := by rw [pts, List.map_append, List.map_cons, List.map_nil, Td.tab_snoc]; rfl
    rw [hcat]
    clear hcat
    generalize Td.tab a b (pts pre) = F at *
    obtain ⟨hxi, hxj⟩ := x.2
    have hk := idx_lt hxi hxj
    have hkc : x.1.1 * (b.length + 1) + x.1.2 < (costs F).length := by rw [costs, List.length_map, hl]; exact hk
    refine c_block ?_
    refine c_seq ?_
    refine c_reg ?_
    refine l_q (show 8 < 86 by decide) (p_assign (v := .int .i64 ((0 : Nat) : Int)) rfl).q ?_
    refine l_nil ?_
    refine c_seq ?_
    refine c_meetn (S := Nat) (fun s => s = Td.val a b F (x.1.1, x.1.2)) (fun s => [(2, .pointer (some ⟨b2, 0, none⟩)), (3, .pointer (some ⟨b3, 0, none⟩)), (5, .pointer (some ⟨b5, 0, none⟩)), (6, .int .i64 (x.1.1 : Int)), (7, .int .i64 (x.1.2 : Int)), (8, .int .i64 (s : Int))]) (fun s => own5 a b b2 b3 b5 b20 b18 F) (fun s => [boxes bxz.1 bxz.2 a.length b.length]) ?_ ?_
    · skip
      refine c_block ?_
      refine c_seq ?_
      refine c_reg ?_
      refine l_q (show 41 < 86 by decide) (p_move rfl).q ?_
      first | refine l_q (show 42 < 86 by decide) (r_loado Try.underlying9 rfl rfl (by repeat (first | exact List.Mem.head _ | apply List.Mem.tail)) (by rfl)).q ?_ | refine l_q (show 42 < 86 by decide) (r_load1 Try.underlying9 rfl rfl (by first | exact .fact (by repeat (first | exact List.Mem.head _ | apply List.Mem.tail)) | exact .own (by repeat (first | exact List.Mem.head _ | apply List.Mem.tail)) (by decide) (fun _ => rfl)) (by first | assumption | rfl) (by rfl)).q ?_ | refine l_q (show 42 < 86 by decide) (r_loadf Try.underlying9 rfl rfl (by first | exact .fact (by repeat (first | exact List.Mem.head _ | apply List.Mem.tail)) | exact .own (by repeat (first | exact List.Mem.head _ | apply List.Mem.tail)) (by decide) (fun _ => rfl)) (by assumption) (by rfl)).q ?_
      refine l_q (show 43 < 86 by decide) (p_len_str Try.underlying9 rfl).q ?_
      first | refine l_q (show 44 < 86 by decide) (p_eql rfl rfl rfl rfl).q ?_ | refine l_q (show 44 < 86 by decide) (p_eqli rfl rfl).q ?_
      refine l_q (show 40 < 86 by decide) (p_assign rfl).q ?_
      refine l_nil ?_
      first | refine c_dec rfl (fun h40 => ?_) (fun h40 => ?_) | refine c_cond rfl (fun h40 => ?_) (fun h40 => ?_)
      · skip
        refine c_reg ?_
        first | refine l_q (show 45 < 86 by decide) (r_loado Try.underlying9 rfl rfl (by repeat (first | exact List.Mem.head _ | apply List.Mem.tail)) (by rfl)).q ?_ | refine l_q (show 45 < 86 by decide) (r_load1 Try.underlying9 rfl rfl (by first | exact .fact (by repeat (first | exact List.Mem.head _ | apply List.Mem.tail)) | exact .own (by repeat (first | exact List.Mem.head _ | apply List.Mem.tail)) (by decide) (fun _ => rfl)) (by first | assumption | rfl) (by rfl)).q ?_ | refine l_q (show 45 < 86 by decide) (r_loadf Try.underlying9 rfl rfl (by first | exact .fact (by repeat (first | exact List.Mem.head _ | apply List.Mem.tail)) | exact .own (by repeat (first | exact List.Mem.head _ | apply List.Mem.tail)) (by decide) (fun _ => rfl)) (by assumption) (by rfl)).q ?_
        refine l_q (show 46 < 86 by decide) (p_len_str Try.underlying9 rfl).q ?_
        refine l_q (show 47 < 86 by decide) (p_move rfl).q ?_
        first | refine l_q (show 48 < 86 by decide) (p_sub rfl rfl rfl rfl (by omega) (by show _ ≤ (9223372036854775807 : Nat); omega)).q ?_ | refine l_q (show 48 < 86 by decide) (p_subi rfl rfl (by show (-9223372036854775808 : Int) ≤ _; omega) (by show _ ≤ ((9223372036854775807 : Nat) : Int); omega)).q ?_
        refine l_q (show 8 < 86 by decide) (p_assign rfl).q ?_
        refine l_nil ?_
        refine c_join (b.length - x.1.2) ?inv ?sub ?perm ?facts
        case sub => exact ⟨rfl, rfl, rfl, rfl, rfl, rfl, trivial⟩
        case perm =>
          exact List.Perm.refl _
        case facts => exact fun _ h => h
        case inv =>
          unfold Td.val; simp only; rw [if_pos h40]
      · skip
        refine c_seq ?_
        refine c_reg ?_
        refine l_q (show 50 < 86 by decide) (p_move rfl).q ?_
        first | refine l_q (show 51 < 86 by decide) (r_loado Try.underlying9 rfl rfl (by repeat (first | exact List.Mem.head _ | apply List.Mem.tail)) (by rfl)).q ?_ | refine l_q (show 51 < 86 by decide) (r_load1 Try.underlying9 rfl rfl (by first | exact .fact (by repeat (first | exact List.Mem.head _ | apply List.Mem.tail)) | exact .own (by repeat (first | exact List.Mem.head _ | apply List.Mem.tail)) (by decide) (fun _ => rfl)) (by first | assumption | rfl) (by rfl)).q ?_ | refine l_q (show 51 < 86 by decide) (r_loadf Try.underlying9 rfl rfl (by first | exact .fact (by repeat (first | exact List.Mem.head _ | apply List.Mem.tail)) | exact .own (by repeat (first | exact List.Mem.head _ | apply List.Mem.tail)) (by decide) (fun _ => rfl)) (by assumption) (by rfl)).q ?_
        refine l_q (show 52 < 86 by decide) (p_len_str Try.underlying9 rfl).q ?_
        first | refine l_q (show 53 < 86 by decide) (p_eql rfl rfl rfl rfl).q ?_ | refine l_q (show 53 < 86 by decide) (p_eqli rfl rfl).q ?_
        refine l_q (show 49 < 86 by decide) (p_assign rfl).q ?_
        refine l_nil ?_
        first | refine c_dec rfl (fun h49 => ?_) (fun h49 => ?_) | refine c_cond rfl (fun h49 => ?_) (fun h49 => ?_)
        · skip
          refine c_reg ?_
          first | refine l_q (show 54 < 86 by decide) (r_loado Try.underlying9 rfl rfl (by repeat (first | exact List.Mem.head _ | apply List.Mem.tail)) (by rfl)).q ?_ | refine l_q (show 54 < 86 by decide) (r_load1 Try.underlying9 rfl rfl (by first | exact .fact (by repeat (first | exact List.Mem.head _ | apply List.Mem.tail)) | exact .own (by repeat (first | exact List.Mem.head _ | apply List.Mem.tail)) (by decide) (fun _ => rfl)) (by first | assumption | rfl) (by rfl)).q ?_ | refine l_q (show 54 < 86 by decide) (r_loadf Try.underlying9 rfl rfl (by first | exact .fact (by repeat (first | exact List.Mem.head _ | apply List.Mem.tail)) | exact .own (by repeat (first | exact List.Mem.head _ | apply List.Mem.tail)) (by decide) (fun _ => rfl)) (by assumption) (by rfl)).q ?_
          refine l_q (show 55 < 86 by decide) (p_len_str Try.underlying9 rfl).q ?_
          refine l_q (show 56 < 86 by decide) (p_move rfl).q ?_
          first | refine l_q (show 57 < 86 by decide) (p_sub rfl rfl rfl rfl (by omega) (by show _ ≤ (9223372036854775807 : Nat); omega)).q ?_ | refine l_q (show 57 < 86 by decide) (p_subi rfl rfl (by show (-9223372036854775808 : Int) ≤ _; omega) (by show _ ≤ ((9223372036854775807 : Nat) : Int); omega)).q ?_
          refine l_q (show 8 < 86 by decide) (p_assign rfl).q ?_
          refine l_nil ?_
          refine c_join (a.length - x.1.1) ?inv ?sub ?perm ?facts
          case sub => exact ⟨rfl, rfl, rfl, rfl, rfl, rfl, trivial⟩
          case perm =>
            exact List.Perm.refl _
          case facts => exact fun _ h => h
          case inv =>
            unfold Td.val; simp only; rw [if_neg h40, if_pos h49]
        · skip
          obtain ⟨u, hu⟩ : ∃ u, a[x.1.1]? = some u := ⟨_, List.getElem?_eq_getElem (by omega)⟩
          obtain ⟨u2, hu2⟩ : ∃ u, b[x.1.2]? = some u := ⟨_, List.getElem?_eq_getElem (by omega)⟩
          refine c_seq ?_
          refine c_draw mixed (by decide +kernel) ?_
          first | refine q_q (show 59 < 86 by decide) (r_loado Try.underlying9 rfl rfl (by repeat (first | exact List.Mem.head _ | apply List.Mem.tail)) (by rfl)).q ?_ | refine q_q (show 59 < 86 by decide) (r_load1 Try.underlying9 rfl rfl (by first | exact .fact (by repeat (first | exact List.Mem.head _ | apply List.Mem.tail)) | exact .own (by repeat (first | exact List.Mem.head _ | apply List.Mem.tail)) (by decide) (fun _ => rfl)) (by first | assumption | rfl) (by rfl)).q ?_ | refine q_q (show 59 < 86 by decide) (r_loadf Try.underlying9 rfl rfl (by first | exact .fact (by repeat (first | exact List.Mem.head _ | apply List.Mem.tail)) | exact .own (by repeat (first | exact List.Mem.head _ | apply List.Mem.tail)) (by decide) (fun _ => rfl)) (by assumption) (by rfl)).q ?_
          refine q_q (show 60 < 86 by decide) (p_move rfl).q ?_
          first | refine q_q (show 61 < 86 by decide) (p_index_str Try.underlying9 rfl rfl rfl (by assumption)).q ?_ | refine q_q (show 61 < 86 by decide) (p_index_str Try.underlying9 rfl rfl rfl (by simp; rfl)).q ?_
          first | refine q_q (show 62 < 86 by decide) (r_loado Try.underlying9 rfl rfl (by repeat (first | exact List.Mem.head _ | apply List.Mem.tail)) (by rfl)).q ?_ | refine q_q (show 62 < 86 by decide) (r_load1 Try.underlying9 rfl rfl (by first | exact .fact (by repeat (first | exact List.Mem.head _ | apply List.Mem.tail)) | exact .own (by repeat (first | exact List.Mem.head _ | apply List.Mem.tail)) (by decide) (fun _ => rfl)) (by first | assumption | rfl) (by rfl)).q ?_ | refine q_q (show 62 < 86 by decide) (r_loadf Try.underlying9 rfl rfl (by first | exact .fact (by repeat (first | exact List.Mem.head _ | apply List.Mem.tail)) | exact .own (by repeat (first | exact List.Mem.head _ | apply List.Mem.tail)) (by decide) (fun _ => rfl)) (by assumption) (by rfl)).q ?_
          refine q_q (show 63 < 86 by decide) (p_move rfl).q ?_
          first | refine q_q (show 64 < 86 by decide) (p_index_str Try.underlying9 rfl rfl rfl (by assumption)).q ?_ | refine q_q (show 64 < 86 by decide) (p_index_str Try.underlying9 rfl rfl rfl (by simp; rfl)).q ?_
          first | refine q_q (show 65 < 86 by decide) (p_eql rfl rfl rfl rfl).q ?_ | refine q_q (show 65 < 86 by decide) (p_eqli rfl rfl).q ?_
          refine q_q (show 58 < 86 by decide) (p_assign rfl).q ?_
          refine q_nil ?_
          first | refine c_dec rfl (fun h58 => ?_) (fun h58 => ?_) | refine c_cond rfl (fun h58 => ?_) (fun h58 => ?_)
          · skip
            obtain ⟨y, hy⟩ : ∃ y, F[(x.1.1 + 1) * (b.length + 1) + (x.1.2 + 1)]? = some y := ⟨_, List.getElem?_eq_getElem (by rw [hl]; exact idx_lt (by omega) (by omega))⟩
            refine c_reg ?_
            first | refine l_q (show 66 < 86 by decide) (r_loado Try.underlying38 rfl rfl (by repeat (first | exact List.Mem.head _ | apply List.Mem.tail)) (by rfl)).q ?_ | refine l_q (show 66 < 86 by decide) (r_load1 Try.underlying38 rfl rfl (by first | exact .fact (by repeat (first | exact List.Mem.head _ | apply List.Mem.tail)) | exact .own (by repeat (first | exact List.Mem.head _ | apply List.Mem.tail)) (by decide) (fun _ => rfl)) (by first | assumption | rfl) (by rfl)).q ?_ | refine l_q (show 66 < 86 by decide) (r_loadf Try.underlying38 rfl rfl (by first | exact .fact (by repeat (first | exact List.Mem.head _ | apply List.Mem.tail)) | exact .own (by repeat (first | exact List.Mem.head _ | apply List.Mem.tail)) (by decide) (fun _ => rfl)) (by assumption) (by rfl)).q ?_
            refine l_q (show 67 < 86 by decide) (p_move rfl).q ?_
            first | refine l_q (show 68 < 86 by decide) (p_add (j := 1) rfl rfl rfl rfl (by show _ ≤ (9223372036854775807 : Nat); omega)).q ?_ | refine l_q (show 68 < 86 by decide) (p_addi rfl rfl (by show (-9223372036854775808 : Int) ≤ _; omega) (by show _ ≤ ((9223372036854775807 : Nat) : Int); omega)).q ?_
            refine l_q (show 69 < 86 by decide) (p_move rfl).q ?_
            first | refine l_q (show 70 < 86 by decide) (p_add (j := 1) rfl rfl rfl rfl (by show _ ≤ (9223372036854775807 : Nat); omega)).q ?_ | refine l_q (show 70 < 86 by decide) (p_addi rfl rfl (by show (-9223372036854775808 : Int) ≤ _; omega) (by show _ ≤ ((9223372036854775807 : Nat) : Int); omega)).q ?_
            refine l_q (show 71 < 86 by decide) (q_call call_22 rfl (fun w hs => at_ok b20 b18 a b F (x.1.1 + 1) (x.1.2 + 1) y (by omega) (by omega) hbl hy w (tab5 hl hs (by repeat (first | exact List.Mem.head _ | apply List.Mem.tail)) (by repeat (first | exact List.Mem.head _ | apply List.Mem.tail))))) ?_
            refine l_q (show 8 < 86 by decide) (p_assign rfl).q ?_
            refine l_nil ?_
            refine c_join (y) ?inv ?sub ?perm ?facts
            case sub => exact ⟨rfl, rfl, rfl, rfl, rfl, rfl, trivial⟩
            case perm =>
              exact List.Perm.refl _
            case facts => exact fun _ h => h
            case inv =>
              unfold Td.val; simp only; rw [if_neg h40, if_neg h49, hu, hu2, if_pos (by rw [UInt8.toNat_inj.1 h58]), hy]; rfl
          · skip
            obtain ⟨y, hy⟩ : ∃ y, F[(x.1.1 + 1) * (b.length + 1) + x.1.2]? = some y := ⟨_, List.getElem?_eq_getElem (by rw [hl]; exact idx_lt (by omega) (by omega))⟩
            obtain ⟨z, hz⟩ : ∃ z, F[x.1.1 * (b.length + 1) + (x.1.2 + 1)]? = some z := ⟨_, List.getElem?_eq_getElem (by rw [hl]; exact idx_lt (by omega) (by omega))⟩
            have hyle := hle y (List.mem_of_getElem? hy)
            have hzle := hle z (List.mem_of_getElem? hz)
            refine c_draw mixed (by decide +kernel) ?_
            first | refine q_q (show 28 < 86 by decide) (r_loado Try.underlying38 rfl rfl (by repeat (first | exact List.Mem.head _ | apply List.Mem.tail)) (by rfl)).q ?_ | refine q_q (show 28 < 86 by decide) (r_load1 Try.underlying38 rfl rfl (by first | exact .fact (by repeat (first | exact List.Mem.head _ | apply List.Mem.tail)) | exact .own (by repeat (first | exact List.Mem.head _ | apply List.Mem.tail)) (by decide) (fun _ => rfl)) (by first | assumption | rfl) (by rfl)).q ?_ | refine q_q (show 28 < 86 by decide) (r_loadf Try.underlying38 rfl rfl (by first | exact .fact (by repeat (first | exact List.Mem.head _ | apply List.Mem.tail)) | exact .own (by repeat (first | exact List.Mem.head _ | apply List.Mem.tail)) (by decide) (fun _ => rfl)) (by assumption) (by rfl)).q ?_
            refine q_q (show 29 < 86 by decide) (p_move rfl).q ?_
            first | refine q_q (show 30 < 86 by decide) (p_add (j := 1) rfl rfl rfl rfl (by show _ ≤ (9223372036854775807 : Nat); omega)).q ?_ | refine q_q (show 30 < 86 by decide) (p_addi rfl rfl (by show (-9223372036854775808 : Int) ≤ _; omega) (by show _ ≤ ((9223372036854775807 : Nat) : Int); omega)).q ?_
            refine q_q (show 31 < 86 by decide) (p_move rfl).q ?_
            refine q_q (show 32 < 86 by decide) (q_call call_22 rfl (fun w hs => at_ok b20 b18 a b F (x.1.1 + 1) (x.1.2) y (by omega) (by omega) hbl hy w (tab5 hl hs (by repeat (first | exact List.Mem.head _ | apply List.Mem.tail)) (by repeat (first | exact List.Mem.head _ | apply List.Mem.tail))))) ?_
            first | refine q_q (show 33 < 86 by decide) (r_loado Try.underlying38 rfl rfl (by repeat (first | exact List.Mem.head _ | apply List.Mem.tail)) (by rfl)).q ?_ | refine q_q (show 33 < 86 by decide) (r_load1 Try.underlying38 rfl rfl (by first | exact .fact (by repeat (first | exact List.Mem.head _ | apply List.Mem.tail)) | exact .own (by repeat (first | exact List.Mem.head _ | apply List.Mem.tail)) (by decide) (fun _ => rfl)) (by first | assumption | rfl) (by rfl)).q ?_ | refine q_q (show 33 < 86 by decide) (r_loadf Try.underlying38 rfl rfl (by first | exact .fact (by repeat (first | exact List.Mem.head _ | apply List.Mem.tail)) | exact .own (by repeat (first | exact List.Mem.head _ | apply List.Mem.tail)) (by decide) (fun _ => rfl)) (by assumption) (by rfl)).q ?_
            refine q_q (show 34 < 86 by decide) (p_move rfl).q ?_
            refine q_q (show 35 < 86 by decide) (p_move rfl).q ?_
            first | refine q_q (show 36 < 86 by decide) (p_add (j := 1) rfl rfl rfl rfl (by show _ ≤ (9223372036854775807 : Nat); omega)).q ?_ | refine q_q (show 36 < 86 by decide) (p_addi rfl rfl (by show (-9223372036854775808 : Int) ≤ _; omega) (by show _ ≤ ((9223372036854775807 : Nat) : Int); omega)).q ?_
            refine q_q (show 37 < 86 by decide) (q_call call_22 rfl (fun w hs => at_ok b20 b18 a b F (x.1.1) (x.1.2 + 1) z (by omega) (by omega) hbl hz w (tab5 hl hs (by repeat (first | exact List.Mem.head _ | apply List.Mem.tail)) (by repeat (first | exact List.Mem.head _ | apply List.Mem.tail))))) ?_
            first | refine q_q (show 38 < 86 by decide) (p_min rfl rfl rfl rfl).q ?_ | refine q_q (show 38 < 86 by decide) (p_mini rfl rfl).q ?_
            first | refine q_q (show 39 < 86 by decide) (p_add (i := 1) rfl rfl rfl rfl (by show _ ≤ (9223372036854775807 : Nat); omega)).q ?_ | refine q_q (show 39 < 86 by decide) (p_addi rfl rfl (by show (-9223372036854775808 : Int) ≤ _; omega) (by show _ ≤ ((9223372036854775807 : Nat) : Int); omega)).q ?_
            refine q_q (show 8 < 86 by decide) (p_assign rfl).q ?_
            refine q_nil ?_
            refine c_join (1 + min y z) ?inv ?sub ?perm ?facts
            case sub => exact ⟨rfl, rfl, rfl, rfl, rfl, rfl, trivial⟩
            case perm =>
              exact List.Perm.refl _
            case facts => exact fun _ h => h
            case inv =>
              unfold Td.val; simp only; rw [if_neg h40, if_neg h49, hu, hu2, if_neg (fun e => h58 (by rw [Option.some.inj e])), hy, hz]; rfl
    rintro v hmeet
    have hmeet : v = Td.val a b F (x.1.1, x.1.2) := hmeet
    have hv := hmeet
    show Cont _ _ _ _ [(2, .pointer (some ⟨b2, 0, none⟩)), (3, .pointer (some ⟨b3, 0, none⟩)), (5, .pointer (some ⟨b5, 0, none⟩)), (6, .int .i64 (x.1.1 : Int)), (7, .int .i64 (x.1.2 : Int)), (8, .int .i64 (v : Int))] (own5 a b b2 b3 b5 b20 b18 F) [boxes bxz.1 bxz.2 a.length b.length]
    refine t_draw 13 mixed ?_
    first | refine t_take 0 rfl (by kernel_rfl) (show 72 < 86 by decide) (r_loado Try.underlying38 rfl rfl (by repeat (first | exact List.Mem.head _ | apply List.Mem.tail)) (by rfl)).r ?_ | refine t_take 0 rfl (by kernel_rfl) (show 72 < 86 by decide) (r_load1 Try.underlying38 rfl rfl (by first | exact .fact (by repeat (first | exact List.Mem.head _ | apply List.Mem.tail)) | exact .own (by repeat (first | exact List.Mem.head _ | apply List.Mem.tail)) (by decide) (fun _ => rfl)) (by first | assumption | rfl) (by rfl)).r ?_ | refine t_take 0 rfl (by kernel_rfl) (show 72 < 86 by decide) (r_loadf Try.underlying38 rfl rfl (by first | exact .fact (by repeat (first | exact List.Mem.head _ | apply List.Mem.tail)) | exact .own (by repeat (first | exact List.Mem.head _ | apply List.Mem.tail)) (by decide) (fun _ => rfl)) (by assumption) (by rfl)).r ?_
    refine t_take 1 rfl (by kernel_rfl) (show 73 < 86 by decide) (p_nilp rfl).r ?_
    first | refine t_take 2 rfl (by kernel_rfl) (show 74 < 86 by decide) (p_faddr (i := 2) 2 Try.underlying44 rfl inf_41 (by decide) rfl rfl).r ?_ | refine t_take 2 rfl (by kernel_rfl) (show 74 < 86 by decide) (p_faddro (i := 2) 2 Try.underlying44 rfl inf_41 (by decide) rfl rfl).r ?_
    first | refine t_take 3 rfl (by kernel_rfl) (show 75 < 86 by decide) (r_loado Try.underlying41 rfl rfl (by repeat (first | exact List.Mem.head _ | apply List.Mem.tail)) (by rfl)).r ?_ | refine t_take 3 rfl (by kernel_rfl) (show 75 < 86 by decide) (r_load1 Try.underlying41 rfl rfl (by first | exact .fact (by repeat (first | exact List.Mem.head _ | apply List.Mem.tail)) | exact .own (by repeat (first | exact List.Mem.head _ | apply List.Mem.tail)) (by decide) (fun _ => rfl)) (by first | assumption | rfl) (by rfl)).r ?_ | refine t_take 3 rfl (by kernel_rfl) (show 75 < 86 by decide) (r_loadf Try.underlying41 rfl rfl (by first | exact .fact (by repeat (first | exact List.Mem.head _ | apply List.Mem.tail)) | exact .own (by repeat (first | exact List.Mem.head _ | apply List.Mem.tail)) (by decide) (fun _ => rfl)) (by assumption) (by rfl)).r ?_
    refine t_take 4 rfl (by kernel_rfl) (show 76 < 86 by decide) (p_move rfl).r ?_
    first | refine t_take 5 rfl (by kernel_rfl) (show 77 < 86 by decide) (r_loado Try.underlying9 rfl rfl (by repeat (first | exact List.Mem.head _ | apply List.Mem.tail)) (by rfl)).r ?_ | refine t_take 5 rfl (by kernel_rfl) (show 77 < 86 by decide) (r_load1 Try.underlying9 rfl rfl (by first | exact .fact (by repeat (first | exact List.Mem.head _ | apply List.Mem.tail)) | exact .own (by repeat (first | exact List.Mem.head _ | apply List.Mem.tail)) (by decide) (fun _ => rfl)) (by first | assumption | rfl) (by rfl)).r ?_ | refine t_take 5 rfl (by kernel_rfl) (show 77 < 86 by decide) (r_loadf Try.underlying9 rfl rfl (by first | exact .fact (by repeat (first | exact List.Mem.head _ | apply List.Mem.tail)) | exact .own (by repeat (first | exact List.Mem.head _ | apply List.Mem.tail)) (by decide) (fun _ => rfl)) (by assumption) (by rfl)).r ?_
    refine t_take 6 rfl (by kernel_rfl) (show 78 < 86 by decide) (p_len_str Try.underlying9 rfl).r ?_
    first | refine t_take 7 rfl (by kernel_rfl) (show 79 < 86 by decide) (p_add (j := 1) rfl rfl rfl rfl (by show _ ≤ (9223372036854775807 : Nat); omega)).r ?_ | refine t_take 7 rfl (by kernel_rfl) (show 79 < 86 by decide) (p_addi rfl rfl (by show (-9223372036854775808 : Int) ≤ _; omega) (by show _ ≤ ((9223372036854775807 : Nat) : Int); omega)).r ?_
    refine t_take 8 rfl (by kernel_rfl) (show 80 < 86 by decide) (p_mul rfl rfl rfl rfl (by show _ ≤ (9223372036854775807 : Nat); omega)).r ?_
    refine t_take 9 rfl (by kernel_rfl) (show 81 < 86 by decide) (p_move rfl).r ?_
    first | refine t_take 10 rfl (by kernel_rfl) (show 82 < 86 by decide) (p_add rfl rfl rfl rfl (by show _ ≤ (9223372036854775807 : Nat); omega)).r ?_ | refine t_take 10 rfl (by kernel_rfl) (show 82 < 86 by decide) (p_addi rfl rfl (by show (-9223372036854775808 : Int) ≤ _; omega) (by show _ ≤ ((9223372036854775807 : Nat) : Int); omega)).r ?_
    refine t_take 11 rfl (by kernel_rfl) (show 83 < 86 by decide) (p_move rfl).r ?_
    first | refine t_take 12 rfl (by kernel_rfl) (show 84 < 86 by decide) (r_index Try.underlying41 inf_3 rfl rfl rfl (by first | exact .fact (by repeat (first | exact List.Mem.head _ | apply List.Mem.tail)) | exact .own (by repeat (first | exact List.Mem.head _ | apply List.Mem.tail)) (by decide) (fun _ => rfl)) rfl (by omega)).r ?_ | refine t_take 12 rfl (by kernel_rfl) (show 84 < 86 by decide) (r_index Try.underlying41 inf_3 rfl rfl rfl (by first | exact .fact (by repeat (first | exact List.Mem.head _ | apply List.Mem.tail)) | exact .own (by repeat (first | exact List.Mem.head _ | apply List.Mem.tail)) (by decide) (fun _ => rfl)) rfl (by decide)).r ?_ | refine t_take 12 rfl (by kernel_rfl) (show 84 < 86 by decide) (p_indexo Try.underlying41 inf_3 rfl rfl rfl (by omega)).r ?_
    refine t_last rfl (by kernel_rfl) ?_
    first | (refine l_store inf_3 rfl rfl rfl rfl (by first | decide | exact Nat.le_of_ble_eq_true rfl | (simp; done) | omega | (simp only [Nat.mul_one]; assumption)) ?_) | (refine l_perm (front1 _ _ _) ?_; refine l_store inf_3 rfl rfl rfl rfl (by first | decide | exact Nat.le_of_ble_eq_true rfl | (simp; done) | omega | (simp only [Nat.mul_one]; assumption)) ?_) | (refine l_perm (front2 _ _ _ _) ?_; refine l_store inf_3 rfl rfl rfl rfl (by first | decide | exact Nat.le_of_ble_eq_true rfl | (simp; done) | omega | (simp only [Nat.mul_one]; assumption)) ?_) | (refine l_perm (front3 _ _ _ _ _) ?_; refine l_store inf_3 rfl rfl rfl rfl (by first | decide | exact Nat.le_of_ble_eq_true rfl | (simp; done) | omega | (simp only [Nat.mul_one]; assumption)) ?_) | (refine l_perm (front4 _ _ _ _ _ _) ?_; refine l_store inf_3 rfl rfl rfl rfl (by first | decide | exact Nat.le_of_ble_eq_true rfl | (simp; done) | omega | (simp only [Nat.mul_one]; assumption)) ?_)
    refine l_nil ?_
    refine c_join () trivial ?_ ?_ (fun _ h => h)
    · exact trivial
    · skip
      subst hmeet
      unfold Td.step
      rw [Nat.mul_one, costs_set]
      repeat (first | exact List.Perm.refl _ | refine List.Perm.cons _ ?_ | refine (front1 _ _ _).trans (List.Perm.cons _ ?_) | refine (front2 _ _ _ _).trans (List.Perm.cons _ ?_) | refine (front3 _ _ _ _ _).trans (List.Perm.cons _ ?_) | refine (front4 _ _ _ _ _ _).trans (List.Perm.cons _ ?_))
  · intro D xs hxs
    subst hxs
    rw [pts_pre]
    change Cont _ _ _ _ _ (_ :: own5 a b b2 b3 b5 b20 b18 (Td.full a b)) _
    refine c_seq ?_
    refine c_reg ?_
    first | refine l_q (show 85 < 86 by decide) (r_loado Try.underlying38 rfl rfl (by repeat (first | exact List.Mem.head _ | apply List.Mem.tail)) (by rfl)).q ?_ | refine l_q (show 85 < 86 by decide) (r_load1 Try.underlying38 rfl rfl (by first | exact .fact (by repeat (first | exact List.Mem.head _ | apply List.Mem.tail)) | exact .own (by repeat (first | exact List.Mem.head _ | apply List.Mem.tail)) (by decide) (fun _ => rfl)) (by first | assumption | rfl) (by rfl)).q ?_ | refine l_q (show 85 < 86 by decide) (r_loadf Try.underlying38 rfl rfl (by first | exact .fact (by repeat (first | exact List.Mem.head _ | apply List.Mem.tail)) | exact .own (by repeat (first | exact List.Mem.head _ | apply List.Mem.tail)) (by decide) (fun _ => rfl)) (by assumption) (by rfl)).q ?_
    refine l_q (show 4 < 86 by decide) (p_assign rfl).q ?_
    refine l_nil ?_
    refine c_ret ?_
    refine c_retm1 rfl rfl (fun w hs => ?_)
    have h1 := hs.own _ (List.mem_cons_of_mem _ (List.mem_cons_of_mem _ (List.mem_cons_of_mem _ (List.mem_cons_self ..))))
    have h2 := hs.own _ (List.mem_cons_of_mem _ (List.mem_cons_of_mem _ (List.mem_cons_of_mem _ (List.mem_cons_of_mem _ (List.mem_cons_self ..)))))
    have k1 := h1.2.2 b20 (by simp [iCells])
    have k2 := h2.2.2 b18 (by simp [iCells])
    refine ⟨(b20, b18), rfl, ⟨by rw [Td.length_full]; exact h1.1, h2.1⟩, fun w1 w2 h q => ⟨(h b20 (by simpa using k1.2) k1.1).trans q.1, (h b18 (by simpa using k2.2) k2.1).trans q.2⟩, hs.ext⟩
end Go.Proofs.Ytnkmemoagimddaa
