/- Contracts of vec.Write, and of the reference's long, Digits, Text and Write. -/
import Derived.Test.YtofpefbnkmeokaaVText2
import Derived.Test.YtofpefbnkmeokaaOctNum
import Derived.Test.YtofpefbnkmeokaaOctRef
import Derived.Test.YtofpefbnkmeokaaReadMem
namespace Go.Proofs.Ytofpefbnkmeokaa
open Go.RowKit
set_option linter.unusedVariables false
theorem num_size9 (v : Nat) (h : v ≤ 18446744073709551615) : (numN v).size ≤ 9 := by
  rw [numN_size]; have := nN_max (v := v) (by show v < 18446744073709551616; omega); omega
/-- The first k counts behind how many there are. -/
def wrS (F : Nat → Nat) (n : Nat) : Nat → ByteArray
  | 0 => numN n
  | k + 1 => wrS F n k ++ numN (F k)
theorem wrS_size (F : Nat → Nat) (n : Nat) (hn : n ≤ 8) (hF : ∀ i, F i ≤ 4294967295) : ∀ k, (wrS F n k).size ≤ 9 + 9 * k
  | 0 => num_size9 n (by omega)
  | k + 1 => by
    have h1 := wrS_size F n hn hF k
    have h2 := num_size9 (F k) (by have := hF k; omega)
    rw [wrS, ByteArray.size_append]; omega
def wrB (F : Nat → Nat) : ByteArray := wrS F (lng (fun i => (F i : Int)) 8) (lng (fun i => (F i : Int)) 8)
theorem wrB_size (F : Nat → Nat) (hF : ∀ i, F i ≤ 4294967295) : (wrB F).size ≤ 81 := by
  have h := lng_le (fun i => (F i : Int)) 8
  have := wrS_size F _ h hF (lng (fun i => (F i : Int)) 8)
  unfold wrB; omega
theorem vec_cells (F : Nat → Nat) (w : World) : ∀ j, j < 8 → (w.alloc (.cells #[.int .u32 (F 0 : Int), .int .u32 (F 1 : Int), .int .u32 (F 2 : Int), .int .u32 (F 3 : Int), .int .u32 (F 4 : Int), .int .u32 (F 5 : Int), .int .u32 (F 6 : Int), .int .u32 (F 7 : Int)] 24)).cell? ⟨w.heap.size, j, none⟩ = some (.int .u32 (F j : Int)) := by
  intro j hj
  rw [(Blk.new w 24 _).cell j]
  match j, hj with
  | 0, _ => rfl
  | 1, _ => rfl
  | 2, _ => rfl
  | 3, _ => rfl
  | 4, _ => rfl
  | 5, _ => rfl
  | 6, _ => rfl
  | 7, _ => rfl
set_option maxRecDepth 100000 in
set_option maxHeartbeats 1600000 in
theorem vwrite (F : Nat → Nat) (w : World) (hF : ∀ i, F i ≤ 4294967295) :
    Calls Try.prog 7 #[.agg #[.int .u32 (F 0 : Int), .int .u32 (F 1 : Int), .int .u32 (F 2 : Int), .int .u32 (F 3 : Int), .int .u32 (F 4 : Int), .int .u32 (F 5 : Int), .int .u32 (F 6 : Int), .int .u32 (F 7 : Int)]] w fun e w' => e = .returned (.string (wrB F)) ∧ Below w.heap.size w w' := by
  have hN := lng_le (fun i => (F i : Int)) 8
  unfold wrB
  obtain ⟨N, hNe⟩ : ∃ N, lng (fun i => (F i : Int)) 8 = N := ⟨_, rfl⟩
  have HN := Lib.hid hNe
  rw [hNe] at hN ⊢
  clear hNe
  have HZ := Lib.hid (wrS_size F N hN hF)
  go_enter Try.func7, Try.ntmps7
  go_wp2_with fail
  have HC := Lib.hid (vec_cells F w)
  have HB := Lib.hid (Joins.below_alloc1 w (.cells #[.int .u32 (F 0 : Int), .int .u32 (F 1 : Int), .int .u32 (F 2 : Int), .int .u32 (F 3 : Int), .int .u32 (F 4 : Int), .int .u32 (F 5 : Int), .int .u32 (F 6 : Int), .int .u32 (F 7 : Int)] 24))
  refine (vlong w.heap.size (fun i => (F i : Int)) _ HC.out).mono ?_; rintro e w1 ⟨rfl, rfl⟩
  have hsz : w.heap.size + 1 ≤ (w.alloc (.cells #[.int .u32 (F 0 : Int), .int .u32 (F 1 : Int), .int .u32 (F 2 : Int), .int .u32 (F 3 : Int), .int .u32 (F 4 : Int), .int .u32 (F 5 : Int), .int .u32 (F 6 : Int), .int .u32 (F 7 : Int)] 24)).heap.size := by simp
  generalize w.alloc (.cells #[.int .u32 (F 0 : Int), .int .u32 (F 1 : Int), .int .u32 (F 2 : Int), .int .u32 (F 3 : Int), .int .u32 (F 4 : Int), .int .u32 (F 5 : Int), .int .u32 (F 6 : Int), .int .u32 (F 7 : Int)] 24) = w1 at HC HB hsz ⊢
  rw [HN.out]
  have hN8 : (N : Int) ≤ 8 := by omega
  go_wp2_with fail
  refine (onum (N : Int) _ (by omega) (by omega)).mono ?_; rintro e w2 ⟨rfl, hb2⟩
  have HC2 : Hid (∀ j, j < 8 → w2.cell? ⟨w.heap.size, j, none⟩ = some (.int .u32 (F j : Int))) := Lib.hid (fun j hj => by rw [hb2.cell (p := ⟨w.heap.size, j, none⟩) (by show w.heap.size < _; omega)]; exact HC.out j hj)
  have HB2 := Lib.hid (HB.out.trans (hb2.mono (by omega)))
  have hs2 : w.heap.size + 1 ≤ w2.heap.size := by have := hb2.size; omega
  clear hb2 HC HB hsz
  go_wp2_with fail
  go_loopw [4, 14] (fun s i wr => ∃ k : Nat, k ≤ N ∧ i = .int .i64 k ∧ s = .string (wrS F N k) ∧ (∀ j, j < 8 → wr.cell? ⟨w.heap.size, j, none⟩ = some (.int .u32 (F j : Int))) ∧ w.heap.size + 1 ≤ wr.heap.size ∧ Below w.heap.size w wr) (fun _ i _ => N - (intOf i).toNat)
  case atStart => exact ⟨0, Nat.zero_le _, rfl, by simp [wrS], HC2.out, hs2, HB2.out⟩
  case round =>
    clear HC2 HB2 hs2
    obtain ⟨k, hk, rfl, rfl, hcs, hgr, hB⟩ := hrel
    have HC := Lib.hid hcs
    have HB := Lib.hid hB
    clear hcs hB
    by_cases hlt : k < N
    · have hc := HC.out k (by omega)
      have hk0 : (0 : Int) ≤ (k : Int) := by omega
      have hk1 : (k : Int) < (N : Int) := by omega
      have hFk := hF k
      have DN := Lib.hid (fun W => onum (F k : Int) W (by omega) (by omega))
      have z1 := HZ.out k
      have z2 := num_size9 (F k) (by omega)
      have hFk2 : (F k : Int) ≤ 4294967295 := by omega
      have HS := Lib.hid (show wrS F N (k + 1) = wrS F N k ++ numN (F k) from rfl)
      have e1 : ((F k : Int)).toNat = F k := by omega
      rw [e1] at DN
      clear e1
      generalize wrS F N k = t at z1 HS ⊢
      generalize numN (F k) = u at z2 HS DN
      have z3 : t.size ≤ 81 := by omega
      clear z1
      go_wp2_with fail
      refine (DN.out _).mono ?_; rintro e w3 ⟨rfl, hb3⟩
      have HC3 : Hid (∀ j, j < 8 → w3.cell? ⟨w.heap.size, j, none⟩ = some (.int .u32 (F j : Int))) := Lib.hid (fun j hj => by rw [hb3.cell (p := ⟨w.heap.size, j, none⟩) (by show w.heap.size < _; omega)]; exact HC.out j hj)
      have HB3 := Lib.hid (HB.out.trans (hb3.mono (by omega)))
      have hs3 : w.heap.size + 1 ≤ w3.heap.size := by have := hb3.size; omega
      clear hb3 HC HB hc
      go_wp2
      go_roundw
      case rel => exact ⟨k + 1, by omega, by go_num, by rw [HS.out], HC3.out, hs3, HB3.out⟩
      case measure => simp [intOf]; omega
    · obtain rfl : k = N := by omega
      clear hlt
      go_wp2
      go_ret
      exact ⟨rfl, HB.out⟩
end Go.Proofs.Ytofpefbnkmeokaa
