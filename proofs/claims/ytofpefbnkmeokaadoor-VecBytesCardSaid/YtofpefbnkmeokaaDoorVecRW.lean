/- Contracts of vec.Write, and of the reference's long, Digits, Text and Write. -/
import Derived.Test.YtofpefbnkmeokaaDoorVText2
import Derived.Test.YtofpefbnkmeokaaDoorOctNum
import Derived.Test.YtofpefbnkmeokaaDoorOctRef
import Derived.Test.YtofpefbnkmeokaaDoorReadMem
namespace Go.Proofs.YtofpefbnkmeokaaDoor
open Go.RowKit
set_option linter.unusedVariables false
theorem num_size9 (v : Nat) (h : v ≤ 18446744073709551615) : (numN v).size ≤ 9 := by
  rw [numN_size]; have := nN_max (v := v) (by show v < 18446744073709551616; omega); omega
/-- The first k counts behind how many there are. -/
def wrS (F : Nat → Nat) (n : Nat) : Nat → ByteArray
  | 0 => numN n
  | k + 1 => wrS F n k ++ numN (F k)
theorem wrS_size (F : Nat → Nat) (n : Nat) (hn : n ≤ 8) (hF : ∀ i, F i ≤ 4294967295) : ∀ k, (wrS F n k).size ≤ 9 + 9 * k
  | 0 => num_size9 n (by omega)
  | k + 1 => by
    have h1 := wrS_size F n hn hF k
    have h2 := num_size9 (F k) (by have := hF k; omega)
    rw [wrS, ByteArray.size_append]; omega
def wrB (F : Nat → Nat) : ByteArray := wrS F (lng (fun i => (F i : Int)) 8) (lng (fun i => (F i : Int)) 8)
theorem wrB_size (F : Nat → Nat) (hF : ∀ i, F i ≤ 4294967295) : (wrB F).size ≤ 81 := by
  have h := lng_le (fun i => (F i : Int)) 8
  have := wrS_size F _ h hF (lng (fun i => (F i : Int)) 8)
  unfold wrB; omega
theorem vec_cells (F : Nat → Nat) (w : World) : ∀ j, j < 8 → (w.alloc (.cells #[.int .u32 (F 0 : Int), .int .u32 (F 1 : Int), .int .u32 (F 2 : Int), .int .u32 (F 3 : Int), .int .u32 (F 4 : Int), .int .u32 (F 5 : Int), .int .u32 (F 6 : Int), .int .u32 (F 7 : Int)] 84)).cell? ⟨w.heap.size, j, none⟩ = some (.int .u32 (F j : Int)) := by
  intro j hj
  rw [(Blk.new w 84 _).cell j]
  match j, hj with
  | 0, _ => rfl
  | 1, _ => rfl
  | 2, _ => rfl
  | 3, _ => rfl
  | 4, _ => rfl
  | 5, _ => rfl
  | 6, _ => rfl
  | 7, _ => rfl
set_option maxRecDepth 100000 in
set_option maxHeartbeats 1600000 in
theorem vwrite (F : Nat → Nat) (w : World) (hF : ∀ i, F i ≤ 4294967295) :
    Calls Tryd.prog 35 #[.agg #[.int .u32 (F 0 : Int), .int .u32 (F 1 : Int), .int .u32 (F 2 : Int), .int .u32 (F 3 : Int), .int .u32 (F 4 : Int), .int .u32 (F 5 : Int), .int .u32 (F 6 : Int), .int .u32 (F 7 : Int)]] w fun e w' => e = .returned (.string (wrB F)) ∧ Below w.heap.size w w' := by
  have hN := lng_le (fun i => (F i : Int)) 8
  unfold wrB
  obtain ⟨N, hNe⟩ : ∃ N, lng (fun i => (F i : Int)) 8 = N := ⟨_, rfl⟩
  have HN := Lib.hid hNe
  rw [hNe] at hN ⊢
  clear hNe
  have HZ := Lib.hid (wrS_size F N hN hF)
  go_enter Tryd.func35, Tryd.ntmps35
  go_wp2_with fail
  have HC := Lib.hid (vec_cells F w)
  have HB := Lib.hid (Joins.below_alloc1 w (.cells #[.int .u32 (F 0 : Int), .int .u32 (F 1 : Int), .int .u32 (F 2 : Int), .int .u32 (F 3 : Int), .int .u32 (F 4 : Int), .int .u32 (F 5 : Int), .int .u32 (F 6 : Int), .int .u32 (F 7 : Int)] 84))
  refine (vlong w.heap.size (fun i => (F i : Int)) _ HC.out).mono ?_; rintro e w1 ⟨rfl, rfl⟩
  have hsz : w.heap.size + 1 ≤ (w.alloc (.cells #[.int .u32 (F 0 : Int), .int .u32 (F 1 : Int), .int .u32 (F 2 : Int), .int .u32 (F 3 : Int), .int .u32 (F 4 : Int), .int .u32 (F 5 : Int), .int .u32 (F 6 : Int), .int .u32 (F 7 : Int)] 84)).heap.size := by simp
  generalize w.alloc (.cells #[.int .u32 (F 0 : Int), .int .u32 (F 1 : Int), .int .u32 (F 2 : Int), .int .u32 (F 3 : Int), .int .u32 (F 4 : Int), .int .u32 (F 5 : Int), .int .u32 (F 6 : Int), .int .u32 (F 7 : Int)] 84) = w1 at HC HB hsz ⊢
  rw [HN.out]
  have hN8 : (N : Int) ≤ 8 := by omega
  go_wp2_with fail
  refine (onum (N : Int) _ (by omega) (by omega)).mono ?_; rintro e w2 ⟨rfl, hb2⟩
  have HC2 : Hid (∀ j, j < 8 → w2.cell? ⟨w.heap.size, j, none⟩ = some (.int .u32 (F j : Int))) := Lib.hid (fun j hj => by rw [hb2.cell (p := ⟨w.heap.size, j, none⟩) (by show w.heap.size < _; omega)]; exact HC.out j hj)
  have HB2 := Lib.hid (HB.out.trans (hb2.mono (by omega)))
  have hs2 : w.heap.size + 1 ≤ w2.heap.size := by have := hb2.size; omega
  clear hb2 HC HB hsz
  go_wp2_with fail
  go_loopw [4, 14] (fun s i wr => ∃ k : Nat, k ≤ N ∧ i = .int .i64 k ∧ s = .string (wrS F N k) ∧ (∀ j, j < 8 → wr.cell? ⟨w.heap.size, j, none⟩ = some (.int .u32 (F j : Int))) ∧ w.heap.size + 1 ≤ wr.heap.size ∧ Below w.heap.size w wr) (fun _ i _ => N - (intOf i).toNat)
  case atStart => exact ⟨0, Nat.zero_le _, rfl, by simp [wrS], HC2.out, hs2, HB2.out⟩
  case round =>
    clear HC2 HB2 hs2
    obtain ⟨k, hk, rfl, rfl, hcs, hgr, hB⟩ := hrel
    have HC := Lib.hid hcs
    have HB := Lib.hid hB
    clear hcs hB
    by_cases hlt : k < N
    · have hc := HC.out k (by omega)
      have hk0 : (0 : Int) ≤ (k : Int) := by omega
      have hk1 : (k : Int) < (N : Int) := by omega
      have hFk := hF k
      have DN := Lib.hid (fun W => onum (F k : Int) W (by omega) (by omega))
      have z1 := HZ.out k
      have z2 := num_size9 (F k) (by omega)
      have hFk2 : (F k : Int) ≤ 4294967295 := by omega
      have HS := Lib.hid (show wrS F N (k + 1) = wrS F N k ++ numN (F k) from rfl)
      have e1 : ((F k : Int)).toNat = F k := by omega
      rw [e1] at DN
      clear e1
      generalize wrS F N k = t at z1 HS ⊢
      generalize numN (F k) = u at z2 HS DN
      have z3 : t.size ≤ 81 := by omega
      clear z1
      go_wp2_with fail
      refine (DN.out _).mono ?_; rintro e w3 ⟨rfl, hb3⟩
      have HC3 : Hid (∀ j, j < 8 → w3.cell? ⟨w.heap.size, j, none⟩ = some (.int .u32 (F j : Int))) := Lib.hid (fun j hj => by rw [hb3.cell (p := ⟨w.heap.size, j, none⟩) (by show w.heap.size < _; omega)]; exact HC.out j hj)
      have HB3 := Lib.hid (HB.out.trans (hb3.mono (by omega)))
      have hs3 : w.heap.size + 1 ≤ w3.heap.size := by have := hb3.size; omega
      clear hb3 HC HB hc
      go_wp2
      go_roundw
      case rel => exact ⟨k + 1, by omega, by go_num, by rw [HS.out], HC3.out, hs3, HB3.out⟩
      case measure => simp [intOf]; omega
    · obtain rfl : k = N := by omega
      clear hlt
      go_wp2
      go_ret
      exact ⟨rfl, HB.out⟩
set_option maxRecDepth 100000 in
set_option maxHeartbeats 1600000 in
theorem rvlong (F : Nat → Nat) (w : World) :
    Calls Tryd.prog 71 #[.agg #[.int .u32 (F 0 : Int), .int .u32 (F 1 : Int), .int .u32 (F 2 : Int), .int .u32 (F 3 : Int), .int .u32 (F 4 : Int), .int .u32 (F 5 : Int), .int .u32 (F 6 : Int), .int .u32 (F 7 : Int)]] w fun e w' => e = .returned (.int .i64 (lng (fun i => (F i : Int)) 8 : Nat)) ∧ Below w.heap.size w w' := by
  go_enter Tryd.func71, Tryd.ntmps71
  have HC := Lib.hid (vec_cells F w)
  have HB := Lib.hid (Joins.below_alloc1 w (.cells #[.int .u32 (F 0 : Int), .int .u32 (F 1 : Int), .int .u32 (F 2 : Int), .int .u32 (F 3 : Int), .int .u32 (F 4 : Int), .int .u32 (F 5 : Int), .int .u32 (F 6 : Int), .int .u32 (F 7 : Int)] 84))
  go_wp2
  generalize w.alloc (.cells #[.int .u32 (F 0 : Int), .int .u32 (F 1 : Int), .int .u32 (F 2 : Int), .int .u32 (F 3 : Int), .int .u32 (F 4 : Int), .int .u32 (F 5 : Int), .int .u32 (F 6 : Int), .int .u32 (F 7 : Int)] 84) = w1 at HC HB ⊢
  go_loop [3] (fun n => ∃ k : Nat, k ≤ 8 ∧ n = .int .i64 k ∧ Hid (lng (fun i => (F i : Int)) k = lng (fun i => (F i : Int)) 8)) (fun n => (intOf n).toNat)
  case atStart => exact ⟨8, Nat.le_refl _, rfl, Lib.hid rfl⟩
  case round =>
    obtain ⟨k, hk, rfl, hl⟩ := hrel
    cases k with
    | zero =>
      go_wp2
      go_ret
      exact ⟨by rw [← hl.out]; rfl, HB.out⟩
    | succ k =>
      have h1 := HC.out k (by omega)
      have hk0 : (0 : Int) < ((k + 1 : Nat) : Int) := by omega
      have hk8 : (k : Int) < 8 := by omega
      have e1 : ((k + 1 : Nat) : Int) - 1 = (k : Int) := by omega
      obtain ⟨x, hx⟩ : ∃ x, F k = x := ⟨_, rfl⟩
      rw [hx] at h1
      by_cases h2 : x = 0
      · subst h2
        have HL := Lib.hid (show lng (fun i => (F i : Int)) k = lng (fun i => (F i : Int)) 8 from (lng_zero (f := (fun i => (F i : Int))) (by rw [hx]; rfl)).symm.trans hl.out)
        clear hx hl
        go_wp2
        go_round
        case rel => exact ⟨k, by omega, by go_num, HL⟩
        case measure => simp [intOf]
      · have h3 : ((x : Int) == 0) = false := by simpa using h2
        have HL := Lib.hid (show k + 1 = lng (fun i => (F i : Int)) 8 from (lng_here (f := (fun i => (F i : Int))) (by rw [hx]; omega)).symm.trans hl.out)
        clear hx hl h2
        go_wp2
        go_ret
        exact ⟨by rw [← HL.out]; rfl, HB.out⟩
set_option maxRecDepth 100000 in
set_option maxHeartbeats 1600000 in
theorem rvwrite (F : Nat → Nat) (w : World) (hF : ∀ i, F i ≤ 4294967295) :
    Calls Tryd.prog 36 #[.agg #[.int .u32 (F 0 : Int), .int .u32 (F 1 : Int), .int .u32 (F 2 : Int), .int .u32 (F 3 : Int), .int .u32 (F 4 : Int), .int .u32 (F 5 : Int), .int .u32 (F 6 : Int), .int .u32 (F 7 : Int)]] w fun e w' => e = .returned (.string (wrB F)) ∧ Below w.heap.size w w' := by
  have hN := lng_le (fun i => (F i : Int)) 8
  have DG := Lib.hid (fun W => rvlong F W)
  unfold wrB
  obtain ⟨N, hNe⟩ : ∃ N, lng (fun i => (F i : Int)) 8 = N := ⟨_, rfl⟩
  rw [hNe] at hN DG ⊢
  clear hNe
  have HZ := Lib.hid (wrS_size F N hN hF)
  go_enter Tryd.func36, Tryd.ntmps36
  have HK := Lib.hid (Blk.new w 84 #[.int .u32 (F 0 : Int), .int .u32 (F 1 : Int), .int .u32 (F 2 : Int), .int .u32 (F 3 : Int), .int .u32 (F 4 : Int), .int .u32 (F 5 : Int), .int .u32 (F 6 : Int), .int .u32 (F 7 : Int)])
  have HB := Lib.hid (Joins.below_alloc1 w (.cells #[.int .u32 (F 0 : Int), .int .u32 (F 1 : Int), .int .u32 (F 2 : Int), .int .u32 (F 3 : Int), .int .u32 (F 4 : Int), .int .u32 (F 5 : Int), .int .u32 (F 6 : Int), .int .u32 (F 7 : Int)] 84))
  have c0 := HK.out.cell 0
  have c1 := HK.out.cell 1
  have c2 := HK.out.cell 2
  have c3 := HK.out.cell 3
  have c4 := HK.out.cell 4
  have c5 := HK.out.cell 5
  have c6 := HK.out.cell 6
  have c7 := HK.out.cell 7
  simp at c0 c1 c2 c3 c4 c5 c6 c7
  go_wp2_with fail
  refine (DG.out _).mono ?_; rintro e w1 ⟨rfl, hb1⟩
  have HC1 : Hid (∀ j, j < 8 → w1.cell? ⟨w.heap.size, j, none⟩ = some (.int .u32 (F j : Int))) := Lib.hid (fun j hj => by rw [hb1.cell (p := ⟨w.heap.size, j, none⟩) (by simp)]; exact vec_cells F w j hj)
  have HB1 := Lib.hid (HB.out.trans (hb1.mono HB.out.size))
  have hs1 : w.heap.size + 1 ≤ w1.heap.size := by have := hb1.size; simp at this; omega
  clear hb1 HK HB DG c0 c1 c2 c3 c4 c5 c6 c7
  have hN8 : (N : Int) ≤ 8 := by omega
  go_wp2_with fail
  refine (rnum (N : Int) _ (by omega) (by omega)).mono ?_; rintro e w2 ⟨rfl, hb2⟩
  have HC2 : Hid (∀ j, j < 8 → w2.cell? ⟨w.heap.size, j, none⟩ = some (.int .u32 (F j : Int))) := Lib.hid (fun j hj => by rw [hb2.cell (p := ⟨w.heap.size, j, none⟩) (by show w.heap.size < _; omega)]; exact HC1.out j hj)
  have HB2 := Lib.hid (HB1.out.trans (hb2.mono (by omega)))
  have hs2 : w.heap.size + 1 ≤ w2.heap.size := by have := hb2.size; omega
  clear hb2 HC1 HB1 hs1
  go_wp2_with fail
  go_loopw [4, 5] (fun s i wr => ∃ k : Nat, k ≤ N ∧ i = .int .i64 k ∧ s = .string (wrS F N k) ∧ (∀ j, j < 8 → wr.cell? ⟨w.heap.size, j, none⟩ = some (.int .u32 (F j : Int))) ∧ w.heap.size + 1 ≤ wr.heap.size ∧ Below w.heap.size w wr) (fun _ i _ => N - (intOf i).toNat)
  case atStart => exact ⟨0, Nat.zero_le _, rfl, by simp [wrS], HC2.out, hs2, HB2.out⟩
  case round =>
    clear HC2 HB2 hs2
    obtain ⟨k, hk, rfl, rfl, hcs, hgr, hB⟩ := hrel
    have HC := Lib.hid hcs
    have HB := Lib.hid hB
    clear hcs hB
    by_cases hlt : k < N
    · have hc := HC.out k (by omega)
      have hk0 : (0 : Int) ≤ (k : Int) := by omega
      have hk1 : (k : Int) < (N : Int) := by omega
      have hFk := hF k
      have DN := Lib.hid (fun W => rnum (F k : Int) W (by omega) (by omega))
      have z1 := HZ.out k
      have z2 := num_size9 (F k) (by omega)
      have hFk2 : (F k : Int) ≤ 4294967295 := by omega
      have HS := Lib.hid (show wrS F N (k + 1) = wrS F N k ++ numN (F k) from rfl)
      have e1 : ((F k : Int)).toNat = F k := by omega
      rw [e1] at DN
      clear e1
      generalize wrS F N k = t at z1 HS ⊢
      generalize numN (F k) = u at z2 HS DN
      have z3 : t.size ≤ 81 := by omega
      clear z1
      go_wp2_with fail
      refine (DN.out _).mono ?_; rintro e w3 ⟨rfl, hb3⟩
      have HC3 : Hid (∀ j, j < 8 → w3.cell? ⟨w.heap.size, j, none⟩ = some (.int .u32 (F j : Int))) := Lib.hid (fun j hj => by rw [hb3.cell (p := ⟨w.heap.size, j, none⟩) (by show w.heap.size < _; omega)]; exact HC.out j hj)
      have HB3 := Lib.hid (HB.out.trans (hb3.mono (by omega)))
      have hs3 : w.heap.size + 1 ≤ w3.heap.size := by have := hb3.size; omega
      clear hb3 HC HB hc
      go_wp2
      go_roundw
      case rel => exact ⟨k + 1, by omega, by go_num, by rw [HS.out], HC3.out, hs3, HB3.out⟩
      case measure => simp [intOf]; omega
    · obtain rfl : k = N := by omega
      clear hlt
      go_wp2
      go_ret
      exact ⟨rfl, HB.out⟩
set_option maxRecDepth 100000 in
set_option maxHeartbeats 1600000 in
theorem rdigits (n : Nat) (w : World) (hn : n ≤ 4294967295) :
    Calls Tryd.prog 72 #[.int .u32 n] w fun e w' => e = .returned (.string ⟨(digL n).toArray⟩) ∧ Below w.heap.size w w' := by
  go_enter Tryd.func72, Tryd.ntmps72
  go_wp2
  go_loopw [0, 3, 4] (fun v s i wr => ∃ (m : Nat) (t : ByteArray) (j : Nat), j ≤ 9 ∧ i = .int .i64 j ∧ m < 10 ^ (10 - j) ∧ m ≤ n ∧ t.size ≤ 20 ∧ v = .int .u32 m ∧ s = .string t ∧ Hid (digL n = digL m ++ t.data.toList) ∧ Below w.heap.size w wr) (fun v _ _ _ => (intOf v).toNat)
  case atStart => exact ⟨n, ⟨#[]⟩, 0, by omega, rfl, by omega, Nat.le_refl _, by decide, rfl, rfl, Lib.hid (by simp), Below.refl _ _⟩
  case round =>
    obtain ⟨m, t, j, hj, rfl, hpow, hm, ht, rfl, rfl, hd, hB⟩ := hrel
    have HB := Lib.hid hB
    have HP := Lib.hid hpow
    clear hB hpow
    have hm1 : (m : Int) ≤ 4294967295 := by omega
    have hj1 : (j : Int) < 10 := by omega
    have hj0 : (0 : Int) ≤ (j : Int) := by omega
    have hcv := conv1
    have hs1 : (strOfNums [48 + (m : Int) % 10]).size ≤ 1 := by rw [strOfNums_size]; exact Nat.le_refl _
    by_cases h10 : m < 10
    · have e10 : ((m : Int) / 10 == 0) = true := by simp; omega
      have HD := Lib.hid (dig_end h10 hd.out)
      clear h10 hd
      go_wp2
      go_ret
      exact ⟨ret_str HD.out, HB.out.alloc HB.out.size _⟩
    · have e10 : ((m : Int) / 10 == 0) = false := by simp; omega
      have HD := Lib.hid (dig_more h10 hd.out)
      have h11 : 10 ≤ m := by omega
      have ht2 : (strOfNums [48 + (m : Int) % 10] ++ t).size ≤ 20 := dig_len h10 hd.out ht hn
      have hj9 : j ≤ 8 := by
        rcases Nat.lt_or_ge j 9 with h | h
        · omega
        · obtain rfl : j = 9 := by omega
          have := HP.out
          simp at this
          omega
      have HP2 : Hid (m / 10 < 10 ^ (10 - (j + 1))) := Lib.hid (by
        have h := HP.out
        have e : 10 - j = (10 - (j + 1)) + 1 := by omega
        rw [e, Nat.pow_succ] at h
        exact Nat.div_lt_of_lt_mul (by rw [Nat.mul_comm]; exact h))
      clear h10 hd
      go_wp2
      go_roundw
      case rel => exact ⟨m / 10, _, j + 1, by omega, by go_num, HP2.out, by omega, ht2, by go_num, rfl, HD, HB.out.alloc HB.out.size _⟩
      case measure => simp [intOf]; omega
/-- The first k counts' digits with commas between, as the reference makes them. -/
def cmS (F : Nat → Nat) : Nat → ByteArray
  | 0 => ⟨#[]⟩
  | k + 1 => (if 0 < k then cmS F k ++ ⟨#[44]⟩ else cmS F k) ++ ⟨(digL (F k)).toArray⟩
theorem join_snoc (sep x : List UInt8) : ∀ l : List (List UInt8), Lib.join (l ++ [x]) sep = (if l = [] then [] else Lib.join l sep ++ sep) ++ x
  | [] => by simp [Lib.join_cons, Lib.joinTail]
  | a :: r => by
    rw [if_neg (by simp), List.cons_append, Lib.join_cons, Lib.join_cons, List.append_assoc, List.append_assoc]
    congr 1
    unfold Lib.joinTail
    simp
theorem cmS_join (F : Nat → Nat) : ∀ k, (cmS F k).data.toList = Lib.join ((wrd F k).map (·.data.toList)) [44]
  | 0 => by simp [cmS, wrd, Lib.join]
  | k + 1 => by
    rw [wrd_succ, List.map_append, List.map_singleton, join_snoc, ← cmS_join F k, cmS]
    by_cases h : 0 < k
    · have hne : (wrd F k).map (·.data.toList) ≠ [] := by
        intro e
        have := congrArg List.length e
        rw [List.length_map, wrd_length] at this
        simp at this; omega
      rw [if_pos h, if_neg hne]
      simp
    · obtain rfl : k = 0 := by omega
      simp [cmS, wrd]
theorem dig_size (n : Nat) (hn : n ≤ 4294967295) : (⟨(digL n).toArray⟩ : ByteArray).size ≤ 10 := by
  have := digL_len 9 n (by omega)
  show (digL n).toArray.size ≤ 10
  simpa using this
theorem cmS_size (F : Nat → Nat) (hF : ∀ i, F i ≤ 4294967295) : ∀ k, (cmS F k).size ≤ 11 * k
  | 0 => Nat.le_refl 0
  | k + 1 => by
    have h1 := cmS_size F hF k
    have h2 := dig_size (F k) (hF k)
    have h3 : (⟨#[44]⟩ : ByteArray).size = 1 := rfl
    rw [cmS]
    split
    · rw [ByteArray.size_append, ByteArray.size_append]; omega
    · rw [ByteArray.size_append]; omega
set_option maxRecDepth 100000 in
set_option maxHeartbeats 1600000 in
theorem rvtext (F : Nat → Nat) (w : World) (hF : ∀ i, F i ≤ 4294967295) :
    Calls Tryd.prog 34 #[.agg #[.int .u32 (F 0 : Int), .int .u32 (F 1 : Int), .int .u32 (F 2 : Int), .int .u32 (F 3 : Int), .int .u32 (F 4 : Int), .int .u32 (F 5 : Int), .int .u32 (F 6 : Int), .int .u32 (F 7 : Int)]] w fun e w' => e = .returned (.string (textB F)) ∧ Below w.heap.size w w' := by
  have hN := lng_le (fun i => (F i : Int)) 8
  have DG := Lib.hid (fun W => rvlong F W)
  obtain ⟨N, hNe⟩ : ∃ N, lng (fun i => (F i : Int)) 8 = N := ⟨_, rfl⟩
  have HN := Lib.hid hNe
  rw [hNe] at hN DG
  clear hNe
  have HZ := Lib.hid (cmS_size F hF)
  go_enter Tryd.func34, Tryd.ntmps34
  have HK := Lib.hid (Blk.new w 84 #[.int .u32 (F 0 : Int), .int .u32 (F 1 : Int), .int .u32 (F 2 : Int), .int .u32 (F 3 : Int), .int .u32 (F 4 : Int), .int .u32 (F 5 : Int), .int .u32 (F 6 : Int), .int .u32 (F 7 : Int)])
  have HB := Lib.hid (Joins.below_alloc1 w (.cells #[.int .u32 (F 0 : Int), .int .u32 (F 1 : Int), .int .u32 (F 2 : Int), .int .u32 (F 3 : Int), .int .u32 (F 4 : Int), .int .u32 (F 5 : Int), .int .u32 (F 6 : Int), .int .u32 (F 7 : Int)] 84))
  have c0 := HK.out.cell 0
  have c1 := HK.out.cell 1
  have c2 := HK.out.cell 2
  have c3 := HK.out.cell 3
  have c4 := HK.out.cell 4
  have c5 := HK.out.cell 5
  have c6 := HK.out.cell 6
  have c7 := HK.out.cell 7
  simp at c0 c1 c2 c3 c4 c5 c6 c7
  go_wp2_with fail
  refine (DG.out _).mono ?_; rintro e w1 ⟨rfl, hb1⟩
  have HC1 : Hid (∀ j, j < 8 → w1.cell? ⟨w.heap.size, j, none⟩ = some (.int .u32 (F j : Int))) := Lib.hid (fun j hj => by rw [hb1.cell (p := ⟨w.heap.size, j, none⟩) (by simp)]; exact vec_cells F w j hj)
  have HB1 := Lib.hid (HB.out.trans (hb1.mono HB.out.size))
  have hs1 : w.heap.size + 1 ≤ w1.heap.size := by have := hb1.size; simp at this; omega
  clear hb1 HK HB DG c0 c1 c2 c3 c4 c5 c6 c7
  have hN8 : (N : Int) ≤ 8 := by omega
  by_cases h0 : N = 0
  · subst h0
    have HT := Lib.hid (text_nil HN.out)
    go_wp2
    go_ret
    exact ⟨ret_str HT.out.symm, HB1.out⟩
  have hNz : ((N : Int) == 0) = false := by simp; omega
  have HT : Hid (cmS F N = textB F) := Lib.hid (by
    rw [← text_some HN.out (by omega)]
    exact bytes_of (cmS_join F N))
  clear h0
  go_wp2_with fail
  go_loopw [4, 5] (fun s i wr => ∃ k : Nat, k ≤ N ∧ i = .int .i64 k ∧ s = .string (cmS F k) ∧ (∀ j, j < 8 → wr.cell? ⟨w.heap.size, j, none⟩ = some (.int .u32 (F j : Int))) ∧ w.heap.size + 1 ≤ wr.heap.size ∧ Below w.heap.size w wr) (fun _ i _ => N - (intOf i).toNat)
  case atStart => exact ⟨0, Nat.zero_le _, rfl, rfl, HC1.out, hs1, HB1.out⟩
  case round =>
    clear HC1 HB1 hs1
    obtain ⟨k, hk, rfl, rfl, hcs, hgr, hB⟩ := hrel
    have HC := Lib.hid hcs
    have HB := Lib.hid hB
    clear hcs hB
    by_cases hlt : k < N
    · have hc := HC.out k (by omega)
      have hk1 : (k : Int) < (N : Int) := by omega
      have hFk := hF k
      have DN := Lib.hid (fun W => rdigits (F k) W hFk)
      have z1 := HZ.out k
      have z2 := dig_size (F k) hFk
      by_cases hpos : 0 < k
      · have HS := Lib.hid (show cmS F (k + 1) = (cmS F k ++ ⟨#[44]⟩) ++ ⟨(digL (F k)).toArray⟩ from by rw [cmS, if_pos hpos])
        have hk0 : (0 : Int) < (k : Int) := by omega
        have hk00 : (0 : Int) ≤ (k : Int) := by omega
        generalize cmS F k = t at z1 HS ⊢
        generalize (⟨(digL (F k)).toArray⟩ : ByteArray) = u at z2 HS DN
        have z3 : t.size ≤ 88 := by omega
        have z4 : (t ++ ⟨#[44]⟩).size ≤ 89 := by rw [ByteArray.size_append]; have : (⟨#[44]⟩ : ByteArray).size = 1 := rfl; omega
        clear z1
        go_wp2_with fail
        refine (DN.out _).mono ?_; rintro e w3 ⟨rfl, hb3⟩
        have HC3 : Hid (∀ j, j < 8 → w3.cell? ⟨w.heap.size, j, none⟩ = some (.int .u32 (F j : Int))) := Lib.hid (fun j hj => by rw [hb3.cell (p := ⟨w.heap.size, j, none⟩) (by show w.heap.size < _; omega)]; exact HC.out j hj)
        have HB3 := Lib.hid (HB.out.trans (hb3.mono (by omega)))
        have hs3 : w.heap.size + 1 ≤ w3.heap.size := by have := hb3.size; omega
        clear hb3 HC HB hc
        go_wp2
        go_roundw
        case rel => exact ⟨k + 1, by omega, by go_num, by rw [HS.out], HC3.out, hs3, HB3.out⟩
        case measure => simp [intOf]; omega
      · obtain rfl : k = 0 := by omega
        have HS := Lib.hid (show cmS F (0 + 1) = cmS F 0 ++ ⟨(digL (F 0)).toArray⟩ from by show (if 0 < 0 then cmS F 0 ++ ⟨#[44]⟩ else cmS F 0) ++ _ = _; rw [if_neg hpos])
        clear hpos
        generalize cmS F 0 = t at z1 HS ⊢
        generalize (⟨(digL (F 0)).toArray⟩ : ByteArray) = u at z2 HS DN
        have z3 : t.size ≤ 88 := by omega
        clear z1
        go_wp2_with fail
        refine (DN.out _).mono ?_; rintro e w3 ⟨rfl, hb3⟩
        have HC3 : Hid (∀ j, j < 8 → w3.cell? ⟨w.heap.size, j, none⟩ = some (.int .u32 (F j : Int))) := Lib.hid (fun j hj => by rw [hb3.cell (p := ⟨w.heap.size, j, none⟩) (by show w.heap.size < _; omega)]; exact HC.out j hj)
        have HB3 := Lib.hid (HB.out.trans (hb3.mono (by omega)))
        have hs3 : w.heap.size + 1 ≤ w3.heap.size := by have := hb3.size; omega
        clear hb3 HC HB hc
        go_wp2
        go_roundw
        case rel => exact ⟨0 + 1, by omega, by go_num, by rw [HS.out], HC3.out, hs3, HB3.out⟩
        case measure => simp [intOf]; omega
    · obtain rfl : k = N := by omega
      clear hlt
      go_wp2
      go_ret
      exact ⟨ret_str HT.out, HB.out⟩
end Go.Proofs.YtofpefbnkmeokaaDoor
