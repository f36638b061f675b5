/- Contract of octet.Num: a number's bytes. -/
import Derived.Test.YtofpefbnkmeokaaDoorOctMath
import Derived.Lib.Hide
import Derived.Lib.SmallJoins
import Derived.Laws.Rows
namespace Go.Proofs.YtofpefbnkmeokaaDoor
open Go.RowKit
theorem ret_s {a b : ByteArray} (h : a = b) : Ending.returned (.string a) = .returned (.string b) := by rw [h]
theorem q_zero {v : Int} (h : 0 ≤ v) : v = ((v.toNat / 256 ^ 0 : Nat) : Int) := by simp; omega
theorem q_step {x : Int} {n j : Nat} (h : x = ((n / 256 ^ j : Nat) : Int)) : x / 256 = ((n / 256 ^ (j + 1) : Nat) : Int) := by
  rw [h, Nat.pow_succ, ← Nat.div_div_eq_div_mul]; omega
theorem q_byte {x : Int} {n j : Nat} (h : x = ((n / 256 ^ j : Nat) : Int)) : (x % 256).toNat = n / 256 ^ j % 256 := by rw [h]; omega
theorem q_pos {x : Int} {n j : Nat} (h : x = ((n / 256 ^ j : Nat) : Int)) (hn : 256 ^ j ≤ n) : 0 < x := by
  have := Nat.div_pos hn (Nat.pow_pos (show 0 < 256 by omega)); omega
theorem q_end {x : Int} {n j : Nat} (h : x = ((n / 256 ^ j : Nat) : Int)) (hn : n < 256 ^ j) : ¬ 0 < x := by
  rw [h, Nat.div_eq_of_lt hn]; decide
theorem q_top {x : Int} {n j : Nat} (h : x = ((n / 256 ^ j : Nat) : Int)) (hn : n < 256 ^ (j + 1)) : x.toNat = n / 256 ^ j % 256 := by
  have : n / 256 ^ j < 256 := by rw [Nat.div_lt_iff_lt_mul (Nat.pow_pos (by omega)), Nat.mul_comm, ← Nat.pow_succ]; exact hn
  rw [h, Int.toNat_natCast, Nat.mod_eq_of_lt this]
theorem q_le {n j k : Nat} (h : 256 ^ k ≤ n) (hj : j ≤ k) : 256 ^ j ≤ n := Nat.le_trans (Nat.pow_le_pow_right (by omega) hj) h
theorem oconv_0 (W : World) : (convert 120 9 (.slice (some ⟨W.heap.size, 8, none⟩) 1 1)).run Tryd.prog (W.alloc (.cells #[.int .u8 0, .int .u8 0, .int .u8 0, .int .u8 0, .int .u8 0, .int .u8 0, .int .u8 0, .int .u8 0, .int .u8 0] 118)) = .ok (.string (strOfNums [0])) (W.alloc (.cells #[.int .u8 0, .int .u8 0, .int .u8 0, .int .u8 0, .int .u8 0, .int .u8 0, .int .u8 0, .int .u8 0, .int .u8 0] 118)) :=
  run_convert_bytes_arg (P := Tryd.prog) _ 120 5 Tryd.underlying120 Tryd.underlying5 W.heap.size 8 1 1 [0] rfl (by
    intro i hi
    match i, hi with
    | 0, _ => simp
    ) 9 Tryd.underlying9
theorem onum_eq_0 (v : Int) (h0 : 0 ≤ v) (h2 : v.toNat < 256 ^ 0) : strOfNums [0] = numN v.toNat := by
  obtain rfl : v = 0 := by simp at h2; omega
  refine strOfNums_num ?_
  rw [show (0 : Int).toNat = 0 from rfl, nN_zero]; rfl
set_option maxRecDepth 100000 in
set_option maxHeartbeats 1600000 in
theorem onum_0 (v : Int) (w : World) (h0 : 0 ≤ v) (h2 : v.toNat < 256 ^ 0) :
    Calls Tryd.prog 40 #[.int .u64 v] w fun e w' => e = .returned (.string (numN v.toNat)) ∧ Below w.heap.size w w' := by
  have HE := Lib.hid (onum_eq_0 v h0 h2)
  have hcv := oconv_0
  have f0 := q_zero h0
  have te := q_end f0 h2
  clear h2 f0
  go_enter Tryd.func40, Tryd.ntmps40
  go_wp2
  refine wp_loop_rounds 1 ?_
  rw [rounds_succ]
  go_wp2
  go_ret
  exact ⟨ret_s HE.out, Joins.below_alloc1 w _⟩
theorem oconv_1 (v : Int) (W : World) : (convert 120 9 (.slice (some ⟨W.heap.size, 7, none⟩) 2 2)).run Tryd.prog (W.alloc (.cells #[.int .u8 0, .int .u8 0, .int .u8 0, .int .u8 0, .int .u8 0, .int .u8 0, .int .u8 0, .int .u8 1, .int .u8 (v)] 118)) = .ok (.string (strOfNums [1, v])) (W.alloc (.cells #[.int .u8 0, .int .u8 0, .int .u8 0, .int .u8 0, .int .u8 0, .int .u8 0, .int .u8 0, .int .u8 1, .int .u8 (v)] 118)) :=
  run_convert_bytes_arg (P := Tryd.prog) _ 120 5 Tryd.underlying120 Tryd.underlying5 W.heap.size 7 2 2 [1, v] rfl (by
    intro i hi
    match i, hi with
    | 0, _ => simp
    | 1, _ => simp
    ) 9 Tryd.underlying9
theorem onum_eq_1 (v : Int) (h0 : 0 ≤ v) (h1 : 256 ^ 0 ≤ v.toNat) (h2 : v.toNat < 256 ^ 1) : strOfNums [1, v] = numN v.toNat := by
  have f0 := q_zero h0
  have f1 := q_step f0
  refine strOfNums_num ?_
  rw [nN_at h1 h2]
  simp only [beN, List.map_cons, List.map_nil]
  exact congrArg (fun z => [1, z]) (q_top f0 h2)
set_option maxRecDepth 100000 in
set_option maxHeartbeats 1600000 in
theorem onum_1 (v : Int) (w : World) (h0 : 0 ≤ v) (h1 : 256 ^ 0 ≤ v.toNat) (h2 : v.toNat < 256 ^ 1) :
    Calls Tryd.prog 40 #[.int .u64 v] w fun e w' => e = .returned (.string (numN v.toNat)) ∧ Below w.heap.size w w' := by
  have HE := Lib.hid (onum_eq_1 v h0 h1 h2)
  have hcv := oconv_1
  have f0 := q_zero h0
  have f1 := q_step f0
  have t0 := q_pos f0 (q_le h1 (by omega))
  have te := q_end f1 h2
  clear h2 h1 f0 f1
  go_enter Tryd.func40, Tryd.ntmps40
  go_wp2
  refine wp_loop_rounds 2 ?_
  rw [rounds_succ]
  go_wp2
  rw [rounds_succ]
  go_wp2
  go_ret
  exact ⟨ret_s HE.out, Joins.below_alloc1 w _⟩
theorem oconv_2 (v : Int) (W : World) : (convert 120 9 (.slice (some ⟨W.heap.size, 6, none⟩) 3 3)).run Tryd.prog (W.alloc (.cells #[.int .u8 0, .int .u8 0, .int .u8 0, .int .u8 0, .int .u8 0, .int .u8 0, .int .u8 2, .int .u8 (v / 256), .int .u8 (v % 256)] 118)) = .ok (.string (strOfNums [2, v / 256, v % 256])) (W.alloc (.cells #[.int .u8 0, .int .u8 0, .int .u8 0, .int .u8 0, .int .u8 0, .int .u8 0, .int .u8 2, .int .u8 (v / 256), .int .u8 (v % 256)] 118)) :=
  run_convert_bytes_arg (P := Tryd.prog) _ 120 5 Tryd.underlying120 Tryd.underlying5 W.heap.size 6 3 3 [2, v / 256, v % 256] rfl (by
    intro i hi
    match i, hi with
    | 0, _ => simp
    | 1, _ => simp
    | 2, _ => simp
    ) 9 Tryd.underlying9
theorem onum_eq_2 (v : Int) (h0 : 0 ≤ v) (h1 : 256 ^ 1 ≤ v.toNat) (h2 : v.toNat < 256 ^ 2) : strOfNums [2, v / 256, v % 256] = numN v.toNat := by
  have f0 := q_zero h0
  have f1 := q_step f0
  have f2 := q_step f1
  refine strOfNums_num ?_
  rw [nN_at h1 h2]
  simp only [beN, List.map_cons, List.map_nil]
  have e0 : (2 : Int).toNat = 2 := rfl
  rw [e0, q_top f1 h2, q_byte f0]
set_option maxRecDepth 100000 in
set_option maxHeartbeats 1600000 in
theorem onum_2 (v : Int) (w : World) (h0 : 0 ≤ v) (h1 : 256 ^ 1 ≤ v.toNat) (h2 : v.toNat < 256 ^ 2) :
    Calls Tryd.prog 40 #[.int .u64 v] w fun e w' => e = .returned (.string (numN v.toNat)) ∧ Below w.heap.size w w' := by
  have HE := Lib.hid (onum_eq_2 v h0 h1 h2)
  have hcv := oconv_2
  have f0 := q_zero h0
  have f1 := q_step f0
  have f2 := q_step f1
  have t0 := q_pos f0 (q_le h1 (by omega))
  have t1 := q_pos f1 (q_le h1 (by omega))
  have te := q_end f2 h2
  clear h2 h1 f0 f1 f2
  go_enter Tryd.func40, Tryd.ntmps40
  go_wp2
  refine wp_loop_rounds 3 ?_
  rw [rounds_succ]
  go_wp2
  rw [rounds_succ]
  go_wp2
  rw [rounds_succ]
  go_wp2
  go_ret
  exact ⟨ret_s HE.out, Joins.below_alloc1 w _⟩
theorem oconv_3 (v : Int) (W : World) : (convert 120 9 (.slice (some ⟨W.heap.size, 5, none⟩) 4 4)).run Tryd.prog (W.alloc (.cells #[.int .u8 0, .int .u8 0, .int .u8 0, .int .u8 0, .int .u8 0, .int .u8 3, .int .u8 (v / 256 / 256), .int .u8 (v / 256 % 256), .int .u8 (v % 256)] 118)) = .ok (.string (strOfNums [3, v / 256 / 256, v / 256 % 256, v % 256])) (W.alloc (.cells #[.int .u8 0, .int .u8 0, .int .u8 0, .int .u8 0, .int .u8 0, .int .u8 3, .int .u8 (v / 256 / 256), .int .u8 (v / 256 % 256), .int .u8 (v % 256)] 118)) :=
  run_convert_bytes_arg (P := Tryd.prog) _ 120 5 Tryd.underlying120 Tryd.underlying5 W.heap.size 5 4 4 [3, v / 256 / 256, v / 256 % 256, v % 256] rfl (by
    intro i hi
    match i, hi with
    | 0, _ => simp
    | 1, _ => simp
    | 2, _ => simp
    | 3, _ => simp
    ) 9 Tryd.underlying9
theorem onum_eq_3 (v : Int) (h0 : 0 ≤ v) (h1 : 256 ^ 2 ≤ v.toNat) (h2 : v.toNat < 256 ^ 3) : strOfNums [3, v / 256 / 256, v / 256 % 256, v % 256] = numN v.toNat := by
  have f0 := q_zero h0
  have f1 := q_step f0
  have f2 := q_step f1
  have f3 := q_step f2
  refine strOfNums_num ?_
  rw [nN_at h1 h2]
  simp only [beN, List.map_cons, List.map_nil]
  have e0 : (3 : Int).toNat = 3 := rfl
  rw [e0, q_top f2 h2, q_byte f1, q_byte f0]
set_option maxRecDepth 100000 in
set_option maxHeartbeats 1600000 in
theorem onum_3 (v : Int) (w : World) (h0 : 0 ≤ v) (h1 : 256 ^ 2 ≤ v.toNat) (h2 : v.toNat < 256 ^ 3) :
    Calls Tryd.prog 40 #[.int .u64 v] w fun e w' => e = .returned (.string (numN v.toNat)) ∧ Below w.heap.size w w' := by
  have HE := Lib.hid (onum_eq_3 v h0 h1 h2)
  have hcv := oconv_3
  have f0 := q_zero h0
  have f1 := q_step f0
  have f2 := q_step f1
  have f3 := q_step f2
  have t0 := q_pos f0 (q_le h1 (by omega))
  have t1 := q_pos f1 (q_le h1 (by omega))
  have t2 := q_pos f2 (q_le h1 (by omega))
  have te := q_end f3 h2
  clear h2 h1 f0 f1 f2 f3
  go_enter Tryd.func40, Tryd.ntmps40
  go_wp2
  refine wp_loop_rounds 4 ?_
  rw [rounds_succ]
  go_wp2
  rw [rounds_succ]
  go_wp2
  rw [rounds_succ]
  go_wp2
  rw [rounds_succ]
  go_wp2
  go_ret
  exact ⟨ret_s HE.out, Joins.below_alloc1 w _⟩
theorem oconv_4 (v : Int) (W : World) : (convert 120 9 (.slice (some ⟨W.heap.size, 4, none⟩) 5 5)).run Tryd.prog (W.alloc (.cells #[.int .u8 0, .int .u8 0, .int .u8 0, .int .u8 0, .int .u8 4, .int .u8 (v / 256 / 256 / 256), .int .u8 (v / 256 / 256 % 256), .int .u8 (v / 256 % 256), .int .u8 (v % 256)] 118)) = .ok (.string (strOfNums [4, v / 256 / 256 / 256, v / 256 / 256 % 256, v / 256 % 256, v % 256])) (W.alloc (.cells #[.int .u8 0, .int .u8 0, .int .u8 0, .int .u8 0, .int .u8 4, .int .u8 (v / 256 / 256 / 256), .int .u8 (v / 256 / 256 % 256), .int .u8 (v / 256 % 256), .int .u8 (v % 256)] 118)) :=
  run_convert_bytes_arg (P := Tryd.prog) _ 120 5 Tryd.underlying120 Tryd.underlying5 W.heap.size 4 5 5 [4, v / 256 / 256 / 256, v / 256 / 256 % 256, v / 256 % 256, v % 256] rfl (by
    intro i hi
    match i, hi with
    | 0, _ => simp
    | 1, _ => simp
    | 2, _ => simp
    | 3, _ => simp
    | 4, _ => simp
    ) 9 Tryd.underlying9
theorem onum_eq_4 (v : Int) (h0 : 0 ≤ v) (h1 : 256 ^ 3 ≤ v.toNat) (h2 : v.toNat < 256 ^ 4) : strOfNums [4, v / 256 / 256 / 256, v / 256 / 256 % 256, v / 256 % 256, v % 256] = numN v.toNat := by
  have f0 := q_zero h0
  have f1 := q_step f0
  have f2 := q_step f1
  have f3 := q_step f2
  have f4 := q_step f3
  refine strOfNums_num ?_
  rw [nN_at h1 h2]
  simp only [beN, List.map_cons, List.map_nil]
  have e0 : (4 : Int).toNat = 4 := rfl
  rw [e0, q_top f3 h2, q_byte f2, q_byte f1, q_byte f0]
set_option maxRecDepth 100000 in
set_option maxHeartbeats 1600000 in
theorem onum_4 (v : Int) (w : World) (h0 : 0 ≤ v) (h1 : 256 ^ 3 ≤ v.toNat) (h2 : v.toNat < 256 ^ 4) :
    Calls Tryd.prog 40 #[.int .u64 v] w fun e w' => e = .returned (.string (numN v.toNat)) ∧ Below w.heap.size w w' := by
  have HE := Lib.hid (onum_eq_4 v h0 h1 h2)
  have hcv := oconv_4
  have f0 := q_zero h0
  have f1 := q_step f0
  have f2 := q_step f1
  have f3 := q_step f2
  have f4 := q_step f3
  have t0 := q_pos f0 (q_le h1 (by omega))
  have t1 := q_pos f1 (q_le h1 (by omega))
  have t2 := q_pos f2 (q_le h1 (by omega))
  have t3 := q_pos f3 (q_le h1 (by omega))
  have te := q_end f4 h2
  clear h2 h1 f0 f1 f2 f3 f4
  go_enter Tryd.func40, Tryd.ntmps40
  go_wp2
  refine wp_loop_rounds 5 ?_
  rw [rounds_succ]
  go_wp2
  rw [rounds_succ]
  go_wp2
  rw [rounds_succ]
  go_wp2
  rw [rounds_succ]
  go_wp2
  rw [rounds_succ]
  go_wp2
  go_ret
  exact ⟨ret_s HE.out, Joins.below_alloc1 w _⟩
theorem oconv_5 (v : Int) (W : World) : (convert 120 9 (.slice (some ⟨W.heap.size, 3, none⟩) 6 6)).run Tryd.prog (W.alloc (.cells #[.int .u8 0, .int .u8 0, .int .u8 0, .int .u8 5, .int .u8 (v / 256 / 256 / 256 / 256), .int .u8 (v / 256 / 256 / 256 % 256), .int .u8 (v / 256 / 256 % 256), .int .u8 (v / 256 % 256), .int .u8 (v % 256)] 118)) = .ok (.string (strOfNums [5, v / 256 / 256 / 256 / 256, v / 256 / 256 / 256 % 256, v / 256 / 256 % 256, v / 256 % 256, v % 256])) (W.alloc (.cells #[.int .u8 0, .int .u8 0, .int .u8 0, .int .u8 5, .int .u8 (v / 256 / 256 / 256 / 256), .int .u8 (v / 256 / 256 / 256 % 256), .int .u8 (v / 256 / 256 % 256), .int .u8 (v / 256 % 256), .int .u8 (v % 256)] 118)) :=
  run_convert_bytes_arg (P := Tryd.prog) _ 120 5 Tryd.underlying120 Tryd.underlying5 W.heap.size 3 6 6 [5, v / 256 / 256 / 256 / 256, v / 256 / 256 / 256 % 256, v / 256 / 256 % 256, v / 256 % 256, v % 256] rfl (by
    intro i hi
    match i, hi with
    | 0, _ => simp
    | 1, _ => simp
    | 2, _ => simp
    | 3, _ => simp
    | 4, _ => simp
    | 5, _ => simp
    ) 9 Tryd.underlying9
theorem onum_eq_5 (v : Int) (h0 : 0 ≤ v) (h1 : 256 ^ 4 ≤ v.toNat) (h2 : v.toNat < 256 ^ 5) : strOfNums [5, v / 256 / 256 / 256 / 256, v / 256 / 256 / 256 % 256, v / 256 / 256 % 256, v / 256 % 256, v % 256] = numN v.toNat := by
  have f0 := q_zero h0
  have f1 := q_step f0
  have f2 := q_step f1
  have f3 := q_step f2
  have f4 := q_step f3
  have f5 := q_step f4
  refine strOfNums_num ?_
  rw [nN_at h1 h2]
  simp only [beN, List.map_cons, List.map_nil]
  have e0 : (5 : Int).toNat = 5 := rfl
  rw [e0, q_top f4 h2, q_byte f3, q_byte f2, q_byte f1, q_byte f0]
set_option maxRecDepth 100000 in
set_option maxHeartbeats 1600000 in
theorem onum_5 (v : Int) (w : World) (h0 : 0 ≤ v) (h1 : 256 ^ 4 ≤ v.toNat) (h2 : v.toNat < 256 ^ 5) :
    Calls Tryd.prog 40 #[.int .u64 v] w fun e w' => e = .returned (.string (numN v.toNat)) ∧ Below w.heap.size w w' := by
  have HE := Lib.hid (onum_eq_5 v h0 h1 h2)
  have hcv := oconv_5
  have f0 := q_zero h0
  have f1 := q_step f0
  have f2 := q_step f1
  have f3 := q_step f2
  have f4 := q_step f3
  have f5 := q_step f4
  have t0 := q_pos f0 (q_le h1 (by omega))
  have t1 := q_pos f1 (q_le h1 (by omega))
  have t2 := q_pos f2 (q_le h1 (by omega))
  have t3 := q_pos f3 (q_le h1 (by omega))
  have t4 := q_pos f4 (q_le h1 (by omega))
  have te := q_end f5 h2
  clear h2 h1 f0 f1 f2 f3 f4 f5
  go_enter Tryd.func40, Tryd.ntmps40
  go_wp2
  refine wp_loop_rounds 6 ?_
  rw [rounds_succ]
  go_wp2
  rw [rounds_succ]
  go_wp2
  rw [rounds_succ]
  go_wp2
  rw [rounds_succ]
  go_wp2
  rw [rounds_succ]
  go_wp2
  rw [rounds_succ]
  go_wp2
  go_ret
  exact ⟨ret_s HE.out, Joins.below_alloc1 w _⟩
theorem oconv_6 (v : Int) (W : World) : (convert 120 9 (.slice (some ⟨W.heap.size, 2, none⟩) 7 7)).run Tryd.prog (W.alloc (.cells #[.int .u8 0, .int .u8 0, .int .u8 6, .int .u8 (v / 256 / 256 / 256 / 256 / 256), .int .u8 (v / 256 / 256 / 256 / 256 % 256), .int .u8 (v / 256 / 256 / 256 % 256), .int .u8 (v / 256 / 256 % 256), .int .u8 (v / 256 % 256), .int .u8 (v % 256)] 118)) = .ok (.string (strOfNums [6, v / 256 / 256 / 256 / 256 / 256, v / 256 / 256 / 256 / 256 % 256, v / 256 / 256 / 256 % 256, v / 256 / 256 % 256, v / 256 % 256, v % 256])) (W.alloc (.cells #[.int .u8 0, .int .u8 0, .int .u8 6, .int .u8 (v / 256 / 256 / 256 / 256 / 256), .int .u8 (v / 256 / 256 / 256 / 256 % 256), .int .u8 (v / 256 / 256 / 256 % 256), .int .u8 (v / 256 / 256 % 256), .int .u8 (v / 256 % 256), .int .u8 (v % 256)] 118)) :=
  run_convert_bytes_arg (P := Tryd.prog) _ 120 5 Tryd.underlying120 Tryd.underlying5 W.heap.size 2 7 7 [6, v / 256 / 256 / 256 / 256 / 256, v / 256 / 256 / 256 / 256 % 256, v / 256 / 256 / 256 % 256, v / 256 / 256 % 256, v / 256 % 256, v % 256] rfl (by
    intro i hi
    match i, hi with
    | 0, _ => simp
    | 1, _ => simp
    | 2, _ => simp
    | 3, _ => simp
    | 4, _ => simp
    | 5, _ => simp
    | 6, _ => simp
    ) 9 Tryd.underlying9
theorem onum_eq_6 (v : Int) (h0 : 0 ≤ v) (h1 : 256 ^ 5 ≤ v.toNat) (h2 : v.toNat < 256 ^ 6) : strOfNums [6, v / 256 / 256 / 256 / 256 / 256, v / 256 / 256 / 256 / 256 % 256, v / 256 / 256 / 256 % 256, v / 256 / 256 % 256, v / 256 % 256, v % 256] = numN v.toNat := by
  have f0 := q_zero h0
  have f1 := q_step f0
  have f2 := q_step f1
  have f3 := q_step f2
  have f4 := q_step f3
  have f5 := q_step f4
  have f6 := q_step f5
  refine strOfNums_num ?_
  rw [nN_at h1 h2]
  simp only [beN, List.map_cons, List.map_nil]
  have e0 : (6 : Int).toNat = 6 := rfl
  rw [e0, q_top f5 h2, q_byte f4, q_byte f3, q_byte f2, q_byte f1, q_byte f0]
set_option maxRecDepth 100000 in
set_option maxHeartbeats 1600000 in
theorem onum_6 (v : Int) (w : World) (h0 : 0 ≤ v) (h1 : 256 ^ 5 ≤ v.toNat) (h2 : v.toNat < 256 ^ 6) :
    Calls Tryd.prog 40 #[.int .u64 v] w fun e w' => e = .returned (.string (numN v.toNat)) ∧ Below w.heap.size w w' := by
  have HE := Lib.hid (onum_eq_6 v h0 h1 h2)
  have hcv := oconv_6
  have f0 := q_zero h0
  have f1 := q_step f0
  have f2 := q_step f1
  have f3 := q_step f2
  have f4 := q_step f3
  have f5 := q_step f4
  have f6 := q_step f5
  have t0 := q_pos f0 (q_le h1 (by omega))
  have t1 := q_pos f1 (q_le h1 (by omega))
  have t2 := q_pos f2 (q_le h1 (by omega))
  have t3 := q_pos f3 (q_le h1 (by omega))
  have t4 := q_pos f4 (q_le h1 (by omega))
  have t5 := q_pos f5 (q_le h1 (by omega))
  have te := q_end f6 h2
  clear h2 h1 f0 f1 f2 f3 f4 f5 f6
  go_enter Tryd.func40, Tryd.ntmps40
  go_wp2
  refine wp_loop_rounds 7 ?_
  rw [rounds_succ]
  go_wp2
  rw [rounds_succ]
  go_wp2
  rw [rounds_succ]
  go_wp2
  rw [rounds_succ]
  go_wp2
  rw [rounds_succ]
  go_wp2
  rw [rounds_succ]
  go_wp2
  rw [rounds_succ]
  go_wp2
  go_ret
  exact ⟨ret_s HE.out, Joins.below_alloc1 w _⟩
theorem oconv_7 (v : Int) (W : World) : (convert 120 9 (.slice (some ⟨W.heap.size, 1, none⟩) 8 8)).run Tryd.prog (W.alloc (.cells #[.int .u8 0, .int .u8 7, .int .u8 (v / 256 / 256 / 256 / 256 / 256 / 256), .int .u8 (v / 256 / 256 / 256 / 256 / 256 % 256), .int .u8 (v / 256 / 256 / 256 / 256 % 256), .int .u8 (v / 256 / 256 / 256 % 256), .int .u8 (v / 256 / 256 % 256), .int .u8 (v / 256 % 256), .int .u8 (v % 256)] 118)) = .ok (.string (strOfNums [7, v / 256 / 256 / 256 / 256 / 256 / 256, v / 256 / 256 / 256 / 256 / 256 % 256, v / 256 / 256 / 256 / 256 % 256, v / 256 / 256 / 256 % 256, v / 256 / 256 % 256, v / 256 % 256, v % 256])) (W.alloc (.cells #[.int .u8 0, .int .u8 7, .int .u8 (v / 256 / 256 / 256 / 256 / 256 / 256), .int .u8 (v / 256 / 256 / 256 / 256 / 256 % 256), .int .u8 (v / 256 / 256 / 256 / 256 % 256), .int .u8 (v / 256 / 256 / 256 % 256), .int .u8 (v / 256 / 256 % 256), .int .u8 (v / 256 % 256), .int .u8 (v % 256)] 118)) :=
  run_convert_bytes_arg (P := Tryd.prog) _ 120 5 Tryd.underlying120 Tryd.underlying5 W.heap.size 1 8 8 [7, v / 256 / 256 / 256 / 256 / 256 / 256, v / 256 / 256 / 256 / 256 / 256 % 256, v / 256 / 256 / 256 / 256 % 256, v / 256 / 256 / 256 % 256, v / 256 / 256 % 256, v / 256 % 256, v % 256] rfl (by
    intro i hi
    match i, hi with
    | 0, _ => simp
    | 1, _ => simp
    | 2, _ => simp
    | 3, _ => simp
    | 4, _ => simp
    | 5, _ => simp
    | 6, _ => simp
    | 7, _ => simp
    ) 9 Tryd.underlying9
theorem onum_eq_7 (v : Int) (h0 : 0 ≤ v) (h1 : 256 ^ 6 ≤ v.toNat) (h2 : v.toNat < 256 ^ 7) : strOfNums [7, v / 256 / 256 / 256 / 256 / 256 / 256, v / 256 / 256 / 256 / 256 / 256 % 256, v / 256 / 256 / 256 / 256 % 256, v / 256 / 256 / 256 % 256, v / 256 / 256 % 256, v / 256 % 256, v % 256] = numN v.toNat := by
  have f0 := q_zero h0
  have f1 := q_step f0
  have f2 := q_step f1
  have f3 := q_step f2
  have f4 := q_step f3
  have f5 := q_step f4
  have f6 := q_step f5
  have f7 := q_step f6
  refine strOfNums_num ?_
  rw [nN_at h1 h2]
  simp only [beN, List.map_cons, List.map_nil]
  have e0 : (7 : Int).toNat = 7 := rfl
  rw [e0, q_top f6 h2, q_byte f5, q_byte f4, q_byte f3, q_byte f2, q_byte f1, q_byte f0]
set_option maxRecDepth 100000 in
set_option maxHeartbeats 1600000 in
theorem onum_7 (v : Int) (w : World) (h0 : 0 ≤ v) (h1 : 256 ^ 6 ≤ v.toNat) (h2 : v.toNat < 256 ^ 7) :
    Calls Tryd.prog 40 #[.int .u64 v] w fun e w' => e = .returned (.string (numN v.toNat)) ∧ Below w.heap.size w w' := by
  have HE := Lib.hid (onum_eq_7 v h0 h1 h2)
  have hcv := oconv_7
  have f0 := q_zero h0
  have f1 := q_step f0
  have f2 := q_step f1
  have f3 := q_step f2
  have f4 := q_step f3
  have f5 := q_step f4
  have f6 := q_step f5
  have f7 := q_step f6
  have t0 := q_pos f0 (q_le h1 (by omega))
  have t1 := q_pos f1 (q_le h1 (by omega))
  have t2 := q_pos f2 (q_le h1 (by omega))
  have t3 := q_pos f3 (q_le h1 (by omega))
  have t4 := q_pos f4 (q_le h1 (by omega))
  have t5 := q_pos f5 (q_le h1 (by omega))
  have t6 := q_pos f6 (q_le h1 (by omega))
  have te := q_end f7 h2
  clear h2 h1 f0 f1 f2 f3 f4 f5 f6 f7
  go_enter Tryd.func40, Tryd.ntmps40
  go_wp2
  refine wp_loop_rounds 8 ?_
  rw [rounds_succ]
  go_wp2
  rw [rounds_succ]
  go_wp2
  rw [rounds_succ]
  go_wp2
  rw [rounds_succ]
  go_wp2
  rw [rounds_succ]
  go_wp2
  rw [rounds_succ]
  go_wp2
  rw [rounds_succ]
  go_wp2
  rw [rounds_succ]
  go_wp2
  go_ret
  exact ⟨ret_s HE.out, Joins.below_alloc1 w _⟩
theorem oconv_8 (v : Int) (W : World) : (convert 120 9 (.slice (some ⟨W.heap.size, 0, none⟩) 9 9)).run Tryd.prog (W.alloc (.cells #[.int .u8 8, .int .u8 (v / 256 / 256 / 256 / 256 / 256 / 256 / 256), .int .u8 (v / 256 / 256 / 256 / 256 / 256 / 256 % 256), .int .u8 (v / 256 / 256 / 256 / 256 / 256 % 256), .int .u8 (v / 256 / 256 / 256 / 256 % 256), .int .u8 (v / 256 / 256 / 256 % 256), .int .u8 (v / 256 / 256 % 256), .int .u8 (v / 256 % 256), .int .u8 (v % 256)] 118)) = .ok (.string (strOfNums [8, v / 256 / 256 / 256 / 256 / 256 / 256 / 256, v / 256 / 256 / 256 / 256 / 256 / 256 % 256, v / 256 / 256 / 256 / 256 / 256 % 256, v / 256 / 256 / 256 / 256 % 256, v / 256 / 256 / 256 % 256, v / 256 / 256 % 256, v / 256 % 256, v % 256])) (W.alloc (.cells #[.int .u8 8, .int .u8 (v / 256 / 256 / 256 / 256 / 256 / 256 / 256), .int .u8 (v / 256 / 256 / 256 / 256 / 256 / 256 % 256), .int .u8 (v / 256 / 256 / 256 / 256 / 256 % 256), .int .u8 (v / 256 / 256 / 256 / 256 % 256), .int .u8 (v / 256 / 256 / 256 % 256), .int .u8 (v / 256 / 256 % 256), .int .u8 (v / 256 % 256), .int .u8 (v % 256)] 118)) :=
  run_convert_bytes_arg (P := Tryd.prog) _ 120 5 Tryd.underlying120 Tryd.underlying5 W.heap.size 0 9 9 [8, v / 256 / 256 / 256 / 256 / 256 / 256 / 256, v / 256 / 256 / 256 / 256 / 256 / 256 % 256, v / 256 / 256 / 256 / 256 / 256 % 256, v / 256 / 256 / 256 / 256 % 256, v / 256 / 256 / 256 % 256, v / 256 / 256 % 256, v / 256 % 256, v % 256] rfl (by
    intro i hi
    match i, hi with
    | 0, _ => simp
    | 1, _ => simp
    | 2, _ => simp
    | 3, _ => simp
    | 4, _ => simp
    | 5, _ => simp
    | 6, _ => simp
    | 7, _ => simp
    | 8, _ => simp
    ) 9 Tryd.underlying9
theorem onum_eq_8 (v : Int) (h0 : 0 ≤ v) (h1 : 256 ^ 7 ≤ v.toNat) (h2 : v.toNat < 256 ^ 8) : strOfNums [8, v / 256 / 256 / 256 / 256 / 256 / 256 / 256, v / 256 / 256 / 256 / 256 / 256 / 256 % 256, v / 256 / 256 / 256 / 256 / 256 % 256, v / 256 / 256 / 256 / 256 % 256, v / 256 / 256 / 256 % 256, v / 256 / 256 % 256, v / 256 % 256, v % 256] = numN v.toNat := by
  have f0 := q_zero h0
  have f1 := q_step f0
  have f2 := q_step f1
  have f3 := q_step f2
  have f4 := q_step f3
  have f5 := q_step f4
  have f6 := q_step f5
  have f7 := q_step f6
  have f8 := q_step f7
  refine strOfNums_num ?_
  rw [nN_at h1 h2]
  simp only [beN, List.map_cons, List.map_nil]
  have e0 : (8 : Int).toNat = 8 := rfl
  rw [e0, q_top f7 h2, q_byte f6, q_byte f5, q_byte f4, q_byte f3, q_byte f2, q_byte f1, q_byte f0]
set_option maxRecDepth 100000 in
set_option maxHeartbeats 1600000 in
theorem onum_8 (v : Int) (w : World) (h0 : 0 ≤ v) (h1 : 256 ^ 7 ≤ v.toNat) (h2 : v.toNat < 256 ^ 8) :
    Calls Tryd.prog 40 #[.int .u64 v] w fun e w' => e = .returned (.string (numN v.toNat)) ∧ Below w.heap.size w w' := by
  have HE := Lib.hid (onum_eq_8 v h0 h1 h2)
  have hcv := oconv_8
  have f0 := q_zero h0
  have f1 := q_step f0
  have f2 := q_step f1
  have f3 := q_step f2
  have f4 := q_step f3
  have f5 := q_step f4
  have f6 := q_step f5
  have f7 := q_step f6
  have f8 := q_step f7
  have t0 := q_pos f0 (q_le h1 (by omega))
  have t1 := q_pos f1 (q_le h1 (by omega))
  have t2 := q_pos f2 (q_le h1 (by omega))
  have t3 := q_pos f3 (q_le h1 (by omega))
  have t4 := q_pos f4 (q_le h1 (by omega))
  have t5 := q_pos f5 (q_le h1 (by omega))
  have t6 := q_pos f6 (q_le h1 (by omega))
  have t7 := q_pos f7 (q_le h1 (by omega))
  have te := q_end f8 h2
  clear h2 h1 f0 f1 f2 f3 f4 f5 f6 f7 f8
  go_enter Tryd.func40, Tryd.ntmps40
  go_wp2
  refine wp_loop_rounds 9 ?_
  rw [rounds_succ]
  go_wp2
  rw [rounds_succ]
  go_wp2
  rw [rounds_succ]
  go_wp2
  rw [rounds_succ]
  go_wp2
  rw [rounds_succ]
  go_wp2
  rw [rounds_succ]
  go_wp2
  rw [rounds_succ]
  go_wp2
  rw [rounds_succ]
  go_wp2
  rw [rounds_succ]
  go_wp2
  go_ret
  exact ⟨ret_s HE.out, Joins.below_alloc1 w _⟩
theorem onum (v : Int) (w : World) (h0 : 0 ≤ v) (h1 : v ≤ 18446744073709551615) :
    Calls Tryd.prog 40 #[.int .u64 v] w fun e w' => e = .returned (.string (numN v.toNat)) ∧ Below w.heap.size w w' := by
  by_cases c0 : v.toNat < 256 ^ 0
  · exact onum_0 v w h0 c0
  by_cases c1 : v.toNat < 256 ^ 1
  · exact onum_1 v w h0 (Nat.le_of_not_lt c0) c1
  by_cases c2 : v.toNat < 256 ^ 2
  · exact onum_2 v w h0 (Nat.le_of_not_lt c1) c2
  by_cases c3 : v.toNat < 256 ^ 3
  · exact onum_3 v w h0 (Nat.le_of_not_lt c2) c3
  by_cases c4 : v.toNat < 256 ^ 4
  · exact onum_4 v w h0 (Nat.le_of_not_lt c3) c4
  by_cases c5 : v.toNat < 256 ^ 5
  · exact onum_5 v w h0 (Nat.le_of_not_lt c4) c5
  by_cases c6 : v.toNat < 256 ^ 6
  · exact onum_6 v w h0 (Nat.le_of_not_lt c5) c6
  by_cases c7 : v.toNat < 256 ^ 7
  · exact onum_7 v w h0 (Nat.le_of_not_lt c6) c7
  exact onum_8 v w h0 (Nat.le_of_not_lt c7) (by show v.toNat < 18446744073709551616; omega)
end Go.Proofs.YtofpefbnkmeokaaDoor
