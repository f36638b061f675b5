/- The law FrameBack returns true for every input: what was written is read, whatever follows; cut off anywhere it is torn.
   Conditions: the package variable errors.errorType holds its handle (the row's own). -/
import Derived.Test.YtofpefbnkmeokaaDoorFrWorks
import Derived.Test.YtofpefbnkmeokaaDoorErrIs
import Derived.Test.YtofpefbnkmeokaaDoorDoor
namespace Go.Proofs.YtofpefbnkmeokaaDoor.lawFrameBack
open Go.ChangeShapes Go.WideShapes Go.ChangeAt Go.RowKit
open Go.ChangeMaps (open_string shut_string)
set_option linter.unusedVariables false
theorem fr_neF (k : Int) (l : ByteArray) (W : World) : (binOp .neq 23 (.agg #[.int .i64 k, .string l]) (.agg #[.int .i64 k, .string l])).run Tryd.prog W = Result.ok (.bool false) W := by
  simp [go_sem]
set_option maxRecDepth 100000 in
set_option maxHeartbeats 6400000 in
theorem walk_long (k : Int) (t m : ByteArray) (n : Int) (w : World) (hg : ET w) (w1 : t.size ≤ 9223372036854775807) (h : 6000 < t.size) :
    Calls Tryd.prog 3 #[.agg #[.int .i64 k, .string t], .string m, .int .i64 n] w fun e w' => e = .returned (.bool true) ∧ Below w.heap.size w w' := by
  have h2 : 6000 < (t.size : Int) := by omega
  have HG := Lib.hid hg
  have HF0 := Lib.hid (Blk.new w 23 #[.int .i64 k, .string t])
  have HB0 := Lib.hid (Joins.below_alloc1 w (.cells #[.int .i64 k, .string t] 23))
  have D0 := Lib.hid (fun W (h : ET W) => fworks W h)
  clear hg
  go_enter Tryd.func3, Tryd.ntmps3
  go_wp2_with fail
  refine (D0.out _ (HG.out.keep HB0.out)).mono ?_; rintro e w1 ⟨rfl, b1⟩
  have HF1 := Lib.hid (HF0.out.keep b1)
  have HB1 := Lib.hid (HB0.out.trans (b1.mono HB0.out.size))
  have c0 := HF1.out.cell 0
  have c1 := HF1.out.cell 1
  simp at c0 c1
  clear b1 HF0 HB0
  go_wp2
  go_ret
  exact ⟨rfl, HB1.out⟩
set_option maxRecDepth 100000 in
set_option maxHeartbeats 6400000 in
theorem walk_more (k : Int) (t m : ByteArray) (n : Int) (w : World) (hg : ET w) (w2 : m.size ≤ 9223372036854775807) (h : t.size ≤ 6000) (h3 : 1000 < m.size) :
    Calls Tryd.prog 3 #[.agg #[.int .i64 k, .string t], .string m, .int .i64 n] w fun e w' => e = .returned (.bool true) ∧ Below w.heap.size w w' := by
  have h2 : ¬ (6000 < (t.size : Int)) := by omega
  have h4 : 1000 < (m.size : Int) := by omega
  have HG := Lib.hid hg
  have HF0 := Lib.hid (Blk.new w 23 #[.int .i64 k, .string t])
  have HB0 := Lib.hid (Joins.below_alloc1 w (.cells #[.int .i64 k, .string t] 23))
  have D0 := Lib.hid (fun W (h : ET W) => fworks W h)
  clear hg
  go_enter Tryd.func3, Tryd.ntmps3
  go_wp2_with fail
  refine (D0.out _ (HG.out.keep HB0.out)).mono ?_; rintro e w1 ⟨rfl, b1⟩
  have HF1 := Lib.hid (HF0.out.keep b1)
  have HB1 := Lib.hid (HB0.out.trans (b1.mono HB0.out.size))
  have c0 := HF1.out.cell 0
  have c1 := HF1.out.cell 1
  simp at c0 c1
  clear b1 HF0 HB0
  go_wp2
  go_ret
  exact ⟨rfl, HB1.out⟩
set_option maxRecDepth 100000 in
set_option maxHeartbeats 6400000 in
theorem walk_bad (k : Int) (t m : ByteArray) (n : Int) (w : World) (hg : ET w) (h : t.size ≤ 6000) (h3 : m.size ≤ 1000) (hE : ¬ frE k t = 0) :
    Calls Tryd.prog 3 #[.agg #[.int .i64 k, .string t], .string m, .int .i64 n] w fun e w' => e = .returned (.bool true) ∧ Below w.heap.size w w' := by
  have h2 : ¬ (6000 < (t.size : Int)) := by omega
  have h4 : ¬ (1000 < (m.size : Int)) := by omega
  have D1 := Lib.hid (fun W => fto k t W)
  have C2 : ∀ W : World, Calls Tryd.prog 9 #[.agg #[.int .i64 k, .string t]] W fun e w' => e = .returned (.tuple #[.string ⟨#[]⟩, .iface 35 (.int .i64 (frE k t))]) ∧ Below W.heap.size W w' := fun W => by
    have h := fwrite k t W
    rw [show frW k t = ⟨#[]⟩ from if_neg hE, frV_no hE] at h
    exact h
  have D2 := Lib.hid C2
  clear C2 hE
  generalize frE k t = E at *
  have HG := Lib.hid hg
  have HF0 := Lib.hid (Blk.new w 23 #[.int .i64 k, .string t])
  have HB0 := Lib.hid (Joins.below_alloc1 w (.cells #[.int .i64 k, .string t] 23))
  have D0 := Lib.hid (fun W (h : ET W) => fworks W h)
  clear hg
  go_enter Tryd.func3, Tryd.ntmps3
  go_wp2_with fail
  refine (D0.out _ (HG.out.keep HB0.out)).mono ?_; rintro e w1 ⟨rfl, b1⟩
  have HF1 := Lib.hid (HF0.out.keep b1)
  have HB1 := Lib.hid (HB0.out.trans (b1.mono HB0.out.size))
  have c0 := HF1.out.cell 0
  have c1 := HF1.out.cell 1
  simp at c0 c1
  clear b1 HF0 HB0
  go_wp2_with fail
  refine (D1.out _).mono ?_; rintro e w2 ⟨rfl, b2⟩
  have HB2 := Lib.hid (HB1.out.trans (b2.mono HB1.out.size))
  clear b2 c0 c1
  go_wp2_with fail
  refine (D2.out _).mono ?_; rintro e w3 ⟨rfl, b3⟩
  have HB3 := Lib.hid (HB2.out.trans (b3.mono HB2.out.size))
  clear b3
  go_wp2
  go_ret
  exact ⟨rfl, HB3.out⟩
theorem torn_ev (A : Int) (fb : Nat) (W : World) (h : Blk W fb 42 #[.int .i64 A, .iface 35 (.int .i64 1)]) : Calls Tryd.prog 14 #[.iface 40 (.pointer (some ⟨fb, 0, none⟩))] W fun e w' => e = .returned (.bool true) ∧ Below W.heap.size W w' := torn_of _ _ W (is_fault fb A W h)
set_option maxRecDepth 100000 in
set_option maxHeartbeats 12800000 in
theorem walk_good (k : Nat) (t m : ByteArray) (n : Int) (w : World) (hg : ET w) (h : t.size ≤ 4096) (h3 : m.size ≤ 1000) (hk1 : 1 ≤ k) (hk2 : k ≤ 99) :
    Calls Tryd.prog 3 #[.agg #[.int .i64 (k : Int), .string t], .string m, .int .i64 n] w fun e w' => e = .returned (.bool true) ∧ Below w.heap.size w w' := by
  have h2 : ¬ (6000 < (t.size : Int)) := by omega
  have h4 : ¬ (1000 < (m.size : Int)) := by omega
  obtain ⟨hE, hW⟩ := fr_ok (k := (k : Int)) (s := t) (by omega) (by omega)
  have hWz : (frW k t).size ≤ 6022 := by
    rw [hW, ByteArray.size_append, sumStr_size]; have := frB_size (k := (k : Int)) (s := t) (by omega) (by omega); omega
  have hW4 : 4 ≤ (frW k t).size := by rw [hW, ByteArray.size_append, sumStr_size]; omega
  have hk0 : ((k : Int)).toNat = k := by omega
  have hWl : (frW k t).size = (nN k + 1) + (nN t.size + 1) + t.size + 4 := by rw [hW, ByteArray.size_append, sumStr_size, frB_sz, hk0]
  have hWd : (frW k t).data.toList = numB k ++ (numB t.size ++ (t.data.toList ++ (sumStr (moreN 0 (frB k t).data.toList)).data.toList)) := by
    rw [hW, ap_data, frB_data, hk0, List.append_assoc, List.append_assoc]
  obtain ⟨x, hx⟩ : ∃ x, frW k t = x := ⟨_, rfl⟩
  rw [hx] at hW hWz hW4 hWl hWd
  obtain ⟨X, hX⟩ : ∃ X, x.size = X := ⟨_, rfl⟩
  rw [hX] at hWz hW4 hWl
  obtain ⟨un, hun⟩ : ∃ u, IntKind.u64.wrap n = u := ⟨_, rfl⟩
  have gn : 0 ≤ un := by rw [← hun, IntKind.wrap_u64]; omega
  have hme : un.tmod (X : Int) = un % (X : Int) := Int.tmod_eq_emod_of_nonneg gn
  have hm0 : 0 ≤ un.tmod (X : Int) := by rw [hme]; exact Int.emod_nonneg _ (by omega)
  have hm1 : un.tmod (X : Int) < (X : Int) := by rw [hme]; exact Int.emod_lt_of_pos _ (by omega)
  clear hme
  obtain ⟨c, hc⟩ := Int.eq_ofNat_of_zero_le hm0
  have hcx : c < X := by omega
  obtain ⟨y, hy⟩ : ∃ y, x ++ m = y := ⟨_, rfl⟩
  have hyz : y.size = X + m.size := by rw [← hy, ByteArray.size_append, hX]
  obtain ⟨a1, a2, a3, a4, a5⟩ := nx_full (S := y) (u := x) (k := k) (t := t) (l := m.data.toList) hk1 hk2 h hW (by rw [← hy, ap_data])
  have hsl : (sumStr (moreN 0 (frB k t).data.toList)).data.toList.length = 4 := by
    have := sumStr_size (moreN 0 (frB k t).data.toList)
    rw [← this]; simp
  have b0 : nxE (x.extract 0 c) = 1 := nx_torn (k := k) (t := t) (l := (sumStr (moreN 0 (frB k t).data.toList)).data.toList) (c := c) hk1 hk2 h hsl (by omega) (by rw [ex_data, List.drop_zero, Nat.sub_zero, hWd])
  obtain ⟨d1, d2, d3, d4, d5⟩ := nx_bounds (x.extract 0 c)
  obtain ⟨b1, b2, b3⟩ := d5 (by omega)
  have hxc : (x.extract 0 c).size ≤ 100000 := by rw [ByteArray.size_extract, hX]; omega
  have C2 : ∀ W : World, Calls Tryd.prog 9 #[.agg #[.int .i64 (k : Int), .string t]] W fun e w' => e = .returned (.tuple #[.string x, .nilIface]) ∧ Below W.heap.size W w' := fun W => by
    have h := fwrite k t W
    rw [hx, frV_ok hE] at h
    exact h
  have C3 : ∀ W : World, Calls Tryd.prog 11 #[.string y] W fun e w' => e = .returned (.tuple #[.agg #[.int .i64 (k : Int), .string t], .int .i64 (X : Int), .nilIface]) ∧ Below W.heap.size W w' := fun W => by
    refine (fnext y W (by omega)).mono ?_
    rintro e w' ⟨ev, rfl, hev, hb⟩
    rw [a1] at hev
    obtain ⟨-, rfl⟩ := ev_nil hev
    rw [a3, a4, a5, hX]
    exact ⟨rfl, hb⟩
  have C4 : ∀ W : World, Calls Tryd.prog 11 #[.string (x.extract 0 c)] W fun e w' => ∃ fb, e = .returned (.tuple #[.agg #[.int .i64 0, .string ⟨#[]⟩], .int .i64 0, .iface 40 (.pointer (some ⟨fb, 0, none⟩))]) ∧ Blk w' fb 42 #[.int .i64 (nxA (x.extract 0 c)), .iface 35 (.int .i64 1)] ∧ Below W.heap.size W w' := fun W => by
    refine (fnext (x.extract 0 c) W hxc).mono ?_
    rintro e w' ⟨ev, rfl, hev, hb⟩
    rw [b0] at hev
    rw [b1, b2, b3]
    rcases hev with ⟨h, _⟩ | ⟨_, fb, rfl, hk⟩
    · exact absurd h (by omega)
    · exact ⟨fb, rfl, hk, hb⟩
  have hA1 : nxA (x.extract 0 c) ≤ 1099511627776 := by omega
  have HC5 : Hid (∀ W fb, ET W → Blk W fb 42 #[.int .i64 (nxA (x.extract 0 c)), .iface 35 (.int .i64 1)] → Calls Tryd.prog 13 #[.iface 40 (.pointer (some ⟨fb, 0, none⟩))] W fun e w' => e = .returned (.agg #[.int .i64 (nxA (x.extract 0 c)), .int .i64 1]) ∧ Below W.heap.size W w') := Lib.hid (fun W fb h1 h2 => seen_fault fb _ 1 W h1 (by omega) d2 hA1 h2)
  have D1 := Lib.hid (fun W => fto (k : Int) t W)
  have F1 := Lib.hid (fun W => ffrom (k : Int) t W)
  have D2 := Lib.hid C2
  have D3 := Lib.hid C3
  have D4 := Lib.hid C4
  have D6 := Lib.hid (fun W => torn_of .nilIface false W (is_nil W))
  have D7 := Lib.hid (fun W => torn_of (.iface 35 (.int .i64 13)) false W (is_sum W))
  have z1 := fr_neF (k : Int) t
  have hfld : ∀ (a e : Int) (W : World), (Instr.field 37 (.agg #[.int .i64 a, .int .i64 e]) 1).run Tryd.prog W = Result.ok (.int .i64 e) W := wk_field
  have hadd : ∀ W : World, (Op.stringOp .add x m).run Tryd.prog W = .ok (.string y) W := fun W => by rw [run_string_add W _ _ (by rw [hX]; omega) (by omega), hy]
  have q1 : IntKind.u64.wrap (X : Int) = (X : Int) := by rw [IntKind.wrap_u64]; omega
  have q2 : IntKind.i64.wrap (c : Int) = (c : Int) := by rw [IntKind.wrap_i64]; omega
  have HQ2 : Hid (wrap64 (c : Int) = (c : Int)) := Lib.hid (by unfold wrap64; omega)
  have q3 : ((X : Int) == 0) = false := by simp; omega
  have q3b : (X == 0) = false := by simp; omega
  have q3c : ¬ ((X : Int) = 0) := by omega
  have q4 : (c : Int) ≤ (X : Int) := by omega
  have q5 : (0 : Int) ≤ (c : Int) := by omega
  have q6 : ((X : Int) == (X : Int)) = true := by simp
  clear C2 C3 C4 hE hW hWz hWl hWd hsl hx hm0 hm1 hy a1 a2 a3 a4 a5 b0 b1 b2 b3 d1 d2 d3 d4 d5 hxc hA1
  generalize nxA (x.extract 0 c) = A at *
  have HG := Lib.hid hg
  have HF0 := Lib.hid (Blk.new w 23 #[.int .i64 (k : Int), .string t])
  have HB0 := Lib.hid (Joins.below_alloc1 w (.cells #[.int .i64 (k : Int), .string t] 23))
  have D0 := Lib.hid (fun W (h : ET W) => fworks W h)
  clear hg
  go_enter Tryd.func3, Tryd.ntmps3
  go_wp2_with fail
  refine (D0.out _ (HG.out.keep HB0.out)).mono ?_; rintro e w1 ⟨rfl, b1⟩
  have HF1 := Lib.hid (HF0.out.keep b1)
  have HB1 := Lib.hid (HB0.out.trans (b1.mono HB0.out.size))
  have c0 := HF1.out.cell 0
  have c1 := HF1.out.cell 1
  simp at c0 c1
  clear b1 HF0 HB0
  go_wp2_with fail
  refine (D1.out _).mono ?_; rintro e w2 ⟨rfl, b2⟩
  have HB2 := Lib.hid (HB1.out.trans (b2.mono HB1.out.size))
  have HF2 := Lib.hid (HF1.out.keep b2)
  clear b2 c0 c1 HF1 HB1
  go_wp2_with fail
  refine (D2.out _).mono ?_; rintro e w3 ⟨rfl, b3⟩
  have HB3 := Lib.hid (HB2.out.trans (b3.mono HB2.out.size))
  have HF3 := Lib.hid (HF2.out.keep b3)
  clear b3 HF2 HB2
  go_wp2_with fail
  refine (D3.out _).mono ?_; rintro e w4 ⟨rfl, b4⟩
  have HB4 := Lib.hid (HB3.out.trans (b4.mono HB3.out.size))
  have HB4a := Lib.hid (HB4.out.alloc HB4.out.size (.cells #[.int .i64 (k : Int), .string t] 29))
  have HF4 := Lib.hid ((HF3.out.keep b4).alloc (.cells #[.int .i64 (k : Int), .string t] 29))
  have HP4 := Lib.hid (Blk.new w4 29 #[.int .i64 (k : Int), .string t])
  obtain ⟨p4, hp4⟩ : ∃ x, w4.heap.size = x := ⟨_, rfl⟩
  rw [hp4] at HP4
  clear b4 HB4 HF3 HB3
  go_wp2
  clear hp4
  generalize w4.alloc (.cells #[.int .i64 (k : Int), .string t] 29) = W4 at *
  have a0 := cell_regrown (by simpa using HF4.out.cell 0)
  have a1 := cell_regrown (by simpa using HF4.out.cell 1)
  have a2 := cell_regrown (by simpa using HP4.out.cell 0)
  have a3 := cell_regrown (by simpa using HP4.out.cell 1)
  refine wp_region_quiet_below (by kernel_rfl) (by kernel_rfl) ?_
  repeat (first | go_big_quiet_step ((first | with_reducible exact Calls.regrown_of (F1.out _))) | quiet_step ((first | with_reducible exact Calls.regrown_of (F1.out _))))
  refine wpQuiet_nil ?_
  intro _ hw'
  obtain ⟨⟨dq, osq⟩, hw''⟩ := hw'
  subst hw''
  have HB5 := Lib.hid (HB4a.out.trans ((below_regrown W4 dq osq).mono HB4a.out.size))
  clear a0 a1 a2 a3 HF4 HP4 HB4a
  generalize Sort.grow (redrawn W4 dq) osq = W5 at *
  clear q2
  have q2b := HQ2.out
  go_wp2_with fail
  clear q2b
  refine (D4.out _).mono ?_; rintro e w6 ⟨fb, rfl, hb, b6⟩
  have HB6 := Lib.hid (HB5.out.trans (b6.mono HB5.out.size))
  have HB6a := Lib.hid (HB6.out.alloc HB6.out.size (.cells #[.int .i64 0, .string ⟨#[]⟩] 29))
  have HK6 := Lib.hid (hb.alloc (.cells #[.int .i64 0, .string ⟨#[]⟩] 29))
  clear hb b6 HB5 HB6
  go_wp2_with fail
  refine (HC5.out _ fb (HG.out.keep HB6a.out) HK6.out).mono ?_; rintro e w7 ⟨rfl, b7⟩
  have HB7 := Lib.hid (HB6a.out.trans (b7.mono HB6a.out.size))
  have HK7 := Lib.hid (HK6.out.keep b7)
  clear b7 HB6a HK6
  go_wp2_with fail
  refine (torn_ev A fb _ HK7.out).mono ?_; rintro e w8 ⟨rfl, b8⟩
  have HB8 := Lib.hid (HB7.out.trans (b8.mono HB7.out.size))
  have HK8 := Lib.hid (HK7.out.keep b8)
  clear b8 HB7 HK7
  go_wp2_with fail
  refine (torn_of _ _ _ (is_fault2 w8.heap.size fb 1 A (w8.alloc (.cells #[.int .i64 1, .iface 40 (.pointer (some ⟨fb, 0, none⟩))] 42)) (Blk.new w8 _ _) (HK8.out.alloc _))).mono ?_; rintro e w9 ⟨rfl, b9⟩
  have HB9 := Lib.hid ((HB8.out.alloc HB8.out.size (.cells #[.int .i64 1, .iface 40 (.pointer (some ⟨fb, 0, none⟩))] 42)).trans (b9.mono (by have := HB8.out.size; simp; omega)))
  clear b9 HB8 HK8
  go_wp2_with fail
  refine (D6.out _).mono ?_; rintro e w10 ⟨rfl, b10⟩
  have HB10 := Lib.hid (HB9.out.trans (b10.mono HB9.out.size))
  clear b10 HB9
  go_wp2_with fail
  refine (D7.out _).mono ?_; rintro e w11 ⟨rfl, b11⟩
  have HB11 := Lib.hid (HB10.out.trans (b11.mono HB10.out.size))
  clear b11 HB10
  go_wp2
  go_ret
  exact ⟨rfl, HB11.out⟩
theorem walk (k : Int) (t m : ByteArray) (n : Int) (w : World) (w0 : (Lit.int .i64 k).wf = true) (w1 : t.size ≤ maxLen) (w2 : m.size ≤ maxLen) (w3 : (Lit.int .i64 n).wf = true) (hg : ET w) :
    Calls Tryd.prog 3 #[.agg #[.int .i64 k, .string t], .string m, .int .i64 n] w fun e w' => e = .returned (.bool true) ∧ Below w.heap.size w w' := by
  unfold maxLen at w1 w2
  by_cases h : t.size ≤ 6000
  · by_cases h3 : m.size ≤ 1000
    · by_cases hE : frE k t = 0
      · have hk : ¬ (k < 1 ∨ 99 < k) := by
          intro e
          rw [(fr_kind e).1] at hE; omega
        have ht : ¬ 4096 < t.size := by
          intro e
          rw [(fr_long hk e).1] at hE; omega
        obtain ⟨j, rfl⟩ := Int.eq_ofNat_of_zero_le (show 0 ≤ k by omega)
        exact walk_good j t m n w hg (by omega) h3 (by omega) (by omega)
      · exact walk_bad k t m n w hg h h3 hE
    · exact walk_more k t m n w hg (by omega) h (by omega)
  · exact walk_long k t m n w hg (by omega) (by omega)
set_option maxRecDepth 100000 in
theorem lifted (os : Os) (started : os.Started) (H : Type) (enc : TypeId × Value → H) :
    ReturnsInHanded {} Tryd.checked os 3 .any (fun w args => (Rows.frameBackSpec.pre enc Tryd.prog Tryd.f3 [] false w args ∧ laidMetH Tryd.prog laidL w) ∧ sizedMet enc Tryd.prog Tryd.f3 (OpenSpec.ofChange Rows.frameBackSpec) false w args) (Rows.frameBackSpec.post enc Tryd.prog Tryd.f3 false true false false) := by
  refine returnsInHanded_of_change_and (C := Tryd.checked) (X := fun w _ => laidMetH Tryd.prog laidL w) (fun _ _ _ hh h => h.of_heap hh) own started (by kernel_rfl) Tryd.func3
    (ChangeSpec.witness_at (enc := enc) (C := Tryd.checked) (os := os) (X := fun w _ => laidMetH Tryd.prog laidL w) false (laidWorld os) #[.agg #[.int .i64 0, .string ⟨#[]⟩], .string ⟨#[]⟩, .int .i64 0] 8 rfl (by kernel_rfl) (by kernel_rfl) (by kernel_rfl) (by kernel_rfl) (by kernel_rfl) (laidWorld_met os _)) ?_
  intro W base args ds gs before hval0 hW hcnd _ hL _
  have hval : ∀ (j : Nat) t v, Tryd.f3.params[j]? = some t → args[j]? = some v → Value.okWide Tryd.prog W .any base t v := hval0
  have hW' := hW
  obtain ⟨p, q, hA0, hV, rfl, hfz, hnd⟩ := hW
  have hA : DataW.TrodAll enc Tryd.prog W 0 (fun _ => true) true Tryd.f3.params.toList args.toList ds p := hA0
  rw [Tryd.params3] at hA hval
  obtain ⟨v0, vs0, d0, ds0, p0, q0, hargs, rfl, rfl, h0, r0⟩ := trodAll_cons hA
  obtain ⟨v1, vs1, d1, ds1, p1, q1, rfl, rfl, rfl, h1, r1⟩ := trodAll_cons r0
  obtain ⟨v2, vs2, d2, ds2, p2, q2, rfl, rfl, rfl, h2, r2⟩ := trodAll_cons r1
  obtain ⟨rfl, rfl, rfl⟩ := trodAll_nil r2
  obtain rfl : args = #[v0, v1, v2] := by cases args; simp_all
  obtain ⟨rfl, rfl⟩ := trodVars_none hV
  have k0 := h0
  have lt0 : ∀ x ∈ p0, x.block < W.heap.size := by obtain ⟨m, hm⟩ := k0; exact DataW.trod_lt m _ _ _ hm
  obtain ⟨a0k, a0s, rfl, w0k, w0s⟩ := frame_open Tryd.underlying23 (by kernel_rfl) (by kernel_rfl) (by kernel_rfl) (by kernel_rfl) (hval 0 23 v0 rfl rfl) h0
  have k1 := h1
  have lt1 : ∀ x ∈ p1, x.block < W.heap.size := by obtain ⟨m, hm⟩ := k1; exact DataW.trod_lt m _ _ _ hm
  obtain ⟨a1, rfl, ed1, rfl, w1⟩ := open_string Tryd.underlying9 (hval 1 9 v1 rfl rfl) h1
  have k2 := h2
  have lt2 : ∀ x ∈ p2, x.block < W.heap.size := by obtain ⟨m, hm⟩ := k2; exact DataW.trod_lt m _ _ _ hm
  obtain ⟨a2, rfl, ed2, rfl, w2⟩ := open_int Tryd.underlying3 (hval 2 3 v2 rfl rfl) h2
  clear hA0 hval0
  have hg := handle_of_laid hL
  refine (walk a0k a0s a1 a2 W w0k w0s w1 w2 hg).mono fun e W' ⟨he, bel⟩ => ?_
  subst he
  exact ⟨_, rfl, _, _, _, [], _, [], hW', trodAll_mk1 (shut_bool Tryd.underlying4 _), (trodAll_cons_mk (Below.trod laidOut (by kernel_rfl) (of_decide_eq_true (by kernel_rfl)) k0 bel lt0) (trodAll_cons_mk (Below.trod laidOut (by kernel_rfl) (of_decide_eq_true (by kernel_rfl)) k1 bel lt1) (trodAll_cons_mk (Below.trod laidOut (by kernel_rfl) (of_decide_eq_true (by kernel_rfl)) k2 bel lt2) trodAll_mk0))), rfl, bel.frame _, fun h => by cases h⟩
theorem over : Rows.frameBackRow.holds Tryd.pinned (OpenSpec.ofChange Rows.frameBackSpec) :=
  OpenClaim.holds_of_wide 3 Tryd.f3 rfl rfl rfl rfl rfl rfl rfl ⟨rfl, rfl, rfl, rfl, rfl⟩ rfl rfl rfl rfl rfl (by kernel_rfl) Tryd.func3 (by kernel_rfl)
    (of_decide_eq_true (by kernel_rfl)) (by unfold Func.isWrapper; first | (rw [if_pos (by decide +kernel)]; kernel_rfl) | (rw [if_neg (by decide +kernel)]; exact ⟨rfl, rfl⟩))
    (fun os started H enc _ => lifted os started H enc)
set_option maxRecDepth 100000 in
theorem proved : Rows.FrameBackCardSaid :=
  Claim7.holds_tied_plain_at .later [] [.handle] true (true, "bed28a1abb8bd1d6f054b3bbdb24eb1b4ac5058343a277e2089a84be8056229b") true over (fun _ h => by cases h) (by kernel_rfl) (fun _ h => by cases h) frameBack_row_tie rfl ⟨rfl, rfl⟩ (by kernel_rfl) rfl
    (fun f fn hf hfn => by
      obtain rfl : f = 3 := Option.some.inj ((show Tryd.prog.funcNamed "selkie/selkielaw04.FrameBack" = some 3 by kernel_rfl).symm.trans hf) |>.symm
      obtain rfl : fn = Tryd.f3 := (Option.some.inj (Tryd.func3.symm.trans hfn)).symm
      exact ⟨by kernel_rfl, fun j t ht => by
        rw [Tryd.params3] at ht
        match j, ht with
        | 0, ht => (have e : t = 23 := by simpa using ht.symm); subst e; exact (show Tryd.prog.wantsStandIn 23 = false by kernel_rfl)
        | 1, ht => (have e : t = 9 := by simpa using ht.symm); subst e; exact (show Tryd.prog.wantsStandIn 9 = false by kernel_rfl)
        | 2, ht => (have e : t = 3 := by simpa using ht.symm); subst e; exact (show Tryd.prog.wantsStandIn 3 = false by kernel_rfl)
        | j + 3, ht => simp at ht⟩)
    (by kernel_rfl)
#print axioms proved
end Go.Proofs.YtofpefbnkmeokaaDoor.lawFrameBack
