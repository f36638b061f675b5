/- Contracts of Bytes, Of, Seal and Ends, of package sum and of the reference. -/
import Derived.Test.YtofpefbnkmeokaaDoorSum
import Derived.WalkSpells
import Derived.Deep.QuietTactic
import Derived.BigQuiet
import Derived.Lib.QuietBelow
import Derived.Lib.SmallJoins
import Derived.Lib.IndexBytes
namespace Go.Proofs.YtofpefbnkmeokaaDoor
open Go.RowKit
theorem conv4 (x0 x1 x2 x3 : Int) (t : TypeId) (W : World) :
    (convert 120 9 (.slice (some ⟨W.heap.size, 0, none⟩) 4 4)).run Tryd.prog (W.alloc (.cells #[.int .u8 x0, .int .u8 x1, .int .u8 x2, .int .u8 x3] t)) = .ok (.string (strOfNums [x0, x1, x2, x3])) (W.alloc (.cells #[.int .u8 x0, .int .u8 x1, .int .u8 x2, .int .u8 x3] t)) :=
  run_convert_bytes_arg (P := Tryd.prog) _ 120 5 Tryd.underlying120 Tryd.underlying5 W.heap.size 0 4 4 [x0, x1, x2, x3] rfl (by
    intro i hi
    match i, hi with
    | 0, _ => simp
    | 1, _ => simp
    | 2, _ => simp
    | 3, _ => simp) 9 Tryd.underlying9
set_option maxHeartbeats 400000 in
theorem bytes_any (c : Nat) (w : World) (hc : c < 4294967296) :
    Calls Tryd.prog 75 #[.int .u32 c] w fun e w' => e = .returned (.string (sumStr c)) ∧ Below w.heap.size w w' := by
  have hcv := conv4
  go_enter Tryd.func75, Tryd.ntmps75
  go_wp2
  refine wp_loop_rounds 5 ?_
  rw [rounds_succ]
  go_wp2
  rw [rounds_succ]
  go_wp2
  rw [rounds_succ]
  go_wp2
  rw [rounds_succ]
  go_wp2
  rw [rounds_succ]
  go_wp2
  go_ret
  exact ⟨rfl, Joins.below_alloc1 w _⟩
set_option maxHeartbeats 400000 in
theorem rbytes_any (c : Nat) (w : World) (hc : c < 4294967296) :
    Calls Tryd.prog 86 #[.int .u32 c] w fun e w' => e = .returned (.string (sumStr c)) ∧ Below w.heap.size w w' := by
  have hcv := conv4
  go_enter Tryd.func86, Tryd.ntmps86
  go_wp2
  go_ret
  exact ⟨rfl, Joins.below_alloc1 w _⟩
theorem of_any (s : ByteArray) (w : World) (hs : s.size ≤ 100000) :
    Calls Tryd.prog 76 #[.string s] w fun e w' => e = .returned (.int .u32 (moreN 0 s.data.toList : Nat)) ∧ w = w' := by
  go_enter Tryd.func76, Tryd.ntmps76
  go_wp2_with fail
  refine (more_any 0 s _ (by omega) hs).mono ?_; rintro e w' ⟨rfl, rfl⟩
  go_wp2
  go_ret
  exact ⟨rfl, rfl⟩
theorem rof_any (s : ByteArray) (w : World) (hs : s.size ≤ 100000) :
    Calls Tryd.prog 87 #[.string s] w fun e w' => e = .returned (.int .u32 (moreN 0 s.data.toList : Nat)) ∧ w = w' := by
  go_enter Tryd.func87, Tryd.ntmps87
  go_wp2_with fail
  refine (rmore_any 0 s _ (by omega) hs).mono ?_; rintro e w' ⟨rfl, rfl⟩
  go_wp2
  go_ret
  exact ⟨rfl, rfl⟩
set_option maxHeartbeats 400000 in
theorem seal_any (s : ByteArray) (w : World) (hs : s.size ≤ 100000) :
    Calls Tryd.prog 39 #[.string s] w fun e w' => e = .returned (.string (s ++ sumStr (moreN 0 s.data.toList))) ∧ Below w.heap.size w w' := by
  have hz := sumStr_size (moreN 0 s.data.toList)
  go_enter Tryd.func39, Tryd.ntmps39
  go_wp2_with fail
  refine (of_any s _ hs).mono ?_; rintro e w' ⟨rfl, rfl⟩
  go_wp2_with fail
  refine (bytes_any _ _ (moreN_lt (by omega) _)).mono ?_; rintro e w1 ⟨rfl, hb⟩
  go_wp2
  go_ret
  exact ⟨rfl, hb⟩
/-- Does a text end with its sum? -/
def endsB (s : ByteArray) : Bool := decide (4 ≤ s.size) && ((s.extract 0 (s.size - 4) ++ sumStr (moreN 0 (s.data.toList.take (s.size - 4)))).toList == s.toList)
theorem endsB_short (s : ByteArray) (h : ¬ 4 ≤ s.size) : endsB s = false := by unfold endsB; rw [decide_eq_false h]; rfl
theorem endsB_long (s : ByteArray) (h : 4 ≤ s.size) : endsB s = ((s.extract 0 (s.size - 4) ++ sumStr (moreN 0 (s.data.toList.take (s.size - 4)))).toList == s.toList) := by unfold endsB; rw [decide_eq_true h]; rfl
theorem append_toList (a b : ByteArray) : (a ++ b).toList = a.data.toList ++ b.data.toList := by rw [ByteArray.toList_eq]; simp
theorem endsB_iff (s : ByteArray) (h : 4 ≤ s.size) : endsB s = true ↔ (sumStr (moreN 0 (s.data.toList.take (s.size - 4)))).data.toList = s.data.toList.drop (s.size - 4) := by
  rw [endsB_long s h, beq_iff_eq, append_toList, ByteArray.toList_eq, Lib.extract_data]
  simp only [List.drop_zero, Nat.sub_zero]
  constructor
  · intro e
    have e2 := congrArg (List.drop (s.size - 4)) e
    rwa [List.drop_append_of_le_length (by simp [List.length_take]), List.drop_eq_nil_of_le (by simp [List.length_take]), List.nil_append] at e2
  · intro e
    rw [e, List.take_append_drop]
theorem endsB_ref (s : ByteArray) (h : 4 ≤ s.size) : ((s.extract (s.size - 4) s.size).toList == (sumStr (moreN 0 (s.data.toList.take (s.size - 4)))).toList) = endsB s := by
  rw [Bool.eq_iff_iff, endsB_iff s h, beq_iff_eq, ByteArray.toList_eq, ByteArray.toList_eq, Lib.extract_to_end]
  exact eq_comm
theorem ret_b {a b : Bool} (h : a = b) : Ending.returned (.bool a) = .returned (.bool b) := by rw [h]
set_option maxHeartbeats 400000 in
theorem ends_any (s : ByteArray) (w : World) (hs : s.size ≤ 100000) :
    Calls Tryd.prog 46 #[.string s] w fun e w' => e = .returned (.bool (endsB s)) ∧ Below w.heap.size w w' := by
  by_cases h4 : 4 ≤ s.size
  · have HE := Lib.hid (endsB_long s h4)
    go_enter Tryd.func46, Tryd.ntmps46
    go_wp2_with fail
    refine (seal_any _ _ (by rw [ByteArray.size_extract]; omega)).mono ?_
    rintro e w1 ⟨rfl, hb⟩
    go_wp2
    go_ret
    exact ⟨ret_b HE.out.symm, hb⟩
  · have HE := Lib.hid (endsB_short s h4)
    go_enter Tryd.func46, Tryd.ntmps46
    go_wp2
    go_ret
    exact ⟨ret_b HE.out.symm, Below.refl _ _⟩
set_option maxHeartbeats 400000 in
theorem rends_any (s : ByteArray) (w : World) (hs : s.size ≤ 100000) :
    Calls Tryd.prog 52 #[.string s] w fun e w' => e = .returned (.bool (endsB s)) ∧ Below w.heap.size w w' := by
  by_cases h4 : 4 ≤ s.size
  · have HE := Lib.hid (endsB_ref s h4)
    have q1 : (4 : Int) ≤ (s.size : Int) := by omega
    have qb : decide ((4 : Int) ≤ (s.size : Int)) = true := decide_eq_true q1
    have q3 : (s.size : Int) - 4 ≤ (s.size : Int) := by omega
    have q4 : IntKind.i64.wrap ((s.size : Int) - 4) = (s.size : Int) - 4 := IntWalk.i64_in _ (by omega)
    have q5 : ((s.size : Int) - 4).toNat = s.size - 4 := by omega
    have CO : ∀ W : World, Calls Tryd.prog 87 #[.string (s.extract 0 (s.size - 4))] W fun e w' => e = .returned (.int .u32 (moreN 0 (s.data.toList.take (s.size - 4)) : Nat)) ∧ Below W.heap.size W w' := fun W =>
      (rof_any _ W (by rw [ByteArray.size_extract]; omega)).mono (by
        rintro e w' ⟨rfl, rfl⟩
        exact ⟨by rw [Lib.extract_data]; simp, Below.refl _ _⟩)
    have HO := Lib.hid CO
    clear CO
    go_enter Tryd.func52, Tryd.ntmps52
    go_wp2
    refine wp_region_quiet_below (by kernel_rfl) (by kernel_rfl) ?_
    repeat (first | go_big_quiet_step ((first | exact Calls.regrown_of (HO.out _) | exact Calls.regrown_of (rbytes_any _ _ (moreN_lt (by omega) _)))) | quiet_step ((first | exact Calls.regrown_of (HO.out _) | exact Calls.regrown_of (rbytes_any _ _ (moreN_lt (by omega) _)))))
    refine wpQuiet_nil ?_
    intro _ hw'
    obtain ⟨⟨dq, osq⟩, hw''⟩ := hw'
    subst hw''
    go_wp2
    go_ret
    exact ⟨ret_b HE.out, below_regrown w dq osq⟩
  · have HE := Lib.hid (endsB_short s h4)
    have qb : decide ((4 : Int) ≤ (s.size : Int)) = false := decide_eq_false (by omega)
    have q4 : IntKind.i64.wrap ((s.size : Int) - 4) = (s.size : Int) - 4 := IntWalk.i64_in _ (by omega)
    go_enter Tryd.func52, Tryd.ntmps52
    go_wp2
    go_quiet (fail)
    go_wp2
    go_ret
    exact ⟨ret_b HE.out.symm, Joins.below_draws _ _ _⟩
end Go.Proofs.YtofpefbnkmeokaaDoor
