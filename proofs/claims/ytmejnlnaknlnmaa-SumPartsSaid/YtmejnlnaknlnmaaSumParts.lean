/- The law SumParts returns true for every input: a text's sum can be taken in two parts; what is sealed ends with its sum.
   Conditions: none beyond the row's own. -/
import Derived.Test.YtmejnlnaknlnmaaSumWorks
import Derived.Test.YtmejnlnaknlnmaaFrame
namespace Go.Proofs.Ytmejnlnaknlnmaa.lawSumParts
open Go.ChangeShapes Go.WideShapes Go.ChangeAt Go.RowKit
open Go.ChangeMaps (open_string shut_string)
set_option linter.unusedVariables false
theorem wrap_u64_id (p : Int) (h0 : 0 ≤ p) (h1 : p ≤ 100000) : IntKind.u64.wrap p = p := by rw [IntKind.wrap_u64]; omega
theorem wrap_i64_id (p : Int) (h0 : 0 ≤ p) (h1 : p ≤ 100000) : IntKind.i64.wrap p = p := by rw [IntKind.wrap_i64]; omega
set_option maxHeartbeats 1600000 in
theorem walk (s : ByteArray) (n : Int) (w : World) (w0 : s.size ≤ maxLen) (w1 : (Lit.int .i64 n).wf = true) :
    Calls Try.prog 8 #[.string s, .int .i64 n] w fun e w' => e = .returned (.bool true) ∧ Below w.heap.size w w' := by
  clear w1
  unfold maxLen at w0
  by_cases hs : s.size ≤ 3000
  · have hs2 : ¬ (3000 < (s.size : Int)) := by omega
    have hs3 : s.size ≤ 100000 := by omega
    obtain ⟨un, hun⟩ : ∃ u, IntKind.u64.wrap n = u := ⟨_, rfl⟩
    have gn : 0 ≤ un := by rw [← hun, IntKind.wrap_u64]; omega
    have hm0 : 0 ≤ un % ((s.size : Int) + 1) := Int.emod_nonneg _ (by omega)
    have hm1 : un % ((s.size : Int) + 1) < (s.size : Int) + 1 := Int.emod_lt_of_pos _ (by omega)
    obtain ⟨k, hk⟩ := Int.eq_ofNat_of_zero_le hm0
    have hk1 : (k : Int) ≤ (s.size : Int) := by omega
    have hk2 : (0 : Int) ≤ (k : Int) := by omega
    have hk3 : k ≤ s.size := by omega
    clear hm0 hm1
    obtain ⟨t, ht⟩ : ∃ t : ByteArray, s ++ sumStr (moreN 0 s.data.toList) = t := ⟨_, rfl⟩
    have htz : t.size = s.size + 4 := by rw [← ht, ByteArray.size_append, sumStr_size]
    have hte : endsB t = true := by rw [← ht]; exact endsB_seal s
    have htx : ((t.extract 0 s.size).toList == s.toList) = true := by
      rw [beq_iff_eq, ByteArray.toList_eq, ByteArray.toList_eq, Lib.extract_data, ← ht, append_data]
      simp only [List.drop_zero, Nat.sub_zero]
      rw [show s.size = s.data.toList.length by rw [size_len], List.take_left]
    have C1 : ∀ W : World, Calls Try.prog 40 #[.string s] W fun e w' => e = .returned (.string t) ∧ Below W.heap.size W w' := fun W =>
      (seal_any _ W hs3).mono (by rintro e w' ⟨rfl, hb⟩; exact ⟨by rw [ht], hb⟩)
    have C2 : ∀ W : World, Calls Try.prog 38 #[.string t] W fun e w' => e = .returned (.bool true) ∧ Below W.heap.size W w' := fun W =>
      (ends_any _ W (by omega)).mono (by rintro e w' ⟨rfl, hb⟩; exact ⟨ret_b hte, hb⟩)
    obtain ⟨x, hx⟩ : ∃ x : Nat, moreN 0 s.data.toList = x := ⟨_, rfl⟩
    obtain ⟨y, hy⟩ : ∃ y : Nat, moreN 0 (s.data.toList.take k) = y := ⟨_, rfl⟩
    have hyl : y < 4294967296 := by rw [← hy]; exact moreN_lt (by omega) _
    have C3 : ∀ W : World, Calls Try.prog 32 #[.string s] W fun e w' => e = .returned (.int .u32 (x : Int)) ∧ Below W.heap.size W w' := fun W =>
      (of_any _ W hs3).mono (by rintro e w' ⟨rfl, rfl⟩; exact ⟨by rw [hx], Below.refl _ _⟩)
    have C4 : ∀ W : World, Calls Try.prog 32 #[.string (s.extract 0 k)] W fun e w' => e = .returned (.int .u32 (y : Int)) ∧ Below W.heap.size W w' := fun W =>
      (of_any _ W (by rw [ByteArray.size_extract]; omega)).mono (by rintro e w' ⟨rfl, rfl⟩; exact ⟨by rw [Lib.extract_data, List.drop_zero, Nat.sub_zero, hy], Below.refl _ _⟩)
    have C5 : ∀ W : World, Calls Try.prog 34 #[.int .u32 (y : Int), .string (s.extract k s.size)] W fun e w' => e = .returned (.int .u32 (x : Int)) ∧ Below W.heap.size W w' := fun W =>
      (more_any y _ W hyl (by rw [ByteArray.size_extract]; omega)).mono (by
        rintro e w' ⟨rfl, rfl⟩
        exact ⟨by rw [Lib.extract_to_end, ← hy, ← moreN_append, List.take_append_drop, hx], Below.refl _ _⟩)
    have D1 := Lib.hid C1
    have D2 := Lib.hid C2
    have D3 := Lib.hid C3
    have D4 := Lib.hid C4
    have D5 := Lib.hid C5
    clear C1 C2 C3 C4 C5 ht hte hx hy hyl
    have e1 := wrap_u64_id ((s.size : Int) + 1) (by omega) (by omega)
    have e2 := wrap_i64_id (k : Int) (by omega) (by omega)
    go_enter Try.func8, Try.ntmps8
    go_wp2_with fail
    refine (sworks _).mono ?_; rintro e w1 ⟨rfl, b1⟩
    go_wp2_with fail
    refine (D1.out _).mono ?_; rintro e w2 ⟨rfl, b2⟩
    have g2 := b1.trans (b2.mono b1.size)
    go_wp2_with fail

    have hq : ((s.size : Int) + 4 == (s.size : Int) + 4) = true := by simp
    refine wp_region_quiet_below (by kernel_rfl) (by kernel_rfl) ?_
    repeat (first | go_big_quiet_step ((first | exact Calls.regrown_of (D4.out _) | exact Calls.regrown_of (D5.out _) | exact Calls.regrown_of (D3.out _) | exact Calls.regrown_of (D2.out _))) | quiet_step ((first | exact Calls.regrown_of (D4.out _) | exact Calls.regrown_of (D5.out _) | exact Calls.regrown_of (D3.out _) | exact Calls.regrown_of (D2.out _))))
    refine wpQuiet_nil ?_
    intro _ hw'
    obtain ⟨⟨dq, osq⟩, hw''⟩ := hw'
    subst hw''
    go_wp2
    go_ret
    exact ⟨rfl, g2.trans ((below_regrown w2 dq osq).mono g2.size)⟩
  · have hs2 : 3000 < (s.size : Int) := by omega
    go_enter Try.func8, Try.ntmps8
    go_wp2_with fail
    refine (sworks _).mono ?_; rintro e w1 ⟨rfl, b1⟩
    go_wp2
    go_ret
    exact ⟨rfl, b1⟩
set_option maxRecDepth 100000 in
theorem lifted (os : Os) (started : os.Started) (H : Type) (enc : TypeId × Value → H) :
    ReturnsInHanded {} Try.checked os 8 .any (Rows.sumPartsSpec.pre6 enc Try.prog Try.f8 Rows.sumPartsRow.domain false) (Rows.sumPartsSpec.post enc Try.prog Try.f8 false true false false) := by
  refine returnsInHanded_of_change (C := Try.checked) own started (by kernel_rfl) Try.func8
    (ChangeSpec.witness6 (enc := enc) (C := Try.checked) false ⟨#[], #[.string ⟨#[]⟩, .int .i64 0], []⟩ 8 (by kernel_rfl) (by kernel_rfl) (by kernel_rfl) (by kernel_rfl)) ?_
  intro W base args ds gs before hval0 hW hcnd _
  have hval : ∀ (j : Nat) t v, Try.f8.params[j]? = some t → args[j]? = some v → Value.okWide Try.prog W .any base t v := hval0
  have hW' := hW
  obtain ⟨p, q, hA0, hV, rfl, hfz, hnd⟩ := hW
  have hA : DataW.TrodAll enc Try.prog W 0 (fun _ => true) true Try.f8.params.toList args.toList ds p := hA0
  rw [Try.params8] at hA hval
  obtain ⟨v0, vs0, d0, ds0, p0, q0, hargs, rfl, rfl, h0, r0⟩ := trodAll_cons hA
  obtain ⟨v1, vs1, d1, ds1, p1, q1, rfl, rfl, rfl, h1, r1⟩ := trodAll_cons r0
  obtain ⟨rfl, rfl, rfl⟩ := trodAll_nil r1
  obtain rfl : args = #[v0, v1] := by cases args; simp_all
  obtain ⟨rfl, rfl⟩ := trodVars_none hV
  have k0 := h0
  have lt0 : ∀ x ∈ p0, x.block < W.heap.size := by obtain ⟨m, hm⟩ := k0; exact DataW.trod_lt m _ _ _ hm
  obtain ⟨a0, rfl, ed0, rfl, w0⟩ := open_string Try.underlying9 (hval 0 9 v0 rfl rfl) h0
  have k1 := h1
  have lt1 : ∀ x ∈ p1, x.block < W.heap.size := by obtain ⟨m, hm⟩ := k1; exact DataW.trod_lt m _ _ _ hm
  obtain ⟨a1, rfl, ed1, rfl, w1⟩ := open_int Try.underlying3 (hval 1 3 v1 rfl rfl) h1
  clear hA0 hval0
  refine (walk a0 a1 W w0 w1).mono fun e W' ⟨he, bel⟩ => ?_
  subst he
  exact ⟨_, rfl, _, _, _, [], _, [], hW', trodAll_mk1 (shut_bool Try.underlying4 _), (trodAll_cons_mk (Below.trod laidOut (by kernel_rfl) (of_decide_eq_true (by kernel_rfl)) k0 bel lt0) (trodAll_cons_mk (Below.trod laidOut (by kernel_rfl) (of_decide_eq_true (by kernel_rfl)) k1 bel lt1) trodAll_mk0)), rfl, bel.frame _, fun h => by cases h⟩
theorem over : Rows.sumPartsRow.holds Try.pinned (OpenSpec.ofChange Rows.sumPartsSpec) :=
  OpenClaim.holds_of_wide 8 Try.f8 rfl rfl rfl rfl rfl rfl rfl ⟨rfl, rfl, rfl, rfl, rfl⟩ rfl rfl rfl rfl rfl (by kernel_rfl) Try.func8 (by kernel_rfl)
    (of_decide_eq_true (by kernel_rfl)) (by unfold Func.isWrapper; first | (rw [if_pos (by decide +kernel)]; kernel_rfl) | (rw [if_neg (by decide +kernel)]; exact ⟨rfl, rfl⟩))
    (fun os started H enc _ => lifted os started H enc)
theorem proved : Rows.SumPartsSaid := over
#print axioms proved
end Go.Proofs.Ytmejnlnaknlnmaa.lawSumParts
