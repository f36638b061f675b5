/- The law OctetOrder returns true for every input: numbers' bytes stand in the order of the numbers.
   Conditions: none beyond the row's own. -/
import Derived.Test.YtenlcdcogiagdaaDoorOctWorks
import Derived.Test.YtenlcdcogiagdaaDoorFrame
import Derived.Test.YtenlcdcogiagdaaDoorDoor
namespace Go.Proofs.YtenlcdcogiagdaaDoor.lawOctetOrder
open Go.ChangeShapes Go.WideShapes Go.ChangeAt Go.RowKit
open Go.ChangeMaps (open_string shut_string)
set_option linter.unusedVariables false
theorem less_eq (a b : Int) (a0 : 0 ≤ a) (a1 : a ≤ 18446744073709551615) (b0 : 0 ≤ b) (b1 : b ≤ 18446744073709551615) : Op.bytesLess (numN a.toNat).toList (numN b.toNat).toList = decide (a < b) := by
  rw [ByteArray.toList_eq, ByteArray.toList_eq, numN_data, numN_data, num_less _ _ (by show a.toNat < 18446744073709551616; omega) (by show b.toNat < 18446744073709551616; omega)]
  rw [decide_eq_decide]; omega
theorem same_eq (a b : Int) (a0 : 0 ≤ a) (a1 : a ≤ 18446744073709551615) (b0 : 0 ≤ b) (b1 : b ≤ 18446744073709551615) : ((numN a.toNat).toList == (numN b.toNat).toList) = (a == b) := by
  rw [ByteArray.toList_eq, ByteArray.toList_eq, numN_data, numN_data, Bool.eq_iff_iff, beq_iff_eq, beq_iff_eq]
  constructor
  · intro h
    have := numB_inj (by show a.toNat < 18446744073709551616; omega) (by show b.toNat < 18446744073709551616; omega) h
    omega
  · rintro rfl; rfl
set_option maxHeartbeats 1600000 in
theorem walk (a b : Int) (w : World) (w0 : (Lit.int .u64 a).wf = true) (w1 : (Lit.int .u64 b).wf = true) (hg : ET w) :
    Calls Tryd.prog 5 #[.int .u64 a, .int .u64 b] w fun e w' => e = .returned (.bool true) ∧ Below w.heap.size w w' := by
  obtain ⟨g1, g2⟩ := wf_u64 w0
  obtain ⟨g3, g4⟩ := wf_u64 w1
  obtain ⟨s, hs1, hs2⟩ : ∃ s, decide (a < b) = s ∧ Op.bytesLess (numN a.toNat).toList (numN b.toNat).toList = s := ⟨_, rfl, less_eq a b g1 g2 g3 g4⟩
  obtain ⟨t, ht1, ht2⟩ : ∃ t, (a == b) = t ∧ ((numN a.toNat).toList == (numN b.toNat).toList) = t := ⟨_, rfl, same_eq a b g1 g2 g3 g4⟩
  have D1 := Lib.hid (fun W => onum a W g1 g2)
  have D2 := Lib.hid (fun W => onum b W g3 g4)
  obtain ⟨x, hx⟩ : ∃ x, numN a.toNat = x := ⟨_, rfl⟩
  obtain ⟨y, hy⟩ : ∃ y, numN b.toNat = y := ⟨_, rfl⟩
  rw [hx] at D1 hs2 ht2
  rw [hy] at D2 hs2 ht2
  have D0 := Lib.hid (oworks w hg)
  clear g1 g2 g3 g4 w0 w1 hx hy hg
  go_enter Tryd.func5, Tryd.ntmps5
  go_wp2_with fail
  refine D0.out.mono ?_; rintro e w1 ⟨rfl, b1⟩
  go_wp2_with fail
  refine (D1.out _).mono ?_; rintro e w2 ⟨rfl, b2⟩
  have h2 := b1.trans (b2.mono b1.size)
  clear b1 b2
  go_wp2_with fail
  refine (D2.out _).mono ?_; rintro e w3 ⟨rfl, b3⟩
  have h3 := h2.trans (b3.mono h2.size)
  clear b3 h2
  go_wp2_with fail
  refine (D1.out _).mono ?_; rintro e w4 ⟨rfl, b4⟩
  have h4 := h3.trans (b4.mono h3.size)
  clear b4 h3
  go_wp2_with fail
  refine (D2.out _).mono ?_; rintro e w5 ⟨rfl, b5⟩
  have h5 := h4.trans (b5.mono h4.size)
  clear b5 h4
  go_wp2
  go_ret
  exact ⟨rfl, h5⟩
set_option maxRecDepth 100000 in
theorem lifted (os : Os) (started : os.Started) (H : Type) (enc : TypeId × Value → H) :
    ReturnsInHanded {} Tryd.checked os 5 .any (fun w args => (Rows.octetOrderSpec.pre enc Tryd.prog Tryd.f5 [] false w args ∧ laidMetH Tryd.prog laidL w) ∧ sizedMet enc Tryd.prog Tryd.f5 (OpenSpec.ofChange Rows.octetOrderSpec) false w args) (Rows.octetOrderSpec.post enc Tryd.prog Tryd.f5 false true false false) := by
  refine returnsInHanded_of_change_and (C := Tryd.checked) (X := fun w _ => laidMetH Tryd.prog laidL w) (fun _ _ _ hh h => h.of_heap hh) own started (by kernel_rfl) Tryd.func5
    (ChangeSpec.witness_at (enc := enc) (C := Tryd.checked) (os := os) (X := fun w _ => laidMetH Tryd.prog laidL w) false (laidWorld os) #[.int .u64 0, .int .u64 0] 8 rfl (by kernel_rfl) (by kernel_rfl) (by kernel_rfl) (by kernel_rfl) (by kernel_rfl) (laidWorld_met os _)) ?_
  intro W base args ds gs before hval0 hW hcnd _ hL _
  have hval : ∀ (j : Nat) t v, Tryd.f5.params[j]? = some t → args[j]? = some v → Value.okWide Tryd.prog W .any base t v := hval0
  have hW' := hW
  obtain ⟨p, q, hA0, hV, rfl, hfz, hnd⟩ := hW
  have hA : DataW.TrodAll enc Tryd.prog W 0 (fun _ => true) true Tryd.f5.params.toList args.toList ds p := hA0
  rw [Tryd.params5] at hA hval
  obtain ⟨v0, vs0, d0, ds0, p0, q0, hargs, rfl, rfl, h0, r0⟩ := trodAll_cons hA
  obtain ⟨v1, vs1, d1, ds1, p1, q1, rfl, rfl, rfl, h1, r1⟩ := trodAll_cons r0
  obtain ⟨rfl, rfl, rfl⟩ := trodAll_nil r1
  obtain rfl : args = #[v0, v1] := by cases args; simp_all
  obtain ⟨rfl, rfl⟩ := trodVars_none hV
  have k0 := h0
  have lt0 : ∀ x ∈ p0, x.block < W.heap.size := by obtain ⟨m, hm⟩ := k0; exact DataW.trod_lt m _ _ _ hm
  obtain ⟨a0, rfl, ed0, rfl, w0⟩ := open_int Tryd.underlying33 (hval 0 33 v0 rfl rfl) h0
  have k1 := h1
  have lt1 : ∀ x ∈ p1, x.block < W.heap.size := by obtain ⟨m, hm⟩ := k1; exact DataW.trod_lt m _ _ _ hm
  obtain ⟨a1, rfl, ed1, rfl, w1⟩ := open_int Tryd.underlying33 (hval 1 33 v1 rfl rfl) h1
  clear hA0 hval0
  have hg := handle_of_laid hL
  refine (walk a0 a1 W w0 w1 hg).mono fun e W' ⟨he, bel⟩ => ?_
  subst he
  exact ⟨_, rfl, _, _, _, [], _, [], hW', trodAll_mk1 (shut_bool Tryd.underlying4 _), (trodAll_cons_mk (Below.trod laidOut (by kernel_rfl) (of_decide_eq_true (by kernel_rfl)) k0 bel lt0) (trodAll_cons_mk (Below.trod laidOut (by kernel_rfl) (of_decide_eq_true (by kernel_rfl)) k1 bel lt1) trodAll_mk0)), rfl, bel.frame _, fun h => by cases h⟩
theorem over : Rows.octetOrderRow.holds Tryd.pinned (OpenSpec.ofChange Rows.octetOrderSpec) :=
  OpenClaim.holds_of_wide 5 Tryd.f5 rfl rfl rfl rfl rfl rfl rfl ⟨rfl, rfl, rfl, rfl, rfl⟩ rfl rfl rfl rfl rfl (by kernel_rfl) Tryd.func5 (by kernel_rfl)
    (of_decide_eq_true (by kernel_rfl)) (by unfold Func.isWrapper; first | (rw [if_pos (by decide +kernel)]; kernel_rfl) | (rw [if_neg (by decide +kernel)]; exact ⟨rfl, rfl⟩))
    (fun os started H enc _ => lifted os started H enc)
set_option maxRecDepth 100000 in
theorem proved : Rows.OctetOrderCardSaid :=
  Claim7.holds_tied_plain_at .later [] [.handle] true (true, "5dff801f1d23b17b57b0468a6d7ee1696a7011d53c8452f6898cbad9b38e4afd") true over (fun _ h => by cases h) (by kernel_rfl) (fun _ h => by cases h) octetOrder_row_tie rfl ⟨rfl, rfl⟩ (by kernel_rfl) rfl
    (fun f fn hf hfn => by
      obtain rfl : f = 5 := Option.some.inj ((show Tryd.prog.funcNamed "selkie/selkielaw02.OctetOrder" = some 5 by kernel_rfl).symm.trans hf) |>.symm
      obtain rfl : fn = Tryd.f5 := (Option.some.inj (Tryd.func5.symm.trans hfn)).symm
      exact ⟨by kernel_rfl, fun j t ht => by
        rw [Tryd.params5] at ht
        match j, ht with
        | 0, ht => (have e : t = 33 := by simpa using ht.symm); subst e; exact (show Tryd.prog.wantsStandIn 33 = false by kernel_rfl)
        | 1, ht => (have e : t = 33 := by simpa using ht.symm); subst e; exact (show Tryd.prog.wantsStandIn 33 = false by kernel_rfl)
        | j + 2, ht => simp at ht⟩)
    (by kernel_rfl)
#print axioms proved
end Go.Proofs.YtenlcdcogiagdaaDoor.lawOctetOrder
