/- The law OctetOne returns true for every input: bytes that are read as a number are those that it is written as.
   Conditions: none beyond the row's own. -/
import Derived.Test.YtenlcdcogiagdaaDoorOctWorks
import Derived.Test.YtenlcdcogiagdaaDoorReadLaw
import Derived.Test.YtenlcdcogiagdaaDoorFrame
import Derived.Test.YtenlcdcogiagdaaDoorDoor
namespace Go.Proofs.YtenlcdcogiagdaaDoor.lawOctetOne
open Go.ChangeShapes Go.WideShapes Go.ChangeAt Go.RowKit
open Go.ChangeMaps (open_string shut_string)
set_option linter.unusedVariables false
theorem one_way (s : ByteArray) (h : rdF none s 0 0 = 0) : ((numN (rdV none s 0 0)).toList == (s.extract 0 (rdP none s 0 0)).toList) = true := by
  have h3 : rdE none (rest s 0) = 0 := by unfold rdF at h; rw [if_pos rfl] at h; omega
  obtain ⟨g1, g2, g3, g4⟩ := rd_good (fa := 0) h3
  rw [g1, g2, beq_iff_eq, ByteArray.toList_eq, ByteArray.toList_eq, numN_data, num_of_at (rdE_zero h3), Lib.extract_data]
  simp [rest]
set_option maxHeartbeats 1600000 in
theorem walk (s : ByteArray) (w : World) (w0 : s.size ≤ maxLen) (hg : ET w) :
    Calls Tryd.prog 6 #[.string s] w fun e w' => e = .returned (.bool true) ∧ Below w.heap.size w w' := by
  unfold maxLen at w0
  have D0 := Lib.hid (oworks w hg)
  by_cases hs : s.size ≤ 2000
  · have hs2 : ¬ (2000 < (s.size : Int)) := by omega
    have hp := rdP_le (lim := none) (s := s) (p := 0) (fe := 0) (Nat.zero_le _)
    have hv := rdV_lt none s 0 0
    by_cases hF : rdF none s 0 0 = 0
    · have h1 := one_way s hF
      have hA : rdA none s 0 0 0 = 0 := (rd_good (fa := 0) (lim := none) (s := s) (p := 0) (by unfold rdF at hF; rw [if_pos rfl] at hF; omega)).2.2.1
      have D1 := Lib.hid (fun b W h => onumr b s 0 0 0 W (by omega) h)
      rw [hF, hA] at D1
      obtain ⟨v, hv2⟩ : ∃ v, rdV none s 0 0 = v := ⟨_, rfl⟩
      obtain ⟨p1, hp1⟩ : ∃ p, rdP none s 0 0 = p := ⟨_, rfl⟩
      rw [hv2] at D1 h1 hv
      rw [hp1] at D1 h1 hp
      have q1 : decide ((0 : Int) ≤ (p1 : Int)) = true := decide_eq_true (by omega)
      have q2 : decide ((p1 : Int) ≤ (s.size : Int)) = true := decide_eq_true (by omega)
      have q3 : decide (p1 ≤ s.size) = true := decide_eq_true hp
      have q4 : IntKind.i64.wrap ((s.size : Int) - (p1 : Int)) = (s.size : Int) - (p1 : Int) := IntWalk.i64_in _ (by omega)
      have q5 : (p1 : Int) ≤ (s.size : Int) := by omega
      have q6 : (0 : Int) ≤ (p1 : Int) := by omega
      have q7 : (((s.size : Int) - (p1 : Int)) == ((s.size : Int) - (p1 : Int))) = true := by simp
      have D2 := Lib.hid (fun W => onum (v : Int) W (by omega) (by omega))
      rw [Int.toNat_natCast] at D2
      clear hv2 hp1 hF hA hv hg
      go_enter Tryd.func6, Tryd.ntmps6
      go_wp2_with fail
      refine D0.out.mono ?_; rintro e w1 ⟨rfl, b1⟩
      have H1 := Lib.hid b1
      clear b1
      go_wp2_with fail
      refine (new_any _ _).mono ?_; rintro e w2 ⟨rfl, hr2, b2⟩
      have HR2 := Lib.hid hr2
      have H2 := Lib.hid (H1.out.trans (b2.mono H1.out.size))
      have hq1 : w.heap.size ≤ w1.heap.size := H1.out.size
      clear hr2 b2
      go_wp2_with fail
      refine (D1.out _ _ HR2.out).mono ?_; rintro e w3 ⟨rfl, hr3, g3⟩
      have HR3 := Lib.hid hr3
      have H3 := Lib.hid (below_only H2.out g3 hq1 H2.out.size)
      clear hr3 g3
      go_wp2_with fail
      obtain ⟨ev, hev, hec⟩ := oerr _ _ _ _ _ w3 HR3.out
      obtain ⟨-, rfl⟩ := ev_nil hev
      refine hec.mono ?_; rintro e w4 ⟨rfl, rfl⟩
      clear hec hev
      go_wp2_with fail
      refine (oat _ _ _ _ _ w3 HR3.out).mono ?_; rintro e w4 ⟨rfl, rfl⟩
      go_wp2_with fail
      refine wp_region_quiet_below (by kernel_rfl) (by kernel_rfl) ?_
      repeat (first | go_big_quiet_step ((first | exact Calls.regrown_of (oleft _ _ _ _ _ _ (by omega) (HR3.out.keep (below_regrown _ _ _))) | exact Calls.regrown_of (D2.out _))) | quiet_step ((first | exact Calls.regrown_of (oleft _ _ _ _ _ _ (by omega) (HR3.out.keep (below_regrown _ _ _))) | exact Calls.regrown_of (D2.out _))))
      refine wpQuiet_nil ?_
      intro _ hw'
      obtain ⟨⟨dq, osq⟩, hw''⟩ := hw'
      subst hw''
      go_wp2
      go_ret
      exact ⟨rfl, H3.out.trans ((below_regrown w3 dq osq).mono H3.out.size)⟩
    · have D1 := Lib.hid (fun b W h => onumr b s 0 0 0 W (by omega) h)
      have hE : ¬ rdE none (rest s 0) = 0 := by intro e; unfold rdF at hF; rw [if_pos rfl, e] at hF; exact hF rfl
      obtain ⟨k1, k2, k3, k4⟩ := rd_bad (fa := 0) hE
      rw [k1, k2] at D1
      obtain ⟨a1, ha1⟩ : ∃ a, rdA none s 0 0 0 = a := ⟨_, rfl⟩
      obtain ⟨f1, hf1⟩ : ∃ a, rdF none s 0 0 = a := ⟨_, rfl⟩
      rw [ha1, hf1] at D1
      rw [hf1] at hF
      have HF := Lib.hid hF
      clear k1 k2 k3 k4 ha1 hf1 hE hF hp hv hg
      go_enter Tryd.func6, Tryd.ntmps6
      go_wp2_with fail
      refine D0.out.mono ?_; rintro e w1 ⟨rfl, b1⟩
      have H1 := Lib.hid b1
      clear b1
      go_wp2_with fail
      refine (new_any _ _).mono ?_; rintro e w2 ⟨rfl, hr2, b2⟩
      have HR2 := Lib.hid hr2
      have H2 := Lib.hid (H1.out.trans (b2.mono H1.out.size))
      have hq1 : w.heap.size ≤ w1.heap.size := H1.out.size
      clear hr2 b2
      go_wp2_with fail
      refine (D1.out _ _ HR2.out).mono ?_; rintro e w3 ⟨rfl, hr3, g3⟩
      have HR3 := Lib.hid hr3
      have H3 := Lib.hid (below_only H2.out g3 hq1 H2.out.size)
      clear hr3 g3
      go_wp2_with fail
      obtain ⟨ev, hev, hec⟩ := oerr _ _ _ _ _ w3 HR3.out
      obtain ⟨fb, rfl⟩ := ev_some hev HF.out
      refine hec.mono ?_; rintro e w4 ⟨rfl, rfl⟩
      clear hec hev
      go_wp2_with fail
      refine (oleft _ _ _ _ _ w3 (by omega) HR3.out).mono ?_; rintro e w4 ⟨rfl, b4⟩
      go_wp2
      go_ret
      exact ⟨rfl, H3.out.trans (b4.mono H3.out.size)⟩
  · have hs2 : 2000 < (s.size : Int) := by omega
    clear hg
    go_enter Tryd.func6, Tryd.ntmps6
    go_wp2_with fail
    refine D0.out.mono ?_; rintro e w1 ⟨rfl, b1⟩
    go_wp2
    go_ret
    exact ⟨rfl, b1⟩
set_option maxRecDepth 100000 in
theorem lifted (os : Os) (started : os.Started) (H : Type) (enc : TypeId × Value → H) :
    ReturnsInHanded {} Tryd.checked os 6 .any (fun w args => (Rows.octetOneSpec.pre enc Tryd.prog Tryd.f6 [] false w args ∧ laidMetH Tryd.prog laidL w) ∧ sizedMet enc Tryd.prog Tryd.f6 (OpenSpec.ofChange Rows.octetOneSpec) false w args) (Rows.octetOneSpec.post enc Tryd.prog Tryd.f6 false true false false) := by
  refine returnsInHanded_of_change_and (C := Tryd.checked) (X := fun w _ => laidMetH Tryd.prog laidL w) (fun _ _ _ hh h => h.of_heap hh) own started (by kernel_rfl) Tryd.func6
    (ChangeSpec.witness_at (enc := enc) (C := Tryd.checked) (os := os) (X := fun w _ => laidMetH Tryd.prog laidL w) false (laidWorld os) #[.string ⟨#[]⟩] 8 rfl (by kernel_rfl) (by kernel_rfl) (by kernel_rfl) (by kernel_rfl) (by kernel_rfl) (laidWorld_met os _)) ?_
  intro W base args ds gs before hval0 hW hcnd _ hL _
  have hval : ∀ (j : Nat) t v, Tryd.f6.params[j]? = some t → args[j]? = some v → Value.okWide Tryd.prog W .any base t v := hval0
  have hW' := hW
  obtain ⟨p, q, hA0, hV, rfl, hfz, hnd⟩ := hW
  have hA : DataW.TrodAll enc Tryd.prog W 0 (fun _ => true) true Tryd.f6.params.toList args.toList ds p := hA0
  rw [Tryd.params6] at hA hval
  obtain ⟨v0, vs0, d0, ds0, p0, q0, hargs, rfl, rfl, h0, r0⟩ := trodAll_cons hA
  obtain ⟨rfl, rfl, rfl⟩ := trodAll_nil r0
  obtain rfl : args = #[v0] := by cases args; simp_all
  obtain ⟨rfl, rfl⟩ := trodVars_none hV
  have k0 := h0
  have lt0 : ∀ x ∈ p0, x.block < W.heap.size := by obtain ⟨m, hm⟩ := k0; exact DataW.trod_lt m _ _ _ hm
  obtain ⟨a0, rfl, ed0, rfl, w0⟩ := open_string Tryd.underlying9 (hval 0 9 v0 rfl rfl) h0
  clear hA0 hval0
  have hg := handle_of_laid hL
  refine (walk a0 W w0 hg).mono fun e W' ⟨he, bel⟩ => ?_
  subst he
  exact ⟨_, rfl, _, _, _, [], _, [], hW', trodAll_mk1 (shut_bool Tryd.underlying4 _), (trodAll_cons_mk (Below.trod laidOut (by kernel_rfl) (of_decide_eq_true (by kernel_rfl)) k0 bel lt0) trodAll_mk0), rfl, bel.frame _, fun h => by cases h⟩
theorem over : Rows.octetOneRow.holds Tryd.pinned (OpenSpec.ofChange Rows.octetOneSpec) :=
  OpenClaim.holds_of_wide 6 Tryd.f6 rfl rfl rfl rfl rfl rfl rfl ⟨rfl, rfl, rfl, rfl, rfl⟩ rfl rfl rfl rfl rfl (by kernel_rfl) Tryd.func6 (by kernel_rfl)
    (of_decide_eq_true (by kernel_rfl)) (by unfold Func.isWrapper; first | (rw [if_pos (by decide +kernel)]; kernel_rfl) | (rw [if_neg (by decide +kernel)]; exact ⟨rfl, rfl⟩))
    (fun os started H enc _ => lifted os started H enc)
set_option maxRecDepth 100000 in
theorem proved : Rows.OctetOneCardSaid :=
  Claim7.holds_tied_plain_at .later [] [.handle] true (true, "5dff801f1d23b17b57b0468a6d7ee1696a7011d53c8452f6898cbad9b38e4afd") true over (fun _ h => by cases h) (by kernel_rfl) (fun _ h => by cases h) octetOne_row_tie rfl ⟨rfl, rfl⟩ (by kernel_rfl) rfl
    (fun f fn hf hfn => by
      obtain rfl : f = 6 := Option.some.inj ((show Tryd.prog.funcNamed "selkie/selkielaw02.OctetOne" = some 6 by kernel_rfl).symm.trans hf) |>.symm
      obtain rfl : fn = Tryd.f6 := (Option.some.inj (Tryd.func6.symm.trans hfn)).symm
      exact ⟨by kernel_rfl, fun j t ht => by
        rw [Tryd.params6] at ht
        match j, ht with
        | 0, ht => (have e : t = 9 := by simpa using ht.symm); subst e; exact (show Tryd.prog.wantsStandIn 9 = false by kernel_rfl)
        | j + 1, ht => simp at ht⟩)
    (by kernel_rfl)
#print axioms proved
end Go.Proofs.YtenlcdcogiagdaaDoor.lawOctetOne
