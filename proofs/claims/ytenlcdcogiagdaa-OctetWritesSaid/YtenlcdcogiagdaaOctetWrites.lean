/- The law OctetWrites returns true for every input: octet and the reference write the same bytes.
   Conditions: none beyond the row's own. -/
import Derived.Test.YtenlcdcogiagdaaOctSigned
import Derived.Test.YtenlcdcogiagdaaFrame
import Derived.Deep.QuietTactic
import Derived.BigQuiet
import Derived.Lib.QuietBelow
namespace Go.Proofs.Ytenlcdcogiagdaa.lawOctetWrites
open Go.ChangeShapes Go.WideShapes Go.ChangeAt Go.RowKit
open Go.ChangeMaps (open_string shut_string)
set_option linter.unusedVariables false
set_option maxHeartbeats 1600000 in
theorem walk (v s : Int) (t : ByteArray) (w : World) (w0 : (Lit.int .u64 v).wf = true) (w1 : (Lit.int .i64 s).wf = true) (w2 : t.size ≤ maxLen) :
    Calls Try.prog 3 #[.int .u64 v, .int .i64 s, .string t] w fun e w' => e = .returned (.bool true) ∧ Below w.heap.size w w' := by
  obtain ⟨g1, g2⟩ := wf_u64 w0
  obtain ⟨g3, g4⟩ := wf_i64 w1
  unfold maxLen at w2
  clear w0 w1
  by_cases ht : t.size ≤ 5000
  · have ht2 : ¬ (5000 < (t.size : Int)) := by omega
    have D1 := Lib.hid (fun W => onum v W g1 g2)
    have D2 := Lib.hid (fun W => rnum v W g1 g2)
    have D3 := Lib.hid (fun W => osigned s W g3 g4)
    have D4 := Lib.hid (fun W => rsigned s W g3 g4)
    have D5 := Lib.hid (fun W => otext t W (by omega))
    have D6 := Lib.hid (fun W => rtext t W (by omega))
    clear g1 g2 g3 g4
    go_enter Try.func3, Try.ntmps3
    go_wp2_with fail
    refine (D1.out _).mono ?_; rintro e w1 ⟨rfl, b1⟩
    have h1 := b1
    clear b1
    go_wp2_with fail
    refine (D2.out _).mono ?_; rintro e w2 ⟨rfl, b2⟩
    have h2 := h1.trans (b2.mono h1.size)
    clear b2 h1
    go_wp2_with fail
    refine (D3.out _).mono ?_; rintro e w3 ⟨rfl, b3⟩
    have h3 := h2.trans (b3.mono h2.size)
    clear b3 h2
    go_wp2_with fail
    refine (D4.out _).mono ?_; rintro e w4 ⟨rfl, b4⟩
    have h4 := h3.trans (b4.mono h3.size)
    clear b4 h3
    go_wp2_with fail
    refine (D5.out _).mono ?_; rintro e w5 ⟨rfl, b5⟩
    have h5 := h4.trans (b5.mono h4.size)
    clear b5 h4
    go_wp2_with fail
    refine (D6.out _).mono ?_; rintro e w6 ⟨rfl, b6⟩
    have h6 := h5.trans (b6.mono h5.size)
    clear b6 h5
    go_wp2
    go_ret
    exact ⟨rfl, h6⟩
  · have ht2 : 5000 < (t.size : Int) := by omega
    go_enter Try.func3, Try.ntmps3
    go_wp2
    go_ret
    exact ⟨rfl, Below.refl _ _⟩
set_option maxRecDepth 100000 in
theorem lifted (os : Os) (started : os.Started) (H : Type) (enc : TypeId × Value → H) :
    ReturnsInHanded {} Try.checked os 3 .any (Rows.octetWritesSpec.pre6 enc Try.prog Try.f3 Rows.octetWritesRow.domain false) (Rows.octetWritesSpec.post enc Try.prog Try.f3 false true false false) := by
  refine returnsInHanded_of_change (C := Try.checked) own started (by kernel_rfl) Try.func3
    (ChangeSpec.witness6 (enc := enc) (C := Try.checked) false ⟨#[], #[.int .u64 0, .int .i64 0, .string ⟨#[]⟩], []⟩ 8 (by kernel_rfl) (by kernel_rfl) (by kernel_rfl) (by kernel_rfl)) ?_
  intro W base args ds gs before hval0 hW hcnd _
  have hval : ∀ (j : Nat) t v, Try.f3.params[j]? = some t → args[j]? = some v → Value.okWide Try.prog W .any base t v := hval0
  have hW' := hW
  obtain ⟨p, q, hA0, hV, rfl, hfz, hnd⟩ := hW
  have hA : DataW.TrodAll enc Try.prog W 0 (fun _ => true) true Try.f3.params.toList args.toList ds p := hA0
  rw [Try.params3] at hA hval
  obtain ⟨v0, vs0, d0, ds0, p0, q0, hargs, rfl, rfl, h0, r0⟩ := trodAll_cons hA
  obtain ⟨v1, vs1, d1, ds1, p1, q1, rfl, rfl, rfl, h1, r1⟩ := trodAll_cons r0
  obtain ⟨v2, vs2, d2, ds2, p2, q2, rfl, rfl, rfl, h2, r2⟩ := trodAll_cons r1
  obtain ⟨rfl, rfl, rfl⟩ := trodAll_nil r2
  obtain rfl : args = #[v0, v1, v2] := by cases args; simp_all
  obtain ⟨rfl, rfl⟩ := trodVars_none hV
  have k0 := h0
  have lt0 : ∀ x ∈ p0, x.block < W.heap.size := by obtain ⟨m, hm⟩ := k0; exact DataW.trod_lt m _ _ _ hm
  obtain ⟨a0, rfl, ed0, rfl, w0⟩ := open_int Try.underlying22 (hval 0 22 v0 rfl rfl) h0
  have k1 := h1
  have lt1 : ∀ x ∈ p1, x.block < W.heap.size := by obtain ⟨m, hm⟩ := k1; exact DataW.trod_lt m _ _ _ hm
  obtain ⟨a1, rfl, ed1, rfl, w1⟩ := open_int Try.underlying2 (hval 1 2 v1 rfl rfl) h1
  have k2 := h2
  have lt2 : ∀ x ∈ p2, x.block < W.heap.size := by obtain ⟨m, hm⟩ := k2; exact DataW.trod_lt m _ _ _ hm
  obtain ⟨a2, rfl, ed2, rfl, w2⟩ := open_string Try.underlying9 (hval 2 9 v2 rfl rfl) h2
  clear hA0 hval0
  refine (walk a0 a1 a2 W w0 w1 w2).mono fun e W' ⟨he, bel⟩ => ?_
  subst he
  exact ⟨_, rfl, _, _, _, [], _, [], hW', trodAll_mk1 (shut_bool Try.underlying4 _), (trodAll_cons_mk (Below.trod laidOut (by kernel_rfl) (of_decide_eq_true (by kernel_rfl)) k0 bel lt0) (trodAll_cons_mk (Below.trod laidOut (by kernel_rfl) (of_decide_eq_true (by kernel_rfl)) k1 bel lt1) (trodAll_cons_mk (Below.trod laidOut (by kernel_rfl) (of_decide_eq_true (by kernel_rfl)) k2 bel lt2) trodAll_mk0))), rfl, bel.frame _, fun h => by cases h⟩
theorem over : Rows.octetWritesRow.holds Try.pinned (OpenSpec.ofChange Rows.octetWritesSpec) :=
  OpenClaim.holds_of_wide 3 Try.f3 rfl rfl rfl rfl rfl rfl rfl ⟨rfl, rfl, rfl, rfl, rfl⟩ rfl rfl rfl rfl rfl (by kernel_rfl) Try.func3 (by kernel_rfl)
    (of_decide_eq_true (by kernel_rfl)) (by unfold Func.isWrapper; first | (rw [if_pos (by decide +kernel)]; kernel_rfl) | (rw [if_neg (by decide +kernel)]; exact ⟨rfl, rfl⟩))
    (fun os started H enc _ => lifted os started H enc)
theorem proved : Rows.OctetWritesSaid := over
#print axioms proved
end Go.Proofs.Ytenlcdcogiagdaa.lawOctetWrites
