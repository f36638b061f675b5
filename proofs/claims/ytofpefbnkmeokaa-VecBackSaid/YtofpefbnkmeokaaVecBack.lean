/- The law VecBack returns true for every input: a vector's bytes are read as it, whatever follows.
   Conditions: none beyond the row's own. -/
import Derived.Test.YtofpefbnkmeokaaVecBackLaw
import Derived.Test.YtofpefbnkmeokaaVecWorks
import Derived.Test.YtofpefbnkmeokaaVec3
import Derived.Test.YtofpefbnkmeokaaVecOpen
import Derived.Test.YtofpefbnkmeokaaAgg
import Derived.Test.YtofpefbnkmeokaaFrame
import Derived.Deep.QuietTactic
import Derived.BigQuiet
import Derived.Lib.QuietBelow
import Derived.Deep.RegionHeld3
import Derived.Deep.RegionWith
import Derived.Deep.DrawnRows
namespace Go.Proofs.Ytofpefbnkmeokaa.lawVecBack
open Go.ChangeShapes Go.WideShapes Go.ChangeAt Go.RowKit
open Go.ChangeMaps (open_string shut_string)
set_option linter.unusedVariables false
attribute [local go_sem ↓] Go.wp_at_zero Go.wp_at_succ
theorem vec_eqT (z0 z1 z2 z3 z4 z5 z6 z7 : Int) (W : World) : (binOp .eql 24 (.agg #[.int .u32 z0, .int .u32 z1, .int .u32 z2, .int .u32 z3, .int .u32 z4, .int .u32 z5, .int .u32 z6, .int .u32 z7]) (.agg #[.int .u32 z0, .int .u32 z1, .int .u32 z2, .int .u32 z3, .int .u32 z4, .int .u32 z5, .int .u32 z6, .int .u32 z7])).run Try.prog W = Result.ok (.bool true) W := by rw [vec_eq]; simp
theorem vec_in (z0 z1 z2 z3 z4 z5 z6 z7 : Int) (W : World) : (Op.equalIn 10000 24 (.agg #[.int .u32 z0, .int .u32 z1, .int .u32 z2, .int .u32 z3, .int .u32 z4, .int .u32 z5, .int .u32 z6, .int .u32 z7]) (.agg #[.int .u32 z0, .int .u32 z1, .int .u32 z2, .int .u32 z3, .int .u32 z4, .int .u32 z5, .int .u32 z6, .int .u32 z7])).run Try.prog W = Result.ok true W := by
  have h := vec_eqT z0 z1 z2 z3 z4 z5 z6 z7 W
  rw [run_eql_struct] at h
  cases hr : (Op.equalIn 10000 24 (.agg #[.int .u32 z0, .int .u32 z1, .int .u32 z2, .int .u32 z3, .int .u32 z4, .int .u32 z5, .int .u32 z6, .int .u32 z7]) (.agg #[.int .u32 z0, .int .u32 z1, .int .u32 z2, .int .u32 z3, .int .u32 z4, .int .u32 z5, .int .u32 z6, .int .u32 z7])).run Try.prog W <;> rw [hr] at h <;> simp [Result.andThen] at h
  obtain ⟨h1, h2⟩ := h
  rw [h1, h2]
/-- The vector as a function. -/
def vF (n0 n1 n2 n3 n4 n5 n6 n7 : Nat) : Nat → Nat
  | 0 => n0
  | 1 => n1
  | 2 => n2
  | 3 => n3
  | 4 => n4
  | 5 => n5
  | 6 => n6
  | _ => n7
theorem vF_le {n0 n1 n2 n3 n4 n5 n6 n7 m : Nat} (h0 : n0 ≤ m) (h1 : n1 ≤ m) (h2 : n2 ≤ m) (h3 : n3 ≤ m) (h4 : n4 ≤ m) (h5 : n5 ≤ m) (h6 : n6 ≤ m) (h7 : n7 ≤ m) : ∀ i, vF n0 n1 n2 n3 n4 n5 n6 n7 i ≤ m := by
  intro i
  unfold vF
  split <;> assumption
set_option maxRecDepth 100000 in
set_option maxHeartbeats 6400000 in
theorem walk0 (n0 n1 n2 n3 n4 n5 n6 n7 : Nat) (more : ByteArray) (w : World) (h0 : n0 ≤ 4294967295) (h1 : n1 ≤ 4294967295) (h2 : n2 ≤ 4294967295) (h3 : n3 ≤ 4294967295) (h4 : n4 ≤ 4294967295) (h5 : n5 ≤ 4294967295) (h6 : n6 ≤ 4294967295) (h7 : n7 ≤ 4294967295) (w4 : more.size ≤ maxLen) :
    Calls Try.prog 3 #[.agg #[.int .u32 (n0 : Int), .int .u32 (n1 : Int), .int .u32 (n2 : Int), .int .u32 (n3 : Int), .int .u32 (n4 : Int), .int .u32 (n5 : Int), .int .u32 (n6 : Int), .int .u32 (n7 : Int)], .string more] w fun e w' => e = .returned (.bool true) ∧ Below w.heap.size w w' := by
  unfold maxLen at w4
  have HF0 := Lib.hid (vF_le h0 h1 h2 h3 h4 h5 h6 h7)
  have DC := Lib.hid (fun W => vcheck (n0 : Int) (n1 : Int) (n2 : Int) (n3 : Int) (n4 : Int) (n5 : Int) (n6 : Int) (n7 : Int) W)
  have HCC := Lib.hid (vchk_01 (n0 : Int) (n1 : Int) (n2 : Int) (n3 : Int) (n4 : Int) (n5 : Int) (n6 : Int) (n7 : Int))
  have HCI := Lib.hid (@vchk_inv (n0 : Int) (n1 : Int) (n2 : Int) (n3 : Int) (n4 : Int) (n5 : Int) (n6 : Int) (n7 : Int))
  obtain ⟨c, hc⟩ : ∃ c, vchk (n0 : Int) (n1 : Int) (n2 : Int) (n3 : Int) (n4 : Int) (n5 : Int) (n6 : Int) (n7 : Int) = c := ⟨_, rfl⟩
  rw [hc] at DC HCC HCI
  clear hc h0 h1 h2 h3 h4 h5 h6 h7
  go_enter Try.func3, Try.ntmps3
  have HV0 := Lib.hid (Blk.new w 24 #[.int .u32 (n0 : Int), .int .u32 (n1 : Int), .int .u32 (n2 : Int), .int .u32 (n3 : Int), .int .u32 (n4 : Int), .int .u32 (n5 : Int), .int .u32 (n6 : Int), .int .u32 (n7 : Int)])
  have HB0 := Lib.hid (Joins.below_alloc1 w (.cells #[.int .u32 (n0 : Int), .int .u32 (n1 : Int), .int .u32 (n2 : Int), .int .u32 (n3 : Int), .int .u32 (n4 : Int), .int .u32 (n5 : Int), .int .u32 (n6 : Int), .int .u32 (n7 : Int)] 24))
  go_wp2_with fail
  refine (vworks _).mono ?_; rintro e w1 ⟨rfl, hb1⟩
  have HV1 := Lib.hid (HV0.out.keep hb1)
  have HB1 := Lib.hid (HB0.out.trans (hb1.mono HB0.out.size))
  clear hb1 HV0 HB0
  have k0 := HV1.out.cell 0
  have k1 := HV1.out.cell 1
  have k2 := HV1.out.cell 2
  have k3 := HV1.out.cell 3
  have k4 := HV1.out.cell 4
  have k5 := HV1.out.cell 5
  have k6 := HV1.out.cell 6
  have k7 := HV1.out.cell 7
  simp at k0 k1 k2 k3 k4 k5 k6 k7
  go_wp2_with fail
  refine (DC.out _).mono ?_; rintro e w2 ⟨rfl, hb2⟩
  have HV2 := Lib.hid (HV1.out.keep hb2)
  have HB2 := Lib.hid (HB1.out.trans (hb2.mono HB1.out.size))
  clear hb2 HV1 HB1 DC k0 k1 k2 k3 k4 k5 k6 k7
  have hcc := HCC.out
  rcases hcc with rfl | rfl
  · by_cases hs : more.size ≤ 1000
    · have hs2 : ¬ (1000 < (more.size : Int)) := by omega
      have hci := HCI.out rfl
      have hF : ∀ i, vF n0 n1 n2 n3 n4 n5 n6 n7 i ≤ 1048576 := vF_le (by omega) (by omega) (by omega) (by omega) (by omega) (by omega) (by omega) (by omega)
      obtain ⟨x, hx⟩ : ∃ x, wrB (vF n0 n1 n2 n3 n4 n5 n6 n7) = x := ⟨_, rfl⟩
      have hxz := wrB_size (vF n0 n1 n2 n3 n4 n5 n6 n7) HF0.out
      obtain ⟨S, hT⟩ : ∃ S, x ++ more = S := ⟨_, rfl⟩
      obtain ⟨l1, l2, l3, l4⟩ := back_law (vF n0 n1 n2 n3 n4 n5 n6 n7) more S hF (by rw [hx]; exact hT)
      have D3 : ∀ W : World, Calls Try.prog 7 #[.agg #[.int .u32 (n0 : Int), .int .u32 (n1 : Int), .int .u32 (n2 : Int), .int .u32 (n3 : Int), .int .u32 (n4 : Int), .int .u32 (n5 : Int), .int .u32 (n6 : Int), .int .u32 (n7 : Int)]] W fun e w' => e = .returned (.string x) ∧ Below W.heap.size W w' := fun W => by rw [← hx]; exact vwrite (vF n0 n1 n2 n3 n4 n5 n6 n7) W HF0.out
      have DW := Lib.hid D3
      rw [hx] at hxz
      have hTz : S.size ≤ 100000 := by rw [← hT, ByteArray.size_append]; omega
      have hadd : ∀ W : World, (Op.stringOp .add x more).run Try.prog W = .ok (.string S) W := fun W => by rw [run_string_add W x more (by omega) (by omega), hT]
      have E1 := Lib.hid (fun b W h => vread b S 0 0 0 W hTz h)
      rw [l2, l3, l4 0 (by omega), l4 1 (by omega), l4 2 (by omega), l4 3 (by omega), l4 4 (by omega), l4 5 (by omega), l4 6 (by omega), l4 7 (by omega)] at E1
      obtain ⟨P, hP⟩ : ∃ P, (vrS S 0 0 0 (vrN S 0 0)).1 = P := ⟨_, rfl⟩
      rw [hP] at E1 l1
      have E2 : Hid (∀ b W (h : R W b S 0 0 0), Calls Try.prog 8 #[.pointer (some ⟨b, 0, none⟩)] W fun e w' => e = .returned (.agg #[.int .u32 (n0 : Int), .int .u32 (n1 : Int), .int .u32 (n2 : Int), .int .u32 (n3 : Int), .int .u32 (n4 : Int), .int .u32 (n5 : Int), .int .u32 (n6 : Int), .int .u32 (n7 : Int)]) ∧ R w' b S P 0 0 ∧ W.grownBy w' (some b)) := Lib.hid E1.out
      have hleft : (S.size : Int) - (P : Int) = (more.size : Int) := by omega
      clear E1 hP l2 l3 l4 D3 hx hT hF hci HF0 HCI HCC
      have k0 := HV2.out.cell 0
      have k1 := HV2.out.cell 1
      have k2 := HV2.out.cell 2
      have k3 := HV2.out.cell 3
      have k4 := HV2.out.cell 4
      have k5 := HV2.out.cell 5
      have k6 := HV2.out.cell 6
      have k7 := HV2.out.cell 7
      simp at k0 k1 k2 k3 k4 k5 k6 k7
      go_wp2_with fail
      refine (DW.out _).mono ?_; rintro e w3 ⟨rfl, hb3⟩
      have HV3 := Lib.hid (HV2.out.keep hb3)
      have HB3 := Lib.hid (HB2.out.trans (hb3.mono HB2.out.size))
      clear hb3 HV2 HB2 DW k0 k1 k2 k3 k4 k5 k6 k7
      go_wp2_with fail
      refine (new_any S _).mono ?_; rintro e w4 ⟨rfl, hr4, hb4⟩
      have HR4 := Lib.hid hr4
      have HV4 := Lib.hid (HV3.out.keep hb4)
      have HB4 := Lib.hid (HB3.out.trans (hb4.mono HB3.out.size))
      have hpb : w.heap.size ≤ w3.heap.size := HB3.out.size
      have hvl : w.heap.size < w3.heap.size := HV3.out.lt
      clear hr4 hb4 HV3 HB3 hadd
      have k0 := HV4.out.cell 0
      have k1 := HV4.out.cell 1
      have k2 := HV4.out.cell 2
      have k3 := HV4.out.cell 3
      have k4 := HV4.out.cell 4
      have k5 := HV4.out.cell 5
      have k6 := HV4.out.cell 6
      have k7 := HV4.out.cell 7
      simp at k0 k1 k2 k3 k4 k5 k6 k7
      have hq1 := vec_in (n0 : Int) (n1 : Int) (n2 : Int) (n3 : Int) (n4 : Int) (n5 : Int) (n6 : Int) (n7 : Int)
      go_wp2
      go_region_with (first
        | (go_at_call 8; refine (E2.out _ _ (by exact HR4.out)).mono ?_; rintro e4 u1 ⟨rfl, hr1, hg1⟩; have HR1 := Lib.hid hr1; have HV5 := Lib.hid (Blk.grown (by exact HV4.out) hg1 (by intro e; injection e with e; omega)); have HB5 := Lib.hid (below_only (Below.drew HB4.out) hg1 hpb (by exact HB4.out.size)); have v0 := HV5.out.cell 0; have v1 := HV5.out.cell 1; have v2 := HV5.out.cell 2; have v3 := HV5.out.cell 3; have v4 := HV5.out.cell 4; have v5 := HV5.out.cell 5; have v6 := HV5.out.cell 6; have v7 := HV5.out.cell 7; simp at v0 v1 v2 v3 v4 v5 v6 v7; clear hr1 hg1)
        | (go_at_call 9; refine (oleft _ S _ _ _ _ hTz (by exact HR1.out)).mono ?_; rintro e6 u3 ⟨rfl, hb6⟩; have HR6 := Lib.hid (HR1.out.keep hb6); have HB6 := Lib.hid (HB5.out.trans (hb6.mono HB5.out.size)); clear hb6)
        | (go_at_call 10; obtain ⟨ev, hev, hec⟩ := oerr _ _ _ _ _ _ HR6.out; obtain ⟨-, rfl⟩ := ev_nil hev; refine hec.mono ?_; rintro e7 u4 ⟨rfl, rfl⟩; clear hec hev))
      all_goals
        go_wp2
        go_ret
        exact ⟨rfl, HB6.out⟩
    · have hs2 : 1000 < (more.size : Int) := by omega
      go_wp2
      go_ret
      exact ⟨rfl, HB2.out⟩
  · go_wp2
    go_ret
    exact ⟨rfl, HB2.out⟩
theorem walk (x0 x1 x2 x3 x4 x5 x6 x7 : Int) (s : ByteArray) (w : World) (h0 : (Lit.int .u32 x0).wf = true) (h1 : (Lit.int .u32 x1).wf = true) (h2 : (Lit.int .u32 x2).wf = true) (h3 : (Lit.int .u32 x3).wf = true) (h4 : (Lit.int .u32 x4).wf = true) (h5 : (Lit.int .u32 x5).wf = true) (h6 : (Lit.int .u32 x6).wf = true) (h7 : (Lit.int .u32 x7).wf = true) (w4 : s.size ≤ maxLen) :
    Calls Try.prog 3 #[.agg #[.int .u32 x0, .int .u32 x1, .int .u32 x2, .int .u32 x3, .int .u32 x4, .int .u32 x5, .int .u32 x6, .int .u32 x7], .string s] w fun e w' => e = .returned (.bool true) ∧ Below w.heap.size w w' := by
  obtain ⟨p0, q0⟩ := wf_u32 h0
  obtain ⟨p1, q1⟩ := wf_u32 h1
  obtain ⟨p2, q2⟩ := wf_u32 h2
  obtain ⟨p3, q3⟩ := wf_u32 h3
  obtain ⟨p4, q4⟩ := wf_u32 h4
  obtain ⟨p5, q5⟩ := wf_u32 h5
  obtain ⟨p6, q6⟩ := wf_u32 h6
  obtain ⟨p7, q7⟩ := wf_u32 h7
  obtain ⟨n0, rfl⟩ : ∃ n : Nat, x0 = n := ⟨x0.toNat, by omega⟩
  obtain ⟨n1, rfl⟩ : ∃ n : Nat, x1 = n := ⟨x1.toNat, by omega⟩
  obtain ⟨n2, rfl⟩ : ∃ n : Nat, x2 = n := ⟨x2.toNat, by omega⟩
  obtain ⟨n3, rfl⟩ : ∃ n : Nat, x3 = n := ⟨x3.toNat, by omega⟩
  obtain ⟨n4, rfl⟩ : ∃ n : Nat, x4 = n := ⟨x4.toNat, by omega⟩
  obtain ⟨n5, rfl⟩ : ∃ n : Nat, x5 = n := ⟨x5.toNat, by omega⟩
  obtain ⟨n6, rfl⟩ : ∃ n : Nat, x6 = n := ⟨x6.toNat, by omega⟩
  obtain ⟨n7, rfl⟩ : ∃ n : Nat, x7 = n := ⟨x7.toNat, by omega⟩
  exact walk0 n0 n1 n2 n3 n4 n5 n6 n7 s w (by omega) (by omega) (by omega) (by omega) (by omega) (by omega) (by omega) (by omega) w4
set_option maxRecDepth 100000 in
theorem lifted (os : Os) (started : os.Started) (H : Type) (enc : TypeId × Value → H) :
    ReturnsInHanded {} Try.checked os 3 .any (Rows.vecBackSpec.pre6 enc Try.prog Try.f3 Rows.vecBackRow.domain false) (Rows.vecBackSpec.post enc Try.prog Try.f3 false true false false) := by
  refine returnsInHanded_of_change (C := Try.checked) own started (by kernel_rfl) Try.func3
    (ChangeSpec.witness6 (enc := enc) (C := Try.checked) false ⟨#[], #[.agg #[.int .u32 0, .int .u32 0, .int .u32 0, .int .u32 0, .int .u32 0, .int .u32 0, .int .u32 0, .int .u32 0], .string ⟨#[]⟩], []⟩ 8 (by kernel_rfl) (by kernel_rfl) (by kernel_rfl) (by kernel_rfl)) ?_
  intro W base args ds gs before hval0 hW hcnd _
  have hval : ∀ (j : Nat) t v, Try.f3.params[j]? = some t → args[j]? = some v → Value.okWide Try.prog W .any base t v := hval0
  have hW' := hW
  obtain ⟨p, q, hA0, hV, rfl, hfz, hnd⟩ := hW
  have hA : DataW.TrodAll enc Try.prog W 0 (fun _ => true) true Try.f3.params.toList args.toList ds p := hA0
  rw [Try.params3] at hA hval
  obtain ⟨v0, vs0, d0, ds0, p0, q0, hargs, rfl, rfl, h0, r0⟩ := trodAll_cons hA
  obtain ⟨v1, vs1, d1, ds1, p1, q1, rfl, rfl, rfl, h1, r1⟩ := trodAll_cons r0
  obtain ⟨rfl, rfl, rfl⟩ := trodAll_nil r1
  obtain rfl : args = #[v0, v1] := by cases args; simp_all
  obtain ⟨rfl, rfl⟩ := trodVars_none hV
  have k0 := h0
  have lt0 : ∀ x ∈ p0, x.block < W.heap.size := by obtain ⟨m, hm⟩ := k0; exact DataW.trod_lt m _ _ _ hm
  obtain ⟨a0v0, a0v1, a0v2, a0v3, a0v4, a0v5, a0v6, a0v7, rfl, w0v0, w0v1, w0v2, w0v3, w0v4, w0v5, w0v6, w0v7⟩ := vec_open Try.underlying24 Try.underlying22 (by kernel_rfl) (by kernel_rfl) (hval 0 24 v0 rfl rfl) h0
  have k1 := h1
  have lt1 : ∀ x ∈ p1, x.block < W.heap.size := by obtain ⟨m, hm⟩ := k1; exact DataW.trod_lt m _ _ _ hm
  obtain ⟨a1, rfl, ed1, rfl, w1⟩ := open_string Try.underlying9 (hval 1 9 v1 rfl rfl) h1
  clear hA0 hval0
  refine (walk a0v0 a0v1 a0v2 a0v3 a0v4 a0v5 a0v6 a0v7 a1 W w0v0 w0v1 w0v2 w0v3 w0v4 w0v5 w0v6 w0v7 w1).mono fun e W' ⟨he, bel⟩ => ?_
  subst he
  exact ⟨_, rfl, _, _, _, [], _, [], hW', trodAll_mk1 (shut_bool Try.underlying4 _), (trodAll_cons_mk (Below.trod laidOut (by kernel_rfl) (of_decide_eq_true (by kernel_rfl)) k0 bel lt0) (trodAll_cons_mk (Below.trod laidOut (by kernel_rfl) (of_decide_eq_true (by kernel_rfl)) k1 bel lt1) trodAll_mk0)), rfl, bel.frame _, fun h => by cases h⟩
theorem over : Rows.vecBackRow.holds Try.pinned (OpenSpec.ofChange Rows.vecBackSpec) :=
  OpenClaim.holds_of_wide 3 Try.f3 rfl rfl rfl rfl rfl rfl rfl ⟨rfl, rfl, rfl, rfl, rfl⟩ rfl rfl rfl rfl rfl (by kernel_rfl) Try.func3 (by kernel_rfl)
    (of_decide_eq_true (by kernel_rfl)) (by unfold Func.isWrapper; first | (rw [if_pos (by decide +kernel)]; kernel_rfl) | (rw [if_neg (by decide +kernel)]; exact ⟨rfl, rfl⟩))
    (fun os started H enc _ => lifted os started H enc)
theorem proved : Rows.VecBackSaid := over
#print axioms proved
end Go.Proofs.Ytofpefbnkmeokaa.lawVecBack
