/- The law VecBytes returns true for every input: any vector in writing and in bytes, the vectors of any bytes.
   Conditions: none beyond the row's own. -/
import Derived.Test.YtofpefbnkmeokaaDoorVecRead
import Derived.Test.YtofpefbnkmeokaaDoorSeen
import Derived.Deep.DrawnRows
import Derived.Test.YtofpefbnkmeokaaDoorVec3
import Derived.Test.YtofpefbnkmeokaaDoorVecOpen
import Derived.Test.YtofpefbnkmeokaaDoorAgg
import Derived.Test.YtofpefbnkmeokaaDoorFrame
import Derived.Test.YtofpefbnkmeokaaDoorDoor
import Derived.Deep.QuietTactic
import Derived.BigQuiet
import Derived.Lib.QuietBelow
import Derived.Deep.RegionHeld3
import Derived.Deep.RegionWith
namespace Go.Proofs.YtofpefbnkmeokaaDoor.lawVecBytes
open Go.ChangeShapes Go.WideShapes Go.ChangeAt Go.RowKit
open Go.ChangeMaps (open_string shut_string)
set_option linter.unusedVariables false
attribute [local go_sem ↓] Go.wp_at_zero Go.wp_at_succ
theorem vec_eqT (z0 z1 z2 z3 z4 z5 z6 z7 : Int) (W : World) : (binOp .eql 84 (.agg #[.int .u32 z0, .int .u32 z1, .int .u32 z2, .int .u32 z3, .int .u32 z4, .int .u32 z5, .int .u32 z6, .int .u32 z7]) (.agg #[.int .u32 z0, .int .u32 z1, .int .u32 z2, .int .u32 z3, .int .u32 z4, .int .u32 z5, .int .u32 z6, .int .u32 z7])).run Tryd.prog W = Result.ok (.bool true) W := by rw [vec_eq]; simp
theorem vec_in (z0 z1 z2 z3 z4 z5 z6 z7 : Int) (W : World) : (Op.equalIn 10000 84 (.agg #[.int .u32 z0, .int .u32 z1, .int .u32 z2, .int .u32 z3, .int .u32 z4, .int .u32 z5, .int .u32 z6, .int .u32 z7]) (.agg #[.int .u32 z0, .int .u32 z1, .int .u32 z2, .int .u32 z3, .int .u32 z4, .int .u32 z5, .int .u32 z6, .int .u32 z7])).run Tryd.prog W = Result.ok true W := by
  have h := vec_eqT z0 z1 z2 z3 z4 z5 z6 z7 W
  rw [run_eql_struct] at h
  cases hr : (Op.equalIn 10000 84 (.agg #[.int .u32 z0, .int .u32 z1, .int .u32 z2, .int .u32 z3, .int .u32 z4, .int .u32 z5, .int .u32 z6, .int .u32 z7]) (.agg #[.int .u32 z0, .int .u32 z1, .int .u32 z2, .int .u32 z3, .int .u32 z4, .int .u32 z5, .int .u32 z6, .int .u32 z7])).run Tryd.prog W <;> rw [hr] at h <;> simp [Result.andThen] at h
  obtain ⟨h1, h2⟩ := h
  rw [h1, h2]
/-- The vector as a function. -/
def vF (n0 n1 n2 n3 n4 n5 n6 n7 : Nat) : Nat → Nat
  | 0 => n0
  | 1 => n1
  | 2 => n2
  | 3 => n3
  | 4 => n4
  | 5 => n5
  | 6 => n6
  | _ => n7
theorem vF_le {n0 n1 n2 n3 n4 n5 n6 n7 : Nat} (h0 : n0 ≤ 4294967295) (h1 : n1 ≤ 4294967295) (h2 : n2 ≤ 4294967295) (h3 : n3 ≤ 4294967295) (h4 : n4 ≤ 4294967295) (h5 : n5 ≤ 4294967295) (h6 : n6 ≤ 4294967295) (h7 : n7 ≤ 4294967295) : ∀ i, vF n0 n1 n2 n3 n4 n5 n6 n7 i ≤ 4294967295 := by
  intro i
  unfold vF
  split <;> assumption
theorem vrS_ok {s : ByteArray} {p : Nat} {fa fe : Int} (h : FA s fa fe) (hp : p ≤ s.size) : ∀ k, FA s (vrS s p fa fe k).2.1 (vrS s p fa fe k).2.2 ∧ (vrS s p fa fe k).1 ≤ s.size
  | 0 => ⟨h.rd hp, rdP_le hp⟩
  | k + 1 => ⟨(vrS_ok h hp k).1.rd (vrS_ok h hp k).2, rdP_le (vrS_ok h hp k).2⟩
theorem fa_vr {s : ByteArray} {p : Nat} {fa fe : Int} (h : FA s fa fe) (hp : p ≤ s.size) : FA s (vrA (vrN s p fe) (vrS s p fa fe) (vrX s p fa fe)) (vrE (vrN s p fe) (vrS s p fa fe) (vrX s p fa fe)) := by
  obtain ⟨h1, h2⟩ := vrS_ok h hp (vrN s p fe)
  unfold vrA vrE
  split
  · exact ⟨by omega, by omega, fun e => by cases e⟩
  · exact h1
def Rel (w : World) (b q : Nat) (s : ByteArray) (i : Value) (wr : World) : Prop :=
  ∃ (k p : Nat) (fa fe : Int), k ≤ 2 ∧ i = .int .i64 k ∧ R wr b s p fa fe ∧ RR wr q s p fa fe ∧ FA s fa fe ∧ Below w.heap.size w wr
set_option maxRecDepth 100000 in
set_option maxHeartbeats 6400000 in
theorem walk0 (n0 n1 n2 n3 n4 n5 n6 n7 : Nat) (s : ByteArray) (w : World) (h0 : n0 ≤ 4294967295) (h1 : n1 ≤ 4294967295) (h2 : n2 ≤ 4294967295) (h3 : n3 ≤ 4294967295) (h4 : n4 ≤ 4294967295) (h5 : n5 ≤ 4294967295) (h6 : n6 ≤ 4294967295) (h7 : n7 ≤ 4294967295) (w4 : s.size ≤ maxLen) (hg : ET w) :
    Calls Tryd.prog 7 #[.agg #[.int .u32 (n0 : Int), .int .u32 (n1 : Int), .int .u32 (n2 : Int), .int .u32 (n3 : Int), .int .u32 (n4 : Int), .int .u32 (n5 : Int), .int .u32 (n6 : Int), .int .u32 (n7 : Int)], .string s] w fun e w' => e = .returned (.bool true) ∧ Below w.heap.size w w' := by
  unfold maxLen at w4
  have HG := Lib.hid hg
  clear hg
  by_cases hs : s.size ≤ 1000
  · have hs2 : ¬ (1000 < (s.size : Int)) := by omega
    have hTz : s.size ≤ 100000 := by omega
    have hF := vF_le h0 h1 h2 h3 h4 h5 h6 h7
    obtain ⟨x, hx⟩ : ∃ x, textB (vF n0 n1 n2 n3 n4 n5 n6 n7) = x := ⟨_, rfl⟩
    obtain ⟨y, hy⟩ : ∃ x, wrB (vF n0 n1 n2 n3 n4 n5 n6 n7) = x := ⟨_, rfl⟩
    have D10 : ∀ W : World, Calls Tryd.prog 33 #[.agg #[.int .u32 (n0 : Int), .int .u32 (n1 : Int), .int .u32 (n2 : Int), .int .u32 (n3 : Int), .int .u32 (n4 : Int), .int .u32 (n5 : Int), .int .u32 (n6 : Int), .int .u32 (n7 : Int)]] W fun e w' => e = .returned (.string x) ∧ Below W.heap.size W w' := fun W => by rw [← hx]; exact vtext (vF n0 n1 n2 n3 n4 n5 n6 n7) W hF
    have D1 := Lib.hid D10
    clear D10
    have D20 : ∀ W : World, Calls Tryd.prog 34 #[.agg #[.int .u32 (n0 : Int), .int .u32 (n1 : Int), .int .u32 (n2 : Int), .int .u32 (n3 : Int), .int .u32 (n4 : Int), .int .u32 (n5 : Int), .int .u32 (n6 : Int), .int .u32 (n7 : Int)]] W fun e w' => e = .returned (.string x) ∧ Below W.heap.size W w' := fun W => by rw [← hx]; exact rvtext (vF n0 n1 n2 n3 n4 n5 n6 n7) W hF
    have D2 := Lib.hid D20
    clear D20
    have D30 : ∀ W : World, Calls Tryd.prog 35 #[.agg #[.int .u32 (n0 : Int), .int .u32 (n1 : Int), .int .u32 (n2 : Int), .int .u32 (n3 : Int), .int .u32 (n4 : Int), .int .u32 (n5 : Int), .int .u32 (n6 : Int), .int .u32 (n7 : Int)]] W fun e w' => e = .returned (.string y) ∧ Below W.heap.size W w' := fun W => by rw [← hy]; exact vwrite (vF n0 n1 n2 n3 n4 n5 n6 n7) W hF
    have D3 := Lib.hid D30
    clear D30
    have D40 : ∀ W : World, Calls Tryd.prog 36 #[.agg #[.int .u32 (n0 : Int), .int .u32 (n1 : Int), .int .u32 (n2 : Int), .int .u32 (n3 : Int), .int .u32 (n4 : Int), .int .u32 (n5 : Int), .int .u32 (n6 : Int), .int .u32 (n7 : Int)]] W fun e w' => e = .returned (.string y) ∧ Below W.heap.size W w' := fun W => by rw [← hy]; exact rvwrite (vF n0 n1 n2 n3 n4 n5 n6 n7) W hF
    have D4 := Lib.hid D40
    clear D40
    clear hx hy hF h0 h1 h2 h3 h4 h5 h6 h7
    go_enter Tryd.func7, Tryd.ntmps7
    have HV := Lib.hid (Blk.new w 84 #[.int .u32 (n0 : Int), .int .u32 (n1 : Int), .int .u32 (n2 : Int), .int .u32 (n3 : Int), .int .u32 (n4 : Int), .int .u32 (n5 : Int), .int .u32 (n6 : Int), .int .u32 (n7 : Int)])
    have HB := Lib.hid (Joins.below_alloc1 w (.cells #[.int .u32 (n0 : Int), .int .u32 (n1 : Int), .int .u32 (n2 : Int), .int .u32 (n3 : Int), .int .u32 (n4 : Int), .int .u32 (n5 : Int), .int .u32 (n6 : Int), .int .u32 (n7 : Int)] 84))
    go_wp2
    generalize w.alloc (.cells #[.int .u32 (n0 : Int), .int .u32 (n1 : Int), .int .u32 (n2 : Int), .int .u32 (n3 : Int), .int .u32 (n4 : Int), .int .u32 (n5 : Int), .int .u32 (n6 : Int), .int .u32 (n7 : Int)] 84) = W at HV HB ⊢
    have k0 := HV.out.cell 0
    have k1 := HV.out.cell 1
    have k2 := HV.out.cell 2
    have k3 := HV.out.cell 3
    have k4 := HV.out.cell 4
    have k5 := HV.out.cell 5
    have k6 := HV.out.cell 6
    have k7 := HV.out.cell 7
    simp at k0 k1 k2 k3 k4 k5 k6 k7
    have c0 := cell_regrown k0
    have c1 := cell_regrown k1
    have c2 := cell_regrown k2
    have c3 := cell_regrown k3
    have c4 := cell_regrown k4
    have c5 := cell_regrown k5
    have c6 := cell_regrown k6
    have c7 := cell_regrown k7
    refine wp_region_quiet_below (by kernel_rfl) (by kernel_rfl) ?_
    repeat (first | go_big_quiet_step ((first | with_reducible exact Calls.regrown_of (D1.out _) | with_reducible exact Calls.regrown_of (D2.out _) | with_reducible exact Calls.regrown_of (D3.out _) | with_reducible exact Calls.regrown_of (D4.out _))) | quiet_step ((first | with_reducible exact Calls.regrown_of (D1.out _) | with_reducible exact Calls.regrown_of (D2.out _) | with_reducible exact Calls.regrown_of (D3.out _) | with_reducible exact Calls.regrown_of (D4.out _))))
    refine wpQuiet_nil ?_
    intro _ hw'
    obtain ⟨⟨dq, osq⟩, hw''⟩ := hw'
    subst hw''
    have HB5 := Lib.hid (HB.out.trans ((below_regrown W dq osq).mono HB.out.size))
    clear HV HB D1 D2 D3 D4 k0 c0 k1 c1 k2 c2 k3 c3 k4 c4 k5 c5 k6 c6 k7 c7
    generalize Sort.grow (redrawn W dq) osq = W2 at *
    clear W
    have hpb : w.heap.size ≤ W2.heap.size := HB5.out.size
    go_wp2_with fail
    refine (new_any s _).mono ?_; rintro e2 v2 ⟨rfl, hr2, hb2⟩
    have hqb : w.heap.size ≤ v2.heap.size := by have := hb2.size; omega
    have hn2 : Hid (∃ b0 : Nat, b0 = W2.heap.size) := Lib.hid ⟨_, rfl⟩
    have HST := Lib.hid (show Rel w W2.heap.size v2.heap.size s (.int .i64 0) (v2.alloc (.cells #[.string s, .int .i64 0, .int .i64 0, .int .i64 0] 77)) from
      ⟨0, 0, 0, 0, by omega, rfl, hr2.keep (Joins.below_alloc1 v2 _), ⟨Nat.zero_le _, Blk.new v2 _ _⟩, FA.zero s, (HB5.out.trans (hb2.mono HB5.out.size)).alloc hqb _⟩)
    clear hr2 hb2 HB5 hn2
    go_wp2_with fail
    go_loopw [7] (fun i wr => Rel w W2.heap.size v2.heap.size s i wr) (fun i _ => 2 - (intOf i).toNat)
    case atStart => exact HST.out
    case round =>
      clear HST
      obtain ⟨k, p, fa, fe, hk, rfl, hr, hq, hfa, hB⟩ := hrel
      have HR := Lib.hid hr
      have HQ := Lib.hid hq
      have HB := Lib.hid hB
      have hpp := hr.1
      by_cases hlt : k < 2
      · have hk2 : (k : Int) < 2 := by omega
        have HF2 := Lib.hid (fa_vr hfa hpp)
        have E1 := Lib.hid (fun W h => vread W2.heap.size s p fa fe W hTz h)
        have E2 := Lib.hid (fun W h => rvread v2.heap.size s p fa fe W hTz h)
        clear hr hq hfa hB hpp
        generalize vrG (vrN s p fe) (vrS s p fa fe) (vrX s p fa fe) 0 = y0 at E1 E2
        generalize vrG (vrN s p fe) (vrS s p fa fe) (vrX s p fa fe) 1 = y1 at E1 E2
        generalize vrG (vrN s p fe) (vrS s p fa fe) (vrX s p fa fe) 2 = y2 at E1 E2
        generalize vrG (vrN s p fe) (vrS s p fa fe) (vrX s p fa fe) 3 = y3 at E1 E2
        generalize vrG (vrN s p fe) (vrS s p fa fe) (vrX s p fa fe) 4 = y4 at E1 E2
        generalize vrG (vrN s p fe) (vrS s p fa fe) (vrX s p fa fe) 5 = y5 at E1 E2
        generalize vrG (vrN s p fe) (vrS s p fa fe) (vrX s p fa fe) 6 = y6 at E1 E2
        generalize vrG (vrN s p fe) (vrS s p fa fe) (vrX s p fa fe) 7 = y7 at E1 E2
        generalize vrA (vrN s p fe) (vrS s p fa fe) (vrX s p fa fe) = a2 at E1 E2 HF2
        generalize vrE (vrN s p fe) (vrS s p fa fe) (vrX s p fa fe) = f2 at E1 E2 HF2
        generalize (vrS s p fa fe (vrN s p fe)).1 = p2 at E1 E2
        have hq1 := vec_in y0 y1 y2 y3 y4 y5 y6 y7
        go_wp2
        go_region_with (first
          | (go_at_call 37; refine (E1.out _ (by exact HR.out)).mono ?_; rintro e4 u1 ⟨rfl, hr1, hg1⟩; have HR1 := Lib.hid hr1; have HQ1 := Lib.hid (RR.by_prog (by exact HQ.out) (by exact HR.out) hg1); have HB1 := Lib.hid (below_only (Below.drew HB.out) hg1 hpb (by exact HB.out.size)); clear hr1 hg1)
          | (go_at_call 38; refine (E2.out _ (by exact HQ1.out)).mono ?_; rintro e5 u2 ⟨rfl, hq2, hg2⟩; have HR3 := Lib.hid (HR1.out.by_ref HQ1.out hg2); have HB3 := Lib.hid (below_only HB1.out hg2 hqb HB1.out.size); have HQ3 := Lib.hid hq2; obtain ⟨x0, x1, x2, x3, _⟩ := rr_cells hq2; clear hq2 hg2)
          | (go_at_call 31; refine (oat W2.heap.size s _ _ _ _ (by exact HR3.out)).mono ?_; rintro e6 u3 ⟨rfl, rfl⟩)
          | (go_at_call 32; obtain ⟨ev, hev, hec⟩ := oerr _ _ _ _ _ _ HR3.out; refine hec.mono ?_; rintro e7 u4 ⟨rfl, rfl⟩; have HEV := Lib.hid hev; clear hec hev)
          | (go_at_call 13; refine (seen_ev ev _ _ _ (HG.out.keep HB3.out) HF2.out.1 (by have := HF2.out.2.1; omega) HEV.out).mono ?_; rintro e8 u5 ⟨rfl, hb5⟩; have HR5 := Lib.hid (HR3.out.keep hb5); have HQ5 := Lib.hid (HQ3.out.keep hb5); have HB6 := Lib.hid (HB3.out.trans (hb5.mono HB3.out.size)); obtain ⟨y0, y1, y2, y3, _⟩ := rr_cells HQ5.out; clear hb5))
        all_goals
          go_wp2
          go_roundw
          case rel => exact ⟨k + 1, _, _, _, by omega, by go_num, HR5.out, HQ5.out, HF2.out, HB6.out⟩
          case measure => simp [intOf]; omega
      · obtain rfl : k = 2 := by omega
        clear hlt
        go_wp2
        go_ret
        exact ⟨rfl, HB.out⟩
  · have hs2 : 1000 < (s.size : Int) := by omega
    go_enter Tryd.func7, Tryd.ntmps7
    go_wp2
    go_ret
    exact ⟨rfl, Joins.below_alloc1 w _⟩
theorem walk (x0 x1 x2 x3 x4 x5 x6 x7 : Int) (s : ByteArray) (w : World) (h0 : (Lit.int .u32 x0).wf = true) (h1 : (Lit.int .u32 x1).wf = true) (h2 : (Lit.int .u32 x2).wf = true) (h3 : (Lit.int .u32 x3).wf = true) (h4 : (Lit.int .u32 x4).wf = true) (h5 : (Lit.int .u32 x5).wf = true) (h6 : (Lit.int .u32 x6).wf = true) (h7 : (Lit.int .u32 x7).wf = true) (w4 : s.size ≤ maxLen) (hg : ET w) :
    Calls Tryd.prog 7 #[.agg #[.int .u32 x0, .int .u32 x1, .int .u32 x2, .int .u32 x3, .int .u32 x4, .int .u32 x5, .int .u32 x6, .int .u32 x7], .string s] w fun e w' => e = .returned (.bool true) ∧ Below w.heap.size w w' := by
  obtain ⟨p0, q0⟩ := wf_u32 h0
  obtain ⟨p1, q1⟩ := wf_u32 h1
  obtain ⟨p2, q2⟩ := wf_u32 h2
  obtain ⟨p3, q3⟩ := wf_u32 h3
  obtain ⟨p4, q4⟩ := wf_u32 h4
  obtain ⟨p5, q5⟩ := wf_u32 h5
  obtain ⟨p6, q6⟩ := wf_u32 h6
  obtain ⟨p7, q7⟩ := wf_u32 h7
  obtain ⟨n0, rfl⟩ : ∃ n : Nat, x0 = n := ⟨x0.toNat, by omega⟩
  obtain ⟨n1, rfl⟩ : ∃ n : Nat, x1 = n := ⟨x1.toNat, by omega⟩
  obtain ⟨n2, rfl⟩ : ∃ n : Nat, x2 = n := ⟨x2.toNat, by omega⟩
  obtain ⟨n3, rfl⟩ : ∃ n : Nat, x3 = n := ⟨x3.toNat, by omega⟩
  obtain ⟨n4, rfl⟩ : ∃ n : Nat, x4 = n := ⟨x4.toNat, by omega⟩
  obtain ⟨n5, rfl⟩ : ∃ n : Nat, x5 = n := ⟨x5.toNat, by omega⟩
  obtain ⟨n6, rfl⟩ : ∃ n : Nat, x6 = n := ⟨x6.toNat, by omega⟩
  obtain ⟨n7, rfl⟩ : ∃ n : Nat, x7 = n := ⟨x7.toNat, by omega⟩
  exact walk0 n0 n1 n2 n3 n4 n5 n6 n7 s w (by omega) (by omega) (by omega) (by omega) (by omega) (by omega) (by omega) (by omega) w4 hg
set_option maxRecDepth 100000 in
theorem lifted (os : Os) (started : os.Started) (H : Type) (enc : TypeId × Value → H) :
    ReturnsInHanded {} Tryd.checked os 7 .any (fun w args => (Rows.vecBytesSpec.pre enc Tryd.prog Tryd.f7 [] false w args ∧ laidMetH Tryd.prog laidL w) ∧ sizedMet enc Tryd.prog Tryd.f7 (OpenSpec.ofChange Rows.vecBytesSpec) false w args) (Rows.vecBytesSpec.post enc Tryd.prog Tryd.f7 false true false false) := by
  refine returnsInHanded_of_change_and (C := Tryd.checked) (X := fun w _ => laidMetH Tryd.prog laidL w) (fun _ _ _ hh h => h.of_heap hh) own started (by kernel_rfl) Tryd.func7
    (ChangeSpec.witness_at (enc := enc) (C := Tryd.checked) (os := os) (X := fun w _ => laidMetH Tryd.prog laidL w) false (laidWorld os) #[.agg #[.int .u32 0, .int .u32 0, .int .u32 0, .int .u32 0, .int .u32 0, .int .u32 0, .int .u32 0, .int .u32 0], .string ⟨#[]⟩] 8 rfl (by kernel_rfl) (by kernel_rfl) (by kernel_rfl) (by kernel_rfl) (by kernel_rfl) (laidWorld_met os _)) ?_
  intro W base args ds gs before hval0 hW hcnd _ hL _
  have hval : ∀ (j : Nat) t v, Tryd.f7.params[j]? = some t → args[j]? = some v → Value.okWide Tryd.prog W .any base t v := hval0
  have hW' := hW
  obtain ⟨p, q, hA0, hV, rfl, hfz, hnd⟩ := hW
  have hA : DataW.TrodAll enc Tryd.prog W 0 (fun _ => true) true Tryd.f7.params.toList args.toList ds p := hA0
  rw [Tryd.params7] at hA hval
  obtain ⟨v0, vs0, d0, ds0, p0, q0, hargs, rfl, rfl, h0, r0⟩ := trodAll_cons hA
  obtain ⟨v1, vs1, d1, ds1, p1, q1, rfl, rfl, rfl, h1, r1⟩ := trodAll_cons r0
  obtain ⟨rfl, rfl, rfl⟩ := trodAll_nil r1
  obtain rfl : args = #[v0, v1] := by cases args; simp_all
  obtain ⟨rfl, rfl⟩ := trodVars_none hV
  have k0 := h0
  have lt0 : ∀ x ∈ p0, x.block < W.heap.size := by obtain ⟨m, hm⟩ := k0; exact DataW.trod_lt m _ _ _ hm
  obtain ⟨a0v0, a0v1, a0v2, a0v3, a0v4, a0v5, a0v6, a0v7, rfl, w0v0, w0v1, w0v2, w0v3, w0v4, w0v5, w0v6, w0v7⟩ := vec_open Tryd.underlying84 Tryd.underlying57 (by kernel_rfl) (by kernel_rfl) (hval 0 84 v0 rfl rfl) h0
  have k1 := h1
  have lt1 : ∀ x ∈ p1, x.block < W.heap.size := by obtain ⟨m, hm⟩ := k1; exact DataW.trod_lt m _ _ _ hm
  obtain ⟨a1, rfl, ed1, rfl, w1⟩ := open_string Tryd.underlying9 (hval 1 9 v1 rfl rfl) h1
  clear hA0 hval0
  have hg := handle_of_laid hL
  refine (walk a0v0 a0v1 a0v2 a0v3 a0v4 a0v5 a0v6 a0v7 a1 W w0v0 w0v1 w0v2 w0v3 w0v4 w0v5 w0v6 w0v7 w1 hg).mono fun e W' ⟨he, bel⟩ => ?_
  subst he
  exact ⟨_, rfl, _, _, _, [], _, [], hW', trodAll_mk1 (shut_bool Tryd.underlying4 _), (trodAll_cons_mk (Below.trod laidOut (by kernel_rfl) (of_decide_eq_true (by kernel_rfl)) k0 bel lt0) (trodAll_cons_mk (Below.trod laidOut (by kernel_rfl) (of_decide_eq_true (by kernel_rfl)) k1 bel lt1) trodAll_mk0)), rfl, bel.frame _, fun h => by cases h⟩
theorem over : Rows.vecBytesRow.holds Tryd.pinned (OpenSpec.ofChange Rows.vecBytesSpec) :=
  OpenClaim.holds_of_wide 7 Tryd.f7 rfl rfl rfl rfl rfl rfl rfl ⟨rfl, rfl, rfl, rfl, rfl⟩ rfl rfl rfl rfl rfl (by kernel_rfl) Tryd.func7 (by kernel_rfl)
    (of_decide_eq_true (by kernel_rfl)) (by unfold Func.isWrapper; first | (rw [if_pos (by decide +kernel)]; kernel_rfl) | (rw [if_neg (by decide +kernel)]; exact ⟨rfl, rfl⟩))
    (fun os started H enc _ => lifted os started H enc)
set_option maxRecDepth 100000 in
theorem proved : Rows.VecBytesCardSaid :=
  Claim7.holds_tied_plain_at .later [] [.handle] true (true, "bed28a1abb8bd1d6f054b3bbdb24eb1b4ac5058343a277e2089a84be8056229b") true over (fun _ h => by cases h) (by kernel_rfl) (fun _ h => by cases h) vecBytes_row_tie rfl ⟨rfl, rfl⟩ (by kernel_rfl) rfl
    (fun f fn hf hfn => by
      obtain rfl : f = 7 := Option.some.inj ((show Tryd.prog.funcNamed "selkie/selkielaw06.VecBytes" = some 7 by kernel_rfl).symm.trans hf) |>.symm
      obtain rfl : fn = Tryd.f7 := (Option.some.inj (Tryd.func7.symm.trans hfn)).symm
      exact ⟨by kernel_rfl, fun j t ht => by
        rw [Tryd.params7] at ht
        match j, ht with
        | 0, ht => (have e : t = 84 := by simpa using ht.symm); subst e; exact (show Tryd.prog.wantsStandIn 84 = false by kernel_rfl)
        | 1, ht => (have e : t = 9 := by simpa using ht.symm); subst e; exact (show Tryd.prog.wantsStandIn 9 = false by kernel_rfl)
        | j + 2, ht => simp at ht⟩)
    (by kernel_rfl)
#print axioms proved
end Go.Proofs.YtofpefbnkmeokaaDoor.lawVecBytes
