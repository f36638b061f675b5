/- The law BallotTells returns true for every input: package ballot and the reference answer alike on ballots, and on their bytes.
   Conditions: none beyond the row's own. -/
import Derived.Test.YtjckganigfblnaaDoorBallotRead
import Derived.Test.YtjckganigfblnaaDoorAgg
import Derived.Test.YtjckganigfblnaaDoorFrame
import Derived.Test.YtjckganigfblnaaDoorDoor
import Derived.Deep.QuietTactic
import Derived.BigQuiet
import Derived.Lib.QuietBelow
import Derived.Deep.RegionHeld3
import Derived.Deep.RegionWith
namespace Go.Proofs.YtjckganigfblnaaDoor.lawBallotTells
open Go.ChangeShapes Go.WideShapes Go.ChangeAt Go.RowKit
open Go.ChangeMaps (open_string shut_string)
set_option linter.unusedVariables false
attribute [local go_sem ↓] Go.wp_at_zero Go.wp_at_succ
/-- What holds at the head of a round. -/
def Rel (w : World) (pb qb : Nat) (T : ByteArray) (i : Value) (wr : World) : Prop :=
  ∃ (k p : Nat) (fa fe : Int), k ≤ 3 ∧ i = .int .i64 k ∧ R wr pb T p fa fe ∧ RR wr qb T p fa fe ∧ FA T fa fe ∧ Below w.heap.size w wr
set_option maxRecDepth 100000 in
set_option maxHeartbeats 12800000 in
theorem walk (n1 o1 n2 o2 who : Int) (s : ByteArray) (w : World) (w0 : (Lit.int .u32 n1).wf = true) (w1 : (Lit.int .i64 o1).wf = true) (w2 : (Lit.int .u32 n2).wf = true) (w3 : (Lit.int .i64 o2).wf = true) (w5 : (Lit.int .i64 who).wf = true) (w4 : s.size ≤ maxLen) (hg : ET w) :
    Calls Tryd.prog 6 #[.agg #[.int .u32 n1, .int .i64 o1], .agg #[.int .u32 n2, .int .i64 o2], .int .i64 who, .string s] w fun e w' => e = .returned (.bool true) ∧ Below w.heap.size w w' := by
  obtain ⟨g1, _⟩ := wf_u32 w0
  obtain ⟨g2, _⟩ := wf_u32 w2
  unfold maxLen at w4
  have HG := Lib.hid hg
  clear w0 w1 w2 w3 w5 hg
  by_cases hs : s.size ≤ 1000
  · have hs2 : ¬ (1000 < (s.size : Int)) := by omega
    obtain ⟨x, hx⟩ : ∃ x, bW n1 o1 = x := ⟨_, rfl⟩
    obtain ⟨z, hz⟩ : ∃ x, bW n2 o2 = x := ⟨_, rfl⟩
    have hzz := bW_size n2 o2
    have A1 := Lib.hid (fun W => babove_any n1 o1 who W g1)
    have A2 := Lib.hid (fun W => rbabove n1 o1 who W g1)
    have D1 := Lib.hid (fun W => bto_any n1 o1 W)
    have D9 := Lib.hid (fun W => bto_any n2 o2 W)
    have D3 := Lib.hid (fun W => bcheck_any n1 o1 W)
    have D4 := Lib.hid (fun W => rbcheck n1 o1 W)
    have D5 := Lib.hid (fun W => bcompare_any n1 o1 n2 o2 W)
    have D6 := Lib.hid (fun W => rbcompare n1 o1 n2 o2 W)
    have D7 := Lib.hid (fun W => bwrite n1 o1 W g1)
    have D8 := Lib.hid (fun W => rbwrite n1 o1 W g1)
    have C7 := Lib.hid (fun W => bwrite n2 o2 W g2)
    have C8 := Lib.hid (fun W => rbwrite n2 o2 W g2)
    have D2 := Lib.hid (fun W => bfrom (abvN n1 o1 who) (abvW n1 o1 who) W)
    have DA := Lib.hid (fun W => (bfirst_any n1 o1 W).mono (R' := fun e w' => e = .returned (.bool (n1 == 0)) ∧ Below W.heap.size W w') (by rintro e w' ⟨rfl, rfl⟩; exact ⟨rfl, Joins.below_alloc1 W _⟩))
    obtain ⟨P, hP⟩ : ∃ x, abvN n1 o1 who = x := ⟨_, rfl⟩
    obtain ⟨Q, hQ⟩ : ∃ x, abvW n1 o1 who = x := ⟨_, rfl⟩
    obtain ⟨c, hc⟩ : ∃ x, abvE n1 o1 who = x := ⟨_, rfl⟩
    obtain ⟨v, hv⟩ : ∃ x, bchkV n1 o1 = x := ⟨_, rfl⟩
    obtain ⟨u, hu⟩ : ∃ x, or2 (ordI n1 n2) (ordI o1 o2) = x := ⟨_, rfl⟩
    rw [hx] at D7 D8
    rw [hz] at C7 C8 hzz
    rw [hP, hQ, hc] at A1 A2
    rw [hP, hQ] at D2
    rw [hv] at D3 D4
    rw [hu] at D5 D6
    obtain ⟨T, hT⟩ : ∃ T, z ++ s = T := ⟨_, rfl⟩
    have hTz : T.size ≤ 100000 := by rw [← hT, ByteArray.size_append]; omega
    have hadd : ∀ W : World, (Op.stringOp .add z s).run Tryd.prog W = .ok (.string T) W := fun W => by rw [run_string_add W z s (by omega) (by omega), hT]
    have qe : ∀ W : World, (binOp .eql 74 (.agg #[.int .u32 P, .int .i64 Q]) (.agg #[.int .u32 P, .int .i64 Q])).run Tryd.prog W = Result.ok (.bool true) W := fun W => by rw [b_eql]; simp
    have hb0 : ((n1 == 0) != (n1 == 0)) = false := by cases (n1 == 0) <;> rfl
    clear hx hz hP hQ hc hv hu hT g1 g2
    go_enter Tryd.func6, Tryd.ntmps6
    go_wp2_with fail
    refine (D1.out _).mono ?_; rintro e1 a1 ⟨rfl, hb1⟩
    have HS1 := Lib.hid (((Blk.new w 74 #[.int .u32 n1, .int .i64 o1]).alloc (.cells #[.int .u32 n2, .int .i64 o2] 74)).keep hb1)
    have HT1 := Lib.hid ((Blk.new (w.alloc (.cells #[.int .u32 n1, .int .i64 o1] 74)) 74 #[.int .u32 n2, .int .i64 o2]).keep hb1)
    have HB1 := Lib.hid ((Joins.below_alloc2 w (.cells #[.int .u32 n1, .int .i64 o1] 74) (.cells #[.int .u32 n2, .int .i64 o2] 74)).trans (hb1.mono (by simp; omega)))
    clear hb1
    go_wp2_with fail
    refine (A1.out _).mono ?_; rintro e2 a2 ⟨rfl, hb2⟩
    have HS2 := Lib.hid (HS1.out.keep hb2)
    have HT2 := Lib.hid (HT1.out.keep hb2)
    have HB2 := Lib.hid (HB1.out.trans (hb2.mono HB1.out.size))
    have s0 := HS2.out.cell 0
    have s1 := HS2.out.cell 1
    have hs3 := HS2.out.lt
    simp at s0 s1
    clear hb2
    go_wp2_with fail
    refine (A2.out _).mono ?_; rintro e3 a3 ⟨rfl, hb3⟩
    have HS3 := Lib.hid ((HS2.out.alloc (.cells #[.int .u32 P, .int .i64 Q] 75)).keep hb3)
    have HT3 := Lib.hid ((HT2.out.alloc (.cells #[.int .u32 P, .int .i64 Q] 75)).keep hb3)
    have HX3 := Lib.hid ((Blk.new a2 75 #[.int .u32 P, .int .i64 Q]).keep hb3)
    have HB3 := Lib.hid ((HB2.out.alloc HB2.out.size (.cells #[.int .u32 P, .int .i64 Q] 75)).trans (hb3.mono (by have := HB2.out.size; simp; omega)))
    have hx3 := HX3.out.lt
    have hs4 := HS3.out.lt
    have ht4 := HT3.out.lt
    clear hb3 s0 s1
    go_wp2
    have HS4 := Lib.hid (HS3.out.alloc (.cells #[.int .u32 P, .int .i64 Q] 74))
    have HT4 := Lib.hid (HT3.out.alloc (.cells #[.int .u32 P, .int .i64 Q] 74))
    have HX4 := Lib.hid (HX3.out.alloc (.cells #[.int .u32 P, .int .i64 Q] 74))
    have HY4 := Lib.hid (Blk.new a3 74 #[.int .u32 P, .int .i64 Q])
    have HB4 := Lib.hid (HB3.out.alloc HB3.out.size (.cells #[.int .u32 P, .int .i64 Q] 74))
    generalize hW : a3.alloc (.cells #[.int .u32 P, .int .i64 Q] 74) = W at HS4 HT4 HX4 HY4 HB4 ⊢
    have k1 := HS4.out.cell 0
    have k2 := HS4.out.cell 1
    have k3 := HX4.out.cell 0
    have k4 := HX4.out.cell 1
    have k5 := HY4.out.cell 0
    have k6 := HY4.out.cell 1
    have k7 := HT4.out.cell 0
    have k8 := HT4.out.cell 1
    simp at k1 k2 k3 k4 k5 k6 k7 k8
    clear hW
    have c1 := cell_regrown k1
    have c2 := cell_regrown k2
    have c3 := cell_regrown k3
    have c4 := cell_regrown k4
    have c5 := cell_regrown k5
    have c6 := cell_regrown k6
    have c7 := cell_regrown k7
    have c8 := cell_regrown k8
    refine wp_region_quiet_below (by kernel_rfl) (by kernel_rfl) ?_
    repeat (first | go_big_quiet_step ((first | with_reducible exact Calls.regrown_of (D1.out _) | with_reducible exact Calls.regrown_of (D2.out _) | with_reducible exact Calls.regrown_of (D3.out _) | with_reducible exact Calls.regrown_of (D4.out _) | with_reducible exact Calls.regrown_of (D5.out _) | with_reducible exact Calls.regrown_of (D6.out _) | with_reducible exact Calls.regrown_of (D7.out _) | with_reducible exact Calls.regrown_of (D8.out _) | with_reducible exact Calls.regrown_of (D9.out _) | with_reducible exact Calls.regrown_of (DA.out _))) | quiet_step ((first | with_reducible exact Calls.regrown_of (D1.out _) | with_reducible exact Calls.regrown_of (D2.out _) | with_reducible exact Calls.regrown_of (D3.out _) | with_reducible exact Calls.regrown_of (D4.out _) | with_reducible exact Calls.regrown_of (D5.out _) | with_reducible exact Calls.regrown_of (D6.out _) | with_reducible exact Calls.regrown_of (D7.out _) | with_reducible exact Calls.regrown_of (D8.out _) | with_reducible exact Calls.regrown_of (D9.out _) | with_reducible exact Calls.regrown_of (DA.out _))))
    refine wpQuiet_nil ?_
    intro _ hw'
    obtain ⟨⟨dq, osq⟩, hw''⟩ := hw'
    subst hw''
    have HB5 := Lib.hid (HB4.out.trans ((below_regrown W dq osq).mono HB4.out.size))
    have d1 := c7 dq osq
    have d2 := c8 dq osq
    clear c1 c2 c3 c4 c5 c6 c7 c8 k1 k2 k3 k4 k5 k6 k7 k8 hb0 qe
    generalize Sort.grow (redrawn W dq) osq = W2 at *
    go_wp2_with fail
    go_region_held3 (fun w' => w'.cell? ⟨w.heap.size + 1, 0, none⟩ = some (.int .u32 n2) ∧ w'.cell? ⟨w.heap.size + 1, 1, none⟩ = some (.int .i64 o2)) (first | assumption | go_keep)
      (first
        | (go_at_call 42; refine (D9.out _).mono ?_; rintro e1 v0 ⟨rfl, hb1⟩; have j1 := hb1.cell (World.block_lt_of_cell? _ ⟨w.heap.size + 1, 0, none⟩ d1); have j2 := hb1.cell (World.block_lt_of_cell? _ ⟨w.heap.size + 1, 1, none⟩ d2); rw [World.cell?_drew, d1] at j1; rw [World.cell?_drew, d2] at j2; have HC1 := Lib.hid (HB5.out.drew.trans (hb1.mono HB5.out.size)); clear hb1)
        | (go_at_call 50; refine (C7.out _).mono ?_; rintro e1 v1 ⟨rfl, hb1⟩; have m1 := hb1.cell (World.block_lt_of_cell? _ ⟨w.heap.size + 1, 0, none⟩ j1); have m2 := hb1.cell (World.block_lt_of_cell? _ ⟨w.heap.size + 1, 1, none⟩ j2); rw [j1] at m1; rw [j2] at m2; have HC2 := Lib.hid (HC1.out.trans (hb1.mono HC1.out.size)); clear hb1)
        | (go_at_call 13; refine (new_any T _).mono ?_; rintro e2 v2 ⟨rfl, hr2, hb2⟩; have n1 := hb2.cell (World.block_lt_of_cell? _ ⟨w.heap.size + 1, 0, none⟩ m1); have n2 := hb2.cell (World.block_lt_of_cell? _ ⟨w.heap.size + 1, 1, none⟩ m2); rw [m1] at n1; rw [m2] at n2; have HR2 := Lib.hid hr2; have HC3 := Lib.hid (HC2.out.trans (hb2.mono HC2.out.size)); have hpb : w.heap.size ≤ v1.heap.size := HC2.out.size; clear hb2 hr2)
        | (go_at_call 51; refine (C8.out _).mono ?_; rintro e3 v3 ⟨rfl, hb3⟩; have l1 := hb3.cell (World.block_lt_of_cell? _ ⟨w.heap.size + 1, 0, none⟩ n1); have l2 := hb3.cell (World.block_lt_of_cell? _ ⟨w.heap.size + 1, 1, none⟩ n2); rw [n1] at l1; rw [n2] at l2; have HR3 := Lib.hid (HR2.out.keep hb3); have HC4 := Lib.hid (HC3.out.trans (hb3.mono HC3.out.size)); have hqb : w.heap.size ≤ v3.heap.size := HC4.out.size; clear hb3))
    have HST := Lib.hid (show Rel w v1.heap.size v3.heap.size T (.int .i64 0) (v3.alloc (.cells #[.string T, .int .i64 0, .int .i64 0, .int .i64 0] 36)) from
      ⟨0, 0, 0, 0, by omega, rfl, HR3.out.keep (Joins.below_alloc1 v3 _), ⟨Nat.zero_le _, Blk.new v3 _ _⟩, FA.zero T, HC4.out.alloc HC4.out.size _⟩)
    clear A1 A2 D1 D2 D3 D4 D5 D6 D7 D8 D9 DA C7 C8 hadd d1 d2 j1 j2 m1 m2 n1 n2 l1 l2 HR2 HR3 HB1 HB2 HB3 HB4 HB5 HC1 HC2 HC3 HC4 HS1 HS2 HS3 HS4 HT1 HT2 HT3 HT4 HX3 HX4 HY4 hs3 hx3 hs4 ht4
    go_wp2
    go_loopw [15] (fun i wr => Rel w v1.heap.size v3.heap.size T i wr) (fun i _ => 3 - (intOf i).toNat)
    case atStart => exact HST.out
    case round =>
      clear HST
      obtain ⟨k, p, fa, fe, hk, rfl, hr, hq, hfa, hB⟩ := hrel
      have HR := Lib.hid hr
      have HQ := Lib.hid hq
      have HF := Lib.hid hfa
      have HB := Lib.hid hB
      have hpp := hr.1
      clear hr hq hfa hB
      by_cases hlt : k < 3
      · have HF2 := Lib.hid (HF.out.bk hpp)
        obtain ⟨X, hX⟩ : ∃ x, bkX T p fe = x := ⟨_, rfl⟩
        obtain ⟨Y, hY⟩ : ∃ x, bkY T p fe = x := ⟨_, rfl⟩
        have E1 := Lib.hid (fun W h => bread v1.heap.size T p fa fe W hTz h)
        have E2 := Lib.hid (fun W h => rbread v3.heap.size T p fa fe W hTz h)
        rw [hX, hY] at E1 E2
        have qe : ∀ W : World, (binOp .eql 74 (.agg #[.int .u32 X, .int .i64 Y]) (.agg #[.int .u32 X, .int .i64 Y])).run Tryd.prog W = Result.ok (.bool true) W := fun W => by rw [b_eql]; simp
        clear hX hY
        go_wp2
        go_region_with (first
          | (go_at_call 52; refine (E1.out _ (by exact HR.out)).mono ?_; rintro e4 u1 ⟨rfl, hr1, hg1⟩; have HR1 := Lib.hid hr1; have HQ1 := Lib.hid (RR.by_prog (by exact HQ.out) (by exact HR.out) hg1); have HB1 := Lib.hid (below_only (Below.drew HB.out) hg1 hpb (by exact HB.out.size)); clear hr1 hg1)
          | (go_at_call 48; refine (bfrom _ _ _).mono ?_; rintro e5 u2 ⟨rfl, hb5⟩; have HR2 := Lib.hid (HR1.out.keep hb5); have HQ2 := Lib.hid (HQ1.out.keep hb5); have HB2 := Lib.hid (HB1.out.trans (hb5.mono HB1.out.size)); clear hb5)
          | (go_at_call 53; refine (E2.out _ (by exact HQ2.out)).mono ?_; rintro e5 u2 ⟨rfl, hq2, hg2⟩; have HR3 := Lib.hid (HR2.out.by_ref HQ2.out hg2); have HB3 := Lib.hid (below_only HB2.out hg2 hqb HB2.out.size); have HQ3 := Lib.hid hq2; obtain ⟨x0, x1, x2, x3, _⟩ := rr_cells hq2; clear hq2 hg2)
          | (go_at_call 18; refine (oat v1.heap.size T _ _ _ _ (by exact HR3.out)).mono ?_; rintro e6 u3 ⟨rfl, rfl⟩)
          | (go_at_call 20; obtain ⟨ev, hev, hec⟩ := oerr _ _ _ _ _ _ HR3.out; refine hec.mono ?_; rintro e7 u4 ⟨rfl, rfl⟩; have HEV := Lib.hid hev; clear hec hev)
          | (go_at_call 19; refine (seen_ev ev _ _ _ (HG.out.keep HB3.out) HF2.out.1 (by have := HF2.out.2.1; omega) HEV.out).mono ?_; rintro e8 u5 ⟨rfl, hb5⟩; have HR5 := Lib.hid (HR3.out.keep hb5); have HQ5 := Lib.hid (HQ3.out.keep hb5); have HB6 := Lib.hid (HB3.out.trans (hb5.mono HB3.out.size)); obtain ⟨y0, y1, y2, y3, _⟩ := rr_cells HQ5.out; clear hb5))
        all_goals
          go_wp2
          go_roundw
          case rel => exact ⟨k + 1, _, _, _, by omega, by go_num, HR5.out, HQ5.out, HF2.out, HB6.out⟩
          case measure => simp [intOf]; omega
      · go_wp2
        go_ret
        exact ⟨rfl, HB.out⟩
  · have hs2 : 1000 < (s.size : Int) := by omega
    go_enter Tryd.func6, Tryd.ntmps6
    go_wp2
    go_ret
    exact ⟨rfl, Joins.below_alloc2 w _ _⟩
set_option maxRecDepth 100000 in
theorem lifted (os : Os) (started : os.Started) (H : Type) (enc : TypeId × Value → H) :
    ReturnsInHanded {} Tryd.checked os 6 .any (fun w args => (Rows.ballotTellsSpec.pre enc Tryd.prog Tryd.f6 [] false w args ∧ laidMetH Tryd.prog laidL w) ∧ sizedMet enc Tryd.prog Tryd.f6 (OpenSpec.ofChange Rows.ballotTellsSpec) false w args) (Rows.ballotTellsSpec.post enc Tryd.prog Tryd.f6 false true false false) := by
  refine returnsInHanded_of_change_and (C := Tryd.checked) (X := fun w _ => laidMetH Tryd.prog laidL w) (fun _ _ _ hh h => h.of_heap hh) own started (by kernel_rfl) Tryd.func6
    (ChangeSpec.witness_at (enc := enc) (C := Tryd.checked) (os := os) (X := fun w _ => laidMetH Tryd.prog laidL w) false (laidWorld os) #[.agg #[.int .u32 0, .int .i64 0], .agg #[.int .u32 0, .int .i64 0], .int .i64 0, .string ⟨#[]⟩] 8 rfl (by kernel_rfl) (by kernel_rfl) (by kernel_rfl) (by kernel_rfl) (by kernel_rfl) (laidWorld_met os _)) ?_
  intro W base args ds gs before hval0 hW hcnd _ hL _
  have hval : ∀ (j : Nat) t v, Tryd.f6.params[j]? = some t → args[j]? = some v → Value.okWide Tryd.prog W .any base t v := hval0
  have hW' := hW
  obtain ⟨p, q, hA0, hV, rfl, hfz, hnd⟩ := hW
  have hA : DataW.TrodAll enc Tryd.prog W 0 (fun _ => true) true Tryd.f6.params.toList args.toList ds p := hA0
  rw [Tryd.params6] at hA hval
  obtain ⟨v0, vs0, d0, ds0, p0, q0, hargs, rfl, rfl, h0, r0⟩ := trodAll_cons hA
  obtain ⟨v1, vs1, d1, ds1, p1, q1, rfl, rfl, rfl, h1, r1⟩ := trodAll_cons r0
  obtain ⟨v2, vs2, d2, ds2, p2, q2, rfl, rfl, rfl, h2, r2⟩ := trodAll_cons r1
  obtain ⟨v3, vs3, d3, ds3, p3, q3, rfl, rfl, rfl, h3, r3⟩ := trodAll_cons r2
  obtain ⟨rfl, rfl, rfl⟩ := trodAll_nil r3
  obtain rfl : args = #[v0, v1, v2, v3] := by cases args; simp_all
  obtain ⟨rfl, rfl⟩ := trodVars_none hV
  have k0 := h0
  have lt0 : ∀ x ∈ p0, x.block < W.heap.size := by obtain ⟨m, hm⟩ := k0; exact DataW.trod_lt m _ _ _ hm
  obtain ⟨a0x, a0y, rfl, w0x, w0y⟩ := pair_open (k0 := .u32) (k1 := .i64) Tryd.underlying74 (by kernel_rfl) rfl rfl (by kernel_rfl) (by kernel_rfl) (by kernel_rfl) (by kernel_rfl) (hval 0 74 v0 rfl rfl) h0
  have k1 := h1
  have lt1 : ∀ x ∈ p1, x.block < W.heap.size := by obtain ⟨m, hm⟩ := k1; exact DataW.trod_lt m _ _ _ hm
  obtain ⟨a1x, a1y, rfl, w1x, w1y⟩ := pair_open (k0 := .u32) (k1 := .i64) Tryd.underlying74 (by kernel_rfl) rfl rfl (by kernel_rfl) (by kernel_rfl) (by kernel_rfl) (by kernel_rfl) (hval 1 74 v1 rfl rfl) h1
  have k2 := h2
  have lt2 : ∀ x ∈ p2, x.block < W.heap.size := by obtain ⟨m, hm⟩ := k2; exact DataW.trod_lt m _ _ _ hm
  obtain ⟨a2, rfl, ed2, rfl, w2⟩ := open_int Tryd.underlying3 (hval 2 3 v2 rfl rfl) h2
  have k3 := h3
  have lt3 : ∀ x ∈ p3, x.block < W.heap.size := by obtain ⟨m, hm⟩ := k3; exact DataW.trod_lt m _ _ _ hm
  obtain ⟨a3, rfl, ed3, rfl, w3⟩ := open_string Tryd.underlying9 (hval 3 9 v3 rfl rfl) h3
  clear hA0 hval0
  have hg := handle_of_laid hL
  refine (walk a0x a0y a1x a1y a2 a3 W w0x w0y w1x w1y w2 w3 hg).mono fun e W' ⟨he, bel⟩ => ?_
  subst he
  exact ⟨_, rfl, _, _, _, [], _, [], hW', trodAll_mk1 (shut_bool Tryd.underlying4 _), (trodAll_cons_mk (Below.trod laidOut (by kernel_rfl) (of_decide_eq_true (by kernel_rfl)) k0 bel lt0) (trodAll_cons_mk (Below.trod laidOut (by kernel_rfl) (of_decide_eq_true (by kernel_rfl)) k1 bel lt1) (trodAll_cons_mk (Below.trod laidOut (by kernel_rfl) (of_decide_eq_true (by kernel_rfl)) k2 bel lt2) (trodAll_cons_mk (Below.trod laidOut (by kernel_rfl) (of_decide_eq_true (by kernel_rfl)) k3 bel lt3) trodAll_mk0)))), rfl, bel.frame _, fun h => by cases h⟩
theorem over : Rows.ballotTellsRow.holds Tryd.pinned (OpenSpec.ofChange Rows.ballotTellsSpec) :=
  OpenClaim.holds_of_wide 6 Tryd.f6 rfl rfl rfl rfl rfl rfl rfl ⟨rfl, rfl, rfl, rfl, rfl⟩ rfl rfl rfl rfl rfl (by kernel_rfl) Tryd.func6 (by kernel_rfl)
    (of_decide_eq_true (by kernel_rfl)) (by unfold Func.isWrapper; first | (rw [if_pos (by decide +kernel)]; kernel_rfl) | (rw [if_neg (by decide +kernel)]; exact ⟨rfl, rfl⟩))
    (fun os started H enc _ => lifted os started H enc)
set_option maxRecDepth 100000 in
theorem proved : Rows.BallotTellsCardSaid :=
  Claim7.holds_tied_plain_at .later [] [.handle] true (true, "4e4649b2e56293408b5a5a7ede715043e58c140f8488b5403f3bf02124768ed7") true over (fun _ h => by cases h) (by kernel_rfl) (fun _ h => by cases h) ballotTells_row_tie rfl ⟨rfl, rfl⟩ (by kernel_rfl) rfl
    (fun f fn hf hfn => by
      obtain rfl : f = 6 := Option.some.inj ((show Tryd.prog.funcNamed "selkie/selkielaw23.BallotTells" = some 6 by kernel_rfl).symm.trans hf) |>.symm
      obtain rfl : fn = Tryd.f6 := (Option.some.inj (Tryd.func6.symm.trans hfn)).symm
      exact ⟨by kernel_rfl, fun j t ht => by
        rw [Tryd.params6] at ht
        match j, ht with
        | 0, ht => (have e : t = 74 := by simpa using ht.symm); subst e; exact (show Tryd.prog.wantsStandIn 74 = false by kernel_rfl)
        | 1, ht => (have e : t = 74 := by simpa using ht.symm); subst e; exact (show Tryd.prog.wantsStandIn 74 = false by kernel_rfl)
        | 2, ht => (have e : t = 3 := by simpa using ht.symm); subst e; exact (show Tryd.prog.wantsStandIn 3 = false by kernel_rfl)
        | 3, ht => (have e : t = 9 := by simpa using ht.symm); subst e; exact (show Tryd.prog.wantsStandIn 9 = false by kernel_rfl)
        | j + 4, ht => simp at ht⟩)
    (by kernel_rfl)
#print axioms proved
end Go.Proofs.YtjckganigfblnaaDoor.lawBallotTells
