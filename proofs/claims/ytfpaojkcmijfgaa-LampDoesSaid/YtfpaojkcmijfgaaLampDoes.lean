/- The law LampDoes returns true for every input: a clock and the reference's answer alike on whatever acts.
   Conditions: none beyond the row's own. -/
import Derived.Test.YtfpaojkcmijfgaaClockR
import Derived.Test.YtfpaojkcmijfgaaTab
import Derived.Test.YtfpaojkcmijfgaaFrame
import Derived.Test.YtfpaojkcmijfgaaBlk
import Derived.Deep.RegionHeld3
import Derived.Deep.DrawnRows
import Derived.Deep.QuietTactic
import Derived.BigQuiet
import Derived.Lib.QuietBelow
namespace Go.Proofs.Ytfpaojkcmijfgaa.lawLampDoes
open Go.ChangeShapes Go.WideShapes Go.ChangeAt Go.RowKit
open Go.ChangeMaps (open_string shut_string)
set_option linter.unusedVariables false
attribute [local go_sem ↓] Go.wp_at_zero Go.wp_at_succ
theorem st_eqT (a b : Int) (W : World) : (binOp .eql 40 (.agg #[.int .u32 a, .int .i64 b]) (.agg #[.int .u32 a, .int .i64 b])).run Try.prog W = Result.ok (.bool true) W := by rw [st_eql]; simp
theorem clk_newT (w : World) (o t : Int) (T : TypeId) : Clk (w.alloc (.cells #[.int .i64 o, .int .u32 t] T)) w.heap.size o t := ⟨by simp, by simp, by simp, by simp⟩
def Rel (w : World) (n : Nat) (o : Int) (bb : Nat) (s i : Value) (wr : World) : Prop :=
  ∃ (k ba : Nat) (t : Int), k ≤ n ∧ k ≤ 60 ∧ i = .int .i64 k ∧ s = .pointer (some ⟨ba, 0, none⟩) ∧ Clk wr ba o t ∧ Clk wr bb o t ∧ ba ≠ bb ∧ w.heap.size ≤ ba ∧ w.heap.size ≤ bb ∧ 0 ≤ t ∧ t ≤ 1048576 ∧ Below w.heap.size w wr
set_option maxRecDepth 100000 in
set_option maxHeartbeats 6400000 in
theorem walk (o : Int) (A : Option Addr) (n cap : Nat) (V : Nat → Int × Int × Int) (w : World) (wo : (Lit.int .i64 o).wf = true) (hmax : n ≤ maxLen) (htab : Tab3 w .i64 .u32 .i64 A n V) :
    Calls Try.prog 4 #[.int .i64 o, .slice A n cap] w fun e w' => e = .returned (.bool true) ∧ Below w.heap.size w w' := by
  unfold maxLen at hmax
  have HT := Lib.hid htab
  clear htab wo
  by_cases ho : 0 ≤ o ∧ o ≤ 7
  · obtain ⟨ho1, ho2⟩ := ho
    go_enter Try.func4, Try.ntmps4
    go_wp2_with fail
    refine (new_yes o _ ho1 ho2).mono ?_; rintro e w1 ⟨rfl, rfl⟩
    go_wp2_with fail
    refine (rnew_yes o _ ho1 ho2).mono ?_; rintro e w1 ⟨rfl, rfl⟩
    go_wp2_with fail
    have HA := Lib.hid ((clk_new w o 97).below (Joins.below_alloc1 _ (.cells #[.int .i64 o, .int .u32 0] 49)))
    have hsz : (w.alloc (.cells #[.int .i64 o, .int .u32 0] 97)).heap.size = w.heap.size + 1 := by simp
    have HR := Lib.hid (clk_new (w.alloc (.cells #[.int .i64 o, .int .u32 0] 97)) o 49)
    rw [hsz] at HR
    have HB := Lib.hid (Joins.below_alloc2 w (.cells #[.int .i64 o, .int .u32 0] 97) (.cells #[.int .i64 o, .int .u32 0] 49))
    clear hsz
    go_loopw [5, 9] (fun s i wr => Rel w n o (w.heap.size + 1) s i wr) (fun _ i _ => n - (intOf i).toNat)
    case atStart => exact ⟨0, w.heap.size, 0, Nat.zero_le _, by omega, rfl, rfl, HA.out, HR.out, by omega, Nat.le_refl _, by omega, by omega, by omega, HB.out⟩
    case round =>
      clear HA HR HB
      obtain ⟨k, ba, t, hk, hk6, rfl, rfl, ha, hr, hne, hba, hbb, ht0, ht1, hB⟩ := hrel
      have HA := Lib.hid ha
      have HR := Lib.hid hr
      have HB := Lib.hid hB
      have hla := ha.lt
      have hlr := hr.lt
      clear ha hr hB
      by_cases hkn : k < n
      · by_cases hk60 : k < 60
        · obtain ⟨⟨b, off, rfl, hc0, hc1, hc2⟩, hw0, hw1, hw2⟩ := HT.out k hkn
          obtain ⟨⟨kd, s, p⟩, hx⟩ : ∃ x, V k = x := ⟨_, rfl⟩
          rw [hx] at hc0 hc1 hc2 hw0 hw1 hw2
          simp only at hc0 hc1 hc2 hw0 hw1 hw2
          clear hx
          obtain ⟨hs1, hs2⟩ := wf_u32 hw1
          clear hw0 hw1 hw2
          have hbl : b < w.heap.size := Go.block_lt_of_cell hc0
          have hd0 : wr.cell? ⟨b, off + k * 3, none⟩ = some (.int .i64 kd) := by rw [HB.out.cell (p := ⟨b, off + k * 3, none⟩) hbl]; exact hc0
          have hd1 : wr.cell? ⟨b, off + k * 3 + 1, none⟩ = some (.int .u32 s) := by rw [HB.out.cell (p := ⟨b, off + k * 3 + 1, none⟩) hbl]; exact hc1
          have hd2 : wr.cell? ⟨b, off + k * 3 + 2, none⟩ = some (.int .i64 p) := by rw [HB.out.cell (p := ⟨b, off + k * 3 + 2, none⟩) hbl]; exact hc2
          clear hc0 hc1 hc2
          have hk0 : (0 : Int) ≤ (k : Int) := by omega
          have hk1 : (k : Int) < (n : Int) := by omega
          have hk2 : (k : Int) < 60 := by omega
          have END : ∀ (W : World) (ba : Nat) (t : Int), Clk W ba o t → Clk W (w.heap.size + 1) o t → ba ≠ w.heap.size + 1 → w.heap.size ≤ ba → 0 ≤ t → t ≤ 1048576 → Below w.heap.size w W → Rel w n o (w.heap.size + 1) (.pointer (some ⟨ba, 0, none⟩)) (.int .i64 ((k : Int) + 1)) W :=
            fun W ba t h1 h2 h3 h4 h5 h6 h7 => ⟨k + 1, ba, t, by omega, by omega, by go_num, rfl, h1, h2, h3, h4, hbb, h5, h6, h7⟩
          have HE := Lib.hid END
          clear END
          rcases (by omega : kd = 0 ∨ kd = 1 ∨ (kd ≠ 0 ∧ kd ≠ 1)) with rfl | rfl | ⟨hq0, hq1⟩
          · go_wp2_with fail
            go_region_held3 (fun w' => w'.cell? ⟨b, off + k * 3 + 1, none⟩ = some (.int .u32 s) ∧ w'.cell? ⟨b, off + k * 3 + 2, none⟩ = some (.int .i64 p)) (first | assumption | (and_intros <;> first | assumption | (simp [*]; done)) | go_keep)
              (first
                | (go_at_call 17; refine (see_u ba o t s p _ (HA.out.drew rfl)).mono ?_; rintro e1 v1 ⟨rfl, hk1, hg1⟩
                   have HA1 := Lib.hid hk1
                   have HR1 := Lib.hid ((HR.out.drew rfl).grown hg1 (by intro e; injection e with e; exact hne e.symm))
                   have HB1 := Lib.hid (below_grown HB.out.drew hg1 hba HB.out.size)
                   have i1 := hg1.cell (a := ⟨b, off + k * 3 + 1, none⟩) hd1 (by intro e; injection e with e; simp at e; omega)
                   have i2 := hg1.cell (a := ⟨b, off + k * 3 + 2, none⟩) hd2 (by intro e; injection e with e; simp at e; omega)
                   clear hk1 hg1)
                | (go_at_call 18; refine (rsee_u (w.heap.size + 1) o t s p _ HR1.out).mono ?_; rintro e2 v2 ⟨rfl, hk2, hg2⟩
                   have HR2 := Lib.hid hk2
                   have HA2 := Lib.hid (HA1.out.grown hg2 (by intro e; injection e with e; exact hne e))
                   have HB2 := Lib.hid (below_grown HB1.out hg2 hbb HB1.out.size)
                   have j1 := hg2.cell (a := ⟨b, off + k * 3 + 1, none⟩) i1 (by intro e; injection e with e; simp at e; omega)
                   have j2 := hg2.cell (a := ⟨b, off + k * 3 + 2, none⟩) i2 (by intro e; injection e with e; simp at e; omega)
                   clear hk2 hg2))
            have ht2 := seeT_bd (p := p) ht0 ht1 hs1
            clear HA HR HB HA1 HR1 HB1 hd0 hd1 hd2 i1 i2 j1 j2
            have HN0 : ∀ (d : Nat) (os : Array Obj), Calls Try.prog 22 #[.pointer (some ⟨ba, 0, none⟩)] (Sort.grow (redrawn v2 d) os) fun e w' => e = .returned (.int .u32 (seeT t s p)) ∧ Below (Sort.grow (redrawn v2 d) os).heap.size (Sort.grow (redrawn v2 d) os) w' := fun d os =>
              (now_any ba o (seeT t s p) _ (HA2.out.below (below_regrown v2 d os))).mono (by rintro e w' ⟨rfl, rfl⟩; exact ⟨rfl, Below.refl _ _⟩)
            have HN := Lib.hid HN0
            clear HN0
            have kR := HR2.out.2.1
            have cR := cell_regrown kR
            go_wp2_with fail
            refine wp_region_quiet_below (by kernel_rfl) (by kernel_rfl) ?_
            repeat (first | go_big_quiet_step ((with_reducible exact Calls.regrown_of (HN.out _ _))) | quiet_step ((with_reducible exact Calls.regrown_of (HN.out _ _))))
            refine wpQuiet_nil ?_
            intro _ hw'
            obtain ⟨⟨dq, osq⟩, hw''⟩ := hw'
            subst hw''
            have HZ := Lib.hid (HE.out _ ba (seeT t s p) (HA2.out.below (below_regrown v2 dq osq)) (HR2.out.below (below_regrown v2 dq osq)) hne hba ht2.1 ht2.2 (HB2.out.trans ((below_regrown v2 dq osq).mono HB2.out.size)))
            clear kR cR
            go_wp2
            go_roundw
            case rel => exact HZ.out
            case measure => simp [intOf] <;> omega
          · go_wp2_with fail
            refine (cnext_u ba o t _ HA.out ht0 ht1).mono ?_; rintro e1 v1 ⟨rfl, hk1, hg1⟩
            have HA1 := Lib.hid hk1
            have HR1 := Lib.hid (HR.out.grown hg1 (by intro e; injection e with e; exact hne e.symm))
            have HB1 := Lib.hid (below_grown HB.out hg1 hba HB.out.size)
            have hl1 := HR1.out.lt
            have hl2 := HA1.out.lt
            clear hk1 hg1 HA HR HB hd0 hd1 hd2
            go_wp2_with fail
            refine (rcnext_u (w.heap.size + 1) o t _ (HR1.out.below (Joins.below_alloc1 _ _)) ht0 ht1).mono ?_; rintro e2 v2 ⟨rfl, hk2, hg2⟩
            have HR2 := Lib.hid hk2
            have HA2 := Lib.hid ((HA1.out.below (Joins.below_alloc1 _ _)).grown hg2 (by intro e; injection e with e; exact hne e))
            have HB2 := Lib.hid (below_grown (HB1.out.alloc HB1.out.size _) hg2 hbb (by have := HB1.out.size; simp; omega))
            have x0 := hg2.cell (a := ⟨v1.heap.size, 0, none⟩) (v := .int .u32 (nxS t)) (by simp) (by intro e; injection e with e; simp at e; omega)
            have x1 := hg2.cell (a := ⟨v1.heap.size, 1, none⟩) (v := .int .i64 (nxO t o)) (by simp) (by intro e; injection e with e; simp at e; omega)
            have hlx : v1.heap.size < v2.heap.size := World.block_lt_of_cell? v2 ⟨v1.heap.size, 0, none⟩ x0
            have heq := st_eqT (nxS t) (nxO t o)
            have ht2 := nxT_bd ht0 ht1
            have HA3 := Lib.hid (HA2.out.below (Joins.below_alloc1 v2 (.cells #[.int .u32 (nxS t), .int .i64 (nxO t o)] 40)))
            have HR3 := Lib.hid (HR2.out.below (Joins.below_alloc1 v2 (.cells #[.int .u32 (nxS t), .int .i64 (nxO t o)] 40)))
            have HB3 := Lib.hid (HB2.out.alloc HB2.out.size (.cells #[.int .u32 (nxS t), .int .i64 (nxO t o)] 40))
            clear hk2 hg2 HA1 HR1 HB1 HA2 HR2 HB2
            go_wp2_with fail
            generalize v2.alloc (.cells #[.int .u32 (nxS t), .int .i64 (nxO t o)] 40) = v3 at HA3 HR3 HB3 ⊢
            clear x0 x1 heq
            have HN0 : ∀ (d : Nat) (os : Array Obj), Calls Try.prog 22 #[.pointer (some ⟨ba, 0, none⟩)] (Sort.grow (redrawn v3 d) os) fun e w' => e = .returned (.int .u32 (nxT t)) ∧ Below (Sort.grow (redrawn v3 d) os).heap.size (Sort.grow (redrawn v3 d) os) w' := fun d os =>
              (now_any ba o (nxT t) _ (HA3.out.below (below_regrown v3 d os))).mono (by rintro e w' ⟨rfl, rfl⟩; exact ⟨rfl, Below.refl _ _⟩)
            have HN := Lib.hid HN0
            clear HN0
            have kR := HR3.out.2.1
            have cR := cell_regrown kR
            go_wp2_with fail
            refine wp_region_quiet_below (by kernel_rfl) (by kernel_rfl) ?_
            repeat (first | go_big_quiet_step ((with_reducible exact Calls.regrown_of (HN.out _ _))) | quiet_step ((with_reducible exact Calls.regrown_of (HN.out _ _))))
            refine wpQuiet_nil ?_
            intro _ hw'
            obtain ⟨⟨dq, osq⟩, hw''⟩ := hw'
            subst hw''
            have HZ := Lib.hid (HE.out _ ba (nxT t) (HA3.out.below (below_regrown v3 dq osq)) (HR3.out.below (below_regrown v3 dq osq)) hne hba ht2.1 ht2.2 (HB3.out.trans ((below_regrown v3 dq osq).mono HB3.out.size)))
            clear kR cR
            go_wp2
            go_roundw
            case rel => exact HZ.out
            case measure => simp [intOf] <;> omega
          · have hq2 : (kd == 0) = false := by simpa using hq0
            have hq3 : (kd == 1) = false := by simpa using hq1
            clear hq0 hq1
            go_wp2_with fail
            refine (copy_any ba o t _ HA.out).mono ?_; rintro e1 v1 ⟨rfl, rfl⟩
            have HC := Lib.hid (clk_newT wr o t 97)
            have HA1 := Lib.hid (HA.out.below (Joins.below_alloc1 wr (.cells #[.int .i64 o, .int .u32 t] 97)))
            have HR1 := Lib.hid (HR.out.below (Joins.below_alloc1 wr (.cells #[.int .i64 o, .int .u32 t] 97)))
            have HB1 := Lib.hid (HB.out.alloc HB.out.size (.cells #[.int .i64 o, .int .u32 t] 97))
            clear HA HR hd0 hd1 hd2 hq2 hq3
            go_wp2_with fail
            refine (cnext_u ba o t _ HA1.out ht0 ht1).mono ?_; rintro e2 v2 ⟨rfl, hk2, hg2⟩
            have HA2 := Lib.hid (HC.out.grown hg2 (by intro e; injection e with e; omega))
            have HR2 := Lib.hid (HR1.out.grown hg2 (by intro e; injection e with e; exact hne e.symm))
            have HB2 := Lib.hid (below_grown HB1.out hg2 hba HB1.out.size)
            have hne2 : wr.heap.size ≠ w.heap.size + 1 := by omega
            have hge2 : w.heap.size ≤ wr.heap.size := HB.out.size
            clear hk2 hg2 HA1 HR1 HB1 HC HB
            go_wp2_with fail
            have HN0 : ∀ (d : Nat) (os : Array Obj), Calls Try.prog 22 #[.pointer (some ⟨wr.heap.size, 0, none⟩)] (Sort.grow (redrawn v2 d) os) fun e w' => e = .returned (.int .u32 (t)) ∧ Below (Sort.grow (redrawn v2 d) os).heap.size (Sort.grow (redrawn v2 d) os) w' := fun d os =>
              (now_any wr.heap.size o (t) _ (HA2.out.below (below_regrown v2 d os))).mono (by rintro e w' ⟨rfl, rfl⟩; exact ⟨rfl, Below.refl _ _⟩)
            have HN := Lib.hid HN0
            clear HN0
            have kR := HR2.out.2.1
            have cR := cell_regrown kR
            go_wp2_with fail
            refine wp_region_quiet_below (by kernel_rfl) (by kernel_rfl) ?_
            repeat (first | go_big_quiet_step ((with_reducible exact Calls.regrown_of (HN.out _ _))) | quiet_step ((with_reducible exact Calls.regrown_of (HN.out _ _))))
            refine wpQuiet_nil ?_
            intro _ hw'
            obtain ⟨⟨dq, osq⟩, hw''⟩ := hw'
            subst hw''
            have HZ := Lib.hid (HE.out _ wr.heap.size (t) (HA2.out.below (below_regrown v2 dq osq)) (HR2.out.below (below_regrown v2 dq osq)) hne2 hge2 ht0 ht1 (HB2.out.trans ((below_regrown v2 dq osq).mono HB2.out.size)))
            clear kR cR
            go_wp2
            go_roundw
            case rel => exact HZ.out
            case measure => simp [intOf] <;> omega
        · obtain rfl : k = 60 := by omega
          go_wp2
          go_ret
          exact ⟨rfl, HB.out⟩
      · obtain rfl : k = n := by omega
        go_wp2
        go_ret
        exact ⟨rfl, HB.out⟩
  · go_enter Try.func4, Try.ntmps4
    have HO := Lib.hid ho
    clear ho
    go_wp2_with fail
    refine (new_no o _ HO.out).mono ?_; rintro e w1 ⟨rfl, rfl⟩
    go_wp2_with fail
    refine (rnew_no o _ HO.out).mono ?_; rintro e w1 ⟨rfl, rfl⟩
    go_wp2
    go_ret
    exact ⟨rfl, Below.refl _ _⟩
set_option maxRecDepth 100000 in
theorem lifted (os : Os) (started : os.Started) (H : Type) (enc : TypeId × Value → H) :
    ReturnsInHanded {} Try.checked os 4 .any (Rows.lampDoesSpec.pre6 enc Try.prog Try.f4 Rows.lampDoesRow.domain false) (Rows.lampDoesSpec.post enc Try.prog Try.f4 false true false false) := by
  refine returnsInHanded_of_change (C := Try.checked) own started (by kernel_rfl) Try.func4
    (ChangeSpec.witness6 (enc := enc) (C := Try.checked) false ⟨#[], #[.int .i64 0, .slice none 0 0], []⟩ 8 (by kernel_rfl) (by kernel_rfl) (by kernel_rfl) (by kernel_rfl)) ?_
  intro W base args ds gs before hval0 hW hcnd _
  have hval : ∀ (j : Nat) t v, Try.f4.params[j]? = some t → args[j]? = some v → Value.okWide Try.prog W .any base t v := hval0
  have hW' := hW
  obtain ⟨p, q, hA0, hV, rfl, hfz, hnd⟩ := hW
  have hA : DataW.TrodAll enc Try.prog W 0 (fun _ => true) true Try.f4.params.toList args.toList ds p := hA0
  rw [Try.params4] at hA hval
  obtain ⟨v0, vs0, d0, ds0, p0, q0, hargs, rfl, rfl, h0, r0⟩ := trodAll_cons hA
  obtain ⟨v1, vs1, d1, ds1, p1, q1, rfl, rfl, rfl, h1, r1⟩ := trodAll_cons r0
  obtain ⟨rfl, rfl, rfl⟩ := trodAll_nil r1
  obtain rfl : args = #[v0, v1] := by cases args; simp_all
  obtain ⟨rfl, rfl⟩ := trodVars_none hV
  have k0 := h0
  have lt0 : ∀ x ∈ p0, x.block < W.heap.size := by obtain ⟨m, hm⟩ := k0; exact DataW.trod_lt m _ _ _ hm
  obtain ⟨a0, rfl, ed0, rfl, w0⟩ := open_int Try.underlying3 (hval 0 3 v0 rfl rfl) h0
  have k1 := h1
  have lt1 : ∀ x ∈ p1, x.block < W.heap.size := by obtain ⟨m, hm⟩ := k1; exact DataW.trod_lt m _ _ _ hm
  obtain ⟨a1A, a1n, a1c, a1V, rfl, w1l, w1t⟩ := tab3_open (k0 := .i64) (k1 := .u32) (k2 := .i64) Try.underlying31 Try.underlying42 (by kernel_rfl) rfl rfl (by kernel_rfl) (by kernel_rfl) Try.underlying40 (by kernel_rfl) rfl rfl (by kernel_rfl) (by kernel_rfl) (by kernel_rfl) (by kernel_rfl) (hval 1 31 v1 rfl rfl) h1
  clear hA0 hval0
  refine (walk a0 a1A a1n a1c a1V W w0 w1l w1t).mono fun e W' ⟨he, bel⟩ => ?_
  subst he
  exact ⟨_, rfl, _, _, _, [], _, [], hW', trodAll_mk1 (shut_bool Try.underlying4 _), (trodAll_cons_mk (Below.trod laidOut (by kernel_rfl) (of_decide_eq_true (by kernel_rfl)) k0 bel lt0) (trodAll_cons_mk (Below.trod laidOut (by kernel_rfl) (of_decide_eq_true (by kernel_rfl)) k1 bel lt1) trodAll_mk0)), rfl, bel.frame _, fun h => by cases h⟩
theorem over : Rows.lampDoesRow.holds Try.pinned (OpenSpec.ofChange Rows.lampDoesSpec) :=
  OpenClaim.holds_of_wide 4 Try.f4 rfl rfl rfl rfl rfl rfl rfl ⟨rfl, rfl, rfl, rfl, rfl⟩ rfl rfl rfl rfl rfl (by kernel_rfl) Try.func4 (by kernel_rfl)
    (of_decide_eq_true (by kernel_rfl)) (by unfold Func.isWrapper; first | (rw [if_pos (by decide +kernel)]; kernel_rfl) | (rw [if_neg (by decide +kernel)]; exact ⟨rfl, rfl⟩))
    (fun os started H enc _ => lifted os started H enc)
theorem proved : Rows.LampDoesSaid := over
#print axioms proved
end Go.Proofs.Ytfpaojkcmijfgaa.lawLampDoes
