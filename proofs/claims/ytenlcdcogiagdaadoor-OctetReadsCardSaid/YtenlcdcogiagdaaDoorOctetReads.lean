/- The law OctetReads returns true for every input: any bytes, read as whatever is wanted, read alike.
   Conditions: none beyond the row's own. -/
import Derived.Test.YtenlcdcogiagdaaDoorTab
import Derived.Test.YtenlcdcogiagdaaDoorR2
import Derived.Test.YtenlcdcogiagdaaDoorSeen
import Derived.Test.YtenlcdcogiagdaaDoorTail
import Derived.Lib.QuietBelow
import Derived.Test.YtenlcdcogiagdaaDoorFrame
import Derived.Test.YtenlcdcogiagdaaDoorDoor
import Derived.Deep.QuietTactic
import Derived.BigQuiet
import Derived.Deep.RegionHeld3
import Derived.Deep.RegionWith
import Derived.Deep.CutRange
namespace Go.Proofs.YtenlcdcogiagdaaDoor.lawOctetReads
open Go.ChangeShapes Go.WideShapes Go.ChangeAt Go.RowKit
open Go.ChangeMaps (open_string shut_string)
set_option linter.unusedVariables false
def fkE (fe k : Int) : Int := if fe = 0 then k else fe
def fkA (p : Nat) (fa fe k : Int) : Int := if fe = 0 ∧ ¬ k = 0 then p else fa
theorem fail_any (b : Nat) (s : ByteArray) (p : Nat) (fa fe k : Int) (w : World) (h : R w b s p fa fe) :
    Calls Tryd.prog 20 #[.pointer (some ⟨b, 0, none⟩), .int .i64 k] w fun e w' => e = .returned (.tuple #[]) ∧ R w' b s p (fkA p fa fe k) (fkE fe k) ∧ w.grownBy w' (some b) := by
  by_cases hf : fe = 0
  · subst hf
    by_cases hk : k = 0
    · subst hk
      refine (fail_ok b s p fa 0 w h).mono ?_; rintro e w' ⟨rfl, rfl⟩
      exact ⟨rfl, by simpa [fkA, fkE] using h, only_of (Below.refl _ _) _⟩
    · obtain ⟨rfl, _⟩ := r_err0 h
      refine (fail_new b s p k w h hk).mono ?_; rintro e w' ⟨rfl, h1, h2⟩
      exact ⟨rfl, by simpa [fkA, fkE, hk] using h1, h2⟩
  · refine (fail_had b s p fa fe k w h hf).mono ?_; rintro e w' ⟨rfl, rfl⟩
    exact ⟨rfl, by simpa [fkA, fkE, hf] using h, only_of (Below.refl _ _) _⟩
theorem rfail_any (b : Nat) (s : ByteArray) (p : Nat) (fa fe k : Int) (w : World) (h : RR w b s p fa fe) :
    Calls Tryd.prog 21 #[.pointer (some ⟨b, 0, none⟩), .int .i64 k] w fun e w' => e = .returned (.tuple #[]) ∧ RR w' b s p (fkA p fa fe k) (fkE fe k) ∧ w.grownBy w' (some b) := by
  by_cases hf : fe = 0
  · subst hf
    by_cases hk : k = 0
    · subst hk
      refine (rfail_ok b s p fa 0 w h).mono ?_; rintro e w' ⟨rfl, rfl⟩
      exact ⟨rfl, by simpa [fkA, fkE] using h, only_of (Below.refl _ _) _⟩
    · refine (rfail_new b s p fa k w h hk).mono ?_; rintro e w' ⟨rfl, h1, h2⟩
      exact ⟨rfl, by simpa [fkA, fkE, hk] using h1, h2⟩
  · refine (rfail_had b s p fa fe k w h hf).mono ?_; rintro e w' ⟨rfl, rfl⟩
    exact ⟨rfl, by simpa [fkA, fkE, hf] using h, only_of (Below.refl _ _) _⟩
theorem FA.fk {s : ByteArray} {p : Nat} {fa fe : Int} (k : Int) (h : FA s fa fe) (hp : p ≤ s.size) : FA s (fkA p fa fe k) (fkE fe k) := by
  obtain ⟨h0, h1, h2⟩ := h
  unfold fkA fkE
  split
  · rename_i hc
    rw [if_pos hc.1]
    exact ⟨by omega, by omega, fun e => absurd e hc.2⟩
  · refine ⟨h0, h1, fun e => ?_⟩
    split at e
    · exact h2 (by assumption)
    · exact h2 e
theorem FA.tx {s : ByteArray} {p : Nat} {fa fe m : Int} (h : FA s fa fe) (hp : p ≤ s.size) : FA s (txA m s p fa fe) (txE m s p fe) := by
  have hr := h.rd (lim := some m) hp
  by_cases hf : rdF (some m) s p fe = 0
  · by_cases h2 : s.size - rdP (some m) s p fe < rdV (some m) s p fe
    · obtain ⟨a, b, _⟩ := tx_short (fa := fa) hf h2
      rw [a, b]; exact ⟨by omega, by omega, fun e => by cases e⟩
    · obtain ⟨a, b, _⟩ := tx_good (fa := fa) hf h2
      rw [a, b]; rw [hf] at hr; exact hr
  · obtain ⟨a, b, _⟩ := tx_bad (fa := fa) hf
    rw [a, b]; exact hr
theorem FA.en {s : ByteArray} {p : Nat} {fa fe : Int} (h : FA s fa fe) (hp : p ≤ s.size) : FA s (enA s p fa fe) (enE s p fe) := by
  obtain ⟨h0, h1, h2⟩ := h
  unfold enA enE
  split
  · exact ⟨by omega, by omega, fun e => by cases e⟩
  · exact ⟨h0, h1, h2⟩
theorem keep_cell {w w' : World} {b x o : Nat} {v : Value} (hg : w.grownBy w' (some b)) (h : w.cell? ⟨x, o, none⟩ = some v) (hne : x ≠ b) : w'.cell? ⟨x, o, none⟩ = some v :=
  (hg.cell_far ⟨x, o, none⟩ (cell_lt h) (fun e => hne (Option.some.inj e))).trans h
/-- What holds at the head of a round. -/
def Rel (w : World) (pb qb : Nat) (T : ByteArray) (i : Value) (wr : World) : Prop :=
  ∃ (k p : Nat) (fa fe : Int), k ≤ 40 ∧ i = .int .i64 k ∧ R wr pb T p fa fe ∧ RR wr qb T p fa fe ∧ FA T fa fe ∧ Below w.heap.size w wr
set_option maxRecDepth 100000 in
set_option maxHeartbeats 6400000 in
theorem walk (s : ByteArray) (A : Option Addr) (n c : Nat) (V : Nat → Int × Int) (w : World) (w0 : s.size ≤ maxLen) (w1 : n ≤ maxLen) (w2 : Tab2 w .i64 .i64 A n V) (hg : ET w) :
    Calls Tryd.prog 3 #[.string s, .slice A n c] w fun e w' => e = .returned (.bool true) ∧ Below w.heap.size w w' := by
  unfold maxLen at w0 w1
  have HG := Lib.hid hg
  have HT := Lib.hid w2
  clear hg w2
  by_cases hs : s.size ≤ 5000
  · have hs2 : ¬ (5000 < (s.size : Int)) := by omega
    have hTz : s.size ≤ 100000 := by omega
    go_enter Tryd.func3, Tryd.ntmps3
    go_wp2_with fail
    refine (new_any s _).mono ?_; rintro e v1 ⟨rfl, hr1, hb1⟩
    have HR1 := Lib.hid hr1
    have HB1 := Lib.hid hb1
    have hpb : w.heap.size ≤ w.heap.size := Nat.le_refl _
    have hqb : w.heap.size ≤ v1.heap.size := hb1.size
    clear hr1 hb1
    have HST := Lib.hid (show Rel w w.heap.size v1.heap.size s (.int .i64 0) (v1.alloc (.cells #[.string s, .int .i64 0, .int .i64 0, .int .i64 0] 30)) from
      ⟨0, 0, 0, 0, by omega, rfl, HR1.out.keep (Joins.below_alloc1 v1 _), ⟨Nat.zero_le _, Blk.new v1 _ _⟩, FA.zero s, HB1.out.alloc hqb _⟩)
    clear HR1 HB1
    go_wp2
    go_loopw [7] (fun i wr => Rel w w.heap.size v1.heap.size s i wr) (fun i _ => 40 - (intOf i).toNat)
    case atStart => exact HST.out
    case round =>
      clear HST
      obtain ⟨k, p, fa, fe, hk, rfl, hr, hq, hfa, hB⟩ := hrel
      have HR := Lib.hid hr
      have HQ := Lib.hid hq
      have HF := Lib.hid hfa
      have HB := Lib.hid hB
      have hpp := hr.1
      clear hr hq hfa hB
      by_cases hkn : k < n
      · by_cases hlt : k < 40
        · obtain ⟨⟨ab, ao, rfl, hc0, hc1⟩, hw0, hw1⟩ := HT.out k hkn
          obtain ⟨kd, N, hV⟩ : ∃ a b, V k = (a, b) := ⟨_, _, rfl⟩
          rw [hV] at hc0 hc1 hw0 hw1
          clear hV
          obtain ⟨g1, g2⟩ := wf_i64 hw0
          obtain ⟨g3, g4⟩ := wf_i64 hw1
          have c0 : wr.cell? ⟨ab, ao + k * 2, none⟩ = some (.int .i64 kd) := by rw [HB.out.cell (p := ⟨ab, ao + k * 2, none⟩) (cell_lt hc0)]; exact hc0
          have c1 : wr.cell? ⟨ab, ao + k * 2 + 1, none⟩ = some (.int .i64 N) := by rw [Nat.add_assoc, HB.out.cell (p := ⟨ab, ao + (k * 2 + 1), none⟩) (cell_lt hc1)]; exact hc1
          clear hc0 hc1 hw0 hw1 g1 g2
          have HRw := Lib.hid (HR.out.keep (Joins.below_alloc1 wr (.cells #[.int .i64 kd, .int .i64 N] 32)))
          have HQw := Lib.hid (HQ.out.keep (Joins.below_alloc1 wr (.cells #[.int .i64 kd, .int .i64 N] 32)))
          have HBw := Lib.hid (HB.out.alloc HB.out.size (.cells #[.int .i64 kd, .int .i64 N] 32))
          have d0 : (wr.alloc (.cells #[.int .i64 kd, .int .i64 N] 32)).cell? ⟨wr.heap.size, 0, none⟩ = some (.int .i64 kd) := by simp
          have d1 : (wr.alloc (.cells #[.int .i64 kd, .int .i64 N] 32)).cell? ⟨wr.heap.size, 1, none⟩ = some (.int .i64 N) := by simp
          have hvl : w.heap.size < wr.heap.size := HR.out.lt
          have hql : v1.heap.size < wr.heap.size := HQ.out.lt
          have hsz : wr.heap.size < (wr.alloc (.cells #[.int .i64 kd, .int .i64 N] 32)).heap.size := by simp
          go_upto_region 10 with fail
          generalize wr.alloc (.cells #[.int .i64 kd, .int .i64 N] 32) = wv at *
          generalize wr.heap.size = vb at *
          clear HR HQ HB HT c0 c1
          by_cases h0 : kd = 0
          · subst h0
            go_wp2_with fail
            refine (onumr w.heap.size s p fa fe _ hTz (by exact HRw.out)).mono ?_; rintro e4 u1 ⟨rfl, hr1, hg1⟩
            have HR1 := Lib.hid hr1
            have HQ1 := Lib.hid (RR.by_prog HQw.out HRw.out hg1)
            have HB1 := Lib.hid (below_only HBw.out hg1 hpb HBw.out.size)
            have m0 := keep_cell hg1 d0 (by omega)
            have m1 := keep_cell hg1 d1 (by omega)
            clear hr1 hg1
            go_wp2_with fail
            refine (rnumr v1.heap.size s p fa fe _ hTz (by exact HQ1.out)).mono ?_; rintro e5 u2 ⟨rfl, hq2, hg2⟩
            have HR2 := Lib.hid (HR1.out.by_ref HQ1.out hg2)
            have HB2 := Lib.hid (below_only HB1.out hg2 hqb HB1.out.size)
            have HQ2 := Lib.hid hq2
            have HF2 := Lib.hid (HF.out.rd (lim := none) hpp)
            obtain ⟨x0, x1, x2, x3, _⟩ := rr_cells hq2
            clear hq2 hg2
            go_wp2_with fail
            obtain ⟨ev, hev, hT2⟩ := ask_err HR2.out
            have T1 := Lib.hid (ask_at HR2.out)
            have T2 := Lib.hid hT2
            have T3 := Lib.hid (ask_seen (HG.out.keep HB2.out) HF2.out.1 (by have := HF2.out.2.1; omega) hev)
            have T4 := Lib.hid (ask_left hTz HR2.out)
            have T5 := Lib.hid (ask_rleft hTz HQ2.out)
            unfold Ask at T1 T2 T3 T4 T5
            have r1 := cell_regrown x1
            have r2 := cell_regrown x2
            have r3 := cell_regrown x3
            clear HR1 HQ1 HB1 HRw HQw HBw m0 m1 x0 x1 x2 x3 hT2 hev d0 d1 hvl hql hsz
            refine wp_region_quiet_below (by kernel_rfl) (by kernel_rfl) ?_
            repeat (first | go_big_quiet_step ((first | with_reducible exact Calls.regrown_of (T1.out _ _) | with_reducible exact Calls.regrown_of (T2.out _ _) | with_reducible exact Calls.regrown_of (T3.out _ _) | with_reducible exact Calls.regrown_of (T4.out _ _) | with_reducible exact Calls.regrown_of (T5.out _ _))) | quiet_step ((first | with_reducible exact Calls.regrown_of (T1.out _ _) | with_reducible exact Calls.regrown_of (T2.out _ _) | with_reducible exact Calls.regrown_of (T3.out _ _) | with_reducible exact Calls.regrown_of (T4.out _ _) | with_reducible exact Calls.regrown_of (T5.out _ _))))
            refine wpQuiet_nil ?_
            intro _ hw'
            obtain ⟨⟨dq, osq⟩, hw''⟩ := hw'
            subst hw''
            go_wp2
            go_roundw
            case rel => exact ⟨k + 1, _, _, _, by omega, by go_num, HR2.out.keep (below_regrown u2 dq osq), HQ2.out.keep (below_regrown u2 dq osq), HF2.out, HB2.out.trans ((below_regrown u2 dq osq).mono HB2.out.size)⟩
            case measure => simp [intOf]; omega
          · have e0 : (kd == 0) = false := by simpa using h0
            by_cases h1 : kd = 1
            · subst h1
              go_wp2_with fail
              go_region_with (first
                | (go_at_call 14; refine (ointr w.heap.size s p fa fe N _ hTz (by exact HRw.out) g4).mono ?_; rintro e4 u1 ⟨rfl, hr1, hg1⟩; have HR1 := Lib.hid hr1; have HQ1 := Lib.hid (RR.by_prog (by exact HQw.out) (by exact HRw.out) hg1); have HB1 := Lib.hid (below_only (Below.drew HBw.out) hg1 hpb (by exact HBw.out.size)); have m0 := keep_cell hg1 d0 (by omega); have m1 := keep_cell hg1 d1 (by omega); clear hr1 hg1)
                | (go_at_call 15; refine (rintr v1.heap.size s p fa fe N _ hTz (by exact HQ1.out) g4).mono ?_; rintro e5 u2 ⟨rfl, hq2, hg2⟩; have HR2 := Lib.hid (HR1.out.by_ref HQ1.out hg2); have HB2 := Lib.hid (below_only HB1.out hg2 hqb HB1.out.size); have HQ2 := Lib.hid hq2; have HF2 := Lib.hid (HF.out.rd (lim := some N) hpp); obtain ⟨x0, x1, x2, x3, _⟩ := rr_cells hq2; clear hq2 hg2))
              all_goals
                go_wp2_with fail
                obtain ⟨ev, hev, hT2⟩ := ask_err HR2.out
                have T1 := Lib.hid (ask_at HR2.out)
                have T2 := Lib.hid hT2
                have T3 := Lib.hid (ask_seen (HG.out.keep HB2.out) HF2.out.1 (by have := HF2.out.2.1; omega) hev)
                have T4 := Lib.hid (ask_left hTz HR2.out)
                have T5 := Lib.hid (ask_rleft hTz HQ2.out)
                unfold Ask at T1 T2 T3 T4 T5
                have r1 := cell_regrown x1
                have r2 := cell_regrown x2
                have r3 := cell_regrown x3
                clear HR1 HQ1 HB1 HRw HQw HBw m0 m1 x0 x1 x2 x3 hT2 hev d0 d1 hvl hql hsz
                refine wp_region_quiet_below (by kernel_rfl) (by kernel_rfl) ?_
                repeat (first | go_big_quiet_step ((first | with_reducible exact Calls.regrown_of (T1.out _ _) | with_reducible exact Calls.regrown_of (T2.out _ _) | with_reducible exact Calls.regrown_of (T3.out _ _) | with_reducible exact Calls.regrown_of (T4.out _ _) | with_reducible exact Calls.regrown_of (T5.out _ _))) | quiet_step ((first | with_reducible exact Calls.regrown_of (T1.out _ _) | with_reducible exact Calls.regrown_of (T2.out _ _) | with_reducible exact Calls.regrown_of (T3.out _ _) | with_reducible exact Calls.regrown_of (T4.out _ _) | with_reducible exact Calls.regrown_of (T5.out _ _))))
                refine wpQuiet_nil ?_
                intro _ hw'
                obtain ⟨⟨dq, osq⟩, hw''⟩ := hw'
                subst hw''
                go_wp2
                go_roundw
                case rel => exact ⟨k + 1, _, _, _, by omega, by go_num, HR2.out.keep (below_regrown u2 dq osq), HQ2.out.keep (below_regrown u2 dq osq), HF2.out, HB2.out.trans ((below_regrown u2 dq osq).mono HB2.out.size)⟩
                case measure => simp [intOf]; omega
            · have e1 : (kd == 1) = false := by simpa using h1
              by_cases h2 : kd = 2
              · subst h2
                go_wp2_with fail
                refine (osignr w.heap.size s p fa fe _ hTz (by exact HRw.out)).mono ?_; rintro e4 u1 ⟨rfl, hr1, hg1⟩
                have HR1 := Lib.hid hr1
                have HQ1 := Lib.hid (RR.by_prog HQw.out HRw.out hg1)
                have HB1 := Lib.hid (below_only HBw.out hg1 hpb HBw.out.size)
                have m0 := keep_cell hg1 d0 (by omega)
                have m1 := keep_cell hg1 d1 (by omega)
                clear hr1 hg1
                go_wp2_with fail
                refine (rsignr v1.heap.size s p fa fe _ hTz (by exact HQ1.out)).mono ?_; rintro e5 u2 ⟨rfl, hq2, hg2⟩
                have HR2 := Lib.hid (HR1.out.by_ref HQ1.out hg2)
                have HB2 := Lib.hid (below_only HB1.out hg2 hqb HB1.out.size)
                have HQ2 := Lib.hid hq2
                have HF2 := Lib.hid (HF.out.rd (lim := none) hpp)
                obtain ⟨x0, x1, x2, x3, _⟩ := rr_cells hq2
                clear hq2 hg2
                go_wp2_with fail
                obtain ⟨ev, hev, hT2⟩ := ask_err HR2.out
                have T1 := Lib.hid (ask_at HR2.out)
                have T2 := Lib.hid hT2
                have T3 := Lib.hid (ask_seen (HG.out.keep HB2.out) HF2.out.1 (by have := HF2.out.2.1; omega) hev)
                have T4 := Lib.hid (ask_left hTz HR2.out)
                have T5 := Lib.hid (ask_rleft hTz HQ2.out)
                unfold Ask at T1 T2 T3 T4 T5
                have r1 := cell_regrown x1
                have r2 := cell_regrown x2
                have r3 := cell_regrown x3
                clear HR1 HQ1 HB1 HRw HQw HBw m0 m1 x0 x1 x2 x3 hT2 hev d0 d1 hvl hql hsz
                refine wp_region_quiet_below (by kernel_rfl) (by kernel_rfl) ?_
                repeat (first | go_big_quiet_step ((first | with_reducible exact Calls.regrown_of (T1.out _ _) | with_reducible exact Calls.regrown_of (T2.out _ _) | with_reducible exact Calls.regrown_of (T3.out _ _) | with_reducible exact Calls.regrown_of (T4.out _ _) | with_reducible exact Calls.regrown_of (T5.out _ _))) | quiet_step ((first | with_reducible exact Calls.regrown_of (T1.out _ _) | with_reducible exact Calls.regrown_of (T2.out _ _) | with_reducible exact Calls.regrown_of (T3.out _ _) | with_reducible exact Calls.regrown_of (T4.out _ _) | with_reducible exact Calls.regrown_of (T5.out _ _))))
                refine wpQuiet_nil ?_
                intro _ hw'
                obtain ⟨⟨dq, osq⟩, hw''⟩ := hw'
                subst hw''
                go_wp2
                go_roundw
                case rel => exact ⟨k + 1, _, _, _, by omega, by go_num, HR2.out.keep (below_regrown u2 dq osq), HQ2.out.keep (below_regrown u2 dq osq), HF2.out, HB2.out.trans ((below_regrown u2 dq osq).mono HB2.out.size)⟩
                case measure => simp [intOf]; omega
              · have e2 : (kd == 2) = false := by simpa using h2
                by_cases h3 : kd = 3
                · subst h3
                  go_wp2_with fail
                  go_region_with (first
                    | (go_at_call 18; refine (otextr w.heap.size s p fa fe N _ hTz (by exact HRw.out) g4).mono ?_; rintro e4 u1 ⟨rfl, hr1, hg1⟩; have HR1 := Lib.hid hr1; have HQ1 := Lib.hid (RR.by_prog (by exact HQw.out) (by exact HRw.out) hg1); have HB1 := Lib.hid (below_only (Below.drew HBw.out) hg1 hpb (by exact HBw.out.size)); have m0 := keep_cell hg1 d0 (by omega); have m1 := keep_cell hg1 d1 (by omega); clear hr1 hg1)
                    | (go_at_call 19; refine (rtextr v1.heap.size s p fa fe N _ hTz (by exact HQ1.out) g4).mono ?_; rintro e5 u2 ⟨rfl, hq2, hg2⟩; have HR2 := Lib.hid (HR1.out.by_ref HQ1.out hg2); have HB2 := Lib.hid (below_only HB1.out hg2 hqb HB1.out.size); have HQ2 := Lib.hid hq2; have HF2 := Lib.hid (FA.tx (m := N) HF.out hpp); obtain ⟨x0, x1, x2, x3, _⟩ := rr_cells hq2; clear hq2 hg2))
                  all_goals
                    go_wp2_with fail
                    obtain ⟨ev, hev, hT2⟩ := ask_err HR2.out
                    have T1 := Lib.hid (ask_at HR2.out)
                    have T2 := Lib.hid hT2
                    have T3 := Lib.hid (ask_seen (HG.out.keep HB2.out) HF2.out.1 (by have := HF2.out.2.1; omega) hev)
                    have T4 := Lib.hid (ask_left hTz HR2.out)
                    have T5 := Lib.hid (ask_rleft hTz HQ2.out)
                    unfold Ask at T1 T2 T3 T4 T5
                    have r1 := cell_regrown x1
                    have r2 := cell_regrown x2
                    have r3 := cell_regrown x3
                    clear HR1 HQ1 HB1 HRw HQw HBw m0 m1 x0 x1 x2 x3 hT2 hev d0 d1 hvl hql hsz
                    refine wp_region_quiet_below (by kernel_rfl) (by kernel_rfl) ?_
                    repeat (first | go_big_quiet_step ((first | with_reducible exact Calls.regrown_of (T1.out _ _) | with_reducible exact Calls.regrown_of (T2.out _ _) | with_reducible exact Calls.regrown_of (T3.out _ _) | with_reducible exact Calls.regrown_of (T4.out _ _) | with_reducible exact Calls.regrown_of (T5.out _ _))) | quiet_step ((first | with_reducible exact Calls.regrown_of (T1.out _ _) | with_reducible exact Calls.regrown_of (T2.out _ _) | with_reducible exact Calls.regrown_of (T3.out _ _) | with_reducible exact Calls.regrown_of (T4.out _ _) | with_reducible exact Calls.regrown_of (T5.out _ _))))
                    refine wpQuiet_nil ?_
                    intro _ hw'
                    obtain ⟨⟨dq, osq⟩, hw''⟩ := hw'
                    subst hw''
                    go_wp2
                    go_roundw
                    case rel => exact ⟨k + 1, _, _, _, by omega, by go_num, HR2.out.keep (below_regrown u2 dq osq), HQ2.out.keep (below_regrown u2 dq osq), HF2.out, HB2.out.trans ((below_regrown u2 dq osq).mono HB2.out.size)⟩
                    case measure => simp [intOf]; omega
                · have e3 : (kd == 3) = false := by simpa using h3
                  go_wp2_with fail
                  refine (fail_any w.heap.size s p fa fe N _ (by exact HRw.out)).mono ?_; rintro e4 u1 ⟨rfl, hr1, hg1⟩
                  have HR1 := Lib.hid hr1
                  have HQ1 := Lib.hid (RR.by_prog HQw.out HRw.out hg1)
                  have HB1 := Lib.hid (below_only HBw.out hg1 hpb HBw.out.size)
                  have m0 := keep_cell hg1 d0 (by omega)
                  have m1 := keep_cell hg1 d1 (by omega)
                  clear hr1 hg1
                  go_wp2_with fail
                  refine (rfail_any v1.heap.size s p fa fe N _ (by exact HQ1.out)).mono ?_; rintro e5 u2 ⟨rfl, hq2, hg2⟩
                  have HR2 := Lib.hid (HR1.out.by_ref HQ1.out hg2)
                  have HB2 := Lib.hid (below_only HB1.out hg2 hqb HB1.out.size)
                  have HQ2 := Lib.hid hq2
                  have HF2 := Lib.hid (FA.fk N HF.out hpp)
                  obtain ⟨x0, x1, x2, x3, _⟩ := rr_cells hq2
                  clear hq2 hg2
                  go_wp2_with fail
                  obtain ⟨ev, hev, hT2⟩ := ask_err HR2.out
                  have T1 := Lib.hid (ask_at HR2.out)
                  have T2 := Lib.hid hT2
                  have T3 := Lib.hid (ask_seen (HG.out.keep HB2.out) HF2.out.1 (by have := HF2.out.2.1; omega) hev)
                  have T4 := Lib.hid (ask_left hTz HR2.out)
                  have T5 := Lib.hid (ask_rleft hTz HQ2.out)
                  unfold Ask at T1 T2 T3 T4 T5
                  have r1 := cell_regrown x1
                  have r2 := cell_regrown x2
                  have r3 := cell_regrown x3
                  clear HR1 HQ1 HB1 HRw HQw HBw m0 m1 x0 x1 x2 x3 hT2 hev d0 d1 hvl hql hsz
                  refine wp_region_quiet_below (by kernel_rfl) (by kernel_rfl) ?_
                  repeat (first | go_big_quiet_step ((first | with_reducible exact Calls.regrown_of (T1.out _ _) | with_reducible exact Calls.regrown_of (T2.out _ _) | with_reducible exact Calls.regrown_of (T3.out _ _) | with_reducible exact Calls.regrown_of (T4.out _ _) | with_reducible exact Calls.regrown_of (T5.out _ _))) | quiet_step ((first | with_reducible exact Calls.regrown_of (T1.out _ _) | with_reducible exact Calls.regrown_of (T2.out _ _) | with_reducible exact Calls.regrown_of (T3.out _ _) | with_reducible exact Calls.regrown_of (T4.out _ _) | with_reducible exact Calls.regrown_of (T5.out _ _))))
                  refine wpQuiet_nil ?_
                  intro _ hw'
                  obtain ⟨⟨dq, osq⟩, hw''⟩ := hw'
                  subst hw''
                  go_wp2
                  go_roundw
                  case rel => exact ⟨k + 1, _, _, _, by omega, by go_num, HR2.out.keep (below_regrown u2 dq osq), HQ2.out.keep (below_regrown u2 dq osq), HF2.out, HB2.out.trans ((below_regrown u2 dq osq).mono HB2.out.size)⟩
                  case measure => simp [intOf]; omega
        · have hlt2 : ¬ ((k : Int) < 40) := by omega
          go_wp2
          have HF2 := Lib.hid (FA.en (p := p) HF.out hpp)
          go_region_with (first
            | (go_at_call 27; refine (oend w.heap.size s _ _ _ _ hTz (by exact HR.out)).mono ?_; rintro e6 u3 ⟨ev, rfl, hev, hr3, hg3⟩; have HR3 := Lib.hid hr3; have HEV := Lib.hid hev; have HQ3 := Lib.hid (RR.by_prog (by exact HQ.out) (by exact HR.out) hg3); have HB3 := Lib.hid (below_only (Below.drew HB.out) hg3 hpb (by exact HB.out.size)); clear hev hr3 hg3)
            | (go_at_call 25; refine (seen_ev ev _ _ _ (HG.out.keep HB3.out) HF2.out.1 (by have := HF2.out.2.1; omega) HEV.out).mono ?_; rintro e7 u4 ⟨rfl, hb4⟩; have HR4 := Lib.hid (HR3.out.keep hb4); have HQ4 := Lib.hid (HQ3.out.keep hb4); have HB4 := Lib.hid (HB3.out.trans (hb4.mono HB3.out.size)); obtain ⟨y0, y1, y2, y3, _⟩ := rr_cells HQ4.out; clear HEV hb4 HR3 HQ3 HB3)
            | (go_at_call 28; refine (rend v1.heap.size s _ _ _ _ (by exact HQ4.out)).mono ?_; rintro e8 u5 ⟨rfl, hq5, hg5⟩; have HR5 := Lib.hid (HR4.out.by_ref HQ4.out hg5); have HB3 := Lib.hid (below_only HB4.out hg5 hqb HB4.out.size); have HQ3 := Lib.hid hq5; obtain ⟨z0, z1, z2, z3, _⟩ := rr_cells hq5; clear hq5 hg5 HR4 HQ4 HB4)
            | (go_at_call 26; obtain ⟨ev, hev, hec⟩ := oerr _ _ _ _ _ _ HR5.out; refine hec.mono ?_; rintro e9 u6 ⟨rfl, rfl⟩; have HEV := Lib.hid hev; have HR3 := HR5; clear hec hev))
          all_goals
            go_wp2
            go_ret
            exact ⟨rfl, HB4.out⟩
      · have hkn2 : ¬ ((k : Int) < n) := by omega
        go_wp2
        have HF2 := Lib.hid (FA.en (p := p) HF.out hpp)
        go_region_with (first
          | (go_at_call 27; refine (oend w.heap.size s _ _ _ _ hTz (by exact HR.out)).mono ?_; rintro e6 u3 ⟨ev, rfl, hev, hr3, hg3⟩; have HR3 := Lib.hid hr3; have HEV := Lib.hid hev; have HQ3 := Lib.hid (RR.by_prog (by exact HQ.out) (by exact HR.out) hg3); have HB3 := Lib.hid (below_only (Below.drew HB.out) hg3 hpb (by exact HB.out.size)); clear hev hr3 hg3)
          | (go_at_call 25; refine (seen_ev ev _ _ _ (HG.out.keep HB3.out) HF2.out.1 (by have := HF2.out.2.1; omega) HEV.out).mono ?_; rintro e7 u4 ⟨rfl, hb4⟩; have HR4 := Lib.hid (HR3.out.keep hb4); have HQ4 := Lib.hid (HQ3.out.keep hb4); have HB4 := Lib.hid (HB3.out.trans (hb4.mono HB3.out.size)); obtain ⟨y0, y1, y2, y3, _⟩ := rr_cells HQ4.out; clear HEV hb4 HR3 HQ3 HB3)
          | (go_at_call 28; refine (rend v1.heap.size s _ _ _ _ (by exact HQ4.out)).mono ?_; rintro e8 u5 ⟨rfl, hq5, hg5⟩; have HR5 := Lib.hid (HR4.out.by_ref HQ4.out hg5); have HB3 := Lib.hid (below_only HB4.out hg5 hqb HB4.out.size); have HQ3 := Lib.hid hq5; obtain ⟨z0, z1, z2, z3, _⟩ := rr_cells hq5; clear hq5 hg5 HR4 HQ4 HB4)
          | (go_at_call 26; obtain ⟨ev, hev, hec⟩ := oerr _ _ _ _ _ _ HR5.out; refine hec.mono ?_; rintro e9 u6 ⟨rfl, rfl⟩; have HEV := Lib.hid hev; have HR3 := HR5; clear hec hev))
        all_goals
          go_wp2
          go_ret
          exact ⟨rfl, HB4.out⟩
  · have hs2 : 5000 < (s.size : Int) := by omega
    go_enter Tryd.func3, Tryd.ntmps3
    go_wp2
    go_ret
    exact ⟨rfl, Below.refl _ _⟩
set_option maxRecDepth 100000 in
theorem lifted (os : Os) (started : os.Started) (H : Type) (enc : TypeId × Value → H) :
    ReturnsInHanded {} Tryd.checked os 3 .any (fun w args => (Rows.octetReadsSpec.pre enc Tryd.prog Tryd.f3 [] false w args ∧ laidMetH Tryd.prog laidL w) ∧ sizedMet enc Tryd.prog Tryd.f3 (OpenSpec.ofChange Rows.octetReadsSpec) false w args) (Rows.octetReadsSpec.post enc Tryd.prog Tryd.f3 false true false false) := by
  refine returnsInHanded_of_change_and (C := Tryd.checked) (X := fun w _ => laidMetH Tryd.prog laidL w) (fun _ _ _ hh h => h.of_heap hh) own started (by kernel_rfl) Tryd.func3
    (ChangeSpec.witness_at (enc := enc) (C := Tryd.checked) (os := os) (X := fun w _ => laidMetH Tryd.prog laidL w) false (laidWorld os) #[.string ⟨#[]⟩, .slice none 0 0] 8 rfl (by kernel_rfl) (by kernel_rfl) (by kernel_rfl) (by kernel_rfl) (by kernel_rfl) (laidWorld_met os _)) ?_
  intro W base args ds gs before hval0 hW hcnd _ hL _
  have hval : ∀ (j : Nat) t v, Tryd.f3.params[j]? = some t → args[j]? = some v → Value.okWide Tryd.prog W .any base t v := hval0
  have hW' := hW
  obtain ⟨p, q, hA0, hV, rfl, hfz, hnd⟩ := hW
  have hA : DataW.TrodAll enc Tryd.prog W 0 (fun _ => true) true Tryd.f3.params.toList args.toList ds p := hA0
  rw [Tryd.params3] at hA hval
  obtain ⟨v0, vs0, d0, ds0, p0, q0, hargs, rfl, rfl, h0, r0⟩ := trodAll_cons hA
  obtain ⟨v1, vs1, d1, ds1, p1, q1, rfl, rfl, rfl, h1, r1⟩ := trodAll_cons r0
  obtain ⟨rfl, rfl, rfl⟩ := trodAll_nil r1
  obtain rfl : args = #[v0, v1] := by cases args; simp_all
  obtain ⟨rfl, rfl⟩ := trodVars_none hV
  have k0 := h0
  have lt0 : ∀ x ∈ p0, x.block < W.heap.size := by obtain ⟨m, hm⟩ := k0; exact DataW.trod_lt m _ _ _ hm
  obtain ⟨a0, rfl, ed0, rfl, w0⟩ := open_string Tryd.underlying9 (hval 0 9 v0 rfl rfl) h0
  have k1 := h1
  have lt1 : ∀ x ∈ p1, x.block < W.heap.size := by obtain ⟨m, hm⟩ := k1; exact DataW.trod_lt m _ _ _ hm
  obtain ⟨a1A, a1n, a1c, a1V, rfl, w1l, w1t⟩ := tab2_open (k0 := .i64) (k1 := .i64) Tryd.underlying22 Tryd.underlying32 (by kernel_rfl) rfl rfl (by kernel_rfl) (by kernel_rfl) (by kernel_rfl) (by kernel_rfl) (hval 1 22 v1 rfl rfl) h1
  clear hA0 hval0
  have hg := handle_of_laid hL
  refine (walk a0 a1A a1n a1c a1V W w0 w1l w1t hg).mono fun e W' ⟨he, bel⟩ => ?_
  subst he
  exact ⟨_, rfl, _, _, _, [], _, [], hW', trodAll_mk1 (shut_bool Tryd.underlying4 _), (trodAll_cons_mk (Below.trod laidOut (by kernel_rfl) (of_decide_eq_true (by kernel_rfl)) k0 bel lt0) (trodAll_cons_mk (Below.trod laidOut (by kernel_rfl) (of_decide_eq_true (by kernel_rfl)) k1 bel lt1) trodAll_mk0)), rfl, bel.frame _, fun h => by cases h⟩
theorem over : Rows.octetReadsRow.holds Tryd.pinned (OpenSpec.ofChange Rows.octetReadsSpec) :=
  OpenClaim.holds_of_wide 3 Tryd.f3 rfl rfl rfl rfl rfl rfl rfl ⟨rfl, rfl, rfl, rfl, rfl⟩ rfl rfl rfl rfl rfl (by kernel_rfl) Tryd.func3 (by kernel_rfl)
    (of_decide_eq_true (by kernel_rfl)) (by unfold Func.isWrapper; first | (rw [if_pos (by decide +kernel)]; kernel_rfl) | (rw [if_neg (by decide +kernel)]; exact ⟨rfl, rfl⟩))
    (fun os started H enc _ => lifted os started H enc)
set_option maxRecDepth 100000 in
theorem proved : Rows.OctetReadsCardSaid :=
  Claim7.holds_tied_plain_at .later [] [.handle] true (true, "5dff801f1d23b17b57b0468a6d7ee1696a7011d53c8452f6898cbad9b38e4afd") true over (fun _ h => by cases h) (by kernel_rfl) (fun _ h => by cases h) octetReads_row_tie rfl ⟨rfl, rfl⟩ (by kernel_rfl) rfl
    (fun f fn hf hfn => by
      obtain rfl : f = 3 := Option.some.inj ((show Tryd.prog.funcNamed "selkie/selkielaw02.OctetReads" = some 3 by kernel_rfl).symm.trans hf) |>.symm
      obtain rfl : fn = Tryd.f3 := (Option.some.inj (Tryd.func3.symm.trans hfn)).symm
      exact ⟨by kernel_rfl, fun j t ht => by
        rw [Tryd.params3] at ht
        match j, ht with
        | 0, ht => (have e : t = 9 := by simpa using ht.symm); subst e; exact (show Tryd.prog.wantsStandIn 9 = false by kernel_rfl)
        | 1, ht => (have e : t = 22 := by simpa using ht.symm); subst e; exact (show Tryd.prog.wantsStandIn 22 = false by kernel_rfl)
        | j + 2, ht => simp at ht⟩)
    (by kernel_rfl)
#print axioms proved
end Go.Proofs.YtenlcdcogiagdaaDoor.lawOctetReads
