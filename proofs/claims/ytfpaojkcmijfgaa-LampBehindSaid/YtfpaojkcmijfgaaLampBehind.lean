/- The law LampBehind returns true for every input: what a clock gives is behind all that it has seen and given; two clocks of two origins never give one stamp.
   Conditions: none beyond the row's own. -/
import Derived.Test.YtfpaojkcmijfgaaClockR
import Derived.Test.YtfpaojkcmijfgaaTab
import Derived.Test.YtfpaojkcmijfgaaFrame
import Derived.Test.YtfpaojkcmijfgaaBlk
import Derived.Deep.RegionHeld3
import Derived.Deep.DrawnRows
import Derived.Deep.QuietTactic
import Derived.BigQuiet
import Derived.Lib.QuietBelow
namespace Go.Proofs.Ytfpaojkcmijfgaa.lawLampBehind
open Go.ChangeShapes Go.WideShapes Go.ChangeAt Go.RowKit
open Go.ChangeMaps (open_string shut_string)
set_option linter.unusedVariables false
attribute [local go_sem ↓] Go.wp_at_zero Go.wp_at_succ
theorem cmp_later {t1 o1 t2 o2 : Int} (h : t2 < t1) (W : World) : Calls Try.prog 36 #[.agg #[.int .u32 t1, .int .i64 o1], .agg #[.int .u32 t2, .int .i64 o2]] W fun e w' => e = .returned (.int .i64 1) ∧ Below W.heap.size W w' :=
  (stcompare t1 o1 t2 o2 W).mono (by rintro e w' ⟨rfl, hb⟩; exact ⟨retI (by rw [ordI_gt h]; rfl), hb⟩)
theorem blk_at {w : World} {m : Nat} (h : w.heap.size = m) (T : TypeId) (cs : Array Value) : Blk (w.alloc (.cells cs T)) m T cs := by subst h; exact Blk.new _ _ _
theorem cell_far {w : World} {b c i j : Nat} {v : Value} (h : ¬ (b = c)) : (w.setCell ⟨c, j, none⟩ v).cell? ⟨b, i, none⟩ = w.cell? ⟨b, i, none⟩ :=
  World.cell?_of_block (Below.heap_setCell w ⟨c, j, none⟩ v b h)
theorem maxI_bd (a b : Int) : a ≤ maxI a b ∧ b ≤ maxI a b ∧ (maxI a b = a ∨ maxI a b = b) := by unfold maxI; split <;> omega
/-- What holds at the head of a round. -/
def Rel (w : World) (n : Nat) (a b : Int) (H : Nat) (i : Value) (wr : World) : Prop :=
  ∃ (k : Nat) (tc td st so gt go ot oo : Int), k ≤ n ∧ k ≤ 60 ∧ i = .int .i64 k ∧ Clk wr H a tc ∧ Clk wr (H + 1) b td ∧
    Blk wr (H + 1 + 1) 40 #[.int .u32 st, .int .i64 so] ∧ Blk wr (H + 1 + 1 + 1) 40 #[.int .u32 gt, .int .i64 go] ∧ Blk wr (H + 1 + 1 + 1 + 1) 40 #[.int .u32 ot, .int .i64 oo] ∧
    0 ≤ tc ∧ tc ≤ 1048576 ∧ 0 ≤ td ∧ td ≤ 1048576 ∧ st ≤ tc ∧ gt ≤ tc ∧ (ot = 0 ∧ oo = 0 ∨ oo = b) ∧ Below w.heap.size w wr
theorem start (w w1 : World) (n : Nat) (a b : Int) (h : Below w.heap.size w w1) :
    Rel w n a b w1.heap.size (.int .i64 0) (((((w1.alloc (.cells #[.int .i64 a, .int .u32 0] 97)).alloc (.cells #[.int .i64 b, .int .u32 0] 97)).alloc (.cells #[.int .u32 0, .int .i64 0] 40)).alloc (.cells #[.int .u32 0, .int .i64 0] 40)).alloc (.cells #[.int .u32 0, .int .i64 0] 40)) := by
  have hz := h.size
  refine ⟨0, 0, 0, 0, 0, 0, 0, 0, 0, Nat.zero_le _, by omega, rfl, ?_, ?_, ?_, ?_, ?_, by omega, by omega, by omega, by omega, by omega, by omega, .inl ⟨rfl, rfl⟩, ?_⟩
  · exact ((((clk_at rfl _ _ _).keep (Joins.below_alloc1 _ _)).keep (Joins.below_alloc1 _ _)).keep (Joins.below_alloc1 _ _)).keep (Joins.below_alloc1 _ _)
  · exact (((clk_at (by simp) _ _ _).keep (Joins.below_alloc1 _ _)).keep (Joins.below_alloc1 _ _)).keep (Joins.below_alloc1 _ _)
  · exact ((blk_at (by simp) _ _).alloc _).alloc _
  · exact (blk_at (by simp) _ _).alloc _
  · exact blk_at (by simp) _ _
  · exact ((((h.alloc hz _).alloc (by simp; omega) _).alloc (by simp; omega) _).alloc (by simp; omega) _).alloc (by simp; omega) _
set_option maxRecDepth 100000 in
set_option maxHeartbeats 6400000 in
theorem walk (a b : Int) (A : Option Addr) (n cap : Nat) (V : Nat → Int × Int × Int) (w : World) (wa : (Lit.int .i64 a).wf = true) (wb : (Lit.int .i64 b).wf = true) (hmax : n ≤ maxLen) (htab : Tab3 w .i64 .u32 .i64 A n V) :
    Calls Try.prog 8 #[.int .i64 a, .int .i64 b, .slice A n cap] w fun e w' => e = .returned (.bool true) ∧ Below w.heap.size w w' := by
  unfold maxLen at hmax
  have HT := Lib.hid htab
  clear htab wa wb
  obtain ⟨ua, hua⟩ : ∃ u, IntKind.u64.wrap a = u := ⟨_, rfl⟩
  obtain ⟨ub, hub⟩ : ∃ u, IntKind.u64.wrap b = u := ⟨_, rfl⟩
  have ga : 0 ≤ ua := by rw [← hua, IntKind.wrap_u64]; omega
  have gb : 0 ≤ ub := by rw [← hub, IntKind.wrap_u64]; omega
  obtain ⟨x, hx⟩ : ∃ x, ua % 8 = x := ⟨_, rfl⟩
  obtain ⟨y, hy⟩ : ∃ x, ub % 8 = x := ⟨_, rfl⟩
  have x0 : 0 ≤ x := by omega
  have x7 : x ≤ 7 := by omega
  have y0 : 0 ≤ y := by omega
  have y7 : y ≤ 7 := by omega
  go_enter Try.func8, Try.ntmps8
  go_wp2_with fail
  refine (lworks _).mono ?_; rintro e w1 ⟨rfl, hb1⟩
  have HB1 := Lib.hid hb1
  have hws := hb1.size
  clear hb1
  go_wp2_with fail
  refine (new_yes x _ x0 x7).mono ?_; rintro e w2 ⟨rfl, rfl⟩
  clear hua hub hx hy ga gb
  go_wp2_with fail
  refine (new_yes y _ y0 y7).mono ?_; rintro e w2 ⟨rfl, rfl⟩
  have HST := Lib.hid (start w w1 n x y HB1.out)
  clear HB1
  go_wp2_with fail
  go_loopw [14] (fun i wr => Rel w n x y w1.heap.size i wr) (fun i _ => n - (intOf i).toNat)
  case atStart => exact HST.out
  case round =>
    clear HST
    obtain ⟨k, tc, td, st, so, gt, go, ot, oo, hk, hk6, rfl, hc, hd, hs, hg, ho, htc0, htc1, htd0, htd1, hst, hgt, hoo, hB⟩ := hrel
    have HC := Lib.hid hc
    have HD := Lib.hid hd
    have HS := Lib.hid hs
    have HG := Lib.hid hg
    have HO := Lib.hid ho
    have HB := Lib.hid hB
    have hlc := hc.lt
    have hld := hd.lt
    have hls := hs.lt
    have hlg := hg.lt
    have hlo := ho.lt
    clear hc hd hs hg ho hB
    by_cases hkn : k < n
    · by_cases hk60 : k < 60
      · obtain ⟨⟨b, off, rfl, hc0, hc1, hc2⟩, hw0, hw1, hw2⟩ := HT.out k hkn
        obtain ⟨⟨kd, s, p⟩, hx⟩ : ∃ x, V k = x := ⟨_, rfl⟩
        rw [hx] at hc0 hc1 hc2 hw0 hw1 hw2
        simp only at hc0 hc1 hc2 hw0 hw1 hw2
        clear hx
        obtain ⟨hs1, hs2⟩ := wf_u32 hw1
        clear hw0 hw1 hw2
        have hbl : b < w.heap.size := Go.block_lt_of_cell hc0
        have hd0 : wr.cell? ⟨b, off + k * 3, none⟩ = some (.int .i64 kd) := by rw [HB.out.cell (p := ⟨b, off + k * 3, none⟩) hbl]; exact hc0
        have hd1 : wr.cell? ⟨b, off + k * 3 + 1, none⟩ = some (.int .u32 s) := by rw [HB.out.cell (p := ⟨b, off + k * 3 + 1, none⟩) hbl]; exact hc1
        have hd2 : wr.cell? ⟨b, off + k * 3 + 2, none⟩ = some (.int .i64 p) := by rw [HB.out.cell (p := ⟨b, off + k * 3 + 2, none⟩) hbl]; exact hc2
        clear hc0 hc1 hc2
        have hk0 : (0 : Int) ≤ (k : Int) := by omega
        have hk1 : (k : Int) < (n : Int) := by omega
        have hk2 : (k : Int) < 60 := by omega
        have ho1 := Lib.hid hoo
        clear hoo
        by_cases hq0 : kd = 0
        · subst hq0
          have k0' := HS.out.cell 0
          have k1' := HS.out.cell 1
          simp at k0' k1'
          by_cases hv : s ≤ 1048576 ∧ 0 ≤ p ∧ p ≤ 7
          · obtain ⟨hv1, hv2, hv3⟩ := hv
            obtain ⟨X, hX⟩ : ∃ X, or2 (ordI s st) (ordI p so) = X := ⟨_, rfl⟩
            have D0 : ∀ W : World, Calls Try.prog 36 #[.agg #[.int .u32 s, .int .i64 p], .agg #[.int .u32 st, .int .i64 so]] W fun e w' => e = .returned (.int .i64 X) ∧ Below W.heap.size W w' := fun W =>
              (stcompare s p st so W).mono (by rintro e w' ⟨rfl, hb⟩; exact ⟨retI hX, hb⟩)
            have DX := Lib.hid D0
            clear D0 hX
            have hmx := maxI_bd tc s
            have CASES : decide (0 < X) = true ∨ decide (0 < X) = false := by cases decide (0 < X) <;> simp
            go_wp2_with fail
            rcases CASES with hdX | hdX
            · go_region_held3 (fun w' => w'.cell? ⟨b, off + k * 3 + 1, none⟩ = some (.int .u32 s) ∧ w'.cell? ⟨b, off + k * 3 + 2, none⟩ = some (.int .i64 p) ∧ w'.cell? ⟨w1.heap.size + 1 + 1, 0, none⟩ = some (.int .u32 st) ∧ w'.cell? ⟨w1.heap.size + 1 + 1, 1, none⟩ = some (.int .i64 so)) (first | assumption | (and_intros <;> first | assumption | (simp [*]; done)) | go_keep)
                (first
                  | (go_at_call 17; refine (see_yes w1.heap.size x tc s p _ (HC.out.drew rfl) hv1 hv2 hv3).mono ?_; rintro e1 v1 ⟨rfl, hk1, hg1⟩
                     have HC1 := Lib.hid hk1
                     have HD1 := Lib.hid ((HD.out.drew rfl).grown hg1 (by intro e; injection e with e; omega))
                     have HS1 := Lib.hid (HS.out.drew.grown hg1 (by intro e; injection e with e; omega))
                     have HG1 := Lib.hid (HG.out.drew.grown hg1 (by intro e; injection e with e; omega))
                     have HO1 := Lib.hid (HO.out.drew.grown hg1 (by intro e; injection e with e; omega))
                     have HB1 := Lib.hid (below_grown HB.out.drew hg1 (by omega) HB.out.size)
                     have i0 := hg1.cell (a := ⟨b, off + k * 3, none⟩) hd0 (by intro e; injection e with e; simp at e; omega)
                     have i1 := hg1.cell (a := ⟨b, off + k * 3 + 1, none⟩) hd1 (by intro e; injection e with e; simp at e; omega)
                     have i2 := hg1.cell (a := ⟨b, off + k * 3 + 2, none⟩) hd2 (by intro e; injection e with e; simp at e; omega)
                     have i3 := HS1.out.cell 0
                     have i4 := HS1.out.cell 1
                     simp at i3 i4
                     clear hk1 hg1)
                  | (go_at_call 36; refine (DX.out _).mono ?_; rintro e2 v2 ⟨rfl, hb2⟩
                     have HC2 := Lib.hid (HC1.out.keep hb2)
                     have HD2 := Lib.hid (HD1.out.keep hb2)
                     have HS2 := Lib.hid (HS1.out.keep hb2)
                     have HG2 := Lib.hid (HG1.out.keep hb2)
                     have HO2 := Lib.hid (HO1.out.keep hb2)
                     have HB2 := Lib.hid (HB1.out.trans (hb2.mono HB1.out.size))
                     have j0 := hb2.cell (p := ⟨b, off + k * 3, none⟩) (Go.block_lt_of_cell i0)
                     have j1 := hb2.cell (p := ⟨b, off + k * 3 + 1, none⟩) (Go.block_lt_of_cell i1)
                     have j2 := hb2.cell (p := ⟨b, off + k * 3 + 2, none⟩) (Go.block_lt_of_cell i2)
                     have j3 := HS2.out.cell 0
                     have j4 := HS2.out.cell 1
                     have y3 := HS2.out.frozen 0
                     have y4 := HS2.out.frozen 1
                     rw [i0] at j0
                     rw [i1] at j1
                     rw [i2] at j2
                     simp at j3 j4
                     clear hb2))
              clear HC HD HS HG HO HB HC1 HD1 HS1 HG1 HO1 HB1 hd0 hd1 hd2 i0 i1 i2 i3 i4 k0' k1' hdX DX
              have hl1 := HC2.out.lt
              go_wp2
              go_roundw
              case rel =>
                refine ⟨k + 1, maxI tc s, td, s, p, gt, go, ot, oo, by omega, by omega, by go_num, ?_, ?_, ?_, ?_, ?_, by omega, by omega, htd0, htd1, by omega, by omega, ho1.out, ?_⟩
                · exact (HC2.out.set_far (by omega) _).set_far (by omega) _
                · exact (HD2.out.set_far (by omega) _).set_far (by omega) _
                · exact (HS2.out.set_ 0 _).set_ 1 _
                · exact (HG2.out.far (by simp <;> omega) _).far (by simp <;> omega) _
                · exact (HO2.out.far (by simp <;> omega) _).far (by simp <;> omega) _
                · exact (HB2.out.setCell (by simp; omega) _).setCell (by simp; omega) _
              case measure => simp [intOf] <;> omega
            · go_region_held3 (fun w' => w'.cell? ⟨b, off + k * 3 + 1, none⟩ = some (.int .u32 s) ∧ w'.cell? ⟨b, off + k * 3 + 2, none⟩ = some (.int .i64 p) ∧ w'.cell? ⟨w1.heap.size + 1 + 1, 0, none⟩ = some (.int .u32 st) ∧ w'.cell? ⟨w1.heap.size + 1 + 1, 1, none⟩ = some (.int .i64 so)) (first | assumption | (and_intros <;> first | assumption | (simp [*]; done)) | go_keep)
                (first
                  | (go_at_call 17; refine (see_yes w1.heap.size x tc s p _ (HC.out.drew rfl) hv1 hv2 hv3).mono ?_; rintro e1 v1 ⟨rfl, hk1, hg1⟩
                     have HC1 := Lib.hid hk1
                     have HD1 := Lib.hid ((HD.out.drew rfl).grown hg1 (by intro e; injection e with e; omega))
                     have HS1 := Lib.hid (HS.out.drew.grown hg1 (by intro e; injection e with e; omega))
                     have HG1 := Lib.hid (HG.out.drew.grown hg1 (by intro e; injection e with e; omega))
                     have HO1 := Lib.hid (HO.out.drew.grown hg1 (by intro e; injection e with e; omega))
                     have HB1 := Lib.hid (below_grown HB.out.drew hg1 (by omega) HB.out.size)
                     have i0 := hg1.cell (a := ⟨b, off + k * 3, none⟩) hd0 (by intro e; injection e with e; simp at e; omega)
                     have i1 := hg1.cell (a := ⟨b, off + k * 3 + 1, none⟩) hd1 (by intro e; injection e with e; simp at e; omega)
                     have i2 := hg1.cell (a := ⟨b, off + k * 3 + 2, none⟩) hd2 (by intro e; injection e with e; simp at e; omega)
                     have i3 := HS1.out.cell 0
                     have i4 := HS1.out.cell 1
                     simp at i3 i4
                     clear hk1 hg1)
                  | (go_at_call 36; refine (DX.out _).mono ?_; rintro e2 v2 ⟨rfl, hb2⟩
                     have HC2 := Lib.hid (HC1.out.keep hb2)
                     have HD2 := Lib.hid (HD1.out.keep hb2)
                     have HS2 := Lib.hid (HS1.out.keep hb2)
                     have HG2 := Lib.hid (HG1.out.keep hb2)
                     have HO2 := Lib.hid (HO1.out.keep hb2)
                     have HB2 := Lib.hid (HB1.out.trans (hb2.mono HB1.out.size))
                     have j0 := hb2.cell (p := ⟨b, off + k * 3, none⟩) (Go.block_lt_of_cell i0)
                     have j1 := hb2.cell (p := ⟨b, off + k * 3 + 1, none⟩) (Go.block_lt_of_cell i1)
                     have j2 := hb2.cell (p := ⟨b, off + k * 3 + 2, none⟩) (Go.block_lt_of_cell i2)
                     have j3 := HS2.out.cell 0
                     have j4 := HS2.out.cell 1
                     have y3 := HS2.out.frozen 0
                     have y4 := HS2.out.frozen 1
                     rw [i0] at j0
                     rw [i1] at j1
                     rw [i2] at j2
                     simp at j3 j4
                     clear hb2))
              clear HC HD HS HG HO HB HC1 HD1 HS1 HG1 HO1 HB1 hd0 hd1 hd2 i0 i1 i2 i3 i4 k0' k1' hdX DX j0 j1 j2 j3 j4 y3 y4
              go_wp2
              go_roundw
              case rel => exact ⟨k + 1, maxI tc s, td, st, so, gt, go, ot, oo, by omega, by omega, by go_num, HC2.out, HD2.out, HS2.out, HG2.out, HO2.out, by omega, by omega, htd0, htd1, by omega, by omega, ho1.out, HB2.out⟩
              case measure => simp [intOf] <;> omega
          · have DN := Lib.hid (fun W => see_no w1.heap.size s p W hv)
            clear hv
            have c1 := cell_regrown hd1
            have c2 := cell_regrown hd2
            go_wp2_with fail
            refine wp_region_quiet_below (by kernel_rfl) (by kernel_rfl) ?_
            repeat (first | go_big_quiet_step ((first | with_reducible exact Calls.regrown_of (DN.out _))) | quiet_step ((first | with_reducible exact Calls.regrown_of (DN.out _))))
            refine wpQuiet_nil ?_
            intro _ hw'
            obtain ⟨⟨dq, osq⟩, hw''⟩ := hw'
            subst hw''
            have HC1 := Lib.hid (HC.out.keep (below_regrown wr dq osq))
            have HD1 := Lib.hid (HD.out.keep (below_regrown wr dq osq))
            have HS1 := Lib.hid (HS.out.keep (below_regrown wr dq osq))
            have HG1 := Lib.hid (HG.out.keep (below_regrown wr dq osq))
            have HO1 := Lib.hid (HO.out.keep (below_regrown wr dq osq))
            have HB1 := Lib.hid (HB.out.trans ((below_regrown wr dq osq).mono HB.out.size))
            clear HC HD HS HG HO HB hd0 hd1 hd2 c1 c2 k0' k1'
            go_wp2
            go_roundw
            case rel => exact ⟨k + 1, tc, td, st, so, gt, go, ot, oo, by omega, by omega, by go_num, HC1.out, HD1.out, HS1.out, HG1.out, HO1.out, by omega, by omega, htd0, htd1, by omega, by omega, ho1.out, HB1.out⟩
            case measure => simp [intOf] <;> omega
        · have hq2 : (kd == 0) = false := by simpa using hq0
          clear hq0
          go_wp2_with fail
          by_cases htM : tc < 1048576
          · refine (cnext_yes w1.heap.size x tc _ HC.out htc0 htM).mono ?_; rintro e1 v1 ⟨rfl, hk1, hg1⟩
            have HC1 := Lib.hid hk1
            have HD1 := Lib.hid (HD.out.grown hg1 (by intro e; injection e with e; omega))
            have HS1 := Lib.hid (HS.out.grown hg1 (by intro e; injection e with e; omega))
            have HG1 := Lib.hid (HG.out.grown hg1 (by intro e; injection e with e; omega))
            have HO1 := Lib.hid (HO.out.grown hg1 (by intro e; injection e with e; omega))
            have HB1 := Lib.hid (below_grown HB.out hg1 (by omega) HB.out.size)
            have i0 := hg1.cell (a := ⟨b, off + k * 3, none⟩) hd0 (by intro e; injection e with e; simp at e; omega)
            clear hk1 hg1 hd0 hd1 hd2
            clear HC HD HS HG HO HB
            obtain ⟨z, hz⟩ : ∃ z, tc + 1 = z := ⟨_, rfl⟩
            have hz1 : z ≤ 1048576 := by omega
            have hz0 : 1 ≤ z := by omega
            have hstz : st < z := by omega
            have hgtz : gt < z := by omega
            have htcz : tc ≤ z := by omega
            rw [hz] at HC1 ⊢
            clear hz
            have HX2 := Lib.hid (Blk.new v1 40 #[.int .u32 z, .int .i64 x])
            have HC2 := Lib.hid (HC1.out.keep (Joins.below_alloc1 _ (.cells #[.int .u32 z, .int .i64 x] 40)))
            have HD2 := Lib.hid (HD1.out.keep (Joins.below_alloc1 _ (.cells #[.int .u32 z, .int .i64 x] 40)))
            have HS2 := Lib.hid (HS1.out.keep (Joins.below_alloc1 _ (.cells #[.int .u32 z, .int .i64 x] 40)))
            have HG2 := Lib.hid (HG1.out.keep (Joins.below_alloc1 _ (.cells #[.int .u32 z, .int .i64 x] 40)))
            have HO2 := Lib.hid (HO1.out.keep (Joins.below_alloc1 _ (.cells #[.int .u32 z, .int .i64 x] 40)))
            have HB2 := Lib.hid (HB1.out.alloc HB1.out.size (.cells #[.int .u32 z, .int .i64 x] 40))
            have i2 : (v1.alloc (.cells #[.int .u32 z, .int .i64 x] 40)).cell? ⟨b, off + k * 3, none⟩ = some (.int .i64 kd) := by rw [(Joins.below_alloc1 v1 (.cells #[.int .u32 z, .int .i64 x] 40)).cell (p := ⟨b, off + k * 3, none⟩) (Go.block_lt_of_cell i0)]; exact i0
            have hbx1 : w1.heap.size + 1 + 1 + 1 + 1 < v1.heap.size := HO1.out.lt
            clear HC1 HD1 HS1 HG1 HO1 HB1
            clear i0
            have k0 := HX2.out.cell 0
            have k1 := HX2.out.cell 1
            have k2 := HS2.out.cell 0
            have k3 := HS2.out.cell 1
            simp at k0 k1 k2 k3
            go_wp2_with fail
            refine (cmp_later hstz _).mono ?_; rintro e2 v3 ⟨rfl, hb3⟩
            have HC3 := Lib.hid (HC2.out.keep hb3)
            have HD3 := Lib.hid (HD2.out.keep hb3)
            have HS3 := Lib.hid (HS2.out.keep hb3)
            have HG3 := Lib.hid (HG2.out.keep hb3)
            have HO3 := Lib.hid (HO2.out.keep hb3)
            have HX3 := Lib.hid (HX2.out.keep hb3)
            have HB3 := Lib.hid (HB2.out.trans (hb3.mono HB2.out.size))
            have i3 := hb3.cell (p := ⟨b, off + k * 3, none⟩) (Go.block_lt_of_cell i2)
            rw [i2] at i3
            clear hb3 i2 k0 k1 k2 k3
            clear HC2 HD2 HS2 HG2 HO2 HB2
            clear HX2
            have k0 := HX3.out.cell 0
            have k1 := HX3.out.cell 1
            have k2 := HG3.out.cell 0
            have k3 := HG3.out.cell 1
            simp at k0 k1 k2 k3
            go_wp2_with fail
            refine (cmp_later hgtz _).mono ?_; rintro e3 v4 ⟨rfl, hb4⟩
            have HC4 := Lib.hid (HC3.out.keep hb4)
            have HD4 := Lib.hid (HD3.out.keep hb4)
            have HS4 := Lib.hid (HS3.out.keep hb4)
            have HG4 := Lib.hid (HG3.out.keep hb4)
            have HO4 := Lib.hid (HO3.out.keep hb4)
            have HX4 := Lib.hid (HX3.out.keep hb4)
            have HB4 := Lib.hid (HB3.out.trans (hb4.mono HB3.out.size))
            have i4 := hb4.cell (p := ⟨b, off + k * 3, none⟩) (Go.block_lt_of_cell i3)
            rw [i3] at i4
            clear hb4 i3 k0 k1 k2 k3
            clear HC3 HD3 HS3 HG3 HO3 HB3
            clear HX3
            have k0 := HX4.out.cell 0
            have k1 := HX4.out.cell 1
            have k2 := HG4.out.cell 0
            have k3 := HG4.out.cell 1
            have f2 := HG4.out.frozen 0
            have f3 := HG4.out.frozen 1
            have k4 := HO4.out.cell 0
            have k5 := HO4.out.cell 1
            simp at k0 k1 k2 k3 k4 k5
            have hlx := HX4.out.lt
            have HSAME : ∃ q : Bool, (∀ W : World, (binOp .eql 40 (.agg #[.int .u32 z, .int .i64 x]) (.agg #[.int .u32 ot, .int .i64 oo])).run Try.prog W = Result.ok (.bool q) W) ∧ (q = false ∨ (q = true ∧ (x != y) = false)) := by
              refine ⟨_, fun W => st_eql z x ot oo W, ?_⟩
              by_cases h1 : z = ot
              · by_cases h2 : x = oo
                · right
                  refine ⟨by simp [h1, h2], ?_⟩
                  rcases ho1.out with ⟨h3, _⟩ | h3
                  · omega
                  · rw [h2, h3]; simp
                · left
                  have : (x == oo) = false := by simpa using h2
                  rw [this, Bool.and_false]
              · left
                have : (z == ot) = false := by simpa using h1
                rw [this, Bool.false_and]
            obtain ⟨q, heq, hq⟩ := HSAME
            have hne1 : ¬ (w1.heap.size + 1 + 1 + 1 = b) := by omega
            have hne2 : ¬ (b = w1.heap.size + 1 + 1 + 1) := by omega
            have hne3 : ¬ (w1.heap.size + 1 + 1 + 1 = v1.heap.size) := by omega
            have hne4 : ¬ (v1.heap.size = w1.heap.size + 1 + 1 + 1) := by omega
            have HC5 := Lib.hid ((HC4.out.set_far (b' := w1.heap.size + 1 + 1 + 1) (j := 0) (by omega) (.int .u32 z)).set_far (b' := w1.heap.size + 1 + 1 + 1) (j := 1) (by omega) (.int .i64 x))
            have HD5 := Lib.hid ((HD4.out.set_far (b' := w1.heap.size + 1 + 1 + 1) (j := 0) (by omega) (.int .u32 z)).set_far (b' := w1.heap.size + 1 + 1 + 1) (j := 1) (by omega) (.int .i64 x))
            have HG5 := Lib.hid ((HG4.out.set_ 0 (.int .u32 z)).set_ 1 (.int .i64 x))
            have HS5 := Lib.hid ((HS4.out.far (p := ⟨w1.heap.size + 1 + 1 + 1, 0, none⟩) (by simp <;> omega) (.int .u32 z)).far (p := ⟨w1.heap.size + 1 + 1 + 1, 1, none⟩) (by simp <;> omega) (.int .i64 x))
            have HO5 := Lib.hid ((HO4.out.far (p := ⟨w1.heap.size + 1 + 1 + 1, 0, none⟩) (by simp <;> omega) (.int .u32 z)).far (p := ⟨w1.heap.size + 1 + 1 + 1, 1, none⟩) (by simp <;> omega) (.int .i64 x))
            have HX5 := Lib.hid ((HX4.out.far (p := ⟨w1.heap.size + 1 + 1 + 1, 0, none⟩) (by simp <;> omega) (.int .u32 z)).far (p := ⟨w1.heap.size + 1 + 1 + 1, 1, none⟩) (by simp <;> omega) (.int .i64 x))
            have HB5 := Lib.hid ((HB4.out.setCell (p := ⟨w1.heap.size + 1 + 1 + 1, 0, none⟩) (by simp; omega) (.int .u32 z)).setCell (p := ⟨w1.heap.size + 1 + 1 + 1, 1, none⟩) (by simp; omega) (.int .i64 x))
            clear HC4 HD4 HS4 HG4 HO4 HB4
            clear HX4
            rcases (by omega : kd = 2 ∨ kd ≠ 2) with hk2' | hk2'
            · subst hk2'
              rcases hq with rfl | ⟨rfl, hxy⟩
              all_goals
                go_wp2_with fail
                refine (see_yes (w1.heap.size + 1) y td z x _ HD5.out hz1 x0 x7).mono ?_; rintro e4 v6 ⟨rfl, hk6, hg6⟩
                have HC6 := Lib.hid (HC5.out.grown hg6 (by intro e; injection e with e; omega))
                have HD6 := Lib.hid hk6
                have HS6 := Lib.hid (HS5.out.grown hg6 (by intro e; injection e with e; omega))
                have HG6 := Lib.hid (HG5.out.grown hg6 (by intro e; injection e with e; omega))
                have HO6 := Lib.hid (HO5.out.grown hg6 (by intro e; injection e with e; omega))
                have HX6 := Lib.hid (HX5.out.grown hg6 (by intro e; injection e with e; omega))
                have HB6 := Lib.hid (below_grown HB5.out hg6 (by omega) HB5.out.size)
                have hmx := maxI_bd td z
                obtain ⟨m, hm⟩ : ∃ m, maxI td z = m := ⟨_, rfl⟩
                rw [hm] at HD6 hmx
                clear hk6 hg6 hm k0 k1 k2 k3 k4 k5 f2 f3 heq i4
                clear HC5 HD5 HS5 HG5 HO5 HB5
                clear HX5
                have hm1 : m ≤ 1048576 := by omega
                go_wp2_with fail
                by_cases hmM : m < 1048576
                · refine (cnext_yes (w1.heap.size + 1) y m _ HD6.out (by omega) hmM).mono ?_; rintro e5 v7 ⟨rfl, hk7, hg7⟩
                  have HC7 := Lib.hid (HC6.out.grown hg7 (by intro e; injection e with e; omega))
                  have HD7 := Lib.hid hk7
                  have HS7 := Lib.hid (HS6.out.grown hg7 (by intro e; injection e with e; omega))
                  have HG7 := Lib.hid (HG6.out.grown hg7 (by intro e; injection e with e; omega))
                  have HO7 := Lib.hid (HO6.out.grown hg7 (by intro e; injection e with e; omega))
                  have HX7 := Lib.hid (HX6.out.grown hg7 (by intro e; injection e with e; omega))
                  have HB7 := Lib.hid (below_grown HB6.out hg7 (by omega) HB6.out.size)
                  clear hk7 hg7
                  clear HC6 HD6 HS6 HG6 HO6 HB6
                  clear HX6
                  have k0 := HX7.out.cell 0
                  have k1 := HX7.out.cell 1
                  simp at k0 k1
                  have hlx7 := HX7.out.lt
                  go_wp2_with fail
                  refine (cmp_later (by omega) _).mono ?_; rintro e6 v8 ⟨rfl, hb8⟩
                  have HC7a := Lib.hid (HC7.out.keep (Joins.below_alloc1 _ (.cells #[.int .u32 (m + 1), .int .i64 y] 40)))
                  have HD7a := Lib.hid (HD7.out.keep (Joins.below_alloc1 _ (.cells #[.int .u32 (m + 1), .int .i64 y] 40)))
                  have HS7a := Lib.hid (HS7.out.keep (Joins.below_alloc1 _ (.cells #[.int .u32 (m + 1), .int .i64 y] 40)))
                  have HG7a := Lib.hid (HG7.out.keep (Joins.below_alloc1 _ (.cells #[.int .u32 (m + 1), .int .i64 y] 40)))
                  have HO7a := Lib.hid (HO7.out.keep (Joins.below_alloc1 _ (.cells #[.int .u32 (m + 1), .int .i64 y] 40)))
                  have HB7a := Lib.hid (HB7.out.alloc HB7.out.size (.cells #[.int .u32 (m + 1), .int .i64 y] 40))
                  have HY7a := Lib.hid (Blk.new v7 40 #[.int .u32 (m + 1), .int .i64 y])
                  have HC8 := Lib.hid (HC7a.out.keep hb8)
                  have HD8 := Lib.hid (HD7a.out.keep hb8)
                  have HS8 := Lib.hid (HS7a.out.keep hb8)
                  have HG8 := Lib.hid (HG7a.out.keep hb8)
                  have HO8 := Lib.hid (HO7a.out.keep hb8)
                  have HY8 := Lib.hid (HY7a.out.keep hb8)
                  have HB8 := Lib.hid (HB7a.out.trans (hb8.mono HB7a.out.size))
                  have hO7 := HO7.out.lt
                  clear hb8 k0 k1
                  clear HC7 HD7 HS7 HG7 HO7 HB7
                  clear HC7a HD7a HS7a HG7a HO7a HB7a
                  clear HX7 HY7a
                  have k0 := HY8.out.cell 0
                  have k1 := HY8.out.cell 1
                  have k2 := HO8.out.cell 0
                  have k3 := HO8.out.cell 1
                  have f2 := HO8.out.frozen 0
                  have f3 := HO8.out.frozen 1
                  simp at k0 k1 k2 k3
                  go_wp2
                  go_roundw
                  case rel =>
                    refine ⟨k + 1, z, m + 1, st, so, z, x, m + 1, y, by omega, by omega, by go_num, ?_, ?_, ?_, ?_, ?_, by omega, by omega, by omega, by omega, by omega, by omega, .inr rfl, ?_⟩
                    · exact (HC8.out.set_far (by omega) _).set_far (by omega) _
                    · exact (HD8.out.set_far (by omega) _).set_far (by omega) _
                    · exact (HS8.out.far (by simp <;> omega) _).far (by simp <;> omega) _
                    · exact (HG8.out.far (by simp <;> omega) _).far (by simp <;> omega) _
                    · exact (HO8.out.set_ 0 _).set_ 1 _
                    · exact (HB8.out.setCell (by simp; omega) _).setCell (by simp; omega) _
                  case measure => simp [intOf] <;> omega
                · refine (cnext_no (w1.heap.size + 1) y m _ HD6.out (by omega) (by omega) (by omega)).mono ?_; rintro e5 v7 ⟨rfl, hb7⟩
                  have HC7 := Lib.hid (HC6.out.keep hb7)
                  have HD7 := Lib.hid (HD6.out.keep hb7)
                  have HS7 := Lib.hid (HS6.out.keep hb7)
                  have HG7 := Lib.hid (HG6.out.keep hb7)
                  have HO7 := Lib.hid (HO6.out.keep hb7)
                  have HB7 := Lib.hid (HB6.out.trans (hb7.mono HB6.out.size))
                  clear hb7
                  clear HC6 HD6 HS6 HG6 HO6 HB6
                  have hO7 := HO7.out.lt
                  have k2 := HO7.out.cell 0
                  have k3 := HO7.out.cell 1
                  have f2 := HO7.out.frozen 0
                  have f3 := HO7.out.frozen 1
                  simp at k2 k3
                  go_wp2
                  go_roundw
                  case rel =>
                    refine ⟨k + 1, z, m, st, so, z, x, 0, 0, by omega, by omega, by go_num, ?_, ?_, ?_, ?_, ?_, by omega, by omega, by omega, by omega, by omega, by omega, .inl ⟨rfl, rfl⟩, ?_⟩
                    · exact ((HC7.out.set_far (by omega) _).set_far (by omega) _).keep (Joins.below_alloc1 _ _)
                    · exact ((HD7.out.set_far (by omega) _).set_far (by omega) _).keep (Joins.below_alloc1 _ _)
                    · exact ((HS7.out.far (by simp <;> omega) _).far (by simp <;> omega) _).keep (Joins.below_alloc1 _ _)
                    · exact ((HG7.out.far (by simp <;> omega) _).far (by simp <;> omega) _).keep (Joins.below_alloc1 _ _)
                    · exact ((HO7.out.set_ 0 _).set_ 1 _).keep (Joins.below_alloc1 _ _)
                    · exact Below.alloc ((HB7.out.setCell (by simp; omega) _).setCell (by simp; omega) _) (by have := HB7.out.size; simp [World.setCell]; omega) _
                  case measure => simp [intOf] <;> omega
            · have hk3' : (kd == 2) = false := by simpa using hk2'
              clear hk2'
              rcases hq with rfl | ⟨rfl, hxy⟩
              all_goals
                go_wp2
                go_roundw
                case rel => exact ⟨k + 1, z, td, st, so, z, x, ot, oo, by omega, by omega, by go_num, HC5.out, HD5.out, HS5.out, HG5.out, HO5.out, by omega, by omega, by omega, by omega, by omega, by omega, ho1.out, HB5.out⟩
                case measure => simp [intOf] <;> omega
          · refine (cnext_no w1.heap.size x tc _ HC.out (by omega) (by omega) htc1).mono ?_; rintro e1 v1 ⟨rfl, hb1⟩
            obtain rfl : tc = 1048576 := by omega
            have HC1 := Lib.hid (HC.out.keep hb1)
            have HB1 := Lib.hid (HB.out.trans (hb1.mono HB.out.size))
            clear hb1
            go_wp2_with fail
            refine (now_any w1.heap.size x 1048576 _ (HC1.out.keep (Joins.below_alloc1 _ _))).mono ?_; rintro e2 v2 ⟨rfl, rfl⟩
            go_wp2
            go_ret
            exact ⟨rfl, HB1.out.alloc HB1.out.size _⟩
      · obtain rfl : k = 60 := by omega
        go_wp2
        go_ret
        exact ⟨rfl, HB.out⟩
    · obtain rfl : k = n := by omega
      go_wp2
      go_ret
      exact ⟨rfl, HB.out⟩
set_option maxRecDepth 100000 in
theorem lifted (os : Os) (started : os.Started) (H : Type) (enc : TypeId × Value → H) :
    ReturnsInHanded {} Try.checked os 8 .any (Rows.lampBehindSpec.pre6 enc Try.prog Try.f8 Rows.lampBehindRow.domain false) (Rows.lampBehindSpec.post enc Try.prog Try.f8 false true false false) := by
  refine returnsInHanded_of_change (C := Try.checked) own started (by kernel_rfl) Try.func8
    (ChangeSpec.witness6 (enc := enc) (C := Try.checked) false ⟨#[], #[.int .i64 0, .int .i64 0, .slice none 0 0], []⟩ 8 (by kernel_rfl) (by kernel_rfl) (by kernel_rfl) (by kernel_rfl)) ?_
  intro W base args ds gs before hval0 hW hcnd _
  have hval : ∀ (j : Nat) t v, Try.f8.params[j]? = some t → args[j]? = some v → Value.okWide Try.prog W .any base t v := hval0
  have hW' := hW
  obtain ⟨p, q, hA0, hV, rfl, hfz, hnd⟩ := hW
  have hA : DataW.TrodAll enc Try.prog W 0 (fun _ => true) true Try.f8.params.toList args.toList ds p := hA0
  rw [Try.params8] at hA hval
  obtain ⟨v0, vs0, d0, ds0, p0, q0, hargs, rfl, rfl, h0, r0⟩ := trodAll_cons hA
  obtain ⟨v1, vs1, d1, ds1, p1, q1, rfl, rfl, rfl, h1, r1⟩ := trodAll_cons r0
  obtain ⟨v2, vs2, d2, ds2, p2, q2, rfl, rfl, rfl, h2, r2⟩ := trodAll_cons r1
  obtain ⟨rfl, rfl, rfl⟩ := trodAll_nil r2
  obtain rfl : args = #[v0, v1, v2] := by cases args; simp_all
  obtain ⟨rfl, rfl⟩ := trodVars_none hV
  have k0 := h0
  have lt0 : ∀ x ∈ p0, x.block < W.heap.size := by obtain ⟨m, hm⟩ := k0; exact DataW.trod_lt m _ _ _ hm
  obtain ⟨a0, rfl, ed0, rfl, w0⟩ := open_int Try.underlying3 (hval 0 3 v0 rfl rfl) h0
  have k1 := h1
  have lt1 : ∀ x ∈ p1, x.block < W.heap.size := by obtain ⟨m, hm⟩ := k1; exact DataW.trod_lt m _ _ _ hm
  obtain ⟨a1, rfl, ed1, rfl, w1⟩ := open_int Try.underlying3 (hval 1 3 v1 rfl rfl) h1
  have k2 := h2
  have lt2 : ∀ x ∈ p2, x.block < W.heap.size := by obtain ⟨m, hm⟩ := k2; exact DataW.trod_lt m _ _ _ hm
  obtain ⟨a2A, a2n, a2c, a2V, rfl, w2l, w2t⟩ := tab3_open (k0 := .i64) (k1 := .u32) (k2 := .i64) Try.underlying31 Try.underlying42 (by kernel_rfl) rfl rfl (by kernel_rfl) (by kernel_rfl) Try.underlying40 (by kernel_rfl) rfl rfl (by kernel_rfl) (by kernel_rfl) (by kernel_rfl) (by kernel_rfl) (hval 2 31 v2 rfl rfl) h2
  clear hA0 hval0
  refine (walk a0 a1 a2A a2n a2c a2V W w0 w1 w2l w2t).mono fun e W' ⟨he, bel⟩ => ?_
  subst he
  exact ⟨_, rfl, _, _, _, [], _, [], hW', trodAll_mk1 (shut_bool Try.underlying4 _), (trodAll_cons_mk (Below.trod laidOut (by kernel_rfl) (of_decide_eq_true (by kernel_rfl)) k0 bel lt0) (trodAll_cons_mk (Below.trod laidOut (by kernel_rfl) (of_decide_eq_true (by kernel_rfl)) k1 bel lt1) (trodAll_cons_mk (Below.trod laidOut (by kernel_rfl) (of_decide_eq_true (by kernel_rfl)) k2 bel lt2) trodAll_mk0))), rfl, bel.frame _, fun h => by cases h⟩
theorem over : Rows.lampBehindRow.holds Try.pinned (OpenSpec.ofChange Rows.lampBehindSpec) :=
  OpenClaim.holds_of_wide 8 Try.f8 rfl rfl rfl rfl rfl rfl rfl ⟨rfl, rfl, rfl, rfl, rfl⟩ rfl rfl rfl rfl rfl (by kernel_rfl) Try.func8 (by kernel_rfl)
    (of_decide_eq_true (by kernel_rfl)) (by unfold Func.isWrapper; first | (rw [if_pos (by decide +kernel)]; kernel_rfl) | (rw [if_neg (by decide +kernel)]; exact ⟨rfl, rfl⟩))
    (fun os started H enc _ => lifted os started H enc)
theorem proved : Rows.LampBehindSaid := over
#print axioms proved
end Go.Proofs.Ytfpaojkcmijfgaa.lawLampBehind
