/- The check of the first answers of package octet: works returns true. -/
import Derived.Test.YtenlcdcogiagdaaDoorSeen
namespace Go.Proofs.YtenlcdcogiagdaaDoor
open Go.RowKit
theorem num_eq {v k : Nat} {l : List UInt8} (h1 : 256 ^ k ≤ v) (h2 : v < 256 ^ (k + 1)) (h3 : ((k + 1) :: beN (k + 1) v).map UInt8.ofNat = l) : numN v = ⟨l.toArray⟩ := by
  unfold numN numB; rw [nN_at h1 h2, h3]
theorem num_0 : numN 0 = ⟨#[0]⟩ := by unfold numN numB; rw [nN_zero]; rfl
theorem num_1 : numN 1 = ⟨#[1, 1]⟩ := num_eq (k := 0) (by decide) (by decide) (by decide)
theorem num_2 : numN 2 = ⟨#[1, 2]⟩ := num_eq (k := 0) (by decide) (by decide) (by decide)
theorem num_300 : numN 300 = ⟨#[2, 1, 44]⟩ := num_eq (k := 1) (by decide) (by decide) (by decide)
def wS1 : ByteArray := ⟨#[2, 0, 1]⟩
def wS2 : ByteArray := ⟨#[1, 2, 97, 98, 1, 1, 120]⟩
theorem ws1 : rdV none wS1 0 0 = 0 ∧ rdP none wS1 0 0 = 0 ∧ rdA none wS1 0 0 0 = 0 ∧ rdF none wS1 0 0 = 3 := by decide
theorem ws2 : txS 2 wS2 0 0 = ⟨#[97, 98]⟩ ∧ txP 2 wS2 0 0 = 4 ∧ txA 2 wS2 0 0 0 = 0 ∧ txE 2 wS2 0 0 = 0 := by decide
theorem ws3 : unzig (rdV none wS2 4 0) = -1 ∧ rdP none wS2 4 0 = 6 ∧ rdA none wS2 4 0 0 = 0 ∧ rdF none wS2 4 0 = 0 := by decide
theorem ws4 : enA wS2 6 0 0 = 6 ∧ enE wS2 6 0 = 6 := by decide
theorem ws5 : (numN 2 ++ (⟨#[97, 98]⟩ : ByteArray)) ++ numN 1 ++ (⟨#[120]⟩ : ByteArray) = wS2 := by rw [num_2, num_1]; rfl
set_option maxRecDepth 100000 in
set_option maxHeartbeats 6400000 in
theorem oworks (w : World) (hg : ET w) : Calls Tryd.prog 29 #[] w fun e w' => e = .returned (.bool true) ∧ Below w.heap.size w w' := by
  obtain ⟨a, ha⟩ : ∃ a, numN 2 ++ (⟨#[97, 98]⟩ : ByteArray) = a := ⟨_, rfl⟩
  obtain ⟨c, hc⟩ : ∃ c, numN 1 = c := ⟨_, rfl⟩
  have hz1 : a.size ≤ 10 := by rw [← ha, num_2]; decide
  have hz2 : c.size ≤ 10 := by rw [← hc, num_1]; decide
  have C1 : ∀ W : World, Calls Tryd.prog 31 #[.string ⟨#[97, 98]⟩] W fun e w' => e = .returned (.string a) ∧ Below W.heap.size W w' := fun W => (otext _ W (by decide)).mono (by rintro e w' ⟨rfl, h⟩; exact ⟨by rw [← ha]; rfl, h⟩)
  have C2 : ∀ W : World, Calls Tryd.prog 32 #[.int .i64 (-1)] W fun e w' => e = .returned (.string c) ∧ Below W.heap.size W w' := fun W => (osigned (-1) W (by omega) (by omega)).mono (by rintro e w' ⟨rfl, h⟩; exact ⟨by rw [← hc]; rfl, h⟩)
  have C3 : ∀ W : World, Calls Tryd.prog 30 #[.int .u64 300] W fun e w' => e = .returned (.string ⟨#[2, 1, 44]⟩) ∧ Below W.heap.size W w' := fun W => (onum 300 W (by omega) (by omega)).mono (by rintro e w' ⟨rfl, h⟩; exact ⟨ret_s num_300, h⟩)
  have C4 : ∀ W : World, Calls Tryd.prog 30 #[.int .u64 0] W fun e w' => e = .returned (.string ⟨#[0]⟩) ∧ Below W.heap.size W w' := fun W => (onum 0 W (by omega) (by omega)).mono (by rintro e w' ⟨rfl, h⟩; exact ⟨ret_s num_0, h⟩)
  have hs5 := ws5
  rw [ha, hc] at hs5
  have HS5 := Lib.hid hs5
  have hcc : (c.toList == [1, 1]) = true := by rw [← hc, num_1, ByteArray.toList_eq]; rfl
  have D1 := Lib.hid C1
  have D2 := Lib.hid C2
  have D3 := Lib.hid C3
  have D4 := Lib.hid C4
  have HG := Lib.hid hg
  clear C1 C2 C3 C4 ha hc hs5 hg
  go_enter Tryd.func29, Tryd.ntmps29
  go_wp2_with fail
  refine (new_any _ _).mono ?_; rintro e w1 ⟨rfl, hr1, b1⟩
  have HR1 := Lib.hid (show R w1 w.heap.size wS1 0 0 0 from hr1)
  have B1 := Lib.hid b1
  have hl1 := hr1.lt
  clear hr1 b1
  go_wp2_with fail
  refine (onumr w.heap.size wS1 0 0 0 _ (by decide) HR1.out).mono ?_; rintro e w2 ⟨rfl, hr2, g2⟩
  rw [ws1.1, ws1.2.1, ws1.2.2.1, ws1.2.2.2] at *
  have HR2 := Lib.hid hr2
  have B2 := Lib.hid (below_only B1.out g2 (Nat.le_refl _) B1.out.size)
  clear hr2 g2
  go_wp2_with fail
  refine (D1.out _).mono ?_; rintro e w3 ⟨rfl, b3⟩
  have HR3 := Lib.hid (HR2.out.keep b3)
  have B3 := Lib.hid (B2.out.trans (b3.mono B2.out.size))
  clear b3
  go_wp2_with fail
  refine (D2.out _).mono ?_; rintro e w4 ⟨rfl, b4⟩
  have HR4 := Lib.hid (HR3.out.keep b4)
  have B4 := Lib.hid (B3.out.trans (b4.mono B3.out.size))
  clear b4
  go_wp2_with fail
  refine (new_any _ _).mono ?_; rintro e w5 ⟨rfl, hr5, b5⟩
  rw [HS5.out] at hr5
  have HQ5 := Lib.hid hr5
  have HR5 := Lib.hid (HR4.out.keep b5)
  have B5 := Lib.hid (B4.out.trans (b5.mono B4.out.size))
  clear hr5 b5
  go_wp2_with fail
  refine (otextr w4.heap.size wS2 0 0 0 2 _ (by decide) HQ5.out (by omega)).mono ?_; rintro e w6 ⟨rfl, hr6, g6⟩
  rw [ws2.1, ws2.2.1, ws2.2.2.1, ws2.2.2.2] at *
  have hl4 : w.heap.size ≠ w4.heap.size := by have := HR4.out.lt; omega
  have hq4 : w.heap.size ≤ w4.heap.size := B4.out.size
  have HR6 := Lib.hid (HR5.out.other HQ5.out hl4 g6)
  have HQ6 := Lib.hid hr6
  have B6 := Lib.hid (below_only B5.out g6 hq4 B5.out.size)
  clear hr6 g6
  go_wp2_with fail
  refine (osignr w4.heap.size wS2 4 0 0 _ (by decide) HQ6.out).mono ?_; rintro e w7 ⟨rfl, hr7, g7⟩
  rw [ws3.1, ws3.2.1, ws3.2.2.1, ws3.2.2.2] at *
  have HR7 := Lib.hid (HR6.out.other HQ6.out hl4 g7)
  have HQ7 := Lib.hid hr7
  have B7 := Lib.hid (below_only B6.out g7 hq4 B6.out.size)
  clear hr7 g7
  go_wp2_with fail
  refine (D3.out _).mono ?_; rintro e w8 ⟨rfl, b8⟩
  have HR8 := Lib.hid (HR7.out.keep b8)
  have HQ8 := Lib.hid (HQ7.out.keep b8)
  have B8 := Lib.hid (B7.out.trans (b8.mono B7.out.size))
  clear b8
  go_wp2_with fail
  refine (D2.out _).mono ?_; rintro e w9 ⟨rfl, b9⟩
  have HR9 := Lib.hid (HR8.out.keep b9)
  have HQ9 := Lib.hid (HQ8.out.keep b9)
  have B9 := Lib.hid (B8.out.trans (b9.mono B8.out.size))
  clear b9
  go_wp2_with fail
  refine (D4.out _).mono ?_; rintro e w10 ⟨rfl, b10⟩
  have HR10 := Lib.hid (HR9.out.keep b10)
  have HQ10 := Lib.hid (HQ9.out.keep b10)
  have B10 := Lib.hid (B9.out.trans (b10.mono B9.out.size))
  clear b10
  go_wp2_with fail
  obtain ⟨ev, hev, hec⟩ := oerr _ _ _ _ _ w10 HR10.out
  refine hec.mono ?_; rintro e w11 ⟨rfl, rfl⟩
  have HE := Lib.hid hev
  clear hec hev
  go_wp2_with fail
  refine (seen_ev ev 0 3 _ (HG.out.keep B10.out) (by omega) (by omega) HE.out).mono ?_; rintro e w12 ⟨rfl, b12⟩
  have HQ12 := Lib.hid (HQ10.out.keep b12)
  have B12 := Lib.hid (B10.out.trans (b12.mono B10.out.size))
  clear b12
  go_wp2_with fail
  obtain ⟨ev2, hev2, hec2⟩ := oerr _ _ _ _ _ w12 HQ12.out
  obtain ⟨-, rfl⟩ := ev_nil hev2
  refine hec2.mono ?_; rintro e w13 ⟨rfl, rfl⟩
  clear hec2 hev2
  go_wp2_with fail
  refine (oleft w4.heap.size wS2 6 0 0 _ (by decide) HQ12.out).mono ?_; rintro e w14 ⟨rfl, b14⟩
  have hsz : ((wS2.size : Nat) : Int) = 7 := rfl
  have HQ14 := Lib.hid (HQ12.out.keep b14)
  have B14 := Lib.hid (B12.out.trans (b14.mono B12.out.size))
  clear b14
  go_wp2_with fail
  refine (oend w4.heap.size wS2 6 0 0 _ (by decide) HQ14.out).mono ?_; rintro e w15 ⟨ev3, rfl, hev3, hr15, g15⟩
  rw [ws4.1, ws4.2] at *
  have B15 := Lib.hid (below_only B14.out g15 hq4 B14.out.size)
  have HE3 := Lib.hid hev3
  clear hev3 hr15 g15
  go_wp2_with fail
  refine (seen_ev ev3 6 6 _ (HG.out.keep B15.out) (by omega) (by omega) HE3.out).mono ?_; rintro e w16 ⟨rfl, b16⟩
  go_wp2
  go_ret
  exact ⟨rfl, B15.out.trans (b16.mono B15.out.size)⟩
end Go.Proofs.YtenlcdcogiagdaaDoor
