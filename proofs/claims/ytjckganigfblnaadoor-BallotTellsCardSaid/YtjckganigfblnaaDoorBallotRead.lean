/- Contracts of package ballot's Read and of the reference's. -/
import Derived.Test.YtjckganigfblnaaDoorBallotRW
import Derived.Test.YtjckganigfblnaaDoorFail
namespace Go.Proofs.YtjckganigfblnaaDoor
open Go.RowKit
set_option linter.unusedVariables false
def bkE (s : ByteArray) (p : Nat) (fe : Int) : Int := if r2F 1048576 7 s p fe = 0 then bchkV (r2X 1048576 7 s p fe : Nat) (r2Y 1048576 7 s p fe : Nat) else r2F 1048576 7 s p fe
def bkA (s : ByteArray) (p : Nat) (fa fe : Int) : Int := if r2F 1048576 7 s p fe = 0 ∧ ¬ bchkV (r2X 1048576 7 s p fe : Nat) (r2Y 1048576 7 s p fe : Nat) = 0 then (r2P 1048576 7 s p fe : Nat) else r2A 1048576 7 s p fa fe
def bkX (s : ByteArray) (p : Nat) (fe : Int) : Int := if r2F 1048576 7 s p fe = 0 ∧ bchkV (r2X 1048576 7 s p fe : Nat) (r2Y 1048576 7 s p fe : Nat) = 0 then (r2X 1048576 7 s p fe : Nat) else 0
def bkY (s : ByteArray) (p : Nat) (fe : Int) : Int := if r2F 1048576 7 s p fe = 0 ∧ bchkV (r2X 1048576 7 s p fe : Nat) (r2Y 1048576 7 s p fe : Nat) = 0 then (r2Y 1048576 7 s p fe : Nat) else 0
theorem bchk_or (x y : Int) : bchkV x y = 0 ∨ bchkV x y = 2 := by
  unfold bchkV; split
  · exact .inl rfl
  · exact .inr rfl
theorem FA.bk {s : ByteArray} {p : Nat} {fa fe : Int} (h : FA s fa fe) (hp : p ≤ s.size) : FA s (bkA s p fa fe) (bkE s p fe) := by
  have h2 := h.r2 (m1 := 1048576) (m2 := 7) hp
  have hP := r2P_le (m1 := 1048576) (m2 := 7) (fe := fe) hp
  unfold bkA bkE
  by_cases hf : r2F 1048576 7 s p fe = 0
  · rcases bchk_or (r2X 1048576 7 s p fe : Nat) (r2Y 1048576 7 s p fe : Nat) with hc | hc
    · rw [if_pos hf, if_neg (fun x => x.2 hc), hc]; rw [hf] at h2; exact h2
    · rw [if_pos hf, if_pos ⟨hf, by rw [hc]; decide⟩, hc]; exact ⟨by omega, by omega, fun e => by cases e⟩
  · rw [if_neg hf, if_neg (fun x => hf x.1)]; exact h2
set_option maxRecDepth 100000 in
set_option maxHeartbeats 3200000 in
theorem bread (b : Nat) (s : ByteArray) (p : Nat) (fa fe : Int) (w : World) (hs : s.size ≤ 100000) (h : R w b s p fa fe) :
    Calls Tryd.prog 52 #[.pointer (some ⟨b, 0, none⟩)] w fun e w' => e = .returned (.agg #[.int .u32 (bkX s p fe), .int .i64 (bkY s p fe)]) ∧ R w' b s (r2P 1048576 7 s p fe) (bkA s p fa fe) (bkE s p fe) ∧ w.grownBy w' (some b) := by
  have hl := h.lt
  have hne : ¬ w.heap.size = b := by omega
  have HR := Lib.hid (h.keep (Joins.below_alloc1 w (.cells #[.int .u32 0, .int .i64 0] 75)))
  have HB := Lib.hid (Blk.new w 75 #[.int .u32 0, .int .i64 0])
  have v1 := rdV_bnd (m := 1048576) (by omega) s p fe
  have v2 := rdV_bnd (m := 7) (by omega) s (rdP (some 1048576) s p fe) (rdF (some 1048576) s p fe)
  have E1 := Lib.hid (fun W h => ointr b s p fa fe 1048576 W hs h (by omega))
  have E2 := Lib.hid (fun W h => ointr b s (rdP (some 1048576) s p fe) (rdA (some 1048576) s p fa fe) (rdF (some 1048576) s p fe) 7 W hs h (by omega))
  unfold bkX bkY bkA bkE r2X r2Y r2P r2A r2F
  obtain ⟨x, hx⟩ : ∃ x, rdV (some 1048576) s p fe = x := ⟨_, rfl⟩
  obtain ⟨p1, hp1⟩ : ∃ x, rdP (some 1048576) s p fe = x := ⟨_, rfl⟩
  obtain ⟨a1, ha1⟩ : ∃ x, rdA (some 1048576) s p fa fe = x := ⟨_, rfl⟩
  obtain ⟨f1, hf1⟩ : ∃ x, rdF (some 1048576) s p fe = x := ⟨_, rfl⟩
  rw [hx] at E1 v1
  rw [hp1, hf1] at E1 E2 v2
  rw [ha1] at E1 E2
  rw [hx, hp1, ha1, hf1]
  obtain ⟨y, hy⟩ : ∃ x, rdV (some 7) s p1 f1 = x := ⟨_, rfl⟩
  obtain ⟨p2, hp2⟩ : ∃ x, rdP (some 7) s p1 f1 = x := ⟨_, rfl⟩
  obtain ⟨a2, ha2⟩ : ∃ x, rdA (some 7) s p1 a1 f1 = x := ⟨_, rfl⟩
  obtain ⟨f2, hf2⟩ : ∃ x, rdF (some 7) s p1 f1 = x := ⟨_, rfl⟩
  rw [hy, hp2, ha2, hf2] at E2
  rw [hy] at v2
  rw [hy, hp2, ha2, hf2]
  clear hx hp1 ha1 hf1 hy hp2 ha2 hf2 h
  have hF2 : (f2 = 0 ∧ (f2 != 0) = false) ∨ (¬ f2 = 0 ∧ (f2 == 0) = false ∧ (f2 != 0) = true) := by
    by_cases h : f2 = 0
    · exact .inl ⟨h, by simp [h]⟩
    · exact .inr ⟨h, by simpa using h, by simpa using h⟩
  rcases hF2 with ⟨rfl, hd⟩ | ⟨hF, hd0, hd⟩
  · rw [if_pos rfl, if_pos rfl]
    rcases bchk_or (x : Int) (y : Int) with hc | hc
    · have C := Lib.hid (fun W => (bcheck_any (x : Int) (y : Int) W).mono (R' := fun e w' => e = .returned (.int .i64 0) ∧ Below W.heap.size W w') (by rintro e w' ⟨rfl, h⟩; exact ⟨retI hc, h⟩))
      rw [hc]
      simp only [if_true, if_false, true_and, not_true, and_true]
      clear hc
      go_enter Tryd.func52, Tryd.ntmps52
      go_wp2_with fail
      refine (E1.out _ HR.out).mono ?_; rintro e w1 ⟨rfl, hr1, g1⟩
      have HR1 := Lib.hid hr1
      have HG1 := Lib.hid (only_then (only_of (Joins.below_alloc1 w _) _) g1)
      have HB1 := Lib.hid (HB.out.grown g1 (by intro e; injection e with e; exact hne e))
      clear hr1 g1
      go_wp2_with fail
      refine (E2.out _ HR1.out).mono ?_; rintro e w2 ⟨rfl, hr2, g2⟩
      have hzb : ¬ w2.heap.size = b := by have := hr2.lt; omega
      have HR2 := Lib.hid (hr2.keep (Joins.below_alloc1 w2 (.cells #[.int .u32 (x : Int), .int .i64 (y : Int)] 75)))
      have HG2 := Lib.hid (only_below (only_then HG1.out g2) (Joins.below_alloc1 w2 (.cells #[.int .u32 (x : Int), .int .i64 (y : Int)] 75)))
      have HB2 := Lib.hid ((HB1.out.grown g2 (by intro e; injection e with e; exact hne e)).alloc (.cells #[.int .u32 (x : Int), .int .i64 (y : Int)] 75))
      have HC2 := Lib.hid (Blk.new w2 75 #[.int .u32 (x : Int), .int .i64 (y : Int)])
      have c0 := HC2.out.cell 0
      have c1 := HC2.out.cell 1
      simp at c0 c1
      clear hr2 g2
      go_wp2_with fail
      obtain ⟨ev, hev, hec⟩ := oerr _ _ _ _ _ _ HR2.out
      obtain ⟨-, rfl⟩ := ev_nil hev
      refine hec.mono ?_; rintro e w3 ⟨rfl, rfl⟩
      clear hec hev
      go_wp2_with fail
      refine (C.out _).mono ?_; rintro e w4 ⟨rfl, hb4⟩
      have HR4 := Lib.hid (HR2.out.keep hb4)
      have HG4 := Lib.hid (only_below HG2.out hb4)
      have HB4 := Lib.hid (HB2.out.keep hb4)
      have HC4 := Lib.hid (HC2.out.keep hb4)
      clear hb4
      go_wp2_with fail
      refine (fail_any _ s p2 a2 0 0 _ HR4.out).mono ?_; rintro e w5 ⟨rfl, hr5, g5⟩
      have HR5 := Lib.hid hr5
      have HG5 := Lib.hid (only_then HG4.out g5)
      have HB5 := Lib.hid (HB4.out.grown g5 (by intro e; injection e with e; exact hne e))
      have HC5 := Lib.hid (HC4.out.grown g5 (by intro e; injection e with e; exact hzb e))
      simp [fkA, fkE] at hr5
      clear HR5
      have HR5 := Lib.hid hr5
      clear hr5 g5
      go_wp2_with fail
      obtain ⟨ev, hev, hec⟩ := oerr _ _ _ _ _ _ HR5.out
      obtain ⟨-, rfl⟩ := ev_nil hev
      refine hec.mono ?_; rintro e w6 ⟨rfl, rfl⟩
      clear hec hev
      have b0 := HB5.out.cell 0
      have b1 := HB5.out.cell 1
      have g0 := HB5.out.frozen 0
      have g1 := HB5.out.frozen 1
      have d0 := HC5.out.cell 0
      have d1 := HC5.out.cell 1
      simp at b0 b1 d0 d1
      go_wp2
      exact bodyPost_ret (v := .agg #[.int .u32 (x : Int), .int .i64 (y : Int)]) (by simp [results, Tryd.results52, go_sem, b0, b1]) rfl
        ⟨rfl, r_far (r_far HR5.out HB5.out (by decide) (by decide) _) (HB5.out.set_ 0 _) (by decide) (by decide) _, only_new (only_new HG5.out (Nat.le_refl _) _) (Nat.le_refl _) _⟩
    · have C := Lib.hid (fun W => (bcheck_any (x : Int) (y : Int) W).mono (R' := fun e w' => e = .returned (.int .i64 2) ∧ Below W.heap.size W w') (by rintro e w' ⟨rfl, h⟩; exact ⟨retI hc, h⟩))
      rw [hc]
      simp only [if_true, if_false, true_and, not_false_iff, and_true, show ¬ (2 : Int) = 0 by decide]
      clear hc
      go_enter Tryd.func52, Tryd.ntmps52
      go_wp2_with fail
      refine (E1.out _ HR.out).mono ?_; rintro e w1 ⟨rfl, hr1, g1⟩
      have HR1 := Lib.hid hr1
      have HG1 := Lib.hid (only_then (only_of (Joins.below_alloc1 w _) _) g1)
      have HB1 := Lib.hid (HB.out.grown g1 (by intro e; injection e with e; exact hne e))
      clear hr1 g1
      go_wp2_with fail
      refine (E2.out _ HR1.out).mono ?_; rintro e w2 ⟨rfl, hr2, g2⟩
      have hzb : ¬ w2.heap.size = b := by have := hr2.lt; omega
      have HR2 := Lib.hid (hr2.keep (Joins.below_alloc1 w2 (.cells #[.int .u32 (x : Int), .int .i64 (y : Int)] 75)))
      have HG2 := Lib.hid (only_below (only_then HG1.out g2) (Joins.below_alloc1 w2 (.cells #[.int .u32 (x : Int), .int .i64 (y : Int)] 75)))
      have HB2 := Lib.hid ((HB1.out.grown g2 (by intro e; injection e with e; exact hne e)).alloc (.cells #[.int .u32 (x : Int), .int .i64 (y : Int)] 75))
      have HC2 := Lib.hid (Blk.new w2 75 #[.int .u32 (x : Int), .int .i64 (y : Int)])
      have c0 := HC2.out.cell 0
      have c1 := HC2.out.cell 1
      simp at c0 c1
      clear hr2 g2
      go_wp2_with fail
      obtain ⟨ev, hev, hec⟩ := oerr _ _ _ _ _ _ HR2.out
      obtain ⟨-, rfl⟩ := ev_nil hev
      refine hec.mono ?_; rintro e w3 ⟨rfl, rfl⟩
      clear hec hev
      go_wp2_with fail
      refine (C.out _).mono ?_; rintro e w4 ⟨rfl, hb4⟩
      have HR4 := Lib.hid (HR2.out.keep hb4)
      have HG4 := Lib.hid (only_below HG2.out hb4)
      have HB4 := Lib.hid (HB2.out.keep hb4)
      have HC4 := Lib.hid (HC2.out.keep hb4)
      clear hb4
      go_wp2_with fail
      refine (fail_any _ s p2 a2 0 2 _ HR4.out).mono ?_; rintro e w5 ⟨rfl, hr5, g5⟩
      have HR5 := Lib.hid hr5
      have HG5 := Lib.hid (only_then HG4.out g5)
      have HB5 := Lib.hid (HB4.out.grown g5 (by intro e; injection e with e; exact hne e))
      have HC5 := Lib.hid (HC4.out.grown g5 (by intro e; injection e with e; exact hzb e))
      simp [fkA, fkE] at hr5
      clear HR5
      have HR5 := Lib.hid hr5
      clear hr5 g5
      go_wp2_with fail
      obtain ⟨ev, hev, hec⟩ := oerr _ _ _ _ _ _ HR5.out
      obtain ⟨fb, rfl⟩ := ev_some hev (by decide)
      refine hec.mono ?_; rintro e w6 ⟨rfl, rfl⟩
      clear hec hev
      have b0 := HB5.out.cell 0
      have b1 := HB5.out.cell 1
      have g0 := HB5.out.frozen 0
      have g1 := HB5.out.frozen 1
      have d0 := HC5.out.cell 0
      have d1 := HC5.out.cell 1
      simp at b0 b1 d0 d1
      go_wp2
      exact bodyPost_ret (v := .agg #[.int .u32 0, .int .i64 0]) (by simp [results, Tryd.results52, go_sem, b0, b1]) rfl
        ⟨rfl, r_far (r_far HR5.out HB5.out (by decide) (by decide) _) (HB5.out.set_ 0 _) (by decide) (by decide) _, only_new (only_new HG5.out (Nat.le_refl _) _) (Nat.le_refl _) _⟩
  · rw [if_neg hF, if_neg hF]
    simp only [hF, if_false, false_and]
    have HF := Lib.hid hF
    clear hF
    go_enter Tryd.func52, Tryd.ntmps52
    go_wp2_with fail
    refine (E1.out _ HR.out).mono ?_; rintro e w1 ⟨rfl, hr1, g1⟩
    have HR1 := Lib.hid hr1
    have HG1 := Lib.hid (only_then (only_of (Joins.below_alloc1 w _) _) g1)
    have HB1 := Lib.hid (HB.out.grown g1 (by intro e; injection e with e; exact hne e))
    clear hr1 g1
    go_wp2_with fail
    refine (E2.out _ HR1.out).mono ?_; rintro e w2 ⟨rfl, hr2, g2⟩
    have hzb : ¬ w2.heap.size = b := by have := hr2.lt; omega
    have HR2 := Lib.hid (hr2.keep (Joins.below_alloc1 w2 (.cells #[.int .u32 (x : Int), .int .i64 (y : Int)] 75)))
    have HG2 := Lib.hid (only_below (only_then HG1.out g2) (Joins.below_alloc1 w2 (.cells #[.int .u32 (x : Int), .int .i64 (y : Int)] 75)))
    have HB2 := Lib.hid ((HB1.out.grown g2 (by intro e; injection e with e; exact hne e)).alloc (.cells #[.int .u32 (x : Int), .int .i64 (y : Int)] 75))
    have HC2 := Lib.hid (Blk.new w2 75 #[.int .u32 (x : Int), .int .i64 (y : Int)])
    have c0 := HC2.out.cell 0
    have c1 := HC2.out.cell 1
    simp at c0 c1
    clear hr2 g2
    go_wp2_with fail
    obtain ⟨ev, hev, hec⟩ := oerr _ _ _ _ _ _ HR2.out
    obtain ⟨fb, rfl⟩ := ev_some hev HF.out
    refine hec.mono ?_; rintro e w3 ⟨rfl, rfl⟩
    clear hec hev
    go_wp2_with fail
    obtain ⟨ev, hev, hec⟩ := oerr _ _ _ _ _ _ HR2.out
    obtain ⟨fb, rfl⟩ := ev_some hev HF.out
    refine hec.mono ?_; rintro e w3 ⟨rfl, rfl⟩
    clear hec hev
    have b0 := HB2.out.cell 0
    have b1 := HB2.out.cell 1
    have g0 := HB2.out.frozen 0
    have g1 := HB2.out.frozen 1
    have d0 := HC2.out.cell 0
    have d1 := HC2.out.cell 1
    simp at b0 b1 d0 d1
    go_wp2
    exact bodyPost_ret (v := .agg #[.int .u32 0, .int .i64 0]) (by simp [results, Tryd.results52, go_sem, b0, b1]) rfl
      ⟨rfl, r_far (r_far HR2.out HB2.out (by decide) (by decide) _) (HB2.out.set_ 0 _) (by decide) (by decide) _, only_new (only_new HG2.out (Nat.le_refl _) _) (Nat.le_refl _) _⟩
set_option maxRecDepth 100000 in
set_option maxHeartbeats 3200000 in
theorem rbread (q : Nat) (s : ByteArray) (p : Nat) (fa fe : Int) (w : World) (hs : s.size ≤ 100000) (h : RR w q s p fa fe) :
    Calls Tryd.prog 53 #[.pointer (some ⟨q, 0, none⟩)] w fun e w' => e = .returned (.agg #[.int .u32 (bkX s p fe), .int .i64 (bkY s p fe)]) ∧ RR w' q s (r2P 1048576 7 s p fe) (bkA s p fa fe) (bkE s p fe) ∧ w.grownBy w' (some q) := by
  have hl := h.lt
  have hne : ¬ w.heap.size = q := by omega
  have HR := Lib.hid (h.keep (Joins.below_alloc1 w (.cells #[.int .u32 0, .int .i64 0] 74)))
  have HB := Lib.hid (Blk.new w 74 #[.int .u32 0, .int .i64 0])
  have v1 := rdV_bnd (m := 1048576) (by omega) s p fe
  have v2 := rdV_bnd (m := 7) (by omega) s (rdP (some 1048576) s p fe) (rdF (some 1048576) s p fe)
  have E1 := Lib.hid (fun W h => rintr q s p fa fe 1048576 W hs h (by omega))
  have E2 := Lib.hid (fun W h => rintr q s (rdP (some 1048576) s p fe) (rdA (some 1048576) s p fa fe) (rdF (some 1048576) s p fe) 7 W hs h (by omega))
  unfold bkX bkY bkA bkE r2X r2Y r2P r2A r2F
  obtain ⟨x, hx⟩ : ∃ x, rdV (some 1048576) s p fe = x := ⟨_, rfl⟩
  obtain ⟨p1, hp1⟩ : ∃ x, rdP (some 1048576) s p fe = x := ⟨_, rfl⟩
  obtain ⟨a1, ha1⟩ : ∃ x, rdA (some 1048576) s p fa fe = x := ⟨_, rfl⟩
  obtain ⟨f1, hf1⟩ : ∃ x, rdF (some 1048576) s p fe = x := ⟨_, rfl⟩
  rw [hx] at E1 v1
  rw [hp1, hf1] at E1 E2 v2
  rw [ha1] at E1 E2
  rw [hx, hp1, ha1, hf1]
  obtain ⟨y, hy⟩ : ∃ x, rdV (some 7) s p1 f1 = x := ⟨_, rfl⟩
  obtain ⟨p2, hp2⟩ : ∃ x, rdP (some 7) s p1 f1 = x := ⟨_, rfl⟩
  obtain ⟨a2, ha2⟩ : ∃ x, rdA (some 7) s p1 a1 f1 = x := ⟨_, rfl⟩
  obtain ⟨f2, hf2⟩ : ∃ x, rdF (some 7) s p1 f1 = x := ⟨_, rfl⟩
  rw [hy, hp2, ha2, hf2] at E2
  rw [hy] at v2
  rw [hy, hp2, ha2, hf2]
  clear hx hp1 ha1 hf1 hy hp2 ha2 hf2 h
  have hF2 : (f2 = 0 ∧ (f2 != 0) = false) ∨ (¬ f2 = 0 ∧ (f2 == 0) = false ∧ (f2 != 0) = true) := by
    by_cases h : f2 = 0
    · exact .inl ⟨h, by simp [h]⟩
    · exact .inr ⟨h, by simpa using h, by simpa using h⟩
  rcases hF2 with ⟨rfl, hd⟩ | ⟨hF, hd0, hd⟩
  · rw [if_pos rfl, if_pos rfl]
    rcases bchk_or (x : Int) (y : Int) with hc | hc
    · have C := Lib.hid (fun W => (rbcheck (x : Int) (y : Int) W).mono (R' := fun e w' => e = .returned (.int .i64 0) ∧ Below W.heap.size W w') (by rintro e w' ⟨rfl, h⟩; exact ⟨retI hc, h⟩))
      rw [hc]
      simp only [if_true, if_false, true_and, not_true, and_true]
      clear hc
      go_enter Tryd.func53, Tryd.ntmps53
      go_wp2_with fail
      refine (E1.out _ HR.out).mono ?_; rintro e w1 ⟨rfl, hr1, g1⟩
      have hz : w.heap.size < w1.heap.size := Blk.lt (HB.out.grown g1 (by intro e; injection e with e; exact hne e))
      have hq1 : q < w1.heap.size := hr1.lt
      have HR1 := Lib.hid (fun x y => (hr1.keep (Joins.below_alloc1 w1 (.cells #[.int .u32 x, .int .i64 y] 74))))
      have HG1 := Lib.hid (only_then (only_of (Joins.below_alloc1 w _) _) g1)
      have HB1 := Lib.hid (HB.out.grown g1 (by intro e; injection e with e; exact hne e))
      have HC1 := Lib.hid (fun x y => Blk.new w1 74 #[.int .u32 x, .int .i64 y])
      clear hr1 g1
      go_wp2_with fail
      refine (E2.out _ (HR1.out _ _)).mono ?_; rintro e w2 ⟨rfl, hr2, g2⟩
      have hzb : ¬ w1.heap.size = q := by omega
      have hn3 : ¬ w.heap.size = w1.heap.size := by omega
      have HC0 := Lib.hid ((HC1.out _ _).grown g2 (by intro e; injection e with e; exact hzb e))
      have HR2 := Lib.hid (hr2.far (b := w1.heap.size) (o := 1) (Ne.symm hzb) (.int .i64 (y : Int)))
      have HG2 := Lib.hid (only_new (only_then (only_below HG1.out (Joins.below_alloc1 w1 _)) g2) (b := w1.heap.size) (o := 1) (by omega) (.int .i64 (y : Int)))
      have HB2 := Lib.hid (((HB1.out.alloc _).grown g2 (by intro e; injection e with e; exact hne e)).far (p := ⟨w1.heap.size, 1, none⟩) hn3 (.int .i64 (y : Int)))
      have HC2 := Lib.hid (HC0.out.set_ 1 (.int .i64 (y : Int)))
      obtain ⟨k0, k1, k2, k3, _⟩ := rr_cells hr2
      have c0 := HC0.out.cell 0
      have c1 := HC0.out.cell 1
      have i0 := HC0.out.frozen 0
      have i1 := HC0.out.frozen 1
      simp at c0 c1
      clear hr2 g2
      go_wp2_with fail
      refine (C.out _).mono ?_; rintro e w4 ⟨rfl, hb4⟩
      have HR4 := Lib.hid (HR2.out.keep hb4)
      have HG4 := Lib.hid (only_below HG2.out hb4)
      have HB4 := Lib.hid (HB2.out.keep hb4)
      have HC4 := Lib.hid (HC2.out.keep hb4)
      clear hb4
      go_wp2_with fail
      refine (rfail_any _ s p2 a2 0 0 _ HR4.out).mono ?_; rintro e w5 ⟨rfl, hr5, g5⟩
      have HR5 := Lib.hid hr5
      have HG5 := Lib.hid (only_then HG4.out g5)
      have HB5 := Lib.hid (HB4.out.grown g5 (by intro e; injection e with e; exact hne e))
      have HC5 := Lib.hid (HC4.out.grown g5 (by intro e; injection e with e; exact hzb e))
      simp [fkA, fkE] at hr5
      clear HR5
      have HR5 := Lib.hid hr5
      clear hr5 g5
      obtain ⟨m0, m1, m2, m3, _⟩ := rr_cells HR5.out
      have b0 := HB5.out.cell 0
      have b1 := HB5.out.cell 1
      have g0 := HB5.out.frozen 0
      have g1 := HB5.out.frozen 1
      have d0 := HC5.out.cell 0
      have d1 := HC5.out.cell 1
      simp at b0 b1 d0 d1
      go_wp2
      exact bodyPost_ret (v := .agg #[.int .u32 (x : Int), .int .i64 (y : Int)]) (by simp [results, Tryd.results53, go_sem, b0, b1]) rfl
        ⟨rfl, (HR5.out.far (Ne.symm hne) _).far (Ne.symm hne) _, only_new (only_new HG5.out (Nat.le_refl _) _) (Nat.le_refl _) _⟩
    · have C := Lib.hid (fun W => (rbcheck (x : Int) (y : Int) W).mono (R' := fun e w' => e = .returned (.int .i64 2) ∧ Below W.heap.size W w') (by rintro e w' ⟨rfl, h⟩; exact ⟨retI hc, h⟩))
      rw [hc]
      simp only [if_true, if_false, true_and, not_false_iff, and_true, show ¬ (2 : Int) = 0 by decide]
      clear hc
      go_enter Tryd.func53, Tryd.ntmps53
      go_wp2_with fail
      refine (E1.out _ HR.out).mono ?_; rintro e w1 ⟨rfl, hr1, g1⟩
      have hz : w.heap.size < w1.heap.size := Blk.lt (HB.out.grown g1 (by intro e; injection e with e; exact hne e))
      have hq1 : q < w1.heap.size := hr1.lt
      have HR1 := Lib.hid (fun x y => (hr1.keep (Joins.below_alloc1 w1 (.cells #[.int .u32 x, .int .i64 y] 74))))
      have HG1 := Lib.hid (only_then (only_of (Joins.below_alloc1 w _) _) g1)
      have HB1 := Lib.hid (HB.out.grown g1 (by intro e; injection e with e; exact hne e))
      have HC1 := Lib.hid (fun x y => Blk.new w1 74 #[.int .u32 x, .int .i64 y])
      clear hr1 g1
      go_wp2_with fail
      refine (E2.out _ (HR1.out _ _)).mono ?_; rintro e w2 ⟨rfl, hr2, g2⟩
      have hzb : ¬ w1.heap.size = q := by omega
      have hn3 : ¬ w.heap.size = w1.heap.size := by omega
      have HC0 := Lib.hid ((HC1.out _ _).grown g2 (by intro e; injection e with e; exact hzb e))
      have HR2 := Lib.hid (hr2.far (b := w1.heap.size) (o := 1) (Ne.symm hzb) (.int .i64 (y : Int)))
      have HG2 := Lib.hid (only_new (only_then (only_below HG1.out (Joins.below_alloc1 w1 _)) g2) (b := w1.heap.size) (o := 1) (by omega) (.int .i64 (y : Int)))
      have HB2 := Lib.hid (((HB1.out.alloc _).grown g2 (by intro e; injection e with e; exact hne e)).far (p := ⟨w1.heap.size, 1, none⟩) hn3 (.int .i64 (y : Int)))
      have HC2 := Lib.hid (HC0.out.set_ 1 (.int .i64 (y : Int)))
      obtain ⟨k0, k1, k2, k3, _⟩ := rr_cells hr2
      have c0 := HC0.out.cell 0
      have c1 := HC0.out.cell 1
      have i0 := HC0.out.frozen 0
      have i1 := HC0.out.frozen 1
      simp at c0 c1
      clear hr2 g2
      go_wp2_with fail
      refine (C.out _).mono ?_; rintro e w4 ⟨rfl, hb4⟩
      have HR4 := Lib.hid (HR2.out.keep hb4)
      have HG4 := Lib.hid (only_below HG2.out hb4)
      have HB4 := Lib.hid (HB2.out.keep hb4)
      have HC4 := Lib.hid (HC2.out.keep hb4)
      clear hb4
      go_wp2_with fail
      refine (rfail_any _ s p2 a2 0 2 _ HR4.out).mono ?_; rintro e w5 ⟨rfl, hr5, g5⟩
      have HR5 := Lib.hid hr5
      have HG5 := Lib.hid (only_then HG4.out g5)
      have HB5 := Lib.hid (HB4.out.grown g5 (by intro e; injection e with e; exact hne e))
      have HC5 := Lib.hid (HC4.out.grown g5 (by intro e; injection e with e; exact hzb e))
      simp [fkA, fkE] at hr5
      clear HR5
      have HR5 := Lib.hid hr5
      clear hr5 g5
      obtain ⟨m0, m1, m2, m3, _⟩ := rr_cells HR5.out
      have b0 := HB5.out.cell 0
      have b1 := HB5.out.cell 1
      have g0 := HB5.out.frozen 0
      have g1 := HB5.out.frozen 1
      have d0 := HC5.out.cell 0
      have d1 := HC5.out.cell 1
      simp at b0 b1 d0 d1
      go_wp2
      exact bodyPost_ret (v := .agg #[.int .u32 0, .int .i64 0]) (by simp [results, Tryd.results53, go_sem, b0, b1]) rfl
        ⟨rfl, (HR5.out.far (Ne.symm hne) _).far (Ne.symm hne) _, only_new (only_new HG5.out (Nat.le_refl _) _) (Nat.le_refl _) _⟩
  · rw [if_neg hF, if_neg hF]
    simp only [hF, if_false, false_and]
    have HF := Lib.hid hF
    clear hF
    go_enter Tryd.func53, Tryd.ntmps53
    go_wp2_with fail
    refine (E1.out _ HR.out).mono ?_; rintro e w1 ⟨rfl, hr1, g1⟩
    have hz : w.heap.size < w1.heap.size := Blk.lt (HB.out.grown g1 (by intro e; injection e with e; exact hne e))
    have hq1 : q < w1.heap.size := hr1.lt
    have HR1 := Lib.hid (fun x y => (hr1.keep (Joins.below_alloc1 w1 (.cells #[.int .u32 x, .int .i64 y] 74))))
    have HG1 := Lib.hid (only_then (only_of (Joins.below_alloc1 w _) _) g1)
    have HB1 := Lib.hid (HB.out.grown g1 (by intro e; injection e with e; exact hne e))
    have HC1 := Lib.hid (fun x y => Blk.new w1 74 #[.int .u32 x, .int .i64 y])
    clear hr1 g1
    go_wp2_with fail
    refine (E2.out _ (HR1.out _ _)).mono ?_; rintro e w2 ⟨rfl, hr2, g2⟩
    have hzb : ¬ w1.heap.size = q := by omega
    have hn3 : ¬ w.heap.size = w1.heap.size := by omega
    have HC0 := Lib.hid ((HC1.out _ _).grown g2 (by intro e; injection e with e; exact hzb e))
    have HR2 := Lib.hid (hr2.far (b := w1.heap.size) (o := 1) (Ne.symm hzb) (.int .i64 (y : Int)))
    have HG2 := Lib.hid (only_new (only_then (only_below HG1.out (Joins.below_alloc1 w1 _)) g2) (b := w1.heap.size) (o := 1) (by omega) (.int .i64 (y : Int)))
    have HB2 := Lib.hid (((HB1.out.alloc _).grown g2 (by intro e; injection e with e; exact hne e)).far (p := ⟨w1.heap.size, 1, none⟩) hn3 (.int .i64 (y : Int)))
    have HC2 := Lib.hid (HC0.out.set_ 1 (.int .i64 (y : Int)))
    obtain ⟨k0, k1, k2, k3, _⟩ := rr_cells hr2
    have c0 := HC0.out.cell 0
    have c1 := HC0.out.cell 1
    have i0 := HC0.out.frozen 0
    have i1 := HC0.out.frozen 1
    simp at c0 c1
    clear hr2 g2
    obtain ⟨m0, m1, m2, m3, _⟩ := rr_cells HR2.out
    have b0 := HB2.out.cell 0
    have b1 := HB2.out.cell 1
    have g0 := HB2.out.frozen 0
    have g1 := HB2.out.frozen 1
    have d0 := HC2.out.cell 0
    have d1 := HC2.out.cell 1
    simp at b0 b1 d0 d1
    go_wp2
    exact bodyPost_ret (v := .agg #[.int .u32 0, .int .i64 0]) (by simp [results, Tryd.results53, go_sem, b0, b1]) rfl
      ⟨rfl, (HR2.out.far (Ne.symm hne) _).far (Ne.symm hne) _, only_new (only_new HG2.out (Nat.le_refl _) _) (Nat.le_refl _) _⟩
end Go.Proofs.YtjckganigfblnaaDoor
