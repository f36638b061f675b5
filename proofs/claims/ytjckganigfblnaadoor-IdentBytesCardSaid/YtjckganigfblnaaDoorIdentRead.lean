/- Contracts of package ident's and of the reference's Read and ReadTag. -/
import Derived.Test.YtjckganigfblnaaDoorIdentRW
import Derived.Test.YtjckganigfblnaaDoorFail
namespace Go.Proofs.YtjckganigfblnaaDoor
open Go.RowKit
set_option linter.unusedVariables false
theorem rdV_bad0 {lim : Option Int} {s : ByteArray} {p : Nat} {fe : Int} (h : ¬ rdF lim s p fe = 0) : rdV lim s p fe = 0 := by
  by_cases hf : fe = 0
  · subst hf
    by_cases hE : rdE lim (rest s p) = 0
    · exact absurd (rd_good (fa := 0) hE).2.2.2 h
    · exact (rd_bad (fa := 0) hE).1
  · exact (rd_had (fa := 0) hf).1
def idE (s : ByteArray) (p : Nat) (fe : Int) : Int := if r2F 7 1048576 s p fe = 0 then (if r2Y 7 1048576 s p fe = 0 then 2 else 0) else r2F 7 1048576 s p fe
def idA (s : ByteArray) (p : Nat) (fa fe : Int) : Int := if r2F 7 1048576 s p fe = 0 ∧ r2Y 7 1048576 s p fe = 0 then (r2P 7 1048576 s p fe : Nat) else r2A 7 1048576 s p fa fe
def idX (s : ByteArray) (p : Nat) (fe : Int) : Int := if r2Y 7 1048576 s p fe = 0 then 0 else (r2X 7 1048576 s p fe : Nat)
def idY (s : ByteArray) (p : Nat) (fe : Int) : Int := (r2Y 7 1048576 s p fe : Nat)
theorem FA.idr {s : ByteArray} {p : Nat} {fa fe : Int} (h : FA s fa fe) (hp : p ≤ s.size) : FA s (idA s p fa fe) (idE s p fe) := by
  have h2 := h.r2 (m1 := 7) (m2 := 1048576) hp
  have hP := r2P_le (m1 := 7) (m2 := 1048576) (fe := fe) hp
  unfold idA idE
  by_cases hf : r2F 7 1048576 s p fe = 0
  · by_cases hy : r2Y 7 1048576 s p fe = 0
    · rw [if_pos hf, if_pos ⟨hf, hy⟩, if_pos hy]; exact ⟨by omega, by omega, fun e => by cases e⟩
    · rw [if_pos hf, if_neg (fun x => hy x.2), if_neg hy]; rw [hf] at h2; exact h2
  · rw [if_neg hf, if_neg (fun x => hf x.1)]; exact h2
theorem idX_bd {s : ByteArray} {p : Nat} {fe : Int} : 0 ≤ idX s p fe ∧ idX s p fe ≤ 7 := by
  unfold idX; split
  · omega
  · have := r2X_in (m1 := 7) (m2 := 1048576) (s := s) (p := p) (fe := fe) (by omega); omega
theorem idY_bd {s : ByteArray} {p : Nat} {fe : Int} : 0 ≤ idY s p fe ∧ idY s p fe ≤ 1048576 := by
  unfold idY
  have := r2Y_in (m1 := 7) (m2 := 1048576) (s := s) (p := p) (fe := fe) (by omega); omega
/-- What ReadTag leaves. -/
def tgP (s : ByteArray) (p : Nat) (fe : Int) : Nat := rdP (some 15) s (r2P 7 1048576 s p fe) (idE s p fe)
def tgE (s : ByteArray) (p : Nat) (fe : Int) : Int := rdF (some 15) s (r2P 7 1048576 s p fe) (idE s p fe)
def tgA (s : ByteArray) (p : Nat) (fa fe : Int) : Int := rdA (some 15) s (r2P 7 1048576 s p fe) (idA s p fa fe) (idE s p fe)
def tgX (s : ByteArray) (p : Nat) (fe : Int) : Int := if tgE s p fe = 0 then idX s p fe else 0
def tgY (s : ByteArray) (p : Nat) (fe : Int) : Int := if tgE s p fe = 0 then idY s p fe else 0
def tgN (s : ByteArray) (p : Nat) (fe : Int) : Int := if tgE s p fe = 0 then (rdV (some 15) s (r2P 7 1048576 s p fe) (idE s p fe) : Nat) else 0
theorem FA.tg {s : ByteArray} {p : Nat} {fa fe : Int} (h : FA s fa fe) (hp : p ≤ s.size) : FA s (tgA s p fa fe) (tgE s p fe) := (h.idr hp).rd (r2P_le hp)
set_option maxRecDepth 100000 in
set_option maxHeartbeats 3200000 in
theorem idread (b : Nat) (s : ByteArray) (p : Nat) (fa fe : Int) (w : World) (hs : s.size ≤ 100000) (h : R w b s p fa fe) :
    Calls Tryd.prog 14 #[.pointer (some ⟨b, 0, none⟩)] w fun e w' => e = .returned (.agg #[.int .i64 (idX s p fe), .int .u32 (idY s p fe)]) ∧ R w' b s (r2P 7 1048576 s p fe) (idA s p fa fe) (idE s p fe) ∧ w.grownBy w' (some b) := by
  have hl := h.lt
  have hne : ¬ w.heap.size = b := by omega
  have HR := Lib.hid (h.keep (Joins.below_alloc1 w (.cells #[.int .i64 0, .int .u32 0] 24)))
  have HB := Lib.hid (Blk.new w 24 #[.int .i64 0, .int .u32 0])
  have v1 := rdV_bnd (m := 7) (by omega) s p fe
  have v2 := rdV_bnd (m := 1048576) (by omega) s (rdP (some 7) s p fe) (rdF (some 7) s p fe)
  have v3 := @rdV_bad0 (some 1048576) s (rdP (some 7) s p fe) (rdF (some 7) s p fe)
  have E1 := Lib.hid (fun W h => ointr b s p fa fe 7 W hs h (by omega))
  have E2 := Lib.hid (fun W h => ointr b s (rdP (some 7) s p fe) (rdA (some 7) s p fa fe) (rdF (some 7) s p fe) 1048576 W hs h (by omega))
  unfold idX idY idA idE r2X r2Y r2P r2A r2F
  obtain ⟨x, hx⟩ : ∃ x, rdV (some 7) s p fe = x := ⟨_, rfl⟩
  obtain ⟨p1, hp1⟩ : ∃ x, rdP (some 7) s p fe = x := ⟨_, rfl⟩
  obtain ⟨a1, ha1⟩ : ∃ x, rdA (some 7) s p fa fe = x := ⟨_, rfl⟩
  obtain ⟨f1, hf1⟩ : ∃ x, rdF (some 7) s p fe = x := ⟨_, rfl⟩
  rw [hx] at E1 v1
  rw [hp1, hf1] at E1 E2 v2 v3
  rw [ha1] at E1 E2
  rw [hx, hp1, ha1, hf1]
  obtain ⟨y, hy⟩ : ∃ x, rdV (some 1048576) s p1 f1 = x := ⟨_, rfl⟩
  obtain ⟨p2, hp2⟩ : ∃ x, rdP (some 1048576) s p1 f1 = x := ⟨_, rfl⟩
  obtain ⟨a2, ha2⟩ : ∃ x, rdA (some 1048576) s p1 a1 f1 = x := ⟨_, rfl⟩
  obtain ⟨f2, hf2⟩ : ∃ x, rdF (some 1048576) s p1 f1 = x := ⟨_, rfl⟩
  rw [hy, hp2, ha2, hf2] at E2
  rw [hy] at v2
  rw [hy, hf2] at v3
  rw [hy, hp2, ha2, hf2]
  clear hx hp1 ha1 hf1 hy hp2 ha2 hf2 h
  have hF2 : (f2 = 0 ∧ y ≠ 0 ∧ ((y : Int) == 0) = false) ∨ (f2 = 0 ∧ y = 0) ∨ (¬ f2 = 0 ∧ y = 0 ∧ (f2 == 0) = false ∧ (f2 != 0) = true) := by
    by_cases h : f2 = 0
    · by_cases h2 : y = 0
      · exact .inr (.inl ⟨h, h2⟩)
      · exact .inl ⟨h, h2, by simpa using h2⟩
    · exact .inr (.inr ⟨h, v3 h, by simpa using h, by simpa using h⟩)
  clear v3
  rcases hF2 with ⟨rfl, hy0, hd⟩ | ⟨rfl, rfl⟩ | ⟨hF, rfl, hd0, hd⟩
  · simp only [if_true, hy0, if_false, and_false]
    clear hy0
    go_enter Tryd.func14, Tryd.ntmps14
    go_wp2_with fail
    refine (E1.out _ HR.out).mono ?_; rintro e w1 ⟨rfl, hr1, g1⟩
    have hz : w.heap.size < w1.heap.size := Blk.lt (HB.out.grown g1 (by intro e; injection e with e; exact hne e))
    have hq1 : b < w1.heap.size := hr1.lt
    have HR1 := Lib.hid (fun x y => (hr1.keep (Joins.below_alloc1 w1 (.cells #[.int .i64 x, .int .u32 y] 24))))
    have HG1 := Lib.hid (only_then (only_of (Joins.below_alloc1 w _) _) g1)
    have HB1 := Lib.hid (HB.out.grown g1 (by intro e; injection e with e; exact hne e))
    have HC1 := Lib.hid (fun x y => Blk.new w1 24 #[.int .i64 x, .int .u32 y])
    clear hr1 g1
    go_wp2_with fail
    refine (E2.out _ (HR1.out _ _)).mono ?_; rintro e w2 ⟨rfl, hr2, g2⟩
    have hzb : ¬ w1.heap.size = b := by omega
    have hn3 : ¬ w.heap.size = w1.heap.size := by omega
    have HC0 := Lib.hid ((HC1.out _ _).grown g2 (by intro e; injection e with e; exact hzb e))
    have HR2 := Lib.hid (r_far (o := 1) hr2 HC0.out (by decide) (by decide) (.int .u32 (y : Int)))
    have HG2 := Lib.hid (only_new (only_then (only_below HG1.out (Joins.below_alloc1 w1 _)) g2) (b := w1.heap.size) (o := 1) (by omega) (.int .u32 (y : Int)))
    have HB0 := Lib.hid ((HB1.out.alloc _).grown g2 (by intro e; injection e with e; exact hne e))
    have HB2 := Lib.hid (HB0.out.far (p := ⟨w1.heap.size, 1, none⟩) hn3 (.int .u32 (y : Int)))
    have HC2 := Lib.hid (HC0.out.set_ 1 (.int .u32 (y : Int)))
    have c0 := HC0.out.cell 0
    have c1 := HC0.out.cell 1
    have i0 := HC0.out.frozen 0
    have i1 := HC0.out.frozen 1
    simp at c0 c1
    clear hr2 g2
    go_wp2_with fail
    have HR5 := HR2
    have HG5 := HG2
    have HB5 := HB2
    have HC5 := HC2
    obtain ⟨ev, hev, hec⟩ := oerr _ _ _ _ _ _ HR5.out
    obtain ⟨-, rfl⟩ := ev_nil hev
    refine hec.mono ?_; rintro e w6 ⟨rfl, rfl⟩
    clear hec hev
    have b0 := HB5.out.cell 0
    have b1 := HB5.out.cell 1
    have g0 := HB5.out.frozen 0
    have g1 := HB5.out.frozen 1
    have d0 := HC5.out.cell 0
    have d1 := HC5.out.cell 1
    simp at b0 b1 d0 d1
    go_wp2
    exact bodyPost_ret (v := .agg #[.int .i64 (x : Int), .int .u32 (y : Int)]) (by simp [results, Tryd.results14, go_sem, b0, b1]) rfl
      ⟨rfl, r_far (r_far HR5.out HB5.out (by decide) (by decide) _) (HB5.out.set_ 0 _) (by decide) (by decide) _, only_new (only_new HG5.out (Nat.le_refl _) _) (Nat.le_refl _) _⟩
  · simp only [if_true, and_self]
    go_enter Tryd.func14, Tryd.ntmps14
    go_wp2_with fail
    refine (E1.out _ HR.out).mono ?_; rintro e w1 ⟨rfl, hr1, g1⟩
    have hz : w.heap.size < w1.heap.size := Blk.lt (HB.out.grown g1 (by intro e; injection e with e; exact hne e))
    have hq1 : b < w1.heap.size := hr1.lt
    have HR1 := Lib.hid (fun x y => (hr1.keep (Joins.below_alloc1 w1 (.cells #[.int .i64 x, .int .u32 y] 24))))
    have HG1 := Lib.hid (only_then (only_of (Joins.below_alloc1 w _) _) g1)
    have HB1 := Lib.hid (HB.out.grown g1 (by intro e; injection e with e; exact hne e))
    have HC1 := Lib.hid (fun x y => Blk.new w1 24 #[.int .i64 x, .int .u32 y])
    clear hr1 g1
    go_wp2_with fail
    refine (E2.out _ (HR1.out _ _)).mono ?_; rintro e w2 ⟨rfl, hr2, g2⟩
    have hzb : ¬ w1.heap.size = b := by omega
    have hn3 : ¬ w.heap.size = w1.heap.size := by omega
    have HC0 := Lib.hid ((HC1.out _ _).grown g2 (by intro e; injection e with e; exact hzb e))
    have HR2 := Lib.hid (r_far (o := 1) hr2 HC0.out (by decide) (by decide) (.int .u32 (((0 : Nat) : Int))))
    have HG2 := Lib.hid (only_new (only_then (only_below HG1.out (Joins.below_alloc1 w1 _)) g2) (b := w1.heap.size) (o := 1) (by omega) (.int .u32 (((0 : Nat) : Int))))
    have HB0 := Lib.hid ((HB1.out.alloc _).grown g2 (by intro e; injection e with e; exact hne e))
    have HB2 := Lib.hid (HB0.out.far (p := ⟨w1.heap.size, 1, none⟩) hn3 (.int .u32 (((0 : Nat) : Int))))
    have HC2 := Lib.hid (HC0.out.set_ 1 (.int .u32 (((0 : Nat) : Int))))
    have c0 := HC0.out.cell 0
    have c1 := HC0.out.cell 1
    have i0 := HC0.out.frozen 0
    have i1 := HC0.out.frozen 1
    simp at c0 c1
    clear hr2 g2
    go_wp2_with fail
    refine (fail_any _ s p2 a2 0 2 _ HR2.out).mono ?_; rintro e w5 ⟨rfl, hr5, g5⟩
    have HG5 := Lib.hid (only_then HG2.out g5)
    have HB5 := Lib.hid (HB2.out.grown g5 (by intro e; injection e with e; exact hne e))
    have HC5 := Lib.hid (HC2.out.grown g5 (by intro e; injection e with e; exact hzb e))
    simp [fkA, fkE] at hr5
    have HR5 := Lib.hid hr5
    clear hr5 g5
    go_wp2_with fail
    obtain ⟨ev, hev, hec⟩ := oerr _ _ _ _ _ _ HR5.out
    obtain ⟨fb, rfl⟩ := ev_some hev (by decide)
    refine hec.mono ?_; rintro e w6 ⟨rfl, rfl⟩
    clear hec hev
    have b0 := HB5.out.cell 0
    have b1 := HB5.out.cell 1
    have g0 := HB5.out.frozen 0
    have g1 := HB5.out.frozen 1
    have d0 := HC5.out.cell 0
    have d1 := HC5.out.cell 1
    simp at b0 b1 d0 d1
    go_wp2
    exact bodyPost_ret (v := .agg #[.int .i64 0, .int .u32 0]) (by simp [results, Tryd.results14, go_sem, b0, b1]) rfl
      ⟨rfl, r_far (r_far HR5.out HB5.out (by decide) (by decide) _) (HB5.out.set_ 0 _) (by decide) (by decide) _, only_new (only_new HG5.out (Nat.le_refl _) _) (Nat.le_refl _) _⟩
  · simp only [if_true, hF, if_false, false_and]
    have HF := Lib.hid hF
    clear hF
    go_enter Tryd.func14, Tryd.ntmps14
    go_wp2_with fail
    refine (E1.out _ HR.out).mono ?_; rintro e w1 ⟨rfl, hr1, g1⟩
    have hz : w.heap.size < w1.heap.size := Blk.lt (HB.out.grown g1 (by intro e; injection e with e; exact hne e))
    have hq1 : b < w1.heap.size := hr1.lt
    have HR1 := Lib.hid (fun x y => (hr1.keep (Joins.below_alloc1 w1 (.cells #[.int .i64 x, .int .u32 y] 24))))
    have HG1 := Lib.hid (only_then (only_of (Joins.below_alloc1 w _) _) g1)
    have HB1 := Lib.hid (HB.out.grown g1 (by intro e; injection e with e; exact hne e))
    have HC1 := Lib.hid (fun x y => Blk.new w1 24 #[.int .i64 x, .int .u32 y])
    clear hr1 g1
    go_wp2_with fail
    refine (E2.out _ (HR1.out _ _)).mono ?_; rintro e w2 ⟨rfl, hr2, g2⟩
    have hzb : ¬ w1.heap.size = b := by omega
    have hn3 : ¬ w.heap.size = w1.heap.size := by omega
    have HC0 := Lib.hid ((HC1.out _ _).grown g2 (by intro e; injection e with e; exact hzb e))
    have HR2 := Lib.hid (r_far (o := 1) hr2 HC0.out (by decide) (by decide) (.int .u32 (((0 : Nat) : Int))))
    have HG2 := Lib.hid (only_new (only_then (only_below HG1.out (Joins.below_alloc1 w1 _)) g2) (b := w1.heap.size) (o := 1) (by omega) (.int .u32 (((0 : Nat) : Int))))
    have HB0 := Lib.hid ((HB1.out.alloc _).grown g2 (by intro e; injection e with e; exact hne e))
    have HB2 := Lib.hid (HB0.out.far (p := ⟨w1.heap.size, 1, none⟩) hn3 (.int .u32 (((0 : Nat) : Int))))
    have HC2 := Lib.hid (HC0.out.set_ 1 (.int .u32 (((0 : Nat) : Int))))
    have c0 := HC0.out.cell 0
    have c1 := HC0.out.cell 1
    have i0 := HC0.out.frozen 0
    have i1 := HC0.out.frozen 1
    simp at c0 c1
    clear hr2 g2
    go_wp2_with fail
    refine (fail_any _ s p2 a2 f2 2 _ HR2.out).mono ?_; rintro e w5 ⟨rfl, hr5, g5⟩
    have HG5 := Lib.hid (only_then HG2.out g5)
    have HB5 := Lib.hid (HB2.out.grown g5 (by intro e; injection e with e; exact hne e))
    have HC5 := Lib.hid (HC2.out.grown g5 (by intro e; injection e with e; exact hzb e))
    simp [fkA, fkE, HF.out] at hr5
    have HR5 := Lib.hid hr5
    clear hr5 g5
    go_wp2_with fail
    obtain ⟨ev, hev, hec⟩ := oerr _ _ _ _ _ _ HR5.out
    obtain ⟨fb, rfl⟩ := ev_some hev HF.out
    refine hec.mono ?_; rintro e w6 ⟨rfl, rfl⟩
    clear hec hev
    have b0 := HB5.out.cell 0
    have b1 := HB5.out.cell 1
    have g0 := HB5.out.frozen 0
    have g1 := HB5.out.frozen 1
    have d0 := HC5.out.cell 0
    have d1 := HC5.out.cell 1
    simp at b0 b1 d0 d1
    go_wp2
    exact bodyPost_ret (v := .agg #[.int .i64 0, .int .u32 0]) (by simp [results, Tryd.results14, go_sem, b0, b1]) rfl
      ⟨rfl, r_far (r_far HR5.out HB5.out (by decide) (by decide) _) (HB5.out.set_ 0 _) (by decide) (by decide) _, only_new (only_new HG5.out (Nat.le_refl _) _) (Nat.le_refl _) _⟩
set_option maxRecDepth 100000 in
set_option maxHeartbeats 3200000 in
theorem ridread (q : Nat) (s : ByteArray) (p : Nat) (fa fe : Int) (w : World) (hs : s.size ≤ 100000) (h : RR w q s p fa fe) :
    Calls Tryd.prog 15 #[.pointer (some ⟨q, 0, none⟩)] w fun e w' => e = .returned (.agg #[.int .i64 (idX s p fe), .int .u32 (idY s p fe)]) ∧ RR w' q s (r2P 7 1048576 s p fe) (idA s p fa fe) (idE s p fe) ∧ w.grownBy w' (some q) := by
  have hl := h.lt
  have hne : ¬ w.heap.size = q := by omega
  have HR := Lib.hid (h.keep (Joins.below_alloc1 w (.cells #[.int .i64 0, .int .u32 0] 24)))
  have HB := Lib.hid (Blk.new w 24 #[.int .i64 0, .int .u32 0])
  have v1 := rdV_bnd (m := 7) (by omega) s p fe
  have v2 := rdV_bnd (m := 1048576) (by omega) s (rdP (some 7) s p fe) (rdF (some 7) s p fe)
  have v3 := @rdV_bad0 (some 1048576) s (rdP (some 7) s p fe) (rdF (some 7) s p fe)
  have E1 := Lib.hid (fun W h => rintr q s p fa fe 7 W hs h (by omega))
  have E2 := Lib.hid (fun W h => rintr q s (rdP (some 7) s p fe) (rdA (some 7) s p fa fe) (rdF (some 7) s p fe) 1048576 W hs h (by omega))
  unfold idX idY idA idE r2X r2Y r2P r2A r2F
  obtain ⟨x, hx⟩ : ∃ x, rdV (some 7) s p fe = x := ⟨_, rfl⟩
  obtain ⟨p1, hp1⟩ : ∃ x, rdP (some 7) s p fe = x := ⟨_, rfl⟩
  obtain ⟨a1, ha1⟩ : ∃ x, rdA (some 7) s p fa fe = x := ⟨_, rfl⟩
  obtain ⟨f1, hf1⟩ : ∃ x, rdF (some 7) s p fe = x := ⟨_, rfl⟩
  rw [hx] at E1 v1
  rw [hp1, hf1] at E1 E2 v2 v3
  rw [ha1] at E1 E2
  rw [hx, hp1, ha1, hf1]
  obtain ⟨y, hy⟩ : ∃ x, rdV (some 1048576) s p1 f1 = x := ⟨_, rfl⟩
  obtain ⟨p2, hp2⟩ : ∃ x, rdP (some 1048576) s p1 f1 = x := ⟨_, rfl⟩
  obtain ⟨a2, ha2⟩ : ∃ x, rdA (some 1048576) s p1 a1 f1 = x := ⟨_, rfl⟩
  obtain ⟨f2, hf2⟩ : ∃ x, rdF (some 1048576) s p1 f1 = x := ⟨_, rfl⟩
  rw [hy, hp2, ha2, hf2] at E2
  rw [hy] at v2
  rw [hy, hf2] at v3
  rw [hy, hp2, ha2, hf2]
  clear hx hp1 ha1 hf1 hy hp2 ha2 hf2 h
  have hF2 : (f2 = 0 ∧ y ≠ 0 ∧ ((y : Int) == 0) = false) ∨ (f2 = 0 ∧ y = 0) ∨ (¬ f2 = 0 ∧ y = 0 ∧ (f2 == 0) = false ∧ (f2 != 0) = true) := by
    by_cases h : f2 = 0
    · by_cases h2 : y = 0
      · exact .inr (.inl ⟨h, h2⟩)
      · exact .inl ⟨h, h2, by simpa using h2⟩
    · exact .inr (.inr ⟨h, v3 h, by simpa using h, by simpa using h⟩)
  clear v3
  rcases hF2 with ⟨rfl, hy0, hd⟩ | ⟨rfl, rfl⟩ | ⟨hF, rfl, hd0, hd⟩
  · simp only [if_true, hy0, if_false, and_false]
    clear hy0
    go_enter Tryd.func15, Tryd.ntmps15
    go_wp2_with fail
    refine (E1.out _ HR.out).mono ?_; rintro e w1 ⟨rfl, hr1, g1⟩
    have hz : w.heap.size < w1.heap.size := Blk.lt (HB.out.grown g1 (by intro e; injection e with e; exact hne e))
    have hq1 : q < w1.heap.size := hr1.lt
    have HR1 := Lib.hid (fun x y => (hr1.keep (Joins.below_alloc1 w1 (.cells #[.int .i64 x, .int .u32 y] 24))))
    have HG1 := Lib.hid (only_then (only_of (Joins.below_alloc1 w _) _) g1)
    have HB1 := Lib.hid (HB.out.grown g1 (by intro e; injection e with e; exact hne e))
    have HC1 := Lib.hid (fun x y => Blk.new w1 24 #[.int .i64 x, .int .u32 y])
    clear hr1 g1
    go_wp2_with fail
    refine (E2.out _ (HR1.out _ _)).mono ?_; rintro e w2 ⟨rfl, hr2, g2⟩
    have hzb : ¬ w1.heap.size = q := by omega
    have hn3 : ¬ w.heap.size = w1.heap.size := by omega
    have HC0 := Lib.hid ((HC1.out _ _).grown g2 (by intro e; injection e with e; exact hzb e))
    have HR2 := Lib.hid (hr2.far (b := w1.heap.size) (o := 1) (Ne.symm hzb) (.int .u32 (y : Int)))
    have HG2 := Lib.hid (only_new (only_then (only_below HG1.out (Joins.below_alloc1 w1 _)) g2) (b := w1.heap.size) (o := 1) (by omega) (.int .u32 (y : Int)))
    have HB0 := Lib.hid ((HB1.out.alloc _).grown g2 (by intro e; injection e with e; exact hne e))
    have HB2 := Lib.hid (HB0.out.far (p := ⟨w1.heap.size, 1, none⟩) hn3 (.int .u32 (y : Int)))
    have HC2 := Lib.hid (HC0.out.set_ 1 (.int .u32 (y : Int)))
    obtain ⟨k0, k1, k2, k3, _⟩ := rr_cells hr2
    have c0 := HC0.out.cell 0
    have c1 := HC0.out.cell 1
    have i0 := HC0.out.frozen 0
    have i1 := HC0.out.frozen 1
    simp at c0 c1
    clear hr2 g2
    have HR5 := HR2
    have HG5 := HG2
    have HB5 := HB2
    have HC5 := HC2
    have b0 := HB0.out.cell 0
    have b1 := HB0.out.cell 1
    have g0 := HB0.out.frozen 0
    have g1 := HB0.out.frozen 1
    simp at b0 b1
    go_wp2
    exact bodyPost_ret (v := .agg #[.int .i64 (x : Int), .int .u32 (y : Int)]) (by simp [results, Tryd.results15, go_sem, b0, b1]) rfl
      ⟨rfl, (HR5.out.far (Ne.symm hne) _).far (Ne.symm hne) _, only_new (only_new HG5.out (Nat.le_refl _) _) (Nat.le_refl _) _⟩
  · simp only [if_true, and_self]
    go_enter Tryd.func15, Tryd.ntmps15
    go_wp2_with fail
    refine (E1.out _ HR.out).mono ?_; rintro e w1 ⟨rfl, hr1, g1⟩
    have hz : w.heap.size < w1.heap.size := Blk.lt (HB.out.grown g1 (by intro e; injection e with e; exact hne e))
    have hq1 : q < w1.heap.size := hr1.lt
    have HR1 := Lib.hid (fun x y => (hr1.keep (Joins.below_alloc1 w1 (.cells #[.int .i64 x, .int .u32 y] 24))))
    have HG1 := Lib.hid (only_then (only_of (Joins.below_alloc1 w _) _) g1)
    have HB1 := Lib.hid (HB.out.grown g1 (by intro e; injection e with e; exact hne e))
    have HC1 := Lib.hid (fun x y => Blk.new w1 24 #[.int .i64 x, .int .u32 y])
    clear hr1 g1
    go_wp2_with fail
    refine (E2.out _ (HR1.out _ _)).mono ?_; rintro e w2 ⟨rfl, hr2, g2⟩
    have hzb : ¬ w1.heap.size = q := by omega
    have hn3 : ¬ w.heap.size = w1.heap.size := by omega
    have HC0 := Lib.hid ((HC1.out _ _).grown g2 (by intro e; injection e with e; exact hzb e))
    have HR2 := Lib.hid (hr2.far (b := w1.heap.size) (o := 1) (Ne.symm hzb) (.int .u32 (((0 : Nat) : Int))))
    have HG2 := Lib.hid (only_new (only_then (only_below HG1.out (Joins.below_alloc1 w1 _)) g2) (b := w1.heap.size) (o := 1) (by omega) (.int .u32 (((0 : Nat) : Int))))
    have HB0 := Lib.hid ((HB1.out.alloc _).grown g2 (by intro e; injection e with e; exact hne e))
    have HB2 := Lib.hid (HB0.out.far (p := ⟨w1.heap.size, 1, none⟩) hn3 (.int .u32 (((0 : Nat) : Int))))
    have HC2 := Lib.hid (HC0.out.set_ 1 (.int .u32 (((0 : Nat) : Int))))
    obtain ⟨k0, k1, k2, k3, _⟩ := rr_cells hr2
    have c0 := HC0.out.cell 0
    have c1 := HC0.out.cell 1
    have i0 := HC0.out.frozen 0
    have i1 := HC0.out.frozen 1
    simp at c0 c1
    clear hr2 g2
    go_wp2_with fail
    refine (rfail_any _ s p2 a2 0 2 _ HR2.out).mono ?_; rintro e w5 ⟨rfl, hr5, g5⟩
    have HG5 := Lib.hid (only_then HG2.out g5)
    have HB5 := Lib.hid (HB2.out.grown g5 (by intro e; injection e with e; exact hne e))
    have HC5 := Lib.hid (HC2.out.grown g5 (by intro e; injection e with e; exact hzb e))
    simp [fkA, fkE] at hr5
    have HR5 := Lib.hid hr5
    clear hr5 g5
    obtain ⟨m0, m1, m2, m3, _⟩ := rr_cells HR5.out
    have b0 := HB5.out.cell 0
    have b1 := HB5.out.cell 1
    have g0 := HB5.out.frozen 0
    have g1 := HB5.out.frozen 1
    have d0 := HC5.out.cell 0
    have d1 := HC5.out.cell 1
    simp at b0 b1 d0 d1
    go_wp2
    exact bodyPost_ret (v := .agg #[.int .i64 0, .int .u32 0]) (by simp [results, Tryd.results15, go_sem, b0, b1]) rfl
      ⟨rfl, (HR5.out.far (Ne.symm hne) _).far (Ne.symm hne) _, only_new (only_new HG5.out (Nat.le_refl _) _) (Nat.le_refl _) _⟩
  · simp only [if_true, hF, if_false, false_and]
    have HF := Lib.hid hF
    clear hF
    go_enter Tryd.func15, Tryd.ntmps15
    go_wp2_with fail
    refine (E1.out _ HR.out).mono ?_; rintro e w1 ⟨rfl, hr1, g1⟩
    have hz : w.heap.size < w1.heap.size := Blk.lt (HB.out.grown g1 (by intro e; injection e with e; exact hne e))
    have hq1 : q < w1.heap.size := hr1.lt
    have HR1 := Lib.hid (fun x y => (hr1.keep (Joins.below_alloc1 w1 (.cells #[.int .i64 x, .int .u32 y] 24))))
    have HG1 := Lib.hid (only_then (only_of (Joins.below_alloc1 w _) _) g1)
    have HB1 := Lib.hid (HB.out.grown g1 (by intro e; injection e with e; exact hne e))
    have HC1 := Lib.hid (fun x y => Blk.new w1 24 #[.int .i64 x, .int .u32 y])
    clear hr1 g1
    go_wp2_with fail
    refine (E2.out _ (HR1.out _ _)).mono ?_; rintro e w2 ⟨rfl, hr2, g2⟩
    have hzb : ¬ w1.heap.size = q := by omega
    have hn3 : ¬ w.heap.size = w1.heap.size := by omega
    have HC0 := Lib.hid ((HC1.out _ _).grown g2 (by intro e; injection e with e; exact hzb e))
    have HR2 := Lib.hid (hr2.far (b := w1.heap.size) (o := 1) (Ne.symm hzb) (.int .u32 (((0 : Nat) : Int))))
    have HG2 := Lib.hid (only_new (only_then (only_below HG1.out (Joins.below_alloc1 w1 _)) g2) (b := w1.heap.size) (o := 1) (by omega) (.int .u32 (((0 : Nat) : Int))))
    have HB0 := Lib.hid ((HB1.out.alloc _).grown g2 (by intro e; injection e with e; exact hne e))
    have HB2 := Lib.hid (HB0.out.far (p := ⟨w1.heap.size, 1, none⟩) hn3 (.int .u32 (((0 : Nat) : Int))))
    have HC2 := Lib.hid (HC0.out.set_ 1 (.int .u32 (((0 : Nat) : Int))))
    obtain ⟨k0, k1, k2, k3, _⟩ := rr_cells hr2
    have c0 := HC0.out.cell 0
    have c1 := HC0.out.cell 1
    have i0 := HC0.out.frozen 0
    have i1 := HC0.out.frozen 1
    simp at c0 c1
    clear hr2 g2
    go_wp2_with fail
    refine (rfail_any _ s p2 a2 f2 2 _ HR2.out).mono ?_; rintro e w5 ⟨rfl, hr5, g5⟩
    have HG5 := Lib.hid (only_then HG2.out g5)
    have HB5 := Lib.hid (HB2.out.grown g5 (by intro e; injection e with e; exact hne e))
    have HC5 := Lib.hid (HC2.out.grown g5 (by intro e; injection e with e; exact hzb e))
    simp [fkA, fkE, HF.out] at hr5
    have HR5 := Lib.hid hr5
    clear hr5 g5
    obtain ⟨m0, m1, m2, m3, _⟩ := rr_cells HR5.out
    have b0 := HB5.out.cell 0
    have b1 := HB5.out.cell 1
    have g0 := HB5.out.frozen 0
    have g1 := HB5.out.frozen 1
    have d0 := HC5.out.cell 0
    have d1 := HC5.out.cell 1
    simp at b0 b1 d0 d1
    go_wp2
    exact bodyPost_ret (v := .agg #[.int .i64 0, .int .u32 0]) (by simp [results, Tryd.results15, go_sem, b0, b1]) rfl
      ⟨rfl, (HR5.out.far (Ne.symm hne) _).far (Ne.symm hne) _, only_new (only_new HG5.out (Nat.le_refl _) _) (Nat.le_refl _) _⟩
set_option maxRecDepth 100000 in
set_option maxHeartbeats 3200000 in
theorem tagread (b : Nat) (s : ByteArray) (p : Nat) (fa fe : Int) (w : World) (hs : s.size ≤ 100000) (h : R w b s p fa fe) :
    Calls Tryd.prog 16 #[.pointer (some ⟨b, 0, none⟩)] w fun e w' => e = .returned (.agg #[.int .i64 (tgX s p fe), .int .u32 (tgY s p fe), .int .i64 (tgN s p fe)]) ∧ R w' b s (tgP s p fe) (tgA s p fa fe) (tgE s p fe) ∧ w.grownBy w' (some b) := by
  have hl := h.lt
  have hne : ¬ w.heap.size = b := by omega
  have HR := Lib.hid (h.keep (Joins.below_alloc1 w (.cells #[.int .i64 0, .int .u32 0, .int .i64 0] 26)))
  have HB := Lib.hid (Blk.new w 26 #[.int .i64 0, .int .u32 0, .int .i64 0])
  have v1 := rdV_bnd (m := 15) (by omega) s (r2P 7 1048576 s p fe) (idE s p fe)
  have v4 := @idX_bd s p fe
  have v5 := @idY_bd s p fe
  have E1 := Lib.hid (fun W h => idread b s p fa fe W hs h)
  have E2 := Lib.hid (fun W h => ointr b s (r2P 7 1048576 s p fe) (idA s p fa fe) (idE s p fe) 15 W hs h (by omega))
  unfold tgX tgY tgN tgP tgA tgE
  obtain ⟨x, hx⟩ : ∃ x, idX s p fe = x := ⟨_, rfl⟩
  obtain ⟨y, hy⟩ : ∃ x, idY s p fe = x := ⟨_, rfl⟩
  obtain ⟨p1, hp1⟩ : ∃ x, r2P 7 1048576 s p fe = x := ⟨_, rfl⟩
  obtain ⟨a1, ha1⟩ : ∃ x, idA s p fa fe = x := ⟨_, rfl⟩
  obtain ⟨f1, hf1⟩ : ∃ x, idE s p fe = x := ⟨_, rfl⟩
  rw [hx, hy] at E1
  rw [hx] at v4
  rw [hy] at v5
  rw [hp1, hf1] at E1 E2 v1
  rw [ha1] at E1 E2
  rw [hx, hy, hp1, ha1, hf1]
  obtain ⟨n, hn⟩ : ∃ x, rdV (some 15) s p1 f1 = x := ⟨_, rfl⟩
  obtain ⟨p2, hp2⟩ : ∃ x, rdP (some 15) s p1 f1 = x := ⟨_, rfl⟩
  obtain ⟨a2, ha2⟩ : ∃ x, rdA (some 15) s p1 a1 f1 = x := ⟨_, rfl⟩
  obtain ⟨f2, hf2⟩ : ∃ x, rdF (some 15) s p1 f1 = x := ⟨_, rfl⟩
  rw [hn, hp2, ha2, hf2] at E2
  rw [hn] at v1
  rw [hn, hp2, ha2, hf2]
  clear hx hy hp1 ha1 hf1 hn hp2 ha2 hf2 h
  have hF2 : (f2 = 0 ∧ (f2 != 0) = false) ∨ (¬ f2 = 0 ∧ (f2 == 0) = false ∧ (f2 != 0) = true) := by
    by_cases h : f2 = 0
    · exact .inl ⟨h, by simp [h]⟩
    · exact .inr ⟨h, by simpa using h, by simpa using h⟩
  rcases hF2 with ⟨rfl, hd⟩ | ⟨hF, hd0, hd⟩
  · simp only [if_true]
    go_enter Tryd.func16, Tryd.ntmps16
    go_wp2_with fail
    refine (E1.out _ HR.out).mono ?_; rintro e w1 ⟨rfl, hr1, g1⟩
    have hz : w.heap.size < w1.heap.size := Blk.lt (HB.out.grown g1 (by intro e; injection e with e; exact hne e))
    have hq1 : b < w1.heap.size := hr1.lt
    have HR1 := Lib.hid (fun x y z => (hr1.keep (Joins.below_alloc1 w1 (.cells #[.int .i64 x, .int .u32 y, .int .i64 z] 26))))
    have HG1 := Lib.hid (only_then (only_of (Joins.below_alloc1 w _) _) g1)
    have HB1 := Lib.hid (HB.out.grown g1 (by intro e; injection e with e; exact hne e))
    have HC1 := Lib.hid (fun x y z => Blk.new w1 26 #[.int .i64 x, .int .u32 y, .int .i64 z])
    clear hr1 g1
    go_wp2_with fail
    refine (E2.out _ (HR1.out _ _ _)).mono ?_; rintro e w2 ⟨rfl, hr2, g2⟩
    have hzb : ¬ w1.heap.size = b := by omega
    have hn3 : ¬ w.heap.size = w1.heap.size := by omega
    have HC0 := Lib.hid ((HC1.out _ _ _).grown g2 (by intro e; injection e with e; exact hzb e))
    have HR5 := Lib.hid (r_far (o := 2) hr2 HC0.out (by decide) (by decide) (.int .i64 (n : Int)))
    have HG5 := Lib.hid (only_new (only_then (only_below HG1.out (Joins.below_alloc1 w1 _)) g2) (b := w1.heap.size) (o := 2) (by omega) (.int .i64 (n : Int)))
    have HB5 := Lib.hid (((HB1.out.alloc _).grown g2 (by intro e; injection e with e; exact hne e)).far (p := ⟨w1.heap.size, 2, none⟩) hn3 (.int .i64 (n : Int)))
    have HC5 := Lib.hid (HC0.out.set_ 2 (.int .i64 (n : Int)))
    have c0 := HC0.out.cell 0
    have c1 := HC0.out.cell 1
    have c2 := HC0.out.cell 2
    have i0 := HC0.out.frozen 0
    have i1 := HC0.out.frozen 1
    have i2 := HC0.out.frozen 2
    simp at c0 c1 c2
    clear hr2 g2
    go_wp2_with fail
    obtain ⟨ev, hev, hec⟩ := oerr _ _ _ _ _ _ HR5.out
    obtain ⟨-, rfl⟩ := ev_nil hev
    refine hec.mono ?_; rintro e w6 ⟨rfl, rfl⟩
    clear hec hev
    have b0 := HB5.out.cell 0
    have b1 := HB5.out.cell 1
    have b2 := HB5.out.cell 2
    have g0 := HB5.out.frozen 0
    have g1 := HB5.out.frozen 1
    have g2 := HB5.out.frozen 2
    simp at b0 b1 b2
    go_wp2
    exact bodyPost_ret (v := .agg #[.int .i64 x, .int .u32 y, .int .i64 (n : Int)]) (by simp [results, Tryd.results16, go_sem, b0, b1, b2]) rfl
      ⟨rfl, r_far (r_far (r_far HR5.out HB5.out (by decide) (by decide) _) (HB5.out.set_ 0 _) (by decide) (by decide) _) ((HB5.out.set_ 0 _).set_ 1 _) (by decide) (by decide) _, only_new (only_new (only_new HG5.out (Nat.le_refl _) _) (Nat.le_refl _) _) (Nat.le_refl _) _⟩
  · simp only [hF, if_false]
    have HF := Lib.hid hF
    clear hF
    go_enter Tryd.func16, Tryd.ntmps16
    go_wp2_with fail
    refine (E1.out _ HR.out).mono ?_; rintro e w1 ⟨rfl, hr1, g1⟩
    have hz : w.heap.size < w1.heap.size := Blk.lt (HB.out.grown g1 (by intro e; injection e with e; exact hne e))
    have hq1 : b < w1.heap.size := hr1.lt
    have HR1 := Lib.hid (fun x y z => (hr1.keep (Joins.below_alloc1 w1 (.cells #[.int .i64 x, .int .u32 y, .int .i64 z] 26))))
    have HG1 := Lib.hid (only_then (only_of (Joins.below_alloc1 w _) _) g1)
    have HB1 := Lib.hid (HB.out.grown g1 (by intro e; injection e with e; exact hne e))
    have HC1 := Lib.hid (fun x y z => Blk.new w1 26 #[.int .i64 x, .int .u32 y, .int .i64 z])
    clear hr1 g1
    go_wp2_with fail
    refine (E2.out _ (HR1.out _ _ _)).mono ?_; rintro e w2 ⟨rfl, hr2, g2⟩
    have hzb : ¬ w1.heap.size = b := by omega
    have hn3 : ¬ w.heap.size = w1.heap.size := by omega
    have HC0 := Lib.hid ((HC1.out _ _ _).grown g2 (by intro e; injection e with e; exact hzb e))
    have HR5 := Lib.hid (r_far (o := 2) hr2 HC0.out (by decide) (by decide) (.int .i64 (n : Int)))
    have HG5 := Lib.hid (only_new (only_then (only_below HG1.out (Joins.below_alloc1 w1 _)) g2) (b := w1.heap.size) (o := 2) (by omega) (.int .i64 (n : Int)))
    have HB5 := Lib.hid (((HB1.out.alloc _).grown g2 (by intro e; injection e with e; exact hne e)).far (p := ⟨w1.heap.size, 2, none⟩) hn3 (.int .i64 (n : Int)))
    have HC5 := Lib.hid (HC0.out.set_ 2 (.int .i64 (n : Int)))
    have c0 := HC0.out.cell 0
    have c1 := HC0.out.cell 1
    have c2 := HC0.out.cell 2
    have i0 := HC0.out.frozen 0
    have i1 := HC0.out.frozen 1
    have i2 := HC0.out.frozen 2
    simp at c0 c1 c2
    clear hr2 g2
    go_wp2_with fail
    obtain ⟨ev, hev, hec⟩ := oerr _ _ _ _ _ _ HR5.out
    obtain ⟨fb, rfl⟩ := ev_some hev HF.out
    refine hec.mono ?_; rintro e w6 ⟨rfl, rfl⟩
    clear hec hev
    have b0 := HB5.out.cell 0
    have b1 := HB5.out.cell 1
    have b2 := HB5.out.cell 2
    have g0 := HB5.out.frozen 0
    have g1 := HB5.out.frozen 1
    have g2 := HB5.out.frozen 2
    simp at b0 b1 b2
    go_wp2
    exact bodyPost_ret (v := .agg #[.int .i64 0, .int .u32 0, .int .i64 0]) (by simp [results, Tryd.results16, go_sem, b0, b1, b2]) rfl
      ⟨rfl, r_far (r_far (r_far HR5.out HB5.out (by decide) (by decide) _) (HB5.out.set_ 0 _) (by decide) (by decide) _) ((HB5.out.set_ 0 _).set_ 1 _) (by decide) (by decide) _, only_new (only_new (only_new HG5.out (Nat.le_refl _) _) (Nat.le_refl _) _) (Nat.le_refl _) _⟩
set_option maxRecDepth 100000 in
set_option maxHeartbeats 3200000 in
theorem rtagread (q : Nat) (s : ByteArray) (p : Nat) (fa fe : Int) (w : World) (hs : s.size ≤ 100000) (h : RR w q s p fa fe) :
    Calls Tryd.prog 17 #[.pointer (some ⟨q, 0, none⟩)] w fun e w' => e = .returned (.agg #[.int .i64 (tgX s p fe), .int .u32 (tgY s p fe), .int .i64 (tgN s p fe)]) ∧ RR w' q s (tgP s p fe) (tgA s p fa fe) (tgE s p fe) ∧ w.grownBy w' (some q) := by
  have hl := h.lt
  have hne : ¬ w.heap.size = q := by omega
  have HR := Lib.hid (h.keep (Joins.below_alloc1 w (.cells #[.int .i64 0, .int .u32 0, .int .i64 0] 26)))
  have HB := Lib.hid (Blk.new w 26 #[.int .i64 0, .int .u32 0, .int .i64 0])
  have v1 := rdV_bnd (m := 15) (by omega) s (r2P 7 1048576 s p fe) (idE s p fe)
  have v4 := @idX_bd s p fe
  have v5 := @idY_bd s p fe
  have E1 := Lib.hid (fun W h => ridread q s p fa fe W hs h)
  have E2 := Lib.hid (fun W h => rintr q s (r2P 7 1048576 s p fe) (idA s p fa fe) (idE s p fe) 15 W hs h (by omega))
  unfold tgX tgY tgN tgP tgA tgE
  obtain ⟨x, hx⟩ : ∃ x, idX s p fe = x := ⟨_, rfl⟩
  obtain ⟨y, hy⟩ : ∃ x, idY s p fe = x := ⟨_, rfl⟩
  obtain ⟨p1, hp1⟩ : ∃ x, r2P 7 1048576 s p fe = x := ⟨_, rfl⟩
  obtain ⟨a1, ha1⟩ : ∃ x, idA s p fa fe = x := ⟨_, rfl⟩
  obtain ⟨f1, hf1⟩ : ∃ x, idE s p fe = x := ⟨_, rfl⟩
  rw [hx, hy] at E1
  rw [hx] at v4
  rw [hy] at v5
  rw [hp1, hf1] at E1 E2 v1
  rw [ha1] at E1 E2
  rw [hx, hy, hp1, ha1, hf1]
  obtain ⟨n, hn⟩ : ∃ x, rdV (some 15) s p1 f1 = x := ⟨_, rfl⟩
  obtain ⟨p2, hp2⟩ : ∃ x, rdP (some 15) s p1 f1 = x := ⟨_, rfl⟩
  obtain ⟨a2, ha2⟩ : ∃ x, rdA (some 15) s p1 a1 f1 = x := ⟨_, rfl⟩
  obtain ⟨f2, hf2⟩ : ∃ x, rdF (some 15) s p1 f1 = x := ⟨_, rfl⟩
  rw [hn, hp2, ha2, hf2] at E2
  rw [hn] at v1
  rw [hn, hp2, ha2, hf2]
  clear hx hy hp1 ha1 hf1 hn hp2 ha2 hf2 h
  have hF2 : (f2 = 0 ∧ (f2 != 0) = false) ∨ (¬ f2 = 0 ∧ (f2 == 0) = false ∧ (f2 != 0) = true) := by
    by_cases h : f2 = 0
    · exact .inl ⟨h, by simp [h]⟩
    · exact .inr ⟨h, by simpa using h, by simpa using h⟩
  rcases hF2 with ⟨rfl, hd⟩ | ⟨hF, hd0, hd⟩
  · simp only [if_true]
    go_enter Tryd.func17, Tryd.ntmps17
    go_wp2_with fail
    refine (E1.out _ HR.out).mono ?_; rintro e w1 ⟨rfl, hr1, g1⟩
    have hz : w.heap.size < w1.heap.size := Blk.lt (HB.out.grown g1 (by intro e; injection e with e; exact hne e))
    have hq1 : q < w1.heap.size := hr1.lt
    have HR1 := Lib.hid (fun x y z => (hr1.keep (Joins.below_alloc1 w1 (.cells #[.int .i64 x, .int .u32 y, .int .i64 z] 26))))
    have HG1 := Lib.hid (only_then (only_of (Joins.below_alloc1 w _) _) g1)
    have HB1 := Lib.hid (HB.out.grown g1 (by intro e; injection e with e; exact hne e))
    have HC1 := Lib.hid (fun x y z => Blk.new w1 26 #[.int .i64 x, .int .u32 y, .int .i64 z])
    clear hr1 g1
    go_wp2_with fail
    refine (E2.out _ (HR1.out _ _ _)).mono ?_; rintro e w2 ⟨rfl, hr2, g2⟩
    have hzb : ¬ w1.heap.size = q := by omega
    have hn3 : ¬ w.heap.size = w1.heap.size := by omega
    have HC0 := Lib.hid ((HC1.out _ _ _).grown g2 (by intro e; injection e with e; exact hzb e))
    have HR5 := Lib.hid (hr2.far (b := w1.heap.size) (o := 2) (Ne.symm hzb) (.int .i64 (n : Int)))
    have HG5 := Lib.hid (only_new (only_then (only_below HG1.out (Joins.below_alloc1 w1 _)) g2) (b := w1.heap.size) (o := 2) (by omega) (.int .i64 (n : Int)))
    have HB5 := Lib.hid (((HB1.out.alloc _).grown g2 (by intro e; injection e with e; exact hne e)).far (p := ⟨w1.heap.size, 2, none⟩) hn3 (.int .i64 (n : Int)))
    have HC5 := Lib.hid (HC0.out.set_ 2 (.int .i64 (n : Int)))
    obtain ⟨k0, k1, k2, k3, _⟩ := rr_cells hr2
    have c0 := HC0.out.cell 0
    have c1 := HC0.out.cell 1
    have c2 := HC0.out.cell 2
    have i0 := HC0.out.frozen 0
    have i1 := HC0.out.frozen 1
    have i2 := HC0.out.frozen 2
    simp at c0 c1 c2
    clear hr2 g2
    obtain ⟨m0, m1, m2, m3, _⟩ := rr_cells HR5.out
    have b0 := HB5.out.cell 0
    have b1 := HB5.out.cell 1
    have b2 := HB5.out.cell 2
    have g0 := HB5.out.frozen 0
    have g1 := HB5.out.frozen 1
    have g9 := HB5.out.frozen 2
    simp at b0 b1 b2
    go_wp2
    exact bodyPost_ret (v := .agg #[.int .i64 x, .int .u32 y, .int .i64 (n : Int)]) (by simp [results, Tryd.results17, go_sem, b0, b1, b2]) rfl
      ⟨rfl, ((HR5.out.far (Ne.symm hne) _).far (Ne.symm hne) _).far (Ne.symm hne) _, only_new (only_new (only_new HG5.out (Nat.le_refl _) _) (Nat.le_refl _) _) (Nat.le_refl _) _⟩
  · simp only [hF, if_false]
    have HF := Lib.hid hF
    clear hF
    go_enter Tryd.func17, Tryd.ntmps17
    go_wp2_with fail
    refine (E1.out _ HR.out).mono ?_; rintro e w1 ⟨rfl, hr1, g1⟩
    have hz : w.heap.size < w1.heap.size := Blk.lt (HB.out.grown g1 (by intro e; injection e with e; exact hne e))
    have hq1 : q < w1.heap.size := hr1.lt
    have HR1 := Lib.hid (fun x y z => (hr1.keep (Joins.below_alloc1 w1 (.cells #[.int .i64 x, .int .u32 y, .int .i64 z] 26))))
    have HG1 := Lib.hid (only_then (only_of (Joins.below_alloc1 w _) _) g1)
    have HB1 := Lib.hid (HB.out.grown g1 (by intro e; injection e with e; exact hne e))
    have HC1 := Lib.hid (fun x y z => Blk.new w1 26 #[.int .i64 x, .int .u32 y, .int .i64 z])
    clear hr1 g1
    go_wp2_with fail
    refine (E2.out _ (HR1.out _ _ _)).mono ?_; rintro e w2 ⟨rfl, hr2, g2⟩
    have hzb : ¬ w1.heap.size = q := by omega
    have hn3 : ¬ w.heap.size = w1.heap.size := by omega
    have HC0 := Lib.hid ((HC1.out _ _ _).grown g2 (by intro e; injection e with e; exact hzb e))
    have HR5 := Lib.hid (hr2.far (b := w1.heap.size) (o := 2) (Ne.symm hzb) (.int .i64 (n : Int)))
    have HG5 := Lib.hid (only_new (only_then (only_below HG1.out (Joins.below_alloc1 w1 _)) g2) (b := w1.heap.size) (o := 2) (by omega) (.int .i64 (n : Int)))
    have HB5 := Lib.hid (((HB1.out.alloc _).grown g2 (by intro e; injection e with e; exact hne e)).far (p := ⟨w1.heap.size, 2, none⟩) hn3 (.int .i64 (n : Int)))
    have HC5 := Lib.hid (HC0.out.set_ 2 (.int .i64 (n : Int)))
    obtain ⟨k0, k1, k2, k3, _⟩ := rr_cells hr2
    have c0 := HC0.out.cell 0
    have c1 := HC0.out.cell 1
    have c2 := HC0.out.cell 2
    have i0 := HC0.out.frozen 0
    have i1 := HC0.out.frozen 1
    have i2 := HC0.out.frozen 2
    simp at c0 c1 c2
    clear hr2 g2
    obtain ⟨m0, m1, m2, m3, _⟩ := rr_cells HR5.out
    have b0 := HB5.out.cell 0
    have b1 := HB5.out.cell 1
    have b2 := HB5.out.cell 2
    have g0 := HB5.out.frozen 0
    have g1 := HB5.out.frozen 1
    have g9 := HB5.out.frozen 2
    simp at b0 b1 b2
    go_wp2
    exact bodyPost_ret (v := .agg #[.int .i64 0, .int .u32 0, .int .i64 0]) (by simp [results, Tryd.results17, go_sem, b0, b1, b2]) rfl
      ⟨rfl, ((HR5.out.far (Ne.symm hne) _).far (Ne.symm hne) _).far (Ne.symm hne) _, only_new (only_new (only_new HG5.out (Nat.le_refl _) _) (Nat.le_refl _) _) (Nat.le_refl _) _⟩
end Go.Proofs.YtjckganigfblnaaDoor
