/- Contracts of package lamp's Write and Read, and of the reference's Compare, Write and Read. -/
import Derived.Test.YtofpefbnkmeokaaDoorLamp
import Derived.Test.YtofpefbnkmeokaaDoorSeen
import Derived.Test.YtofpefbnkmeokaaDoorR2
namespace Go.Proofs.YtofpefbnkmeokaaDoor
open Go.RowKit
attribute [local go_sem ↓] Go.wp_at_zero Go.wp_at_succ
def stW (t o : Int) : ByteArray := if stV t o = 0 then numN t.toNat ++ numN o.toNat else ⟨#[]⟩
theorem stW_yes {t o : Int} (h : stV t o = 0) : stW t o = numN t.toNat ++ numN o.toNat := if_pos h
theorem stW_no {t o : Int} (h : ¬ stV t o = 0) : stW t o = ⟨#[]⟩ := if_neg h
theorem numN_small (v : Int) (h : v ≤ 18446744073709551615) : (numN v.toNat).size ≤ 9 := by
  rw [numN_size]; have := nN_max (v := v.toNat) (by show v.toNat < 18446744073709551616; omega); omega
theorem stW_size (t o : Int) : (stW t o).size ≤ 18 := by
  by_cases h : t ≤ 1048576 ∧ 0 ≤ o ∧ o ≤ 7
  · rw [stW_yes (stV_yes t o h), ByteArray.size_append]
    have := numN_small t (by omega)
    have := numN_small o (by omega)
    omega
  · rw [stW_no (by rw [stV_no t o h]; omega)]; decide
set_option maxRecDepth 100000 in
set_option maxHeartbeats 1600000 in
theorem stwrite (t o : Int) (w : World) (ht : 0 ≤ t) :
    Calls Tryd.prog 61 #[.agg #[.int .u32 t, .int .i64 o]] w fun e w' => e = .returned (.string (stW t o)) ∧ Below w.heap.size w w' := by
  by_cases h : t ≤ 1048576 ∧ 0 ≤ o ∧ o ≤ 7
  · have HW := Lib.hid (stW_yes (stV_yes t o h))
    have C : ∀ W : World, Calls Tryd.prog 54 #[.agg #[.int .u32 t, .int .i64 o]] W fun e w' => e = .returned (.int .i64 0) ∧ Below W.heap.size W w' := fun W => (stcheck t o W).mono (by rintro e w' ⟨rfl, h'⟩; exact ⟨retI (stV_yes t o h), h'⟩)
    have D := Lib.hid C
    have D1 := Lib.hid (fun W => onum t W ht (by omega))
    have D2 := Lib.hid (fun W => onum o W (by omega) (by omega))
    have z1 := numN_small t (by omega)
    have z2 := numN_small o (by omega)
    obtain ⟨x, hx⟩ : ∃ x, numN t.toNat = x := ⟨_, rfl⟩
    obtain ⟨y, hy⟩ : ∃ y, numN o.toNat = y := ⟨_, rfl⟩
    rw [hx] at D1 z1 HW
    rw [hy] at D2 z2 HW
    have g1 : t ≤ 1048576 := h.1
    have g2 : 0 ≤ o := h.2.1
    have g3 : o ≤ 7 := h.2.2
    have q1 : IntKind.u64.wrap t = t := by rw [IntKind.wrap_u64]; omega
    have q2 : IntKind.u64.wrap o = o := by rw [IntKind.wrap_u64]; omega
    clear C hx hy h
    go_enter Tryd.func61, Tryd.ntmps61
    go_wp2_with fail
    refine (D.out _).mono ?_; rintro e w1 ⟨rfl, hb⟩
    have c0 : w1.cell? ⟨w.heap.size, 0, none⟩ = some (.int .u32 t) := by rw [hb.cell (by simp)]; simp
    have c1 : w1.cell? ⟨w.heap.size, 1, none⟩ = some (.int .i64 o) := by rw [hb.cell (by simp)]; simp
    have HB := Lib.hid ((Joins.below_alloc1 w (.cells #[.int .u32 t, .int .i64 o] 59)).trans (hb.mono (by simp)))
    have k0 := cell_regrown c0
    have k1 := cell_regrown c1
    clear hb
    go_wp2
    refine wp_region_quiet_below (by kernel_rfl) (by kernel_rfl) ?_
    repeat (first | go_big_quiet_step ((first | with_reducible exact Calls.regrown_of (D1.out _) | with_reducible exact Calls.regrown_of (D2.out _))) | quiet_step ((first | with_reducible exact Calls.regrown_of (D1.out _) | with_reducible exact Calls.regrown_of (D2.out _))))
    refine wpQuiet_nil ?_
    intro _ hw'
    obtain ⟨⟨dq, osq⟩, hw''⟩ := hw'
    subst hw''
    go_wp2
    go_ret
    exact ⟨ret_s HW.out.symm, HB.out.trans ((below_regrown w1 dq osq).mono HB.out.size)⟩
  · have HW := Lib.hid (stW_no (t := t) (o := o) (by rw [stV_no t o h]; omega))
    have C : ∀ W : World, Calls Tryd.prog 54 #[.agg #[.int .u32 t, .int .i64 o]] W fun e w' => e = .returned (.int .i64 2) ∧ Below W.heap.size W w' := fun W => (stcheck t o W).mono (by rintro e w' ⟨rfl, h'⟩; exact ⟨retI (stV_no t o h), h'⟩)
    have D := Lib.hid C
    clear C h
    go_enter Tryd.func61, Tryd.ntmps61
    go_wp2_with fail
    refine (D.out _).mono ?_; rintro e w1 ⟨rfl, hb⟩
    go_wp2
    go_ret
    exact ⟨ret_s HW.out.symm, (Joins.below_alloc1 w _).trans (hb.mono (by simp))⟩
set_option maxRecDepth 100000 in
set_option maxHeartbeats 1600000 in
theorem rstwrite (t o : Int) (w : World) (ht : 0 ≤ t) :
    Calls Tryd.prog 63 #[.agg #[.int .u32 t, .int .i64 o]] w fun e w' => e = .returned (.string (stW t o)) ∧ Below w.heap.size w w' := by
  by_cases h : t ≤ 1048576 ∧ 0 ≤ o ∧ o ≤ 7
  · have HW := Lib.hid (stW_yes (stV_yes t o h))
    have C : ∀ W : World, Calls Tryd.prog 55 #[.agg #[.int .u32 t, .int .i64 o]] W fun e w' => e = .returned (.int .i64 0) ∧ Below W.heap.size W w' := fun W => (rstcheck t o W).mono (by rintro e w' ⟨rfl, h'⟩; exact ⟨retI (stV_yes t o h), h'⟩)
    have D := Lib.hid C
    have D1 := Lib.hid (fun W => rnum t W ht (by omega))
    have D2 := Lib.hid (fun W => rnum o W (by omega) (by omega))
    have z1 := numN_small t (by omega)
    have z2 := numN_small o (by omega)
    obtain ⟨x, hx⟩ : ∃ x, numN t.toNat = x := ⟨_, rfl⟩
    obtain ⟨y, hy⟩ : ∃ y, numN o.toNat = y := ⟨_, rfl⟩
    rw [hx] at D1 z1 HW
    rw [hy] at D2 z2 HW
    have g1 : t ≤ 1048576 := h.1
    have g2 : 0 ≤ o := h.2.1
    have g3 : o ≤ 7 := h.2.2
    have q1 : IntKind.u64.wrap t = t := by rw [IntKind.wrap_u64]; omega
    have q2 : IntKind.u64.wrap o = o := by rw [IntKind.wrap_u64]; omega
    clear C hx hy h
    go_enter Tryd.func63, Tryd.ntmps63
    go_wp2_with fail
    refine (D.out _).mono ?_; rintro e w1 ⟨rfl, hb⟩
    have c0 : w1.cell? ⟨w.heap.size, 0, none⟩ = some (.int .u32 t) := by rw [hb.cell (by simp)]; simp
    have c1 : w1.cell? ⟨w.heap.size, 1, none⟩ = some (.int .i64 o) := by rw [hb.cell (by simp)]; simp
    have HB := Lib.hid ((Joins.below_alloc1 w (.cells #[.int .u32 t, .int .i64 o] 59)).trans (hb.mono (by simp)))
    have k0 := cell_regrown c0
    have k1 := cell_regrown c1
    clear hb
    go_wp2
    refine wp_region_quiet_below (by kernel_rfl) (by kernel_rfl) ?_
    repeat (first | go_big_quiet_step ((first | with_reducible exact Calls.regrown_of (D1.out _) | with_reducible exact Calls.regrown_of (D2.out _))) | quiet_step ((first | with_reducible exact Calls.regrown_of (D1.out _) | with_reducible exact Calls.regrown_of (D2.out _))))
    refine wpQuiet_nil ?_
    intro _ hw'
    obtain ⟨⟨dq, osq⟩, hw''⟩ := hw'
    subst hw''
    go_wp2
    go_ret
    exact ⟨ret_s HW.out.symm, HB.out.trans ((below_regrown w1 dq osq).mono HB.out.size)⟩
  · have HW := Lib.hid (stW_no (t := t) (o := o) (by rw [stV_no t o h]; omega))
    have C : ∀ W : World, Calls Tryd.prog 55 #[.agg #[.int .u32 t, .int .i64 o]] W fun e w' => e = .returned (.int .i64 2) ∧ Below W.heap.size W w' := fun W => (rstcheck t o W).mono (by rintro e w' ⟨rfl, h'⟩; exact ⟨retI (stV_no t o h), h'⟩)
    have D := Lib.hid C
    clear C h
    go_enter Tryd.func63, Tryd.ntmps63
    go_wp2_with fail
    refine (D.out _).mono ?_; rintro e w1 ⟨rfl, hb⟩
    go_wp2
    go_ret
    exact ⟨ret_s HW.out.symm, (Joins.below_alloc1 w _).trans (hb.mono (by simp))⟩
set_option maxHeartbeats 3200000 in
theorem stread (b : Nat) (s : ByteArray) (p : Nat) (fa fe : Int) (w : World) (hs : s.size ≤ 100000) (h : R w b s p fa fe) :
    Calls Tryd.prog 65 #[.pointer (some ⟨b, 0, none⟩)] w fun e w' => e = .returned (.agg #[.int .u32 (r2X 1048576 7 s p fe : Nat), .int .i64 (r2Y 1048576 7 s p fe : Nat)]) ∧ R w' b s (r2P 1048576 7 s p fe) (r2A 1048576 7 s p fa fe) (r2F 1048576 7 s p fe) ∧ w.grownBy w' (some b) := by
  have hl := h.lt
  have hne : ¬ w.heap.size = b := by omega
  have HR := Lib.hid (h.keep (Joins.below_alloc1 w (.cells #[.int .u32 0, .int .i64 0] 59)))
  have HB := Lib.hid (Blk.new w 59 #[.int .u32 0, .int .i64 0])
  have v1 := rdV_bnd (m := 1048576) (by omega) s p fe
  have v2 := rdV_bnd (m := 7) (by omega) s (rdP (some 1048576) s p fe) (rdF (some 1048576) s p fe)
  have E1 := Lib.hid (fun W h => ointr b s p fa fe 1048576 W hs h (by omega))
  have E2 := Lib.hid (fun W h => ointr b s (rdP (some 1048576) s p fe) (rdA (some 1048576) s p fa fe) (rdF (some 1048576) s p fe) 7 W hs h (by omega))
  unfold r2X r2Y r2P r2A r2F
  obtain ⟨x, hx⟩ : ∃ x, rdV (some 1048576) s p fe = x := ⟨_, rfl⟩
  obtain ⟨p1, hp1⟩ : ∃ x, rdP (some 1048576) s p fe = x := ⟨_, rfl⟩
  obtain ⟨a1, ha1⟩ : ∃ x, rdA (some 1048576) s p fa fe = x := ⟨_, rfl⟩
  obtain ⟨f1, hf1⟩ : ∃ x, rdF (some 1048576) s p fe = x := ⟨_, rfl⟩
  rw [hx] at E1 v1
  rw [hp1, hf1] at E1 E2 v2
  rw [ha1] at E1 E2
  rw [hx, hp1, ha1, hf1]
  obtain ⟨y, hy⟩ : ∃ x, rdV (some 7) s p1 f1 = x := ⟨_, rfl⟩
  obtain ⟨p2, hp2⟩ : ∃ x, rdP (some 7) s p1 f1 = x := ⟨_, rfl⟩
  obtain ⟨a2, ha2⟩ : ∃ x, rdA (some 7) s p1 a1 f1 = x := ⟨_, rfl⟩
  obtain ⟨f2, hf2⟩ : ∃ x, rdF (some 7) s p1 f1 = x := ⟨_, rfl⟩
  rw [hy, hp2, ha2, hf2] at E2
  rw [hy] at v2
  rw [hy, hp2, ha2, hf2]
  clear hx hp1 ha1 hf1 hy hp2 ha2 hf2 h
  by_cases hF : f2 = 0
  · subst hF
    rw [if_pos rfl, if_pos rfl]
    go_enter Tryd.func65, Tryd.ntmps65
    go_wp2_with fail
    refine (E1.out _ HR.out).mono ?_; rintro e w1 ⟨rfl, hr1, g1⟩
    have HR1 := Lib.hid hr1
    have HG1 := Lib.hid (only_then (only_of (Joins.below_alloc1 w _) _) g1)
    have HB1 := Lib.hid (HB.out.grown g1 (by intro e; injection e with e; exact hne e))
    clear hr1 g1
    go_wp2_with fail
    refine (E2.out _ HR1.out).mono ?_; rintro e w2 ⟨rfl, hr2, g2⟩
    have HR2 := Lib.hid hr2
    have HG2 := Lib.hid (only_then HG1.out g2)
    have HB2 := Lib.hid (HB1.out.grown g2 (by intro e; injection e with e; exact hne e))
    clear hr2 g2
    go_wp2_with fail
    obtain ⟨ev, hev, hec⟩ := oerr _ _ _ _ _ w2 HR2.out
    obtain ⟨-, rfl⟩ := ev_nil hev
    refine hec.mono ?_; rintro e w3 ⟨rfl, rfl⟩
    have b0 := HB2.out.cell 0
    have b1 := HB2.out.cell 1
    have g0 := HB2.out.frozen 0
    have g1 := HB2.out.frozen 1
    simp at b0 b1
    clear hec hev
    go_wp2
    exact bodyPost_ret (v := .agg #[.int .u32 (x : Int), .int .i64 (y : Int)]) (by simp [results, Tryd.results65, go_sem, b0, b1]) rfl
      ⟨rfl, r_far (r_far HR2.out HB2.out (by decide) (by decide) _) (HB2.out.set_ 0 _) (by decide) (by decide) _, only_new (only_new HG2.out (Nat.le_refl _) _) (Nat.le_refl _) _⟩
  · rw [if_neg hF, if_neg hF]
    have HF := Lib.hid hF
    clear hF
    go_enter Tryd.func65, Tryd.ntmps65
    go_wp2_with fail
    refine (E1.out _ HR.out).mono ?_; rintro e w1 ⟨rfl, hr1, g1⟩
    have HR1 := Lib.hid hr1
    have HG1 := Lib.hid (only_then (only_of (Joins.below_alloc1 w _) _) g1)
    have HB1 := Lib.hid (HB.out.grown g1 (by intro e; injection e with e; exact hne e))
    clear hr1 g1
    go_wp2_with fail
    refine (E2.out _ HR1.out).mono ?_; rintro e w2 ⟨rfl, hr2, g2⟩
    have HR2 := Lib.hid hr2
    have HG2 := Lib.hid (only_then HG1.out g2)
    have HB2 := Lib.hid (HB1.out.grown g2 (by intro e; injection e with e; exact hne e))
    clear hr2 g2
    go_wp2_with fail
    obtain ⟨ev, hev, hec⟩ := oerr _ _ _ _ _ w2 HR2.out
    obtain ⟨fb, rfl⟩ := ev_some hev HF.out
    refine hec.mono ?_; rintro e w3 ⟨rfl, rfl⟩
    have b0 := HB2.out.cell 0
    have b1 := HB2.out.cell 1
    have g0 := HB2.out.frozen 0
    have g1 := HB2.out.frozen 1
    simp at b0 b1
    clear hec hev
    go_wp2
    exact bodyPost_ret (v := .agg #[.int .u32 0, .int .i64 0]) (by simp [results, Tryd.results65, go_sem, b0, b1]) rfl
      ⟨rfl, r_far (r_far HR2.out HB2.out (by decide) (by decide) _) (HB2.out.set_ 0 _) (by decide) (by decide) _, only_new (only_new HG2.out (Nat.le_refl _) _) (Nat.le_refl _) _⟩
set_option maxHeartbeats 3200000 in
theorem rstread (q : Nat) (s : ByteArray) (p : Nat) (fa fe : Int) (w : World) (hs : s.size ≤ 100000) (h : RR w q s p fa fe) :
    Calls Tryd.prog 67 #[.pointer (some ⟨q, 0, none⟩)] w fun e w' => e = .returned (.agg #[.int .u32 (r2X 1048576 7 s p fe : Nat), .int .i64 (r2Y 1048576 7 s p fe : Nat)]) ∧ RR w' q s (r2P 1048576 7 s p fe) (r2A 1048576 7 s p fa fe) (r2F 1048576 7 s p fe) ∧ w.grownBy w' (some q) := by
  have hl := h.lt
  have hne : ¬ w.heap.size = q := by omega
  have HR := Lib.hid (h.keep (Joins.below_alloc1 w (.cells #[.int .u32 0, .int .i64 0] 59)))
  have HB := Lib.hid (Blk.new w 59 #[.int .u32 0, .int .i64 0])
  have v1 := rdV_bnd (m := 1048576) (by omega) s p fe
  have v2 := rdV_bnd (m := 7) (by omega) s (rdP (some 1048576) s p fe) (rdF (some 1048576) s p fe)
  have E1 := Lib.hid (fun W h => rintr q s p fa fe 1048576 W hs h (by omega))
  have E2 := Lib.hid (fun W h => rintr q s (rdP (some 1048576) s p fe) (rdA (some 1048576) s p fa fe) (rdF (some 1048576) s p fe) 7 W hs h (by omega))
  unfold r2X r2Y r2P r2A r2F
  obtain ⟨x, hx⟩ : ∃ x, rdV (some 1048576) s p fe = x := ⟨_, rfl⟩
  obtain ⟨p1, hp1⟩ : ∃ x, rdP (some 1048576) s p fe = x := ⟨_, rfl⟩
  obtain ⟨a1, ha1⟩ : ∃ x, rdA (some 1048576) s p fa fe = x := ⟨_, rfl⟩
  obtain ⟨f1, hf1⟩ : ∃ x, rdF (some 1048576) s p fe = x := ⟨_, rfl⟩
  rw [hx] at E1 v1
  rw [hp1, hf1] at E1 E2 v2
  rw [ha1] at E1 E2
  rw [hx, hp1, ha1, hf1]
  obtain ⟨y, hy⟩ : ∃ x, rdV (some 7) s p1 f1 = x := ⟨_, rfl⟩
  obtain ⟨p2, hp2⟩ : ∃ x, rdP (some 7) s p1 f1 = x := ⟨_, rfl⟩
  obtain ⟨a2, ha2⟩ : ∃ x, rdA (some 7) s p1 a1 f1 = x := ⟨_, rfl⟩
  obtain ⟨f2, hf2⟩ : ∃ x, rdF (some 7) s p1 f1 = x := ⟨_, rfl⟩
  rw [hy, hp2, ha2, hf2] at E2
  rw [hy] at v2
  rw [hy, hp2, ha2, hf2]
  clear hx hp1 ha1 hf1 hy hp2 ha2 hf2 h
  have hF2 : (f2 = 0 ∧ (f2 != 0) = false) ∨ (¬ f2 = 0 ∧ (f2 != 0) = true) := by
    by_cases h : f2 = 0
    · exact .inl ⟨h, by simp [h]⟩
    · exact .inr ⟨h, by simpa using h⟩
  rcases hF2 with ⟨rfl, hd⟩ | ⟨hF, hd⟩
  · rw [if_pos rfl, if_pos rfl]
    go_enter Tryd.func67, Tryd.ntmps67
    go_wp2_with fail
    refine (E1.out _ HR.out).mono ?_; rintro e w1 ⟨rfl, hr1, g1⟩
    have hz : w.heap.size < w1.heap.size := Blk.lt (HB.out.grown g1 (by intro e; injection e with e; exact hne e))
    have hq1 : q < w1.heap.size := hr1.lt
    have HR1 := Lib.hid (fun x y => (hr1.keep (Joins.below_alloc1 w1 (.cells #[.int .u32 x, .int .i64 y] 59))))
    have HG1 := Lib.hid (only_then (only_of (Joins.below_alloc1 w _) _) g1)
    have HB1 := Lib.hid (HB.out.grown g1 (by intro e; injection e with e; exact hne e))
    have HC1 := Lib.hid (fun x y => Blk.new w1 59 #[.int .u32 x, .int .i64 y])
    clear hr1 g1
    go_wp2_with fail
    refine (E2.out _ (HR1.out _ _)).mono ?_; rintro e w2 ⟨rfl, hr2, g2⟩
    have hn1 : ¬ w1.heap.size = q := by omega
    have HR2 := Lib.hid hr2
    have HG2 := Lib.hid (only_then (only_below HG1.out (Joins.below_alloc1 w1 _)) g2)
    have HB2 := Lib.hid ((HB1.out.alloc _).grown g2 (by intro e; injection e with e; exact hne e))
    have HC2 := Lib.hid ((HC1.out _ _).grown g2 (by intro e; injection e with e; exact hn1 e))
    obtain ⟨k0, k1, k2, k3, _⟩ := rr_cells hr2
    have b0 := HB2.out.cell 0
    have b1 := HB2.out.cell 1
    have g0 := HB2.out.frozen 0
    have g1 := HB2.out.frozen 1
    have c0 := HC2.out.cell 0
    have c1 := HC2.out.cell 1
    have i0 := HC2.out.frozen 0
    have i1 := HC2.out.frozen 1
    simp at b0 b1 c0 c1
    have hn3 : ¬ w.heap.size = w1.heap.size := by omega
    clear hr2 g2
    go_wp2
    exact bodyPost_ret (v := .agg #[.int .u32 (x : Int), .int .i64 (y : Int)]) (by simp [results, Tryd.results67, go_sem, b0, b1]) rfl
      ⟨rfl, ((HR2.out.far (Ne.symm hn1) _).far (Ne.symm hne) _).far (Ne.symm hne) _, only_new (only_new (only_new HG2.out (by omega) _) (Nat.le_refl _) _) (Nat.le_refl _) _⟩
  · rw [if_neg hF, if_neg hF]
    clear hF
    go_enter Tryd.func67, Tryd.ntmps67
    go_wp2_with fail
    refine (E1.out _ HR.out).mono ?_; rintro e w1 ⟨rfl, hr1, g1⟩
    have hz : w.heap.size < w1.heap.size := Blk.lt (HB.out.grown g1 (by intro e; injection e with e; exact hne e))
    have hq1 : q < w1.heap.size := hr1.lt
    have HR1 := Lib.hid (fun x y => (hr1.keep (Joins.below_alloc1 w1 (.cells #[.int .u32 x, .int .i64 y] 59))))
    have HG1 := Lib.hid (only_then (only_of (Joins.below_alloc1 w _) _) g1)
    have HB1 := Lib.hid (HB.out.grown g1 (by intro e; injection e with e; exact hne e))
    have HC1 := Lib.hid (fun x y => Blk.new w1 59 #[.int .u32 x, .int .i64 y])
    clear hr1 g1
    go_wp2_with fail
    refine (E2.out _ (HR1.out _ _)).mono ?_; rintro e w2 ⟨rfl, hr2, g2⟩
    have hn1 : ¬ w1.heap.size = q := by omega
    have HR2 := Lib.hid hr2
    have HG2 := Lib.hid (only_then (only_below HG1.out (Joins.below_alloc1 w1 _)) g2)
    have HB2 := Lib.hid ((HB1.out.alloc _).grown g2 (by intro e; injection e with e; exact hne e))
    have HC2 := Lib.hid ((HC1.out _ _).grown g2 (by intro e; injection e with e; exact hn1 e))
    obtain ⟨k0, k1, k2, k3, _⟩ := rr_cells hr2
    have b0 := HB2.out.cell 0
    have b1 := HB2.out.cell 1
    have g0 := HB2.out.frozen 0
    have g1 := HB2.out.frozen 1
    have c0 := HC2.out.cell 0
    have c1 := HC2.out.cell 1
    have i0 := HC2.out.frozen 0
    have i1 := HC2.out.frozen 1
    simp at b0 b1 c0 c1
    have hn3 : ¬ w.heap.size = w1.heap.size := by omega
    clear hr2 g2
    go_wp2
    exact bodyPost_ret (v := .agg #[.int .u32 0, .int .i64 0]) (by simp [results, Tryd.results67, go_sem, b0, b1]) rfl
      ⟨rfl, ((HR2.out.far (Ne.symm hn1) _).far (Ne.symm hne) _).far (Ne.symm hne) _, only_new (only_new (only_new HG2.out (by omega) _) (Nat.le_refl _) _) (Nat.le_refl _) _⟩
end Go.Proofs.YtofpefbnkmeokaaDoor
