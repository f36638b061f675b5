/- Contracts of package lww's and of the reference's Apply, Write and Read. -/
import Derived.Test.YtofpefbnkmeokaaDoorLwwAp
import Derived.Test.YtofpefbnkmeokaaDoorLampRW
import Derived.Test.YtofpefbnkmeokaaDoorSeen
import Derived.Test.YtofpefbnkmeokaaDoorR2
import Derived.Deep.QuietTactic
import Derived.BigQuiet
import Derived.Lib.QuietBelow
namespace Go.Proofs.YtofpefbnkmeokaaDoor
open Go.RowKit
set_option linter.unusedVariables false
attribute [local go_sem ↓] Go.wp_at_zero Go.wp_at_succ
def lwW (v t o : Int) : ByteArray := if stV t o = 0 then numN (zig v).toNat ++ stW t o else ⟨#[]⟩
theorem lwW_yes {v t o : Int} (h : stV t o = 0) : lwW v t o = numN (zig v).toNat ++ stW t o := if_pos h
theorem lwW_no {v t o : Int} (h : ¬ stV t o = 0) : lwW v t o = ⟨#[]⟩ := if_neg h
theorem zig_small {v : Int} (h0 : -9223372036854775808 ≤ v) (h1 : v ≤ 9223372036854775807) : (numN (zig v).toNat).size ≤ 9 := by
  have := zig_bd h0 h1
  rw [numN_size]; have := nN_max (v := (zig v).toNat) (by show (zig v).toNat < 18446744073709551616; omega); omega
theorem lwW_size {v : Int} (t o : Int) (h0 : -9223372036854775808 ≤ v) (h1 : v ≤ 9223372036854775807) : (lwW v t o).size ≤ 27 := by
  by_cases h : stV t o = 0
  · rw [lwW_yes h, ByteArray.size_append]
    have := zig_small h0 h1
    have := stW_size t o
    omega
  · rw [lwW_no h]; decide
set_option maxRecDepth 100000 in
set_option maxHeartbeats 1600000 in
theorem lwwrite (v t o : Int) (w : World) (h0 : -9223372036854775808 ≤ v) (h1 : v ≤ 9223372036854775807) (ht : 0 ≤ t) :
    Calls Tryd.prog 26 #[.agg #[.int .i64 v, .int .u32 t, .int .i64 o]] w fun e w' => e = .returned (.string (lwW v t o)) ∧ Below w.heap.size w w' := by
  by_cases h : stV t o = 0
  · have HW := Lib.hid (lwW_yes (v := v) h)
    have C : ∀ W : World, Calls Tryd.prog 54 #[.agg #[.int .u32 t, .int .i64 o]] W fun e w' => e = .returned (.int .i64 0) ∧ Below W.heap.size W w' := fun W => (stcheck t o W).mono (by rintro e w' ⟨rfl, h'⟩; exact ⟨retI h, h'⟩)
    have D := Lib.hid C
    have D1 := Lib.hid (fun W => osigned v W h0 h1)
    have D2 := Lib.hid (fun W => stwrite t o W ht)
    have z1 := zig_small h0 h1
    have z2 := stW_size t o
    obtain ⟨x, hx⟩ : ∃ x, numN (zig v).toNat = x := ⟨_, rfl⟩
    obtain ⟨y, hy⟩ : ∃ y, stW t o = y := ⟨_, rfl⟩
    rw [hx] at D1 z1 HW
    rw [hy] at D2 z2 HW
    clear C hx hy h
    go_enter Tryd.func26, Tryd.ntmps26
    go_wp2_with fail
    refine (D.out _).mono ?_; rintro e w1 ⟨rfl, hb⟩
    have c0 : w1.cell? ⟨w.heap.size, 0, none⟩ = some (.int .i64 v) := by rw [hb.cell (by simp)]; simp
    have c1 : w1.cell? ⟨w.heap.size, 1, none⟩ = some (.int .u32 t) := by rw [hb.cell (by simp)]; simp
    have c2 : w1.cell? ⟨w.heap.size, 2, none⟩ = some (.int .i64 o) := by rw [hb.cell (by simp)]; simp
    have HB := Lib.hid ((Joins.below_alloc1 w (.cells #[.int .i64 v, .int .u32 t, .int .i64 o] 62)).trans (hb.mono (by simp)))
    have k0 := cell_regrown c0
    have k1 := cell_regrown c1
    have k2 := cell_regrown c2
    clear hb
    go_wp2
    refine wp_region_quiet_below (by kernel_rfl) (by kernel_rfl) ?_
    repeat (first | go_big_quiet_step ((first | with_reducible exact Calls.regrown_of (D1.out _) | with_reducible exact Calls.regrown_of (D2.out _))) | quiet_step ((first | with_reducible exact Calls.regrown_of (D1.out _) | with_reducible exact Calls.regrown_of (D2.out _))))
    refine wpQuiet_nil ?_
    intro _ hw'
    obtain ⟨⟨dq, osq⟩, hw''⟩ := hw'
    subst hw''
    go_wp2
    go_ret
    exact ⟨ret_s HW.out.symm, HB.out.trans ((below_regrown w1 dq osq).mono HB.out.size)⟩
  · have HW := Lib.hid (lwW_no (v := v) h)
    have C : ∀ W : World, Calls Tryd.prog 54 #[.agg #[.int .u32 t, .int .i64 o]] W fun e w' => e = .returned (.int .i64 2) ∧ Below W.heap.size W w' := fun W => (stcheck t o W).mono (by rintro e w' ⟨rfl, h'⟩; exact ⟨retI (by rcases stV_01 t o with h2 | h2; exact absurd h2 h; exact h2), h'⟩)
    have D := Lib.hid C
    clear C h
    go_enter Tryd.func26, Tryd.ntmps26
    go_wp2_with fail
    refine (D.out _).mono ?_; rintro e w1 ⟨rfl, hb⟩
    go_wp2
    go_ret
    exact ⟨ret_s HW.out.symm, (Joins.below_alloc1 w _).trans (hb.mono (by simp))⟩
set_option maxRecDepth 100000 in
set_option maxHeartbeats 1600000 in
theorem rlwwrite (v t o : Int) (w : World) (h0 : -9223372036854775808 ≤ v) (h1 : v ≤ 9223372036854775807) (ht : 0 ≤ t) :
    Calls Tryd.prog 27 #[.agg #[.int .i64 v, .int .u32 t, .int .i64 o]] w fun e w' => e = .returned (.string (lwW v t o)) ∧ Below w.heap.size w w' := by
  by_cases h : stV t o = 0
  · have HW := Lib.hid (lwW_yes (v := v) h)
    have C : ∀ W : World, Calls Tryd.prog 55 #[.agg #[.int .u32 t, .int .i64 o]] W fun e w' => e = .returned (.int .i64 0) ∧ Below W.heap.size W w' := fun W => (rstcheck t o W).mono (by rintro e w' ⟨rfl, h'⟩; exact ⟨retI h, h'⟩)
    have D := Lib.hid C
    have D1 := Lib.hid (fun W => rsigned v W h0 h1)
    have D2 := Lib.hid (fun W => rstwrite t o W ht)
    have z1 := zig_small h0 h1
    have z2 := stW_size t o
    obtain ⟨x, hx⟩ : ∃ x, numN (zig v).toNat = x := ⟨_, rfl⟩
    obtain ⟨y, hy⟩ : ∃ y, stW t o = y := ⟨_, rfl⟩
    rw [hx] at D1 z1 HW
    rw [hy] at D2 z2 HW
    clear C hx hy h
    go_enter Tryd.func27, Tryd.ntmps27
    go_wp2_with fail
    refine (D.out _).mono ?_; rintro e w1 ⟨rfl, hb⟩
    have c0 : w1.cell? ⟨w.heap.size, 0, none⟩ = some (.int .i64 v) := by rw [hb.cell (by simp)]; simp
    have c1 : w1.cell? ⟨w.heap.size, 1, none⟩ = some (.int .u32 t) := by rw [hb.cell (by simp)]; simp
    have c2 : w1.cell? ⟨w.heap.size, 2, none⟩ = some (.int .i64 o) := by rw [hb.cell (by simp)]; simp
    have HB := Lib.hid ((Joins.below_alloc1 w (.cells #[.int .i64 v, .int .u32 t, .int .i64 o] 61)).trans (hb.mono (by simp)))
    have k0 := cell_regrown c0
    have k1 := cell_regrown c1
    have k2 := cell_regrown c2
    clear hb
    go_wp2
    refine wp_region_quiet_below (by kernel_rfl) (by kernel_rfl) ?_
    repeat (first | go_big_quiet_step ((first | with_reducible exact Calls.regrown_of (D1.out _) | with_reducible exact Calls.regrown_of (D2.out _))) | quiet_step ((first | with_reducible exact Calls.regrown_of (D1.out _) | with_reducible exact Calls.regrown_of (D2.out _))))
    refine wpQuiet_nil ?_
    intro _ hw'
    obtain ⟨⟨dq, osq⟩, hw''⟩ := hw'
    subst hw''
    go_wp2
    go_ret
    exact ⟨ret_s HW.out.symm, HB.out.trans ((below_regrown w1 dq osq).mono HB.out.size)⟩
  · have HW := Lib.hid (lwW_no (v := v) h)
    have C : ∀ W : World, Calls Tryd.prog 55 #[.agg #[.int .u32 t, .int .i64 o]] W fun e w' => e = .returned (.int .i64 2) ∧ Below W.heap.size W w' := fun W => (rstcheck t o W).mono (by rintro e w' ⟨rfl, h'⟩; exact ⟨retI (by rcases stV_01 t o with h2 | h2; exact absurd h2 h; exact h2), h'⟩)
    have D := Lib.hid C
    clear C h
    go_enter Tryd.func27, Tryd.ntmps27
    go_wp2_with fail
    refine (D.out _).mono ?_; rintro e w1 ⟨rfl, hb⟩
    go_wp2
    go_ret
    exact ⟨ret_s HW.out.symm, (Joins.below_alloc1 w _).trans (hb.mono (by simp))⟩
/-- What lww's Read leaves. -/
def lwP (s : ByteArray) (p : Nat) (fe : Int) : Nat := r2P 1048576 7 s (rdP none s p fe) (rdF none s p fe)
def lwA (s : ByteArray) (p : Nat) (fa fe : Int) : Int := r2A 1048576 7 s (rdP none s p fe) (rdA none s p fa fe) (rdF none s p fe)
def lwF (s : ByteArray) (p : Nat) (fe : Int) : Int := r2F 1048576 7 s (rdP none s p fe) (rdF none s p fe)
def lwX (s : ByteArray) (p : Nat) (fe : Int) : Int := if lwF s p fe = 0 then unzig (rdV none s p fe) else 0
def lwT (s : ByteArray) (p : Nat) (fe : Int) : Int := if lwF s p fe = 0 then (r2X 1048576 7 s (rdP none s p fe) (rdF none s p fe) : Nat) else 0
def lwO (s : ByteArray) (p : Nat) (fe : Int) : Int := if lwF s p fe = 0 then (r2Y 1048576 7 s (rdP none s p fe) (rdF none s p fe) : Nat) else 0
theorem FA.lw {s : ByteArray} {p : Nat} {fa fe : Int} (h : FA s fa fe) (hp : p ≤ s.size) : FA s (lwA s p fa fe) (lwF s p fe) := (h.rd (lim := none) hp).r2 (rdP_le hp)
set_option maxRecDepth 100000 in
set_option maxHeartbeats 3200000 in
theorem lwread (b : Nat) (s : ByteArray) (p : Nat) (fa fe : Int) (w : World) (hs : s.size ≤ 100000) (h : R w b s p fa fe) :
    Calls Tryd.prog 29 #[.pointer (some ⟨b, 0, none⟩)] w fun e w' => e = .returned (.agg #[.int .i64 (lwX s p fe), .int .u32 (lwT s p fe), .int .i64 (lwO s p fe)]) ∧ R w' b s (lwP s p fe) (lwA s p fa fe) (lwF s p fe) ∧ w.grownBy w' (some b) := by
  have hl := h.lt
  have hne : ¬ w.heap.size = b := by omega
  have HR := Lib.hid (h.keep (Joins.below_alloc1 w (.cells #[.int .i64 0, .int .u32 0, .int .i64 0] 62)))
  have HB := Lib.hid (Blk.new w 62 #[.int .i64 0, .int .u32 0, .int .i64 0])
  have E1 := Lib.hid (fun W h => osignr b s p fa fe W hs h)
  have E2 := Lib.hid (fun W h => stread b s (rdP none s p fe) (rdA none s p fa fe) (rdF none s p fe) W hs h)
  unfold lwX lwT lwO lwP lwA lwF
  obtain ⟨v, hv⟩ : ∃ x, unzig (rdV none s p fe) = x := ⟨_, rfl⟩
  obtain ⟨p1, hp1⟩ : ∃ x, rdP none s p fe = x := ⟨_, rfl⟩
  obtain ⟨a1, ha1⟩ : ∃ x, rdA none s p fa fe = x := ⟨_, rfl⟩
  obtain ⟨f1, hf1⟩ : ∃ x, rdF none s p fe = x := ⟨_, rfl⟩
  rw [hv, hp1, ha1, hf1] at E1
  rw [hp1, ha1, hf1] at E2
  rw [hv, hp1, ha1, hf1]
  obtain ⟨x, hx⟩ : ∃ x, r2X 1048576 7 s p1 f1 = x := ⟨_, rfl⟩
  obtain ⟨y, hy⟩ : ∃ x, r2Y 1048576 7 s p1 f1 = x := ⟨_, rfl⟩
  obtain ⟨p2, hp2⟩ : ∃ x, r2P 1048576 7 s p1 f1 = x := ⟨_, rfl⟩
  obtain ⟨a2, ha2⟩ : ∃ x, r2A 1048576 7 s p1 a1 f1 = x := ⟨_, rfl⟩
  obtain ⟨f2, hf2⟩ : ∃ x, r2F 1048576 7 s p1 f1 = x := ⟨_, rfl⟩
  rw [hx, hy, hp2, ha2, hf2] at E2
  rw [hx, hy, hp2, ha2, hf2]
  clear hv hp1 ha1 hf1 hx hy hp2 ha2 hf2 h
  have hF2 : (f2 = 0 ∧ (f2 != 0) = false) ∨ (¬ f2 = 0 ∧ (f2 != 0) = true) := by
    by_cases h : f2 = 0
    · exact .inl ⟨h, by simp [h]⟩
    · exact .inr ⟨h, by simpa using h⟩
  rcases hF2 with ⟨rfl, hd⟩ | ⟨hF, hd⟩
  · simp only [if_true]
    go_enter Tryd.func29, Tryd.ntmps29
    go_wp2_with fail
    refine (E1.out _ HR.out).mono ?_; rintro e w1 ⟨rfl, hr1, g1⟩
    have HR1 := Lib.hid hr1
    have HG1 := Lib.hid (only_then (only_of (Joins.below_alloc1 w _) _) g1)
    have HB1 := Lib.hid (HB.out.grown g1 (by intro e; injection e with e; exact hne e))
    clear hr1 g1
    go_wp2_with fail
    refine (E2.out _ HR1.out).mono ?_; rintro e w2 ⟨rfl, hr2, g2⟩
    have hzb : ¬ w2.heap.size = b := by have := hr2.lt; omega
    have HR5 := Lib.hid (hr2.keep (Joins.below_alloc1 w2 (.cells #[.int .u32 (x : Int), .int .i64 (y : Int)] 59)))
    have HG5 := Lib.hid (only_below (only_then HG1.out g2) (Joins.below_alloc1 w2 (.cells #[.int .u32 (x : Int), .int .i64 (y : Int)] 59)))
    have HB5 := Lib.hid ((HB1.out.grown g2 (by intro e; injection e with e; exact hne e)).alloc (.cells #[.int .u32 (x : Int), .int .i64 (y : Int)] 59))
    have HC5 := Lib.hid (Blk.new w2 59 #[.int .u32 (x : Int), .int .i64 (y : Int)])
    clear hr2 g2
    go_wp2_with fail
    obtain ⟨ev, hev, hec⟩ := oerr _ _ _ _ _ _ HR5.out
    obtain ⟨-, rfl⟩ := ev_nil hev
    refine hec.mono ?_; rintro e w3 ⟨rfl, rfl⟩
    have b0 := HB5.out.cell 0
    have b1 := HB5.out.cell 1
    have b2 := HB5.out.cell 2
    have g0 := HB5.out.frozen 0
    have g1 := HB5.out.frozen 1
    have g2 := HB5.out.frozen 2
    have d0 := HC5.out.cell 0
    have d1 := HC5.out.cell 1
    simp at b0 b1 b2 d0 d1
    clear hec hev
    go_wp2
    exact bodyPost_ret (v := .agg #[.int .i64 v, .int .u32 (x : Int), .int .i64 (y : Int)]) (by simp [results, Tryd.results29, go_sem, b0, b1, b2]) rfl
      ⟨rfl, r_far (r_far (r_far HR5.out HB5.out (by decide) (by decide) _) (HB5.out.set_ 0 _) (by decide) (by decide) _) ((HB5.out.set_ 0 _).set_ 1 _) (by decide) (by decide) _, only_new (only_new (only_new HG5.out (Nat.le_refl _) _) (Nat.le_refl _) _) (Nat.le_refl _) _⟩
  · simp only [hF, if_false]
    have HF := Lib.hid hF
    clear hF
    go_enter Tryd.func29, Tryd.ntmps29
    go_wp2_with fail
    refine (E1.out _ HR.out).mono ?_; rintro e w1 ⟨rfl, hr1, g1⟩
    have HR1 := Lib.hid hr1
    have HG1 := Lib.hid (only_then (only_of (Joins.below_alloc1 w _) _) g1)
    have HB1 := Lib.hid (HB.out.grown g1 (by intro e; injection e with e; exact hne e))
    clear hr1 g1
    go_wp2_with fail
    refine (E2.out _ HR1.out).mono ?_; rintro e w2 ⟨rfl, hr2, g2⟩
    have hzb : ¬ w2.heap.size = b := by have := hr2.lt; omega
    have HR5 := Lib.hid (hr2.keep (Joins.below_alloc1 w2 (.cells #[.int .u32 (x : Int), .int .i64 (y : Int)] 59)))
    have HG5 := Lib.hid (only_below (only_then HG1.out g2) (Joins.below_alloc1 w2 (.cells #[.int .u32 (x : Int), .int .i64 (y : Int)] 59)))
    have HB5 := Lib.hid ((HB1.out.grown g2 (by intro e; injection e with e; exact hne e)).alloc (.cells #[.int .u32 (x : Int), .int .i64 (y : Int)] 59))
    have HC5 := Lib.hid (Blk.new w2 59 #[.int .u32 (x : Int), .int .i64 (y : Int)])
    clear hr2 g2
    go_wp2_with fail
    obtain ⟨ev, hev, hec⟩ := oerr _ _ _ _ _ _ HR5.out
    obtain ⟨fb, rfl⟩ := ev_some hev HF.out
    refine hec.mono ?_; rintro e w3 ⟨rfl, rfl⟩
    have b0 := HB5.out.cell 0
    have b1 := HB5.out.cell 1
    have b2 := HB5.out.cell 2
    have g0 := HB5.out.frozen 0
    have g1 := HB5.out.frozen 1
    have g2 := HB5.out.frozen 2
    have d0 := HC5.out.cell 0
    have d1 := HC5.out.cell 1
    simp at b0 b1 b2 d0 d1
    clear hec hev
    go_wp2
    exact bodyPost_ret (v := .agg #[.int .i64 0, .int .u32 0, .int .i64 0]) (by simp [results, Tryd.results29, go_sem, b0, b1, b2]) rfl
      ⟨rfl, r_far (r_far (r_far HR5.out HB5.out (by decide) (by decide) _) (HB5.out.set_ 0 _) (by decide) (by decide) _) ((HB5.out.set_ 0 _).set_ 1 _) (by decide) (by decide) _, only_new (only_new (only_new HG5.out (Nat.le_refl _) _) (Nat.le_refl _) _) (Nat.le_refl _) _⟩
set_option maxRecDepth 100000 in
set_option maxHeartbeats 3200000 in
theorem rlwread (q : Nat) (s : ByteArray) (p : Nat) (fa fe : Int) (w : World) (hs : s.size ≤ 100000) (h : RR w q s p fa fe) :
    Calls Tryd.prog 30 #[.pointer (some ⟨q, 0, none⟩)] w fun e w' => e = .returned (.agg #[.int .i64 (lwX s p fe), .int .u32 (lwT s p fe), .int .i64 (lwO s p fe)]) ∧ RR w' q s (lwP s p fe) (lwA s p fa fe) (lwF s p fe) ∧ w.grownBy w' (some q) := by
  have hl := h.lt
  have hne : ¬ w.heap.size = q := by omega
  have HR := Lib.hid (h.keep (Joins.below_alloc1 w (.cells #[.int .i64 0, .int .u32 0, .int .i64 0] 61)))
  have HB := Lib.hid (Blk.new w 61 #[.int .i64 0, .int .u32 0, .int .i64 0])
  have E1 := Lib.hid (fun W h => rsignr q s p fa fe W hs h)
  have E2 := Lib.hid (fun W h => rstread q s (rdP none s p fe) (rdA none s p fa fe) (rdF none s p fe) W hs h)
  unfold lwX lwT lwO lwP lwA lwF
  obtain ⟨v, hv⟩ : ∃ x, unzig (rdV none s p fe) = x := ⟨_, rfl⟩
  obtain ⟨p1, hp1⟩ : ∃ x, rdP none s p fe = x := ⟨_, rfl⟩
  obtain ⟨a1, ha1⟩ : ∃ x, rdA none s p fa fe = x := ⟨_, rfl⟩
  obtain ⟨f1, hf1⟩ : ∃ x, rdF none s p fe = x := ⟨_, rfl⟩
  rw [hv, hp1, ha1, hf1] at E1
  rw [hp1, ha1, hf1] at E2
  rw [hv, hp1, ha1, hf1]
  obtain ⟨x, hx⟩ : ∃ x, r2X 1048576 7 s p1 f1 = x := ⟨_, rfl⟩
  obtain ⟨y, hy⟩ : ∃ x, r2Y 1048576 7 s p1 f1 = x := ⟨_, rfl⟩
  obtain ⟨p2, hp2⟩ : ∃ x, r2P 1048576 7 s p1 f1 = x := ⟨_, rfl⟩
  obtain ⟨a2, ha2⟩ : ∃ x, r2A 1048576 7 s p1 a1 f1 = x := ⟨_, rfl⟩
  obtain ⟨f2, hf2⟩ : ∃ x, r2F 1048576 7 s p1 f1 = x := ⟨_, rfl⟩
  rw [hx, hy, hp2, ha2, hf2] at E2
  rw [hx, hy, hp2, ha2, hf2]
  clear hv hp1 ha1 hf1 hx hy hp2 ha2 hf2 h
  have hF2 : (f2 = 0 ∧ (f2 != 0) = false) ∨ (¬ f2 = 0 ∧ (f2 != 0) = true) := by
    by_cases h : f2 = 0
    · exact .inl ⟨h, by simp [h]⟩
    · exact .inr ⟨h, by simpa using h⟩
  rcases hF2 with ⟨rfl, hd⟩ | ⟨hF, hd⟩
  · simp only [if_true]
    go_enter Tryd.func30, Tryd.ntmps30
    go_wp2_with fail
    refine (E1.out _ HR.out).mono ?_; rintro e w1 ⟨rfl, hr1, g1⟩
    have hz : w.heap.size < w1.heap.size := Blk.lt (HB.out.grown g1 (by intro e; injection e with e; exact hne e))
    have hq1 : q < w1.heap.size := hr1.lt
    have HR1 := Lib.hid (hr1.keep (Joins.below_alloc1 w1 (.cells #[.int .i64 v, .int .u32 0, .int .i64 0] 61)))
    have HG1 := Lib.hid (only_then (only_of (Joins.below_alloc1 w _) _) g1)
    have HB1 := Lib.hid ((HB.out.grown g1 (by intro e; injection e with e; exact hne e)).alloc (.cells #[.int .i64 v, .int .u32 0, .int .i64 0] 61))
    have HC1 := Lib.hid (Blk.new w1 61 #[.int .i64 v, .int .u32 0, .int .i64 0])
    clear hr1 g1
    go_wp2_with fail
    refine (E2.out _ HR1.out).mono ?_; rintro e w2 ⟨rfl, hr2, g2⟩
    have hzb : ¬ w1.heap.size = q := by omega
    have hn3 : ¬ w.heap.size = w1.heap.size := by omega
    have HC0 := Lib.hid (HC1.out.grown g2 (by intro e; injection e with e; exact hzb e))
    have HB0 := Lib.hid (HB1.out.grown g2 (by intro e; injection e with e; exact hne e))
    have HR5 := Lib.hid ((hr2.far (b := w1.heap.size) (o := 1) (Ne.symm hzb) (.int .u32 (x : Int))).far (b := w1.heap.size) (o := 2) (Ne.symm hzb) (.int .i64 (y : Int)))
    have HG5 := Lib.hid (only_new (only_new (only_then (only_below HG1.out (Joins.below_alloc1 w1 _)) g2) (b := w1.heap.size) (o := 1) (by omega) (.int .u32 (x : Int))) (b := w1.heap.size) (o := 2) (by omega) (.int .i64 (y : Int)))
    obtain ⟨k0, k1, k2, k3, _⟩ := rr_cells hr2
    have c0 := HC0.out.cell 0
    have c1 := HC0.out.cell 1
    have c2 := HC0.out.cell 2
    have i0 := HC0.out.frozen 0
    have i1 := HC0.out.frozen 1
    have i2 := HC0.out.frozen 2
    have b0 := HB0.out.cell 0
    have b1 := HB0.out.cell 1
    have b2 := HB0.out.cell 2
    have g0 := HB0.out.frozen 0
    have g1 := HB0.out.frozen 1
    have g9 := HB0.out.frozen 2
    simp at c0 c1 c2 b0 b1 b2
    clear hr2 g2
    go_wp2
    exact bodyPost_ret (v := .agg #[.int .i64 v, .int .u32 (x : Int), .int .i64 (y : Int)]) (by simp [results, Tryd.results30, go_sem, b0, b1, b2]) rfl
      ⟨rfl, ((HR5.out.far (Ne.symm hne) _).far (Ne.symm hne) _).far (Ne.symm hne) _, only_new (only_new (only_new HG5.out (Nat.le_refl _) _) (Nat.le_refl _) _) (Nat.le_refl _) _⟩
  · simp only [hF, if_false]
    have HF := Lib.hid hF
    clear hF
    go_enter Tryd.func30, Tryd.ntmps30
    go_wp2_with fail
    refine (E1.out _ HR.out).mono ?_; rintro e w1 ⟨rfl, hr1, g1⟩
    have hz : w.heap.size < w1.heap.size := Blk.lt (HB.out.grown g1 (by intro e; injection e with e; exact hne e))
    have hq1 : q < w1.heap.size := hr1.lt
    have HR1 := Lib.hid (hr1.keep (Joins.below_alloc1 w1 (.cells #[.int .i64 v, .int .u32 0, .int .i64 0] 61)))
    have HG1 := Lib.hid (only_then (only_of (Joins.below_alloc1 w _) _) g1)
    have HB1 := Lib.hid ((HB.out.grown g1 (by intro e; injection e with e; exact hne e)).alloc (.cells #[.int .i64 v, .int .u32 0, .int .i64 0] 61))
    have HC1 := Lib.hid (Blk.new w1 61 #[.int .i64 v, .int .u32 0, .int .i64 0])
    clear hr1 g1
    go_wp2_with fail
    refine (E2.out _ HR1.out).mono ?_; rintro e w2 ⟨rfl, hr2, g2⟩
    have hzb : ¬ w1.heap.size = q := by omega
    have hn3 : ¬ w.heap.size = w1.heap.size := by omega
    have HC0 := Lib.hid (HC1.out.grown g2 (by intro e; injection e with e; exact hzb e))
    have HB0 := Lib.hid (HB1.out.grown g2 (by intro e; injection e with e; exact hne e))
    have HR5 := Lib.hid ((hr2.far (b := w1.heap.size) (o := 1) (Ne.symm hzb) (.int .u32 (x : Int))).far (b := w1.heap.size) (o := 2) (Ne.symm hzb) (.int .i64 (y : Int)))
    have HG5 := Lib.hid (only_new (only_new (only_then (only_below HG1.out (Joins.below_alloc1 w1 _)) g2) (b := w1.heap.size) (o := 1) (by omega) (.int .u32 (x : Int))) (b := w1.heap.size) (o := 2) (by omega) (.int .i64 (y : Int)))
    obtain ⟨k0, k1, k2, k3, _⟩ := rr_cells hr2
    have c0 := HC0.out.cell 0
    have c1 := HC0.out.cell 1
    have c2 := HC0.out.cell 2
    have i0 := HC0.out.frozen 0
    have i1 := HC0.out.frozen 1
    have i2 := HC0.out.frozen 2
    have b0 := HB0.out.cell 0
    have b1 := HB0.out.cell 1
    have b2 := HB0.out.cell 2
    have g0 := HB0.out.frozen 0
    have g1 := HB0.out.frozen 1
    have g9 := HB0.out.frozen 2
    simp at c0 c1 c2 b0 b1 b2
    clear hr2 g2
    go_wp2
    exact bodyPost_ret (v := .agg #[.int .i64 0, .int .u32 0, .int .i64 0]) (by simp [results, Tryd.results30, go_sem, b0, b1, b2]) rfl
      ⟨rfl, ((HR5.out.far (Ne.symm hne) _).far (Ne.symm hne) _).far (Ne.symm hne) _, only_new (only_new (only_new HG5.out (Nat.le_refl _) _) (Nat.le_refl _) _) (Nat.le_refl _) _⟩
end Go.Proofs.YtofpefbnkmeokaaDoor
