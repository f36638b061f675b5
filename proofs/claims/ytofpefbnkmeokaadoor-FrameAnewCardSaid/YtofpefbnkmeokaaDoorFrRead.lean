/- Contracts of frame.Read and of the reference's. -/
import Derived.Test.YtofpefbnkmeokaaDoorFrSpec
namespace Go.Proofs.YtofpefbnkmeokaaDoor
open Go.RowKit
set_option linter.unusedVariables false
def frRE (s : ByteArray) : Int := if ¬ nxE s = 0 then nxE s else if nxN s < s.size then 6 else 0
def frRA (s : ByteArray) : Int := if ¬ nxE s = 0 then nxA s else if nxN s < s.size then (nxN s : Int) else 0
def frRK (s : ByteArray) : Nat := if frRE s = 0 then nxK s else 0
def frRL (s : ByteArray) : ByteArray := if frRE s = 0 then nxL s else ⟨#[]⟩
def FrAll (s : ByteArray) (e a : Int) (k : Nat) (x : ByteArray) : Prop := frRE s = e ∧ frRA s = a ∧ frRK s = k ∧ frRL s = x
theorem fr_bad {s : ByteArray} (h : ¬ nxE s = 0) : FrAll s (nxE s) (nxA s) 0 ⟨#[]⟩ := by
  have e : frRE s = nxE s := if_pos h
  exact ⟨e, if_pos h, if_neg (by rw [e]; exact h), if_neg (by rw [e]; exact h)⟩
theorem fr_more {s : ByteArray} (h : nxE s = 0) (h2 : nxN s < s.size) : FrAll s 6 (nxN s) 0 ⟨#[]⟩ := by
  have e : frRE s = 6 := by unfold frRE; rw [if_neg (by omega), if_pos h2]
  exact ⟨e, by unfold frRA; rw [if_neg (by omega), if_pos h2], if_neg (by omega), if_neg (by omega)⟩
theorem fr_all {s : ByteArray} (h : nxE s = 0) (h2 : ¬ nxN s < s.size) : FrAll s 0 0 (nxK s) (nxL s) := by
  have e : frRE s = 0 := by unfold frRE; rw [if_neg (by omega), if_neg h2]
  exact ⟨e, by unfold frRA; rw [if_neg (by omega), if_neg h2], if_pos e, if_pos e⟩
def FrP (s : ByteArray) (w : World) (e : Ending) (w' : World) : Prop :=
  ∃ ev, e = .returned (.tuple #[.agg #[.int .i64 (frRK s : Int), .string (frRL s)], ev]) ∧ EV w' ev (frRA s) (frRE s) ∧ Below w.heap.size w w'
theorem frp {s : ByteArray} {w w' : World} {E A : Int} {k : Nat} {x : ByteArray} (h : FrAll s E A k x) {K : Int} {ev : Value} (hk : (k : Int) = K) (hev : EV w' ev A E) (hb : Below w.heap.size w w') :
    FrP s w (.returned (.tuple #[.agg #[.int .i64 K, .string x], ev])) w' := by
  obtain ⟨h1, h2, h3, h4⟩ := h
  exact ⟨ev, by rw [h3, h4, hk], by rw [h1, h2]; exact hev, hb⟩
def RFrP (s : ByteArray) (w : World) (e : Ending) (w' : World) : Prop :=
  e = .returned (.tuple #[.agg #[.int .i64 (frRK s : Int), .string (frRL s)], .agg #[.int .i64 (frRA s), .int .i64 (frRE s)]]) ∧ Below w.heap.size w w'
theorem rfrp {s : ByteArray} {w w' : World} {E A : Int} {k : Nat} {x : ByteArray} (h : FrAll s E A k x) {K A' : Int} (hk : (k : Int) = K) (ha : A = A') (hb : Below w.heap.size w w') :
    RFrP s w (.returned (.tuple #[.agg #[.int .i64 K, .string x], .agg #[.int .i64 A', .int .i64 E]])) w' := by
  obtain ⟨h1, h2, h3, h4⟩ := h
  exact ⟨by rw [h1, h2, h3, h4, hk, ha], hb⟩
theorem fr_bounds (s : ByteArray) : 0 ≤ frRA s ∧ frRA s ≤ s.size := by
  obtain ⟨h1, h2, h3, h4, h5⟩ := nx_bounds s
  unfold frRA
  split
  · exact ⟨h2, h3⟩
  · split <;> omega
set_option maxRecDepth 100000 in
set_option maxHeartbeats 3200000 in
theorem fread_bad (s : ByteArray) (w : World) (hs : s.size ≤ 100000) (hE : ¬ nxE s = 0) :
    Calls Tryd.prog 16 #[.string s] w (FrP s w) := by
  have HT := Lib.hid (fr_bad hE)
  have D := Lib.hid (fun W => fnext s W hs)
  have hbd := (nx_bounds s).1
  obtain ⟨K, hK⟩ : ∃ k, nxK s = k := ⟨_, rfl⟩
  obtain ⟨N, hN2⟩ : ∃ k, nxN s = k := ⟨_, rfl⟩
  obtain ⟨L, hL⟩ : ∃ k, nxL s = k := ⟨_, rfl⟩
  obtain ⟨A, hA⟩ : ∃ k, nxA s = k := ⟨_, rfl⟩
  obtain ⟨E, hE2⟩ : ∃ k, nxE s = k := ⟨_, rfl⟩
  simp only [hK, hN2, hL, hA, hE2] at HT D hbd hE
  have HE := Lib.hid hE
  clear hE
  clear hK hN2 hL hA hE2
  have HR0 := Lib.hid (Blk.new w 29 #[.int .i64 0, .string ⟨#[]⟩])
  have HB0 := Lib.hid (Joins.below_alloc1 w (.cells #[.int .i64 0, .string ⟨#[]⟩] 29))
  go_enter Tryd.func16, Tryd.ntmps16
  go_wp2_with fail
  refine (D.out _).mono ?_; rintro e w1 ⟨ev, rfl, hev, b1⟩
  obtain ⟨fb, rfl⟩ := ev_some hev HE.out
  have HEV := Lib.hid hev
  have HR1 := Lib.hid (HR0.out.keep b1)
  have HB1 := Lib.hid (HB0.out.trans (b1.mono HB0.out.size))
  have hl1 : w.heap.size < w1.heap.size := HR1.out.lt
  have hne1 : ¬ w1.heap.size = w.heap.size := by omega
  have hne2 : ¬ w.heap.size = w1.heap.size := by omega
  have r0 := HR1.out.cell 0
  have r1 := HR1.out.cell 1
  have f0 := HR1.out.frozen 0
  have f1 := HR1.out.frozen 1
  simp at r0 r1
  have HR2 := Lib.hid (HR1.out.alloc (.cells #[.int .i64 (K : Int), .string L] 29))
  have HB2 := Lib.hid (HB1.out.alloc (by omega) (.cells #[.int .i64 (K : Int), .string L] 29))
  have x0 := HR2.out.cell 0
  have x1 := HR2.out.cell 1
  have i0 := HR2.out.frozen 0
  have i1 := HR2.out.frozen 1
  rw [show (#[Value.int .i64 0, Value.string ⟨#[]⟩] : Array Value)[0]? = some (.int .i64 0) from rfl] at x0
  rw [show (#[Value.int .i64 0, Value.string ⟨#[]⟩] : Array Value)[1]? = some (.string ⟨#[]⟩) from rfl] at x1
  clear hev b1 HR0 HB0
  go_wp2
  have hBF := ((HR1.out.set_ 0 (.int .i64 0)).set_ 1 (.string ⟨#[]⟩)).alloc (.cells #[.int .i64 (K : Int), .string L] 29)
  have z0 : (((w1.setCell ⟨w.heap.size, 0, none⟩ (.int .i64 0)).setCell ⟨w.heap.size, 1, none⟩ (.string ⟨#[]⟩)).alloc (.cells #[.int .i64 (K : Int), .string L] 29)).cell? ⟨w.heap.size, 0, none⟩ = some (.int .i64 0) := hBF.cell 0
  have z1 : (((w1.setCell ⟨w.heap.size, 0, none⟩ (.int .i64 0)).setCell ⟨w.heap.size, 1, none⟩ (.string ⟨#[]⟩)).alloc (.cells #[.int .i64 (K : Int), .string L] 29)).cell? ⟨w.heap.size, 1, none⟩ = some (.string ⟨#[]⟩) := hBF.cell 1
  have HEV2 : Hid (EV (((w1.setCell ⟨w.heap.size, 0, none⟩ (.int .i64 0)).setCell ⟨w.heap.size, 1, none⟩ (.string ⟨#[]⟩)).alloc (.cells #[.int .i64 (K : Int), .string L] 29)) (.iface 40 (.pointer (some ⟨fb, 0, none⟩))) A E) := Lib.hid ((ev_set2 HEV.out HR1.out (by decide) (.int .i64 0) (.string ⟨#[]⟩)).keep (Joins.below_alloc1 _ _))
  exact bodyPost_ret (v := .tuple #[.agg #[.int .i64 0, .string ⟨#[]⟩], .iface 40 (.pointer (some ⟨fb, 0, none⟩))]) (by simp [results, Tryd.results16, go_sem, z0, z1]) rfl (frp HT.out (by omega) HEV2.out (HB1.out.setCell (p := ⟨w.heap.size, 0, none⟩) (Nat.le_refl _) (.int .i64 0) |>.setCell (p := ⟨w.heap.size, 1, none⟩) (Nat.le_refl _) (.string ⟨#[]⟩) |>.alloc (by simp; omega) (.cells #[.int .i64 (K : Int), .string L] 29)))
set_option maxRecDepth 100000 in
set_option maxHeartbeats 3200000 in
theorem fread_more (s : ByteArray) (w : World) (hs : s.size ≤ 100000) (hE : nxE s = 0) (hN : nxN s < s.size) :
    Calls Tryd.prog 16 #[.string s] w (FrP s w) := by
  have HT := Lib.hid (fr_more hE hN)
  have D := Lib.hid (fun W => fnext s W hs)
  have hbd := (nx_bounds s).1
  rw [hE] at D
  obtain ⟨K, hK⟩ : ∃ k, nxK s = k := ⟨_, rfl⟩
  obtain ⟨N, hN2⟩ : ∃ k, nxN s = k := ⟨_, rfl⟩
  obtain ⟨L, hL⟩ : ∃ k, nxL s = k := ⟨_, rfl⟩
  obtain ⟨A, hA⟩ : ∃ k, nxA s = k := ⟨_, rfl⟩
  obtain ⟨E, hE2⟩ : ∃ k, nxE s = k := ⟨_, rfl⟩
  simp only [hK, hN2, hL, hA] at HT D hbd hN
  have d1 : decide ((N : Int) < (s.size : Int)) = true := decide_eq_true (by omega)
  clear hK hN2 hL hA hE2
  have HR0 := Lib.hid (Blk.new w 29 #[.int .i64 0, .string ⟨#[]⟩])
  have HB0 := Lib.hid (Joins.below_alloc1 w (.cells #[.int .i64 0, .string ⟨#[]⟩] 29))
  go_enter Tryd.func16, Tryd.ntmps16
  go_wp2_with fail
  refine (D.out _).mono ?_; rintro e w1 ⟨ev, rfl, hev, b1⟩
  obtain ⟨-, rfl⟩ := ev_nil hev
  have HEV := Lib.hid hev
  have HR1 := Lib.hid (HR0.out.keep b1)
  have HB1 := Lib.hid (HB0.out.trans (b1.mono HB0.out.size))
  have hl1 : w.heap.size < w1.heap.size := HR1.out.lt
  have hne1 : ¬ w1.heap.size = w.heap.size := by omega
  have hne2 : ¬ w.heap.size = w1.heap.size := by omega
  have r0 := HR1.out.cell 0
  have r1 := HR1.out.cell 1
  have f0 := HR1.out.frozen 0
  have f1 := HR1.out.frozen 1
  simp at r0 r1
  have HR2 := Lib.hid (HR1.out.alloc (.cells #[.int .i64 (K : Int), .string L] 29))
  have HB2 := Lib.hid (HB1.out.alloc (by omega) (.cells #[.int .i64 (K : Int), .string L] 29))
  have HR3 := Lib.hid (HR2.out.alloc (.cells #[.int .i64 (N : Int), .iface 35 (.int .i64 6)] 42))
  have x0 := HR3.out.cell 0
  have x1 := HR3.out.cell 1
  have i0 := HR3.out.frozen 0
  have i1 := HR3.out.frozen 1
  rw [show (#[Value.int .i64 0, Value.string ⟨#[]⟩] : Array Value)[0]? = some (.int .i64 0) from rfl] at x0
  rw [show (#[Value.int .i64 0, Value.string ⟨#[]⟩] : Array Value)[1]? = some (.string ⟨#[]⟩) from rfl] at x1
  clear hev b1 HR0 HB0
  go_wp2
  have hBF := (((HR1.out.set_ 0 (.int .i64 0)).set_ 1 (.string ⟨#[]⟩)).alloc (.cells #[.int .i64 (K : Int), .string L] 29)).alloc (.cells #[.int .i64 (N : Int), .iface 35 (.int .i64 6)] 42)
  have z0 : ((((w1.setCell ⟨w.heap.size, 0, none⟩ (.int .i64 0)).setCell ⟨w.heap.size, 1, none⟩ (.string ⟨#[]⟩)).alloc (.cells #[.int .i64 (K : Int), .string L] 29)).alloc (.cells #[.int .i64 (N : Int), .iface 35 (.int .i64 6)] 42)).cell? ⟨w.heap.size, 0, none⟩ = some (.int .i64 0) := hBF.cell 0
  have z1 : ((((w1.setCell ⟨w.heap.size, 0, none⟩ (.int .i64 0)).setCell ⟨w.heap.size, 1, none⟩ (.string ⟨#[]⟩)).alloc (.cells #[.int .i64 (K : Int), .string L] 29)).alloc (.cells #[.int .i64 (N : Int), .iface 35 (.int .i64 6)] 42)).cell? ⟨w.heap.size, 1, none⟩ = some (.string ⟨#[]⟩) := hBF.cell 1
  have HEV2 : Hid (EV ((((w1.setCell ⟨w.heap.size, 0, none⟩ (.int .i64 0)).setCell ⟨w.heap.size, 1, none⟩ (.string ⟨#[]⟩)).alloc (.cells #[.int .i64 (K : Int), .string L] 29)).alloc (.cells #[.int .i64 (N : Int), .iface 35 (.int .i64 6)] 42)) (.iface 40 (.pointer (some ⟨w1.heap.size + 1, 0, none⟩))) (N : Int) 6) := Lib.hid (.inr ⟨by omega, _, rfl, by have h := Blk.new (((w1.setCell ⟨w.heap.size, 0, none⟩ (.int .i64 0)).setCell ⟨w.heap.size, 1, none⟩ (.string ⟨#[]⟩)).alloc (.cells #[.int .i64 (K : Int), .string L] 29)) 42 #[.int .i64 (N : Int), .iface 35 (.int .i64 6)]; rwa [show (((w1.setCell ⟨w.heap.size, 0, none⟩ (.int .i64 0)).setCell ⟨w.heap.size, 1, none⟩ (.string ⟨#[]⟩)).alloc (.cells #[.int .i64 (K : Int), .string L] 29)).heap.size = w1.heap.size + 1 by simp] at h⟩)
  exact bodyPost_ret (v := .tuple #[.agg #[.int .i64 0, .string ⟨#[]⟩], .iface 40 (.pointer (some ⟨w1.heap.size + 1, 0, none⟩))]) (by simp [results, Tryd.results16, go_sem, z0, z1]) rfl (frp HT.out (by omega) HEV2.out ((HB1.out.setCell (p := ⟨w.heap.size, 0, none⟩) (Nat.le_refl _) (.int .i64 0) |>.setCell (p := ⟨w.heap.size, 1, none⟩) (Nat.le_refl _) (.string ⟨#[]⟩) |>.alloc (by simp; omega) (.cells #[.int .i64 (K : Int), .string L] 29)).alloc (by simp; omega) (.cells #[.int .i64 (N : Int), .iface 35 (.int .i64 6)] 42)))
set_option maxRecDepth 100000 in
set_option maxHeartbeats 3200000 in
theorem fread_ok (s : ByteArray) (w : World) (hs : s.size ≤ 100000) (hE : nxE s = 0) (hN : ¬ nxN s < s.size) :
    Calls Tryd.prog 16 #[.string s] w (FrP s w) := by
  have HT := Lib.hid (fr_all hE hN)
  have D := Lib.hid (fun W => fnext s W hs)
  have hbd := (nx_bounds s).1
  rw [hE] at D
  obtain ⟨K, hK⟩ : ∃ k, nxK s = k := ⟨_, rfl⟩
  obtain ⟨N, hN2⟩ : ∃ k, nxN s = k := ⟨_, rfl⟩
  obtain ⟨L, hL⟩ : ∃ k, nxL s = k := ⟨_, rfl⟩
  obtain ⟨A, hA⟩ : ∃ k, nxA s = k := ⟨_, rfl⟩
  obtain ⟨E, hE2⟩ : ∃ k, nxE s = k := ⟨_, rfl⟩
  simp only [hK, hN2, hL, hA] at HT D hbd hN
  have d1 : decide ((N : Int) < (s.size : Int)) = false := decide_eq_false (by omega)
  clear hK hN2 hL hA hE2
  have HR0 := Lib.hid (Blk.new w 29 #[.int .i64 0, .string ⟨#[]⟩])
  have HB0 := Lib.hid (Joins.below_alloc1 w (.cells #[.int .i64 0, .string ⟨#[]⟩] 29))
  go_enter Tryd.func16, Tryd.ntmps16
  go_wp2_with fail
  refine (D.out _).mono ?_; rintro e w1 ⟨ev, rfl, hev, b1⟩
  obtain ⟨-, rfl⟩ := ev_nil hev
  have HEV := Lib.hid hev
  have HR1 := Lib.hid (HR0.out.keep b1)
  have HB1 := Lib.hid (HB0.out.trans (b1.mono HB0.out.size))
  have hl1 : w.heap.size < w1.heap.size := HR1.out.lt
  have hne1 : ¬ w1.heap.size = w.heap.size := by omega
  have hne2 : ¬ w.heap.size = w1.heap.size := by omega
  have r0 := HR1.out.cell 0
  have r1 := HR1.out.cell 1
  have f0 := HR1.out.frozen 0
  have f1 := HR1.out.frozen 1
  simp at r0 r1
  have HR2 := Lib.hid (HR1.out.alloc (.cells #[.int .i64 (K : Int), .string L] 29))
  have HB2 := Lib.hid (HB1.out.alloc (by omega) (.cells #[.int .i64 (K : Int), .string L] 29))
  have x0 := HR2.out.cell 0
  have x1 := HR2.out.cell 1
  have i0 := HR2.out.frozen 0
  have i1 := HR2.out.frozen 1
  rw [show (#[Value.int .i64 0, Value.string ⟨#[]⟩] : Array Value)[0]? = some (.int .i64 0) from rfl] at x0
  rw [show (#[Value.int .i64 0, Value.string ⟨#[]⟩] : Array Value)[1]? = some (.string ⟨#[]⟩) from rfl] at x1
  clear hev b1 HR0 HB0
  go_wp2
  have hBF := ((HR1.out.set_ 0 (.int .i64 (K : Int))).set_ 1 (.string L)).alloc (.cells #[.int .i64 (K : Int), .string L] 29)
  have z0 : (((w1.setCell ⟨w.heap.size, 0, none⟩ (.int .i64 (K : Int))).setCell ⟨w.heap.size, 1, none⟩ (.string L)).alloc (.cells #[.int .i64 (K : Int), .string L] 29)).cell? ⟨w.heap.size, 0, none⟩ = some (.int .i64 (K : Int)) := hBF.cell 0
  have z1 : (((w1.setCell ⟨w.heap.size, 0, none⟩ (.int .i64 (K : Int))).setCell ⟨w.heap.size, 1, none⟩ (.string L)).alloc (.cells #[.int .i64 (K : Int), .string L] 29)).cell? ⟨w.heap.size, 1, none⟩ = some (.string L) := hBF.cell 1
  exact bodyPost_ret (v := .tuple #[.agg #[.int .i64 (K : Int), .string L], .nilIface]) (by simp [results, Tryd.results16, go_sem, z0, z1]) rfl (frp HT.out (by omega) (.inl ⟨rfl, rfl, rfl⟩) (HB1.out.setCell (p := ⟨w.heap.size, 0, none⟩) (Nat.le_refl _) (.int .i64 (K : Int)) |>.setCell (p := ⟨w.heap.size, 1, none⟩) (Nat.le_refl _) (.string L) |>.alloc (by simp; omega) (.cells #[.int .i64 (K : Int), .string L] 29)))
theorem fread (s : ByteArray) (w : World) (hs : s.size ≤ 100000) : Calls Tryd.prog 16 #[.string s] w (FrP s w) := by
  by_cases hE : nxE s = 0
  · by_cases hN : nxN s < s.size
    · exact fread_more s w hs hE hN
    · exact fread_ok s w hs hE hN
  · exact fread_bad s w hs hE
set_option maxRecDepth 100000 in
set_option maxHeartbeats 3200000 in
theorem rfread_bad (s : ByteArray) (w : World) (hs : s.size ≤ 100000) (hE : ¬ nxE s = 0) :
    Calls Tryd.prog 17 #[.string s] w (RFrP s w) := by
  have HT := Lib.hid (fr_bad hE)
  have D := Lib.hid (fun W => rfnext s W hs)
  have hbd := (nx_bounds s).1
  obtain ⟨K, hK⟩ : ∃ k, nxK s = k := ⟨_, rfl⟩
  obtain ⟨N, hN2⟩ : ∃ k, nxN s = k := ⟨_, rfl⟩
  obtain ⟨L, hL⟩ : ∃ k, nxL s = k := ⟨_, rfl⟩
  obtain ⟨A, hA⟩ : ∃ k, nxA s = k := ⟨_, rfl⟩
  obtain ⟨E, hE2⟩ : ∃ k, nxE s = k := ⟨_, rfl⟩
  simp only [hK, hN2, hL, hA, hE2] at HT D hbd hE
  have g3 : (E == 0) = false := by simpa using hE
  have g3b : (E != 0) = true := by simpa using hE
  clear hE
  clear hK hN2 hL hA hE2
  have HA0 : Hid (Blk ((w.alloc (.cells #[.int .i64 0, .string ⟨#[]⟩] 23)).alloc (.cells #[.int .i64 0, .int .i64 0] 37)) w.heap.size 23 #[.int .i64 0, .string ⟨#[]⟩]) := Lib.hid ((Blk.new w 23 #[.int .i64 0, .string ⟨#[]⟩]).alloc _)
  have HU0 : Hid (Blk ((w.alloc (.cells #[.int .i64 0, .string ⟨#[]⟩] 23)).alloc (.cells #[.int .i64 0, .int .i64 0] 37)) (w.heap.size + 1) 37 #[.int .i64 0, .int .i64 0]) := Lib.hid (by
    have h := Blk.new (w.alloc (.cells #[.int .i64 0, .string ⟨#[]⟩] 23)) 37 #[.int .i64 0, .int .i64 0]
    simpa using h)
  have HB0 := Lib.hid (Joins.below_alloc2 w (.cells #[.int .i64 0, .string ⟨#[]⟩] 23) (.cells #[.int .i64 0, .int .i64 0] 37))
  go_enter Tryd.func17, Tryd.ntmps17
  go_wp2_with fail
  refine (D.out _).mono ?_; rintro e w1 ⟨rfl, b1⟩
  have HA1 := Lib.hid (HA0.out.keep b1)
  have HU1 := Lib.hid (HU0.out.keep b1)
  have HB1 := Lib.hid (HB0.out.trans (b1.mono HB0.out.size))
  have hl1 : w.heap.size + 1 < w1.heap.size := HU1.out.lt
  have hne1 : ¬ w1.heap.size = w.heap.size := by omega
  have hne2 : ¬ w1.heap.size = w.heap.size + 1 := by omega
  have hne3 : ¬ w1.heap.size + 1 = w.heap.size := by omega
  have hne4 : ¬ w1.heap.size + 1 = w.heap.size + 1 := by omega
  have HB2 := Lib.hid ((HB1.out.alloc (by omega) (.cells #[.int .i64 (K : Int), .string L] 23)).alloc (by simp; omega) (.cells #[.int .i64 A, .int .i64 E] 37))
  have HA2 := Lib.hid ((HA1.out.alloc (.cells #[.int .i64 (K : Int), .string L] 23)).alloc (.cells #[.int .i64 A, .int .i64 E] 37))
  have HU2 := Lib.hid ((HU1.out.alloc (.cells #[.int .i64 (K : Int), .string L] 23)).alloc (.cells #[.int .i64 A, .int .i64 E] 37))
  have x0 := HA2.out.cell 0
  have x1 := HA2.out.cell 1
  have y0 := HU2.out.cell 0
  have y1 := HU2.out.cell 1
  have l0 := HA2.out.frozen 0
  have l1 := HA2.out.frozen 1
  have n0 := HU2.out.frozen 0
  have n1 := HU2.out.frozen 1
  rw [show (#[Value.int .i64 0, Value.string ⟨#[]⟩] : Array Value)[0]? = some (.int .i64 0) from rfl] at x0
  rw [show (#[Value.int .i64 0, Value.string ⟨#[]⟩] : Array Value)[1]? = some (.string ⟨#[]⟩) from rfl] at x1
  rw [show (#[Value.int .i64 0, Value.int .i64 0] : Array Value)[0]? = some (.int .i64 0) from rfl] at y0
  rw [show (#[Value.int .i64 0, Value.int .i64 0] : Array Value)[1]? = some (.int .i64 0) from rfl] at y1
  clear b1 HA0 HU0 HB0 HA1 HU1 HB1
  go_wp2
  go_region
  go_wp2
  exact bodyPost_ret (v := .tuple #[.agg #[.int .i64 0, .string ⟨#[]⟩], .agg #[.int .i64 A, .int .i64 E]]) (by simp [results, Tryd.results17, go_sem, x0, x1, y0, y1]) rfl (rfrp HT.out (by omega) (by omega) (by repeat (first | exact HB2.out | apply Below.drew | refine Below.setCell ?_ (by simp) _ | refine Below.setCell ?_ (by simp; omega) _)))
set_option maxRecDepth 100000 in
set_option maxHeartbeats 3200000 in
theorem rfread_more (s : ByteArray) (w : World) (hs : s.size ≤ 100000) (hE : nxE s = 0) (hN : nxN s < s.size) :
    Calls Tryd.prog 17 #[.string s] w (RFrP s w) := by
  have HT := Lib.hid (fr_more hE hN)
  have D := Lib.hid (fun W => rfnext s W hs)
  have hbd := (nx_bounds s).1
  have hAz := ((nx_bounds s).2.2.2.1 hE).1
  rw [hE] at D
  obtain ⟨K, hK⟩ : ∃ k, nxK s = k := ⟨_, rfl⟩
  obtain ⟨N, hN2⟩ : ∃ k, nxN s = k := ⟨_, rfl⟩
  obtain ⟨L, hL⟩ : ∃ k, nxL s = k := ⟨_, rfl⟩
  obtain ⟨A, hA⟩ : ∃ k, nxA s = k := ⟨_, rfl⟩
  obtain ⟨E, hE2⟩ : ∃ k, nxE s = k := ⟨_, rfl⟩
  simp only [hK, hN2, hL, hA] at HT D hbd hN hAz
  subst hAz
  have d1 : decide ((N : Int) < (s.size : Int)) = true := decide_eq_true (by omega)
  clear hK hN2 hL hA hE2
  have HA0 : Hid (Blk ((w.alloc (.cells #[.int .i64 0, .string ⟨#[]⟩] 23)).alloc (.cells #[.int .i64 0, .int .i64 0] 37)) w.heap.size 23 #[.int .i64 0, .string ⟨#[]⟩]) := Lib.hid ((Blk.new w 23 #[.int .i64 0, .string ⟨#[]⟩]).alloc _)
  have HU0 : Hid (Blk ((w.alloc (.cells #[.int .i64 0, .string ⟨#[]⟩] 23)).alloc (.cells #[.int .i64 0, .int .i64 0] 37)) (w.heap.size + 1) 37 #[.int .i64 0, .int .i64 0]) := Lib.hid (by
    have h := Blk.new (w.alloc (.cells #[.int .i64 0, .string ⟨#[]⟩] 23)) 37 #[.int .i64 0, .int .i64 0]
    simpa using h)
  have HB0 := Lib.hid (Joins.below_alloc2 w (.cells #[.int .i64 0, .string ⟨#[]⟩] 23) (.cells #[.int .i64 0, .int .i64 0] 37))
  go_enter Tryd.func17, Tryd.ntmps17
  go_wp2_with fail
  refine (D.out _).mono ?_; rintro e w1 ⟨rfl, b1⟩
  have HA1 := Lib.hid (HA0.out.keep b1)
  have HU1 := Lib.hid (HU0.out.keep b1)
  have HB1 := Lib.hid (HB0.out.trans (b1.mono HB0.out.size))
  have hl1 : w.heap.size + 1 < w1.heap.size := HU1.out.lt
  have hne1 : ¬ w1.heap.size = w.heap.size := by omega
  have hne2 : ¬ w1.heap.size = w.heap.size + 1 := by omega
  have hne3 : ¬ w1.heap.size + 1 = w.heap.size := by omega
  have hne4 : ¬ w1.heap.size + 1 = w.heap.size + 1 := by omega
  have HB2 := Lib.hid ((HB1.out.alloc (by omega) (.cells #[.int .i64 (K : Int), .string L] 23)).alloc (by simp; omega) (.cells #[.int .i64 0, .int .i64 0] 37))
  have HA2 := Lib.hid ((HA1.out.alloc (.cells #[.int .i64 (K : Int), .string L] 23)).alloc (.cells #[.int .i64 0, .int .i64 0] 37))
  have HU2 := Lib.hid ((HU1.out.alloc (.cells #[.int .i64 (K : Int), .string L] 23)).alloc (.cells #[.int .i64 0, .int .i64 0] 37))
  have x0 := HA2.out.cell 0
  have x1 := HA2.out.cell 1
  have y0 := HU2.out.cell 0
  have y1 := HU2.out.cell 1
  have l0 := HA2.out.frozen 0
  have l1 := HA2.out.frozen 1
  have n0 := HU2.out.frozen 0
  have n1 := HU2.out.frozen 1
  rw [show (#[Value.int .i64 0, Value.string ⟨#[]⟩] : Array Value)[0]? = some (.int .i64 0) from rfl] at x0
  rw [show (#[Value.int .i64 0, Value.string ⟨#[]⟩] : Array Value)[1]? = some (.string ⟨#[]⟩) from rfl] at x1
  rw [show (#[Value.int .i64 0, Value.int .i64 0] : Array Value)[0]? = some (.int .i64 0) from rfl] at y0
  rw [show (#[Value.int .i64 0, Value.int .i64 0] : Array Value)[1]? = some (.int .i64 0) from rfl] at y1
  clear b1 HA0 HU0 HB0 HA1 HU1 HB1
  go_wp2
  exact bodyPost_ret (v := .tuple #[.agg #[.int .i64 0, .string ⟨#[]⟩], .agg #[.int .i64 (N : Int), .int .i64 6]]) (by simp [results, Tryd.results17, go_sem, x0, x1, y0, y1]) rfl (rfrp HT.out (by omega) (by omega) (by repeat (first | exact HB2.out | apply Below.drew | refine Below.setCell ?_ (by simp) _ | refine Below.setCell ?_ (by simp; omega) _)))
set_option maxRecDepth 100000 in
set_option maxHeartbeats 3200000 in
theorem rfread_ok (s : ByteArray) (w : World) (hs : s.size ≤ 100000) (hE : nxE s = 0) (hN : ¬ nxN s < s.size) :
    Calls Tryd.prog 17 #[.string s] w (RFrP s w) := by
  have HT := Lib.hid (fr_all hE hN)
  have D := Lib.hid (fun W => rfnext s W hs)
  have hbd := (nx_bounds s).1
  have hAz := ((nx_bounds s).2.2.2.1 hE).1
  rw [hE] at D
  obtain ⟨K, hK⟩ : ∃ k, nxK s = k := ⟨_, rfl⟩
  obtain ⟨N, hN2⟩ : ∃ k, nxN s = k := ⟨_, rfl⟩
  obtain ⟨L, hL⟩ : ∃ k, nxL s = k := ⟨_, rfl⟩
  obtain ⟨A, hA⟩ : ∃ k, nxA s = k := ⟨_, rfl⟩
  obtain ⟨E, hE2⟩ : ∃ k, nxE s = k := ⟨_, rfl⟩
  simp only [hK, hN2, hL, hA] at HT D hbd hN hAz
  subst hAz
  have d1 : decide ((N : Int) < (s.size : Int)) = false := decide_eq_false (by omega)
  clear hK hN2 hL hA hE2
  have HA0 : Hid (Blk ((w.alloc (.cells #[.int .i64 0, .string ⟨#[]⟩] 23)).alloc (.cells #[.int .i64 0, .int .i64 0] 37)) w.heap.size 23 #[.int .i64 0, .string ⟨#[]⟩]) := Lib.hid ((Blk.new w 23 #[.int .i64 0, .string ⟨#[]⟩]).alloc _)
  have HU0 : Hid (Blk ((w.alloc (.cells #[.int .i64 0, .string ⟨#[]⟩] 23)).alloc (.cells #[.int .i64 0, .int .i64 0] 37)) (w.heap.size + 1) 37 #[.int .i64 0, .int .i64 0]) := Lib.hid (by
    have h := Blk.new (w.alloc (.cells #[.int .i64 0, .string ⟨#[]⟩] 23)) 37 #[.int .i64 0, .int .i64 0]
    simpa using h)
  have HB0 := Lib.hid (Joins.below_alloc2 w (.cells #[.int .i64 0, .string ⟨#[]⟩] 23) (.cells #[.int .i64 0, .int .i64 0] 37))
  go_enter Tryd.func17, Tryd.ntmps17
  go_wp2_with fail
  refine (D.out _).mono ?_; rintro e w1 ⟨rfl, b1⟩
  have HA1 := Lib.hid (HA0.out.keep b1)
  have HU1 := Lib.hid (HU0.out.keep b1)
  have HB1 := Lib.hid (HB0.out.trans (b1.mono HB0.out.size))
  have hl1 : w.heap.size + 1 < w1.heap.size := HU1.out.lt
  have hne1 : ¬ w1.heap.size = w.heap.size := by omega
  have hne2 : ¬ w1.heap.size = w.heap.size + 1 := by omega
  have hne3 : ¬ w1.heap.size + 1 = w.heap.size := by omega
  have hne4 : ¬ w1.heap.size + 1 = w.heap.size + 1 := by omega
  have HB2 := Lib.hid ((HB1.out.alloc (by omega) (.cells #[.int .i64 (K : Int), .string L] 23)).alloc (by simp; omega) (.cells #[.int .i64 0, .int .i64 0] 37))
  have HA2 := Lib.hid ((HA1.out.alloc (.cells #[.int .i64 (K : Int), .string L] 23)).alloc (.cells #[.int .i64 0, .int .i64 0] 37))
  have HU2 := Lib.hid ((HU1.out.alloc (.cells #[.int .i64 (K : Int), .string L] 23)).alloc (.cells #[.int .i64 0, .int .i64 0] 37))
  have x0 := HA2.out.cell 0
  have x1 := HA2.out.cell 1
  have y0 := HU2.out.cell 0
  have y1 := HU2.out.cell 1
  have l0 := HA2.out.frozen 0
  have l1 := HA2.out.frozen 1
  have n0 := HU2.out.frozen 0
  have n1 := HU2.out.frozen 1
  rw [show (#[Value.int .i64 0, Value.string ⟨#[]⟩] : Array Value)[0]? = some (.int .i64 0) from rfl] at x0
  rw [show (#[Value.int .i64 0, Value.string ⟨#[]⟩] : Array Value)[1]? = some (.string ⟨#[]⟩) from rfl] at x1
  rw [show (#[Value.int .i64 0, Value.int .i64 0] : Array Value)[0]? = some (.int .i64 0) from rfl] at y0
  rw [show (#[Value.int .i64 0, Value.int .i64 0] : Array Value)[1]? = some (.int .i64 0) from rfl] at y1
  clear b1 HA0 HU0 HB0 HA1 HU1 HB1
  go_wp2
  go_region
  go_wp2
  exact bodyPost_ret (v := .tuple #[.agg #[.int .i64 (K : Int), .string L], .agg #[.int .i64 0, .int .i64 0]]) (by simp [results, Tryd.results17, go_sem, x0, x1, y0, y1]) rfl (rfrp HT.out (by omega) (by omega) (by repeat (first | exact HB2.out | apply Below.drew | refine Below.setCell ?_ (by simp) _ | refine Below.setCell ?_ (by simp; omega) _)))
theorem rfread (s : ByteArray) (w : World) (hs : s.size ≤ 100000) : Calls Tryd.prog 17 #[.string s] w (RFrP s w) := by
  by_cases hE : nxE s = 0
  · by_cases hN : nxN s < s.size
    · exact rfread_more s w hs hE hN
    · exact rfread_ok s w hs hE hN
  · exact rfread_bad s w hs hE
end Go.Proofs.YtofpefbnkmeokaaDoor
