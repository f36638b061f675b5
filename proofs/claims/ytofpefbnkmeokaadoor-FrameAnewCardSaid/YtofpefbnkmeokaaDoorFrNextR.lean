/- Contract of the reference's Next. -/
import Derived.Test.YtofpefbnkmeokaaDoorFrNext
import Derived.BigRegion
namespace Go.Proofs.YtofpefbnkmeokaaDoor
open Go.RowKit
set_option linter.unusedVariables false
def RNxP (s l : ByteArray) (v p2 : Nat) (f1 a2 f2 : Int) (w : World) (e : Ending) (w' : World) : Prop :=
  e = .returned (.tuple #[.agg #[.int .i64 (fnK s v f1 p2 f2 : Int), .string (fnL s v f1 l p2 f2)], .int .i64 (fnN s v f1 p2 f2 : Int), .agg #[.int .i64 (fnA s v f1 p2 a2 f2), .int .i64 (fnE s v f1 p2 f2)]]) ∧ Below w.heap.size w w'
theorem rnxp {s l : ByteArray} {v p2 : Nat} {f1 a2 f2 : Int} {w w' : World} {E A : Int} {n k : Nat} {x : ByteArray} (h : FnAll s l v p2 f1 a2 f2 E A n k x) {K N : Int} (hk : (k : Int) = K) (hn : (n : Int) = N) (hb : Below w.heap.size w w') :
    RNxP s l v p2 f1 a2 f2 w (.returned (.tuple #[.agg #[.int .i64 K, .string x], .int .i64 N, .agg #[.int .i64 A, .int .i64 E]])) w' := by
  obtain ⟨h1, h2, h3, h4, h5⟩ := h
  exact ⟨by rw [h1, h2, h3, h4, h5, hk, hn], hb⟩
set_option maxRecDepth 100000 in
set_option maxHeartbeats 3200000 in
theorem rnx_kind (s l : ByteArray) (w : World) (p1 p2 : Nat) (a1 a2 : Int) (f2 : Int) (hs : s.size ≤ 100000)
    (D1 : ∀ b W, RR W b s 0 0 0 → Calls Tryd.prog 49 #[.pointer (some ⟨b, 0, none⟩), .int .i64 99] W fun e w' => e = .returned (.int .i64 0) ∧ RR w' b s p1 a1 0 ∧ W.grownBy w' (some b))
    (D2 : ∀ b W, RR W b s p1 a1 0 → Calls Tryd.prog 50 #[.pointer (some ⟨b, 0, none⟩), .int .i64 4096] W fun e w' => e = .returned (.string l) ∧ RR w' b s p2 a2 f2 ∧ W.grownBy w' (some b)) :
    Calls Tryd.prog 15 #[.string s] w (RNxP s l 0 p2 0 a2 f2 w) := by
  have HT := Lib.hid (show FnAll s l 0 p2 0 a2 f2 _ _ _ _ _ from fn_kind)
  have HD1 := Lib.hid D1
  have HD2 := Lib.hid D2
  clear D1 D2
  have HA1 : Hid (Blk (((w.alloc (.cells #[.int .i64 0, .string ⟨#[]⟩] 23)).alloc (.cells #[.int .i64 0, .int .i64 0] 37)).alloc (.cells #[.string s, .int .i64 0, .int .i64 0, .int .i64 0] 77)) w.heap.size 23 #[.int .i64 0, .string ⟨#[]⟩]) := Lib.hid (((Blk.new w 23 #[.int .i64 0, .string ⟨#[]⟩]).alloc _).alloc _)
  have HU1 : Hid (Blk (((w.alloc (.cells #[.int .i64 0, .string ⟨#[]⟩] 23)).alloc (.cells #[.int .i64 0, .int .i64 0] 37)).alloc (.cells #[.string s, .int .i64 0, .int .i64 0, .int .i64 0] 77)) (w.heap.size + 1) 37 #[.int .i64 0, .int .i64 0]) := Lib.hid (by
    have h := (Blk.new (w.alloc (.cells #[.int .i64 0, .string ⟨#[]⟩] 23)) 37 #[.int .i64 0, .int .i64 0]).alloc (.cells #[.string s, .int .i64 0, .int .i64 0, .int .i64 0] 77)
    simpa using h)
  have HR1 : Hid (RR (((w.alloc (.cells #[.int .i64 0, .string ⟨#[]⟩] 23)).alloc (.cells #[.int .i64 0, .int .i64 0] 37)).alloc (.cells #[.string s, .int .i64 0, .int .i64 0, .int .i64 0] 77)) (w.heap.size + 1 + 1) s 0 0 0) := Lib.hid ⟨Nat.zero_le _, by
    have h := Blk.new ((w.alloc (.cells #[.int .i64 0, .string ⟨#[]⟩] 23)).alloc (.cells #[.int .i64 0, .int .i64 0] 37)) 77 #[.string s, .int .i64 0, .int .i64 0, .int .i64 0]
    simpa using h⟩
  have HB1 := Lib.hid (Joins.below_alloc3 w (.cells #[.int .i64 0, .string ⟨#[]⟩] 23) (.cells #[.int .i64 0, .int .i64 0] 37) (.cells #[.string s, .int .i64 0, .int .i64 0, .int .i64 0] 77))
  go_enter Tryd.func15, Tryd.ntmps15
  go_wp2_with fail
  refine (HD1.out _ _ HR1.out).mono ?_; rintro e w2 ⟨rfl, hr2, g2⟩
  have hl0 : w.heap.size + 1 + 1 < w2.heap.size := hr2.lt
  have hne1 : ¬ w2.heap.size = w.heap.size := by omega
  have hne2 : ¬ w2.heap.size = w.heap.size + 1 := by omega
  have hne5 : ¬ w2.heap.size = w.heap.size + 1 + 1 := by omega
  have hne3 : ¬ w.heap.size = w2.heap.size := by omega
  have hne4 : ¬ w.heap.size + 1 = w2.heap.size := by omega
  have hne6 : ¬ w.heap.size + 1 + 1 = w2.heap.size := by omega
  have HA2 := Lib.hid ((HA1.out.grown g2 (by intro e; injection e with e; omega)).alloc (.cells #[.int .i64 0, .string ⟨#[]⟩] 23))
  have HU2 := Lib.hid ((HU1.out.grown g2 (by intro e; injection e with e; omega)).alloc (.cells #[.int .i64 0, .string ⟨#[]⟩] 23))
  have HB2 := Lib.hid ((below_only HB1.out g2 (by omega) HB1.out.size).alloc (by omega) (.cells #[.int .i64 0, .string ⟨#[]⟩] 23))
  have HR2 := Lib.hid (hr2.keep (Joins.below_alloc1 w2 (.cells #[.int .i64 0, .string ⟨#[]⟩] 23)))
  have HFr2 := Lib.hid (Blk.new w2 23 #[.int .i64 0, .string ⟨#[]⟩])
  obtain ⟨k0, k1, k2, k3, _⟩ := rr_cells hr2
  have hA := HA1.out.grown g2 (by intro e; injection e with e; omega)
  have hU := HU1.out.grown g2 (by intro e; injection e with e; omega)
  have r0 := hA.cell 0
  have r1 := hA.cell 1
  have i0 := hA.frozen 0
  have i1 := hA.frozen 1
  have u0 := hU.cell 0
  have u1 := hU.cell 1
  have j0 := hU.frozen 0
  have j1 := hU.frozen 1
  simp at r0 r1 u0 u1
  have hne7 : ¬ w.heap.size = w.heap.size + 1 := by omega
  have x0 := HA2.out.cell 0
  have x1 := HA2.out.cell 1
  have y0 := HU2.out.cell 0
  have y1 := HU2.out.cell 1
  have l0 := HA2.out.frozen 0
  have l1 := HA2.out.frozen 1
  have n0 := HU2.out.frozen 0
  have n1 := HU2.out.frozen 1
  rw [show (#[Value.int .i64 0, Value.string ⟨#[]⟩] : Array Value)[0]? = some (.int .i64 0) from rfl] at x0
  rw [show (#[Value.int .i64 0, Value.string ⟨#[]⟩] : Array Value)[1]? = some (.string ⟨#[]⟩) from rfl] at x1
  rw [show (#[Value.int .i64 0, Value.int .i64 0] : Array Value)[0]? = some (.int .i64 0) from rfl] at y0
  rw [show (#[Value.int .i64 0, Value.int .i64 0] : Array Value)[1]? = some (.int .i64 0) from rfl] at y1
  clear hr2 g2 HR1 HA1 HU1 HB1 hA hU
  go_wp2
  exact bodyPost_ret (v := .tuple #[.agg #[.int .i64 0, .string ⟨#[]⟩], .int .i64 0, .agg #[.int .i64 0, .int .i64 5]]) (by simp [results, Tryd.results15, go_sem, x0, x1, y0, y1]) rfl (rnxp HT.out (by omega) (by omega) (by repeat (first | exact HB2.out | apply Below.drew | refine Below.setCell ?_ (by simp) _ | refine Below.setCell ?_ (by simp; omega) _)))
set_option maxRecDepth 100000 in
set_option maxHeartbeats 3200000 in
theorem rnx_a (s l : ByteArray) (w : World) (p1 p2 : Nat) (a1 a2 : Int) (f1 : Int) (f2 : Int) (hs : s.size ≤ 100000)
    (D1 : ∀ b W, RR W b s 0 0 0 → Calls Tryd.prog 49 #[.pointer (some ⟨b, 0, none⟩), .int .i64 99] W fun e w' => e = .returned (.int .i64 0) ∧ RR w' b s p1 a1 f1 ∧ W.grownBy w' (some b))
    (D2 : ∀ b W, RR W b s p1 a1 f1 → Calls Tryd.prog 50 #[.pointer (some ⟨b, 0, none⟩), .int .i64 4096] W fun e w' => e = .returned (.string l) ∧ RR w' b s p2 a2 f2 ∧ W.grownBy w' (some b))
    (hf1 : ¬ f1 = 0)
    (hf2 : ¬ f2 = 0)
    (hp2 : p2 ≤ s.size) :
    Calls Tryd.prog 15 #[.string s] w (RNxP s l 0 p2 f1 a2 f2 w) := by
  have HT := Lib.hid (show FnAll s l 0 p2 f1 a2 f2 _ _ _ _ _ from fn_bad (by omega) hf2)
  have HD1 := Lib.hid D1
  have HD2 := Lib.hid D2
  have g2 : (f1 == 0) = false := by simpa using hf1
  have HP2 := Lib.hid hp2
  have g3 : (f2 == 0) = false := by simpa using hf2
  have g3b : (f2 != 0) = true := by simpa using hf2
  clear D1 D2 hf1 hp2 hf2
  have HA1 : Hid (Blk (((w.alloc (.cells #[.int .i64 0, .string ⟨#[]⟩] 23)).alloc (.cells #[.int .i64 0, .int .i64 0] 37)).alloc (.cells #[.string s, .int .i64 0, .int .i64 0, .int .i64 0] 77)) w.heap.size 23 #[.int .i64 0, .string ⟨#[]⟩]) := Lib.hid (((Blk.new w 23 #[.int .i64 0, .string ⟨#[]⟩]).alloc _).alloc _)
  have HU1 : Hid (Blk (((w.alloc (.cells #[.int .i64 0, .string ⟨#[]⟩] 23)).alloc (.cells #[.int .i64 0, .int .i64 0] 37)).alloc (.cells #[.string s, .int .i64 0, .int .i64 0, .int .i64 0] 77)) (w.heap.size + 1) 37 #[.int .i64 0, .int .i64 0]) := Lib.hid (by
    have h := (Blk.new (w.alloc (.cells #[.int .i64 0, .string ⟨#[]⟩] 23)) 37 #[.int .i64 0, .int .i64 0]).alloc (.cells #[.string s, .int .i64 0, .int .i64 0, .int .i64 0] 77)
    simpa using h)
  have HR1 : Hid (RR (((w.alloc (.cells #[.int .i64 0, .string ⟨#[]⟩] 23)).alloc (.cells #[.int .i64 0, .int .i64 0] 37)).alloc (.cells #[.string s, .int .i64 0, .int .i64 0, .int .i64 0] 77)) (w.heap.size + 1 + 1) s 0 0 0) := Lib.hid ⟨Nat.zero_le _, by
    have h := Blk.new ((w.alloc (.cells #[.int .i64 0, .string ⟨#[]⟩] 23)).alloc (.cells #[.int .i64 0, .int .i64 0] 37)) 77 #[.string s, .int .i64 0, .int .i64 0, .int .i64 0]
    simpa using h⟩
  have HB1 := Lib.hid (Joins.below_alloc3 w (.cells #[.int .i64 0, .string ⟨#[]⟩] 23) (.cells #[.int .i64 0, .int .i64 0] 37) (.cells #[.string s, .int .i64 0, .int .i64 0, .int .i64 0] 77))
  go_enter Tryd.func15, Tryd.ntmps15
  go_wp2_with fail
  refine (HD1.out _ _ HR1.out).mono ?_; rintro e w2 ⟨rfl, hr2, g2⟩
  have hl0 : w.heap.size + 1 + 1 < w2.heap.size := hr2.lt
  have hne1 : ¬ w2.heap.size = w.heap.size := by omega
  have hne2 : ¬ w2.heap.size = w.heap.size + 1 := by omega
  have hne5 : ¬ w2.heap.size = w.heap.size + 1 + 1 := by omega
  have hne3 : ¬ w.heap.size = w2.heap.size := by omega
  have hne4 : ¬ w.heap.size + 1 = w2.heap.size := by omega
  have hne6 : ¬ w.heap.size + 1 + 1 = w2.heap.size := by omega
  have HA2 := Lib.hid ((HA1.out.grown g2 (by intro e; injection e with e; omega)).alloc (.cells #[.int .i64 0, .string ⟨#[]⟩] 23))
  have HU2 := Lib.hid ((HU1.out.grown g2 (by intro e; injection e with e; omega)).alloc (.cells #[.int .i64 0, .string ⟨#[]⟩] 23))
  have HB2 := Lib.hid ((below_only HB1.out g2 (by omega) HB1.out.size).alloc (by omega) (.cells #[.int .i64 0, .string ⟨#[]⟩] 23))
  have HR2 := Lib.hid (hr2.keep (Joins.below_alloc1 w2 (.cells #[.int .i64 0, .string ⟨#[]⟩] 23)))
  have HFr2 := Lib.hid (Blk.new w2 23 #[.int .i64 0, .string ⟨#[]⟩])
  obtain ⟨k0, k1, k2, k3, _⟩ := rr_cells hr2
  clear hr2 g2 HR1 HA1 HU1 HB1
  go_wp2_with fail
  refine (HD2.out _ _ HR2.out).mono ?_; rintro e w3 ⟨rfl, hr3, g3⟩
  clear k0 k1 k2 k3
  have hz3 : w2.heap.size < w3.heap.size := by have := g3.size; simp at this; omega
  have HFr3 : Hid (Blk w3 w2.heap.size 23 #[.int .i64 0, .string ⟨#[]⟩]) := Lib.hid (HFr2.out.grown g3 (by intro e; injection e with e; omega))
  have HFr4 : Hid (Blk (w3.setCell ⟨w2.heap.size, 1, none⟩ (.string l)) w2.heap.size 23 #[.int .i64 0, .string l]) := Lib.hid (by simpa using HFr3.out.set_ 1 (.string l))
  have HR4 : Hid (RR (w3.setCell ⟨w2.heap.size, 1, none⟩ (.string l)) (w.heap.size + 1 + 1) s p2 a2 f2) := Lib.hid (hr3.far hne6 _)
  have HA4 : Hid (Blk (w3.setCell ⟨w2.heap.size, 1, none⟩ (.string l)) w.heap.size 23 #[.int .i64 0, .string ⟨#[]⟩]) := Lib.hid ((HA2.out.grown g3 (by intro e; injection e with e; omega)).far (p := ⟨w2.heap.size, 1, none⟩) (by show w.heap.size ≠ w2.heap.size; omega) _)
  have HU4 : Hid (Blk (w3.setCell ⟨w2.heap.size, 1, none⟩ (.string l)) (w.heap.size + 1) 37 #[.int .i64 0, .int .i64 0]) := Lib.hid ((HU2.out.grown g3 (by intro e; injection e with e; omega)).far (p := ⟨w2.heap.size, 1, none⟩) (by show w.heap.size + 1 ≠ w2.heap.size; omega) _)
  have HB4 : Hid (Below w.heap.size w (w3.setCell ⟨w2.heap.size, 1, none⟩ (.string l))) := Lib.hid ((below_only HB2.out g3 (by omega) HB2.out.size).setCell (p := ⟨w2.heap.size, 1, none⟩) (by show w.heap.size ≤ w2.heap.size; omega) _)
  have f3 := HFr3.out.frozen 1
  have m3 := HFr3.out.cell 1
  simp at m3
  clear hr3 g3 HR2 HA2 HU2 HB2 HFr2 HFr3
  obtain ⟨k0, k1, k2, k3, _⟩ := rr_cells HR4.out
  have hW : ∃ W4, w3.setCell ⟨w2.heap.size, 1, none⟩ (.string l) = W4 := ⟨_, rfl⟩
  have r0 := HA4.out.cell 0
  have r1 := HA4.out.cell 1
  have i0 := HA4.out.frozen 0
  have i1 := HA4.out.frozen 1
  have u0 := HU4.out.cell 0
  have u1 := HU4.out.cell 1
  have j0 := HU4.out.frozen 0
  have j1 := HU4.out.frozen 1
  simp at r0 r1 u0 u1
  go_wp2
  go_region
  go_wp2
  exact bodyPost_ret (v := .tuple #[.agg #[.int .i64 0, .string ⟨#[]⟩], .int .i64 0, .agg #[.int .i64 a2, .int .i64 f2]]) (by simp [results, Tryd.results15, go_sem, r0, r1, u0, u1]) rfl (rnxp HT.out (by omega) (by omega) (by repeat (first | exact HB4.out | apply Below.drew | refine Below.setCell ?_ (by simp) _ | refine Below.setCell ?_ (by simp; omega) _)))
set_option maxRecDepth 100000 in
set_option maxHeartbeats 3200000 in
theorem rnx_b (s l : ByteArray) (w : World) (p1 p2 : Nat) (a1 a2 : Int) (v : Nat) (f2 : Int) (hs : s.size ≤ 100000)
    (D1 : ∀ b W, RR W b s 0 0 0 → Calls Tryd.prog 49 #[.pointer (some ⟨b, 0, none⟩), .int .i64 99] W fun e w' => e = .returned (.int .i64 (v : Int)) ∧ RR w' b s p1 a1 0 ∧ W.grownBy w' (some b))
    (D2 : ∀ b W, RR W b s p1 a1 0 → Calls Tryd.prog 50 #[.pointer (some ⟨b, 0, none⟩), .int .i64 4096] W fun e w' => e = .returned (.string l) ∧ RR w' b s p2 a2 f2 ∧ W.grownBy w' (some b))
    (hv : ¬ v = 0)
    (hf2 : ¬ f2 = 0)
    (hp2 : p2 ≤ s.size) :
    Calls Tryd.prog 15 #[.string s] w (RNxP s l v p2 0 a2 f2 w) := by
  have HT := Lib.hid (show FnAll s l v p2 0 a2 f2 _ _ _ _ _ from fn_bad (by omega) hf2)
  have HD1 := Lib.hid D1
  have HD2 := Lib.hid D2
  have g1 : ((v : Int) == 0) = false := by simpa using hv
  have g1b : (v == 0) = false := by simpa using hv
  have HP2 := Lib.hid hp2
  have g3 : (f2 == 0) = false := by simpa using hf2
  have g3b : (f2 != 0) = true := by simpa using hf2
  clear D1 D2 hv hp2 hf2
  have HA1 : Hid (Blk (((w.alloc (.cells #[.int .i64 0, .string ⟨#[]⟩] 23)).alloc (.cells #[.int .i64 0, .int .i64 0] 37)).alloc (.cells #[.string s, .int .i64 0, .int .i64 0, .int .i64 0] 77)) w.heap.size 23 #[.int .i64 0, .string ⟨#[]⟩]) := Lib.hid (((Blk.new w 23 #[.int .i64 0, .string ⟨#[]⟩]).alloc _).alloc _)
  have HU1 : Hid (Blk (((w.alloc (.cells #[.int .i64 0, .string ⟨#[]⟩] 23)).alloc (.cells #[.int .i64 0, .int .i64 0] 37)).alloc (.cells #[.string s, .int .i64 0, .int .i64 0, .int .i64 0] 77)) (w.heap.size + 1) 37 #[.int .i64 0, .int .i64 0]) := Lib.hid (by
    have h := (Blk.new (w.alloc (.cells #[.int .i64 0, .string ⟨#[]⟩] 23)) 37 #[.int .i64 0, .int .i64 0]).alloc (.cells #[.string s, .int .i64 0, .int .i64 0, .int .i64 0] 77)
    simpa using h)
  have HR1 : Hid (RR (((w.alloc (.cells #[.int .i64 0, .string ⟨#[]⟩] 23)).alloc (.cells #[.int .i64 0, .int .i64 0] 37)).alloc (.cells #[.string s, .int .i64 0, .int .i64 0, .int .i64 0] 77)) (w.heap.size + 1 + 1) s 0 0 0) := Lib.hid ⟨Nat.zero_le _, by
    have h := Blk.new ((w.alloc (.cells #[.int .i64 0, .string ⟨#[]⟩] 23)).alloc (.cells #[.int .i64 0, .int .i64 0] 37)) 77 #[.string s, .int .i64 0, .int .i64 0, .int .i64 0]
    simpa using h⟩
  have HB1 := Lib.hid (Joins.below_alloc3 w (.cells #[.int .i64 0, .string ⟨#[]⟩] 23) (.cells #[.int .i64 0, .int .i64 0] 37) (.cells #[.string s, .int .i64 0, .int .i64 0, .int .i64 0] 77))
  go_enter Tryd.func15, Tryd.ntmps15
  go_wp2_with fail
  refine (HD1.out _ _ HR1.out).mono ?_; rintro e w2 ⟨rfl, hr2, g2⟩
  have hl0 : w.heap.size + 1 + 1 < w2.heap.size := hr2.lt
  have hne1 : ¬ w2.heap.size = w.heap.size := by omega
  have hne2 : ¬ w2.heap.size = w.heap.size + 1 := by omega
  have hne5 : ¬ w2.heap.size = w.heap.size + 1 + 1 := by omega
  have hne3 : ¬ w.heap.size = w2.heap.size := by omega
  have hne4 : ¬ w.heap.size + 1 = w2.heap.size := by omega
  have hne6 : ¬ w.heap.size + 1 + 1 = w2.heap.size := by omega
  have HA2 := Lib.hid ((HA1.out.grown g2 (by intro e; injection e with e; omega)).alloc (.cells #[.int .i64 (v : Int), .string ⟨#[]⟩] 23))
  have HU2 := Lib.hid ((HU1.out.grown g2 (by intro e; injection e with e; omega)).alloc (.cells #[.int .i64 (v : Int), .string ⟨#[]⟩] 23))
  have HB2 := Lib.hid ((below_only HB1.out g2 (by omega) HB1.out.size).alloc (by omega) (.cells #[.int .i64 (v : Int), .string ⟨#[]⟩] 23))
  have HR2 := Lib.hid (hr2.keep (Joins.below_alloc1 w2 (.cells #[.int .i64 (v : Int), .string ⟨#[]⟩] 23)))
  have HFr2 := Lib.hid (Blk.new w2 23 #[.int .i64 (v : Int), .string ⟨#[]⟩])
  obtain ⟨k0, k1, k2, k3, _⟩ := rr_cells hr2
  clear hr2 g2 HR1 HA1 HU1 HB1
  go_wp2_with fail
  refine (HD2.out _ _ HR2.out).mono ?_; rintro e w3 ⟨rfl, hr3, g3⟩
  clear k0 k1 k2 k3
  have hz3 : w2.heap.size < w3.heap.size := by have := g3.size; simp at this; omega
  have HFr3 : Hid (Blk w3 w2.heap.size 23 #[.int .i64 (v : Int), .string ⟨#[]⟩]) := Lib.hid (HFr2.out.grown g3 (by intro e; injection e with e; omega))
  have HFr4 : Hid (Blk (w3.setCell ⟨w2.heap.size, 1, none⟩ (.string l)) w2.heap.size 23 #[.int .i64 (v : Int), .string l]) := Lib.hid (by simpa using HFr3.out.set_ 1 (.string l))
  have HR4 : Hid (RR (w3.setCell ⟨w2.heap.size, 1, none⟩ (.string l)) (w.heap.size + 1 + 1) s p2 a2 f2) := Lib.hid (hr3.far hne6 _)
  have HA4 : Hid (Blk (w3.setCell ⟨w2.heap.size, 1, none⟩ (.string l)) w.heap.size 23 #[.int .i64 0, .string ⟨#[]⟩]) := Lib.hid ((HA2.out.grown g3 (by intro e; injection e with e; omega)).far (p := ⟨w2.heap.size, 1, none⟩) (by show w.heap.size ≠ w2.heap.size; omega) _)
  have HU4 : Hid (Blk (w3.setCell ⟨w2.heap.size, 1, none⟩ (.string l)) (w.heap.size + 1) 37 #[.int .i64 0, .int .i64 0]) := Lib.hid ((HU2.out.grown g3 (by intro e; injection e with e; omega)).far (p := ⟨w2.heap.size, 1, none⟩) (by show w.heap.size + 1 ≠ w2.heap.size; omega) _)
  have HB4 : Hid (Below w.heap.size w (w3.setCell ⟨w2.heap.size, 1, none⟩ (.string l))) := Lib.hid ((below_only HB2.out g3 (by omega) HB2.out.size).setCell (p := ⟨w2.heap.size, 1, none⟩) (by show w.heap.size ≤ w2.heap.size; omega) _)
  have f3 := HFr3.out.frozen 1
  have m3 := HFr3.out.cell 1
  simp at m3
  clear hr3 g3 HR2 HA2 HU2 HB2 HFr2 HFr3
  obtain ⟨k0, k1, k2, k3, _⟩ := rr_cells HR4.out
  have hW : ∃ W4, w3.setCell ⟨w2.heap.size, 1, none⟩ (.string l) = W4 := ⟨_, rfl⟩
  have r0 := HA4.out.cell 0
  have r1 := HA4.out.cell 1
  have i0 := HA4.out.frozen 0
  have i1 := HA4.out.frozen 1
  have u0 := HU4.out.cell 0
  have u1 := HU4.out.cell 1
  have j0 := HU4.out.frozen 0
  have j1 := HU4.out.frozen 1
  simp at r0 r1 u0 u1
  go_wp2
  go_region
  go_wp2
  exact bodyPost_ret (v := .tuple #[.agg #[.int .i64 0, .string ⟨#[]⟩], .int .i64 0, .agg #[.int .i64 a2, .int .i64 f2]]) (by simp [results, Tryd.results15, go_sem, r0, r1, u0, u1]) rfl (rnxp HT.out (by omega) (by omega) (by repeat (first | exact HB4.out | apply Below.drew | refine Below.setCell ?_ (by simp) _ | refine Below.setCell ?_ (by simp; omega) _)))
set_option maxRecDepth 100000 in
set_option maxHeartbeats 3200000 in
theorem rnx_short (s l : ByteArray) (w : World) (p1 p2 : Nat) (a1 a2 : Int) (v : Nat) (hs : s.size ≤ 100000)
    (D1 : ∀ b W, RR W b s 0 0 0 → Calls Tryd.prog 49 #[.pointer (some ⟨b, 0, none⟩), .int .i64 99] W fun e w' => e = .returned (.int .i64 (v : Int)) ∧ RR w' b s p1 a1 0 ∧ W.grownBy w' (some b))
    (D2 : ∀ b W, RR W b s p1 a1 0 → Calls Tryd.prog 50 #[.pointer (some ⟨b, 0, none⟩), .int .i64 4096] W fun e w' => e = .returned (.string l) ∧ RR w' b s p2 a2 0 ∧ W.grownBy w' (some b))
    (hv : ¬ v = 0)
    (hsh : s.size < p2 + 4)
    (hp2 : p2 ≤ s.size) :
    Calls Tryd.prog 15 #[.string s] w (RNxP s l v p2 0 a2 0 w) := by
  have HT := Lib.hid (show FnAll s l v p2 0 a2 0 _ _ _ _ _ from fn_short (by omega) hsh)
  have HD1 := Lib.hid D1
  have HD2 := Lib.hid D2
  have g1 : ((v : Int) == 0) = false := by simpa using hv
  have g1b : (v == 0) = false := by simpa using hv
  have HP2 := Lib.hid hp2
  have HSZ := Lib.hid hsh
  have d1 : decide ((s.size : Int) - (p2 : Int) < 4) = true := decide_eq_true (by omega)
  clear D1 D2 hv hp2 hsh
  have HA1 : Hid (Blk (((w.alloc (.cells #[.int .i64 0, .string ⟨#[]⟩] 23)).alloc (.cells #[.int .i64 0, .int .i64 0] 37)).alloc (.cells #[.string s, .int .i64 0, .int .i64 0, .int .i64 0] 77)) w.heap.size 23 #[.int .i64 0, .string ⟨#[]⟩]) := Lib.hid (((Blk.new w 23 #[.int .i64 0, .string ⟨#[]⟩]).alloc _).alloc _)
  have HU1 : Hid (Blk (((w.alloc (.cells #[.int .i64 0, .string ⟨#[]⟩] 23)).alloc (.cells #[.int .i64 0, .int .i64 0] 37)).alloc (.cells #[.string s, .int .i64 0, .int .i64 0, .int .i64 0] 77)) (w.heap.size + 1) 37 #[.int .i64 0, .int .i64 0]) := Lib.hid (by
    have h := (Blk.new (w.alloc (.cells #[.int .i64 0, .string ⟨#[]⟩] 23)) 37 #[.int .i64 0, .int .i64 0]).alloc (.cells #[.string s, .int .i64 0, .int .i64 0, .int .i64 0] 77)
    simpa using h)
  have HR1 : Hid (RR (((w.alloc (.cells #[.int .i64 0, .string ⟨#[]⟩] 23)).alloc (.cells #[.int .i64 0, .int .i64 0] 37)).alloc (.cells #[.string s, .int .i64 0, .int .i64 0, .int .i64 0] 77)) (w.heap.size + 1 + 1) s 0 0 0) := Lib.hid ⟨Nat.zero_le _, by
    have h := Blk.new ((w.alloc (.cells #[.int .i64 0, .string ⟨#[]⟩] 23)).alloc (.cells #[.int .i64 0, .int .i64 0] 37)) 77 #[.string s, .int .i64 0, .int .i64 0, .int .i64 0]
    simpa using h⟩
  have HB1 := Lib.hid (Joins.below_alloc3 w (.cells #[.int .i64 0, .string ⟨#[]⟩] 23) (.cells #[.int .i64 0, .int .i64 0] 37) (.cells #[.string s, .int .i64 0, .int .i64 0, .int .i64 0] 77))
  go_enter Tryd.func15, Tryd.ntmps15
  go_wp2_with fail
  refine (HD1.out _ _ HR1.out).mono ?_; rintro e w2 ⟨rfl, hr2, g2⟩
  have hl0 : w.heap.size + 1 + 1 < w2.heap.size := hr2.lt
  have hne1 : ¬ w2.heap.size = w.heap.size := by omega
  have hne2 : ¬ w2.heap.size = w.heap.size + 1 := by omega
  have hne5 : ¬ w2.heap.size = w.heap.size + 1 + 1 := by omega
  have hne3 : ¬ w.heap.size = w2.heap.size := by omega
  have hne4 : ¬ w.heap.size + 1 = w2.heap.size := by omega
  have hne6 : ¬ w.heap.size + 1 + 1 = w2.heap.size := by omega
  have HA2 := Lib.hid ((HA1.out.grown g2 (by intro e; injection e with e; omega)).alloc (.cells #[.int .i64 (v : Int), .string ⟨#[]⟩] 23))
  have HU2 := Lib.hid ((HU1.out.grown g2 (by intro e; injection e with e; omega)).alloc (.cells #[.int .i64 (v : Int), .string ⟨#[]⟩] 23))
  have HB2 := Lib.hid ((below_only HB1.out g2 (by omega) HB1.out.size).alloc (by omega) (.cells #[.int .i64 (v : Int), .string ⟨#[]⟩] 23))
  have HR2 := Lib.hid (hr2.keep (Joins.below_alloc1 w2 (.cells #[.int .i64 (v : Int), .string ⟨#[]⟩] 23)))
  have HFr2 := Lib.hid (Blk.new w2 23 #[.int .i64 (v : Int), .string ⟨#[]⟩])
  obtain ⟨k0, k1, k2, k3, _⟩ := rr_cells hr2
  clear hr2 g2 HR1 HA1 HU1 HB1
  go_wp2_with fail
  refine (HD2.out _ _ HR2.out).mono ?_; rintro e w3 ⟨rfl, hr3, g3⟩
  clear k0 k1 k2 k3
  have hz3 : w2.heap.size < w3.heap.size := by have := g3.size; simp at this; omega
  have HFr3 : Hid (Blk w3 w2.heap.size 23 #[.int .i64 (v : Int), .string ⟨#[]⟩]) := Lib.hid (HFr2.out.grown g3 (by intro e; injection e with e; omega))
  have HFr4 : Hid (Blk (w3.setCell ⟨w2.heap.size, 1, none⟩ (.string l)) w2.heap.size 23 #[.int .i64 (v : Int), .string l]) := Lib.hid (by simpa using HFr3.out.set_ 1 (.string l))
  have HR4 : Hid (RR (w3.setCell ⟨w2.heap.size, 1, none⟩ (.string l)) (w.heap.size + 1 + 1) s p2 a2 0) := Lib.hid (hr3.far hne6 _)
  have HA4 : Hid (Blk (w3.setCell ⟨w2.heap.size, 1, none⟩ (.string l)) w.heap.size 23 #[.int .i64 0, .string ⟨#[]⟩]) := Lib.hid ((HA2.out.grown g3 (by intro e; injection e with e; omega)).far (p := ⟨w2.heap.size, 1, none⟩) (by show w.heap.size ≠ w2.heap.size; omega) _)
  have HU4 : Hid (Blk (w3.setCell ⟨w2.heap.size, 1, none⟩ (.string l)) (w.heap.size + 1) 37 #[.int .i64 0, .int .i64 0]) := Lib.hid ((HU2.out.grown g3 (by intro e; injection e with e; omega)).far (p := ⟨w2.heap.size, 1, none⟩) (by show w.heap.size + 1 ≠ w2.heap.size; omega) _)
  have HB4 : Hid (Below w.heap.size w (w3.setCell ⟨w2.heap.size, 1, none⟩ (.string l))) := Lib.hid ((below_only HB2.out g3 (by omega) HB2.out.size).setCell (p := ⟨w2.heap.size, 1, none⟩) (by show w.heap.size ≤ w2.heap.size; omega) _)
  have f3 := HFr3.out.frozen 1
  have m3 := HFr3.out.cell 1
  simp at m3
  clear hr3 g3 HR2 HA2 HU2 HB2 HFr2 HFr3
  obtain ⟨k0, k1, k2, k3, _⟩ := rr_cells HR4.out
  have hW : ∃ W4, w3.setCell ⟨w2.heap.size, 1, none⟩ (.string l) = W4 := ⟨_, rfl⟩
  go_wp2_with fail
  refine (rleft _ s p2 a2 0 _ hs HR4.out).mono ?_; rintro e w5 ⟨rfl, b5⟩
  have HR5 := Lib.hid (HR4.out.keep b5)
  have HA5 := Lib.hid (HA4.out.keep b5)
  have HU5 := Lib.hid (HU4.out.keep b5)
  have HFr5 := Lib.hid (HFr4.out.keep b5)
  have HB5 := Lib.hid (HB4.out.trans (b5.mono HB4.out.size))
  have hz5 : w2.heap.size < w5.heap.size := HFr5.out.lt
  clear b5 HR4 HA4 HU4 HB4 HFr4 m3 f3 k0 k1 k2 k3
  obtain ⟨k0, k1, k2, k3, _⟩ := rr_cells HR5.out
  have r0 := HA5.out.cell 0
  have r1 := HA5.out.cell 1
  have i0 := HA5.out.frozen 0
  have i1 := HA5.out.frozen 1
  have u0 := HU5.out.cell 0
  have u1 := HU5.out.cell 1
  have j0 := HU5.out.frozen 0
  have j1 := HU5.out.frozen 1
  simp at r0 r1 u0 u1
  go_wp2
  go_region
  go_wp2
  exact bodyPost_ret (v := .tuple #[.agg #[.int .i64 0, .string ⟨#[]⟩], .int .i64 0, .agg #[.int .i64 (p2 : Int), .int .i64 1]]) (by simp [results, Tryd.results15, go_sem, r0, r1, u0, u1]) rfl (rnxp HT.out (by omega) (by omega) (by repeat (first | exact HB5.out | apply Below.drew | refine Below.setCell ?_ (by simp) _ | refine Below.setCell ?_ (by simp; omega) _)))
set_option maxRecDepth 100000 in
set_option maxHeartbeats 3200000 in
theorem rnx_sum (s l : ByteArray) (w : World) (p1 p2 : Nat) (a1 a2 : Int) (v : Nat) (hs : s.size ≤ 100000)
    (D1 : ∀ b W, RR W b s 0 0 0 → Calls Tryd.prog 49 #[.pointer (some ⟨b, 0, none⟩), .int .i64 99] W fun e w' => e = .returned (.int .i64 (v : Int)) ∧ RR w' b s p1 a1 0 ∧ W.grownBy w' (some b))
    (D2 : ∀ b W, RR W b s p1 a1 0 → Calls Tryd.prog 50 #[.pointer (some ⟨b, 0, none⟩), .int .i64 4096] W fun e w' => e = .returned (.string l) ∧ RR w' b s p2 a2 0 ∧ W.grownBy w' (some b))
    (hv : ¬ v = 0)
    (hsh : ¬ s.size < p2 + 4)
    (hp2 : p2 ≤ s.size)
    (hen : endsB (s.extract 0 (p2 + 4)) = false) :
    Calls Tryd.prog 15 #[.string s] w (RNxP s l v p2 0 a2 0 w) := by
  have HT := Lib.hid (show FnAll s l v p2 0 a2 0 _ _ _ _ _ from fn_sum (by omega) hsh hen)
  have HD1 := Lib.hid D1
  have HD2 := Lib.hid D2
  have g1 : ((v : Int) == 0) = false := by simpa using hv
  have g1b : (v == 0) = false := by simpa using hv
  have HP2 := Lib.hid hp2
  have HSZ := Lib.hid hsh
  have d1 : decide ((s.size : Int) - (p2 : Int) < 4) = false := decide_eq_false (by omega)
  have q1 : IntKind.i64.wrap ((p2 : Int) + 4) = (p2 : Int) + 4 := IntWalk.i64_in _ (by omega)
  have q2 : (p2 : Int) + 4 ≤ (s.size : Int) := by omega
  have q3 : ((p2 : Int) + 4).toNat = p2 + 4 := by omega
  have q4 : (0 : Int) ≤ (p2 : Int) + 4 := by omega
  have D3 := Lib.hid (fun W => rends_any (s.extract 0 (p2 + 4)) W (by rw [ByteArray.size_extract]; omega))
  rw [hen] at D3
  clear D1 D2 hv hp2 hsh hen
  have HA1 : Hid (Blk (((w.alloc (.cells #[.int .i64 0, .string ⟨#[]⟩] 23)).alloc (.cells #[.int .i64 0, .int .i64 0] 37)).alloc (.cells #[.string s, .int .i64 0, .int .i64 0, .int .i64 0] 77)) w.heap.size 23 #[.int .i64 0, .string ⟨#[]⟩]) := Lib.hid (((Blk.new w 23 #[.int .i64 0, .string ⟨#[]⟩]).alloc _).alloc _)
  have HU1 : Hid (Blk (((w.alloc (.cells #[.int .i64 0, .string ⟨#[]⟩] 23)).alloc (.cells #[.int .i64 0, .int .i64 0] 37)).alloc (.cells #[.string s, .int .i64 0, .int .i64 0, .int .i64 0] 77)) (w.heap.size + 1) 37 #[.int .i64 0, .int .i64 0]) := Lib.hid (by
    have h := (Blk.new (w.alloc (.cells #[.int .i64 0, .string ⟨#[]⟩] 23)) 37 #[.int .i64 0, .int .i64 0]).alloc (.cells #[.string s, .int .i64 0, .int .i64 0, .int .i64 0] 77)
    simpa using h)
  have HR1 : Hid (RR (((w.alloc (.cells #[.int .i64 0, .string ⟨#[]⟩] 23)).alloc (.cells #[.int .i64 0, .int .i64 0] 37)).alloc (.cells #[.string s, .int .i64 0, .int .i64 0, .int .i64 0] 77)) (w.heap.size + 1 + 1) s 0 0 0) := Lib.hid ⟨Nat.zero_le _, by
    have h := Blk.new ((w.alloc (.cells #[.int .i64 0, .string ⟨#[]⟩] 23)).alloc (.cells #[.int .i64 0, .int .i64 0] 37)) 77 #[.string s, .int .i64 0, .int .i64 0, .int .i64 0]
    simpa using h⟩
  have HB1 := Lib.hid (Joins.below_alloc3 w (.cells #[.int .i64 0, .string ⟨#[]⟩] 23) (.cells #[.int .i64 0, .int .i64 0] 37) (.cells #[.string s, .int .i64 0, .int .i64 0, .int .i64 0] 77))
  go_enter Tryd.func15, Tryd.ntmps15
  go_wp2_with fail
  refine (HD1.out _ _ HR1.out).mono ?_; rintro e w2 ⟨rfl, hr2, g2⟩
  have hl0 : w.heap.size + 1 + 1 < w2.heap.size := hr2.lt
  have hne1 : ¬ w2.heap.size = w.heap.size := by omega
  have hne2 : ¬ w2.heap.size = w.heap.size + 1 := by omega
  have hne5 : ¬ w2.heap.size = w.heap.size + 1 + 1 := by omega
  have hne3 : ¬ w.heap.size = w2.heap.size := by omega
  have hne4 : ¬ w.heap.size + 1 = w2.heap.size := by omega
  have hne6 : ¬ w.heap.size + 1 + 1 = w2.heap.size := by omega
  have HA2 := Lib.hid ((HA1.out.grown g2 (by intro e; injection e with e; omega)).alloc (.cells #[.int .i64 (v : Int), .string ⟨#[]⟩] 23))
  have HU2 := Lib.hid ((HU1.out.grown g2 (by intro e; injection e with e; omega)).alloc (.cells #[.int .i64 (v : Int), .string ⟨#[]⟩] 23))
  have HB2 := Lib.hid ((below_only HB1.out g2 (by omega) HB1.out.size).alloc (by omega) (.cells #[.int .i64 (v : Int), .string ⟨#[]⟩] 23))
  have HR2 := Lib.hid (hr2.keep (Joins.below_alloc1 w2 (.cells #[.int .i64 (v : Int), .string ⟨#[]⟩] 23)))
  have HFr2 := Lib.hid (Blk.new w2 23 #[.int .i64 (v : Int), .string ⟨#[]⟩])
  obtain ⟨k0, k1, k2, k3, _⟩ := rr_cells hr2
  clear hr2 g2 HR1 HA1 HU1 HB1
  go_wp2_with fail
  refine (HD2.out _ _ HR2.out).mono ?_; rintro e w3 ⟨rfl, hr3, g3⟩
  clear k0 k1 k2 k3
  have hz3 : w2.heap.size < w3.heap.size := by have := g3.size; simp at this; omega
  have HFr3 : Hid (Blk w3 w2.heap.size 23 #[.int .i64 (v : Int), .string ⟨#[]⟩]) := Lib.hid (HFr2.out.grown g3 (by intro e; injection e with e; omega))
  have HFr4 : Hid (Blk (w3.setCell ⟨w2.heap.size, 1, none⟩ (.string l)) w2.heap.size 23 #[.int .i64 (v : Int), .string l]) := Lib.hid (by simpa using HFr3.out.set_ 1 (.string l))
  have HR4 : Hid (RR (w3.setCell ⟨w2.heap.size, 1, none⟩ (.string l)) (w.heap.size + 1 + 1) s p2 a2 0) := Lib.hid (hr3.far hne6 _)
  have HA4 : Hid (Blk (w3.setCell ⟨w2.heap.size, 1, none⟩ (.string l)) w.heap.size 23 #[.int .i64 0, .string ⟨#[]⟩]) := Lib.hid ((HA2.out.grown g3 (by intro e; injection e with e; omega)).far (p := ⟨w2.heap.size, 1, none⟩) (by show w.heap.size ≠ w2.heap.size; omega) _)
  have HU4 : Hid (Blk (w3.setCell ⟨w2.heap.size, 1, none⟩ (.string l)) (w.heap.size + 1) 37 #[.int .i64 0, .int .i64 0]) := Lib.hid ((HU2.out.grown g3 (by intro e; injection e with e; omega)).far (p := ⟨w2.heap.size, 1, none⟩) (by show w.heap.size + 1 ≠ w2.heap.size; omega) _)
  have HB4 : Hid (Below w.heap.size w (w3.setCell ⟨w2.heap.size, 1, none⟩ (.string l))) := Lib.hid ((below_only HB2.out g3 (by omega) HB2.out.size).setCell (p := ⟨w2.heap.size, 1, none⟩) (by show w.heap.size ≤ w2.heap.size; omega) _)
  have f3 := HFr3.out.frozen 1
  have m3 := HFr3.out.cell 1
  simp at m3
  clear hr3 g3 HR2 HA2 HU2 HB2 HFr2 HFr3
  obtain ⟨k0, k1, k2, k3, _⟩ := rr_cells HR4.out
  have hW : ∃ W4, w3.setCell ⟨w2.heap.size, 1, none⟩ (.string l) = W4 := ⟨_, rfl⟩
  go_wp2_with fail
  refine (rleft _ s p2 a2 0 _ hs HR4.out).mono ?_; rintro e w5 ⟨rfl, b5⟩
  have HR5 := Lib.hid (HR4.out.keep b5)
  have HA5 := Lib.hid (HA4.out.keep b5)
  have HU5 := Lib.hid (HU4.out.keep b5)
  have HFr5 := Lib.hid (HFr4.out.keep b5)
  have HB5 := Lib.hid (HB4.out.trans (b5.mono HB4.out.size))
  have hz5 : w2.heap.size < w5.heap.size := HFr5.out.lt
  clear b5 HR4 HA4 HU4 HB4 HFr4 m3 f3 k0 k1 k2 k3
  obtain ⟨k0, k1, k2, k3, _⟩ := rr_cells HR5.out
  go_wp2_with fail
  refine (D3.out _).mono ?_; rintro e w6 ⟨rfl, b6⟩
  have HR6 := Lib.hid (HR5.out.keep b6)
  have HA6 := Lib.hid (HA5.out.keep b6)
  have HU6 := Lib.hid (HU5.out.keep b6)
  have HFr6 := Lib.hid (HFr5.out.keep b6)
  have HB6 := Lib.hid (HB5.out.trans (b6.mono HB5.out.size))
  have hz6 : w2.heap.size < w6.heap.size := HFr6.out.lt
  clear b6 HR5 HA5 HU5 HB5 HFr5 k0 k1 k2 k3
  obtain ⟨k0, k1, k2, k3, _⟩ := rr_cells HR6.out
  have r0 := HA6.out.cell 0
  have r1 := HA6.out.cell 1
  have i0 := HA6.out.frozen 0
  have i1 := HA6.out.frozen 1
  have u0 := HU6.out.cell 0
  have u1 := HU6.out.cell 1
  have j0 := HU6.out.frozen 0
  have j1 := HU6.out.frozen 1
  simp at r0 r1 u0 u1
  go_wp2
  go_region
  go_wp2
  exact bodyPost_ret (v := .tuple #[.agg #[.int .i64 0, .string ⟨#[]⟩], .int .i64 0, .agg #[.int .i64 (p2 : Int), .int .i64 13]]) (by simp [results, Tryd.results15, go_sem, r0, r1, u0, u1]) rfl (rnxp HT.out (by omega) (by omega) (by repeat (first | exact HB6.out | apply Below.drew | refine Below.setCell ?_ (by simp) _ | refine Below.setCell ?_ (by simp; omega) _)))
set_option maxRecDepth 100000 in
set_option maxHeartbeats 3200000 in
theorem rnx_ok (s l : ByteArray) (w : World) (p1 p2 : Nat) (a1 a2 : Int) (v : Nat) (hs : s.size ≤ 100000)
    (D1 : ∀ b W, RR W b s 0 0 0 → Calls Tryd.prog 49 #[.pointer (some ⟨b, 0, none⟩), .int .i64 99] W fun e w' => e = .returned (.int .i64 (v : Int)) ∧ RR w' b s p1 a1 0 ∧ W.grownBy w' (some b))
    (D2 : ∀ b W, RR W b s p1 a1 0 → Calls Tryd.prog 50 #[.pointer (some ⟨b, 0, none⟩), .int .i64 4096] W fun e w' => e = .returned (.string l) ∧ RR w' b s p2 a2 0 ∧ W.grownBy w' (some b))
    (hv : ¬ v = 0)
    (hsh : ¬ s.size < p2 + 4)
    (hp2 : p2 ≤ s.size)
    (hen : endsB (s.extract 0 (p2 + 4)) = true) :
    Calls Tryd.prog 15 #[.string s] w (RNxP s l v p2 0 a2 0 w) := by
  have HT := Lib.hid (show FnAll s l v p2 0 a2 0 _ _ _ _ _ from fn_ok (by omega) hsh hen)
  have HD1 := Lib.hid D1
  have HD2 := Lib.hid D2
  have g1 : ((v : Int) == 0) = false := by simpa using hv
  have g1b : (v == 0) = false := by simpa using hv
  have HP2 := Lib.hid hp2
  have HSZ := Lib.hid hsh
  have d1 : decide ((s.size : Int) - (p2 : Int) < 4) = false := decide_eq_false (by omega)
  have q1 : IntKind.i64.wrap ((p2 : Int) + 4) = (p2 : Int) + 4 := IntWalk.i64_in _ (by omega)
  have q2 : (p2 : Int) + 4 ≤ (s.size : Int) := by omega
  have q3 : ((p2 : Int) + 4).toNat = p2 + 4 := by omega
  have q4 : (0 : Int) ≤ (p2 : Int) + 4 := by omega
  have D3 := Lib.hid (fun W => rends_any (s.extract 0 (p2 + 4)) W (by rw [ByteArray.size_extract]; omega))
  rw [hen] at D3
  clear D1 D2 hv hp2 hsh hen
  have HA1 : Hid (Blk (((w.alloc (.cells #[.int .i64 0, .string ⟨#[]⟩] 23)).alloc (.cells #[.int .i64 0, .int .i64 0] 37)).alloc (.cells #[.string s, .int .i64 0, .int .i64 0, .int .i64 0] 77)) w.heap.size 23 #[.int .i64 0, .string ⟨#[]⟩]) := Lib.hid (((Blk.new w 23 #[.int .i64 0, .string ⟨#[]⟩]).alloc _).alloc _)
  have HU1 : Hid (Blk (((w.alloc (.cells #[.int .i64 0, .string ⟨#[]⟩] 23)).alloc (.cells #[.int .i64 0, .int .i64 0] 37)).alloc (.cells #[.string s, .int .i64 0, .int .i64 0, .int .i64 0] 77)) (w.heap.size + 1) 37 #[.int .i64 0, .int .i64 0]) := Lib.hid (by
    have h := (Blk.new (w.alloc (.cells #[.int .i64 0, .string ⟨#[]⟩] 23)) 37 #[.int .i64 0, .int .i64 0]).alloc (.cells #[.string s, .int .i64 0, .int .i64 0, .int .i64 0] 77)
    simpa using h)
  have HR1 : Hid (RR (((w.alloc (.cells #[.int .i64 0, .string ⟨#[]⟩] 23)).alloc (.cells #[.int .i64 0, .int .i64 0] 37)).alloc (.cells #[.string s, .int .i64 0, .int .i64 0, .int .i64 0] 77)) (w.heap.size + 1 + 1) s 0 0 0) := Lib.hid ⟨Nat.zero_le _, by
    have h := Blk.new ((w.alloc (.cells #[.int .i64 0, .string ⟨#[]⟩] 23)).alloc (.cells #[.int .i64 0, .int .i64 0] 37)) 77 #[.string s, .int .i64 0, .int .i64 0, .int .i64 0]
    simpa using h⟩
  have HB1 := Lib.hid (Joins.below_alloc3 w (.cells #[.int .i64 0, .string ⟨#[]⟩] 23) (.cells #[.int .i64 0, .int .i64 0] 37) (.cells #[.string s, .int .i64 0, .int .i64 0, .int .i64 0] 77))
  go_enter Tryd.func15, Tryd.ntmps15
  go_wp2_with fail
  refine (HD1.out _ _ HR1.out).mono ?_; rintro e w2 ⟨rfl, hr2, g2⟩
  have hl0 : w.heap.size + 1 + 1 < w2.heap.size := hr2.lt
  have hne1 : ¬ w2.heap.size = w.heap.size := by omega
  have hne2 : ¬ w2.heap.size = w.heap.size + 1 := by omega
  have hne5 : ¬ w2.heap.size = w.heap.size + 1 + 1 := by omega
  have hne3 : ¬ w.heap.size = w2.heap.size := by omega
  have hne4 : ¬ w.heap.size + 1 = w2.heap.size := by omega
  have hne6 : ¬ w.heap.size + 1 + 1 = w2.heap.size := by omega
  have HA2 := Lib.hid ((HA1.out.grown g2 (by intro e; injection e with e; omega)).alloc (.cells #[.int .i64 (v : Int), .string ⟨#[]⟩] 23))
  have HU2 := Lib.hid ((HU1.out.grown g2 (by intro e; injection e with e; omega)).alloc (.cells #[.int .i64 (v : Int), .string ⟨#[]⟩] 23))
  have HB2 := Lib.hid ((below_only HB1.out g2 (by omega) HB1.out.size).alloc (by omega) (.cells #[.int .i64 (v : Int), .string ⟨#[]⟩] 23))
  have HR2 := Lib.hid (hr2.keep (Joins.below_alloc1 w2 (.cells #[.int .i64 (v : Int), .string ⟨#[]⟩] 23)))
  have HFr2 := Lib.hid (Blk.new w2 23 #[.int .i64 (v : Int), .string ⟨#[]⟩])
  obtain ⟨k0, k1, k2, k3, _⟩ := rr_cells hr2
  clear hr2 g2 HR1 HA1 HU1 HB1
  go_wp2_with fail
  refine (HD2.out _ _ HR2.out).mono ?_; rintro e w3 ⟨rfl, hr3, g3⟩
  clear k0 k1 k2 k3
  have hz3 : w2.heap.size < w3.heap.size := by have := g3.size; simp at this; omega
  have HFr3 : Hid (Blk w3 w2.heap.size 23 #[.int .i64 (v : Int), .string ⟨#[]⟩]) := Lib.hid (HFr2.out.grown g3 (by intro e; injection e with e; omega))
  have HFr4 : Hid (Blk (w3.setCell ⟨w2.heap.size, 1, none⟩ (.string l)) w2.heap.size 23 #[.int .i64 (v : Int), .string l]) := Lib.hid (by simpa using HFr3.out.set_ 1 (.string l))
  have HR4 : Hid (RR (w3.setCell ⟨w2.heap.size, 1, none⟩ (.string l)) (w.heap.size + 1 + 1) s p2 a2 0) := Lib.hid (hr3.far hne6 _)
  have HA4 : Hid (Blk (w3.setCell ⟨w2.heap.size, 1, none⟩ (.string l)) w.heap.size 23 #[.int .i64 0, .string ⟨#[]⟩]) := Lib.hid ((HA2.out.grown g3 (by intro e; injection e with e; omega)).far (p := ⟨w2.heap.size, 1, none⟩) (by show w.heap.size ≠ w2.heap.size; omega) _)
  have HU4 : Hid (Blk (w3.setCell ⟨w2.heap.size, 1, none⟩ (.string l)) (w.heap.size + 1) 37 #[.int .i64 0, .int .i64 0]) := Lib.hid ((HU2.out.grown g3 (by intro e; injection e with e; omega)).far (p := ⟨w2.heap.size, 1, none⟩) (by show w.heap.size + 1 ≠ w2.heap.size; omega) _)
  have HB4 : Hid (Below w.heap.size w (w3.setCell ⟨w2.heap.size, 1, none⟩ (.string l))) := Lib.hid ((below_only HB2.out g3 (by omega) HB2.out.size).setCell (p := ⟨w2.heap.size, 1, none⟩) (by show w.heap.size ≤ w2.heap.size; omega) _)
  have f3 := HFr3.out.frozen 1
  have m3 := HFr3.out.cell 1
  simp at m3
  clear hr3 g3 HR2 HA2 HU2 HB2 HFr2 HFr3
  obtain ⟨k0, k1, k2, k3, _⟩ := rr_cells HR4.out
  have hW : ∃ W4, w3.setCell ⟨w2.heap.size, 1, none⟩ (.string l) = W4 := ⟨_, rfl⟩
  go_wp2_with fail
  refine (rleft _ s p2 a2 0 _ hs HR4.out).mono ?_; rintro e w5 ⟨rfl, b5⟩
  have HR5 := Lib.hid (HR4.out.keep b5)
  have HA5 := Lib.hid (HA4.out.keep b5)
  have HU5 := Lib.hid (HU4.out.keep b5)
  have HFr5 := Lib.hid (HFr4.out.keep b5)
  have HB5 := Lib.hid (HB4.out.trans (b5.mono HB4.out.size))
  have hz5 : w2.heap.size < w5.heap.size := HFr5.out.lt
  clear b5 HR4 HA4 HU4 HB4 HFr4 m3 f3 k0 k1 k2 k3
  obtain ⟨k0, k1, k2, k3, _⟩ := rr_cells HR5.out
  go_wp2_with fail
  refine (D3.out _).mono ?_; rintro e w6 ⟨rfl, b6⟩
  have HR6 := Lib.hid (HR5.out.keep b6)
  have HA6 := Lib.hid (HA5.out.keep b6)
  have HU6 := Lib.hid (HU5.out.keep b6)
  have HFr6 := Lib.hid (HFr5.out.keep b6)
  have HB6 := Lib.hid (HB5.out.trans (b6.mono HB5.out.size))
  have hz6 : w2.heap.size < w6.heap.size := HFr6.out.lt
  clear b6 HR5 HA5 HU5 HB5 HFr5 k0 k1 k2 k3
  obtain ⟨k0, k1, k2, k3, _⟩ := rr_cells HR6.out
  have r0 := HA6.out.cell 0
  have r1 := HA6.out.cell 1
  have i0 := HA6.out.frozen 0
  have i1 := HA6.out.frozen 1
  have u0 := HU6.out.cell 0
  have u1 := HU6.out.cell 1
  have j0 := HU6.out.frozen 0
  have j1 := HU6.out.frozen 1
  simp at r0 r1 u0 u1
  have c0 := HFr6.out.cell 0
  have c1 := HFr6.out.cell 1
  simp at c0 c1
  go_wp2
  go_region
  go_wp2
  exact bodyPost_ret (v := .tuple #[.agg #[.int .i64 (v : Int), .string l], .int .i64 ((p2 : Int) + 4), .agg #[.int .i64 0, .int .i64 0]]) (by simp [results, Tryd.results15, go_sem, r0, r1, u0, u1]) rfl (rnxp HT.out (by omega) (by omega) (by repeat (first | exact HB6.out | apply Below.drew | refine Below.setCell ?_ (by simp) _ | refine Below.setCell ?_ (by simp; omega) _)))
end Go.Proofs.YtofpefbnkmeokaaDoor
