/- The law FrameReads returns true for every input: the frames of any bytes, the first, the only one and all, or what is wrong and where, are as specified.
   Conditions: the package variable errors.errorType holds its handle (the row's own). -/
import Derived.Test.YtofpefbnkmeokaaDoorFrRead
import Derived.Test.YtofpefbnkmeokaaDoorSeenN
import Derived.Test.YtofpefbnkmeokaaDoorTail
import Derived.Test.YtofpefbnkmeokaaDoorDoor
namespace Go.Proofs.YtofpefbnkmeokaaDoor.lawFrameReads
open Go.ChangeShapes Go.WideShapes Go.ChangeAt Go.RowKit
open Go.ChangeMaps (open_string shut_string)
set_option linter.unusedVariables false
def RowsAt (w : World) (A : Option Addr) (n : Nat) (s : ByteArray) : Prop :=
  ∀ j, j < n → ∃ g off, A = some ⟨g, off, none⟩ ∧ w.cell? ⟨g, off + j * 2, none⟩ = some (.int .i64 (nxK (tl s (alP s j)) : Int)) ∧ w.cell? ⟨g, off + j * 2 + 1, none⟩ = some (.string (nxL (tl s (alP s j))))
theorem rows_keep {w w' : World} {A : Option Addr} {n : Nat} {s : ByteArray} (h : RowsAt w A n s) (hb : Below w.heap.size w w') : RowsAt w' A n s := by
  intro j hj
  obtain ⟨g, off, e, c0, c1⟩ := h j hj
  have hl := World.block_lt_of_cell? w _ c0
  exact ⟨g, off, e, by rw [hb.cell (p := ⟨g, off + j * 2, none⟩) hl]; exact c0, by rw [hb.cell (p := ⟨g, off + j * 2 + 1, none⟩) hl]; exact c1⟩
theorem own_rows {w : World} {base : Nat} {e : TypeId} {v : Value} {n : Nat} {s : ByteArray} (h : w.ownsRow base e 2 v n (alL s n)) : ∃ A cap, v = .slice A n cap ∧ RowsAt w A n s := by
  rcases h.2 with ⟨rfl, rfl⟩ | ⟨g, cap, cur, rfl, _⟩
  · exact ⟨none, 0, rfl, fun j hj => absurd hj (by omega)⟩
  · refine ⟨_, cap, rfl, fun j hj => ⟨g, 0, rfl, ?_, ?_⟩⟩
    · rw [Nat.zero_add, h.cellAt (j * 2) (by omega)]
      exact (alL_at s n j hj).1
    · rw [Nat.zero_add, h.cellAt (j * 2 + 1) (by omega)]
      exact (alL_at s n j hj).2
theorem ale_keep {s : ByteArray} {n : Nat} {w w' : World} {ev : Value} (h : AlE s n w ev) (hb : Below w.heap.size w w') : AlE s n w' ev := by
  rcases h with h | ⟨h1, h2, fb, gb, e, h3, h4⟩
  · exact .inl h
  · exact .inr ⟨h1, h2, fb, gb, e, h3.keep hb, h4.keep hb⟩
theorem own_shape {w : World} {base : Nat} {e : TypeId} {v : Value} {n : Nat} {xs : List Value} (h : w.ownsRow base e 2 v n xs) : ∃ A cap, v = .slice A n cap := by
  rcases h.2 with ⟨rfl, rfl⟩ | ⟨g, cap, cur, rfl, _⟩
  · exact ⟨none, 0, rfl⟩
  · exact ⟨_, cap, rfl⟩
theorem rows_of {w : World} {base : Nat} {e : TypeId} {A : Option Addr} {cap n : Nat} {s : ByteArray} (h : w.ownsRow base e 2 (.slice A n cap) n (alL s n)) : RowsAt w A n s := by
  obtain ⟨A', cap', e1, h1⟩ := own_rows h
  injection e1 with e1
  subst e1
  exact h1
theorem ale_set2 {s : ByteArray} {n : Nat} {w : World} {ev : Value} (h : AlE s n w ev) {x : Nat} {t : TypeId} {cs : Array Value} (hx : Blk w x t cs) (ht : 42 ≠ t) (u0 u1 : Value) : AlE s n ((w.setCell ⟨x, 0, none⟩ u0).setCell ⟨x, 1, none⟩ u1) ev := by
  rcases h with h | ⟨h1, h2, fb, gb, e, h3, h4⟩
  · exact .inl h
  · exact .inr ⟨h1, h2, fb, gb, e, (h3.far (p := ⟨x, 0, none⟩) (h3.ne_ hx ht) u0).far (p := ⟨x, 1, none⟩) (h3.ne_ hx ht) u1, (h4.far (p := ⟨x, 0, none⟩) (h4.ne_ hx ht) u0).far (p := ⟨x, 1, none⟩) (h4.ne_ hx ht) u1⟩
theorem ask_all {s : ByteArray} {n : Nat} {W : World} {ev : Value} (hs : s.size ≤ 100000) (hg : ET W) (h : AlE s n W ev) : Ask W 13 #[ev] (.agg #[.int .i64 (alRA s n), .int .i64 (alRE s n)]) := fun dq osq =>
  seen_all s n ev _ hs (hg.keep (below_regrown W dq osq)) (ale_keep h (below_regrown W dq osq))
theorem fr_neF (k : Int) (l : ByteArray) (W : World) : (binOp .neq 23 (.agg #[.int .i64 k, .string l]) (.agg #[.int .i64 k, .string l])).run Tryd.prog W = Result.ok (.bool false) W := by
  simp [go_sem]
theorem fu_neF (a e : Int) (W : World) : (binOp .neq 37 (.agg #[.int .i64 a, .int .i64 e]) (.agg #[.int .i64 a, .int .i64 e])).run Tryd.prog W = Result.ok (.bool false) W := by
  simp [go_sem]
set_option maxRecDepth 100000 in
set_option maxHeartbeats 12800000 in
theorem walk (s : ByteArray) (w : World) (w0 : s.size ≤ maxLen) (hg : ET w) :
    Calls Tryd.prog 4 #[.string s] w fun e w' => e = .returned (.bool true) ∧ Below w.heap.size w w' := by
  unfold maxLen at w0
  by_cases hs : s.size ≤ 9000
  · have hs2 : ¬ (9000 < (s.size : Int)) := by omega
    have hTz : s.size ≤ 100000 := by omega
    have HG := Lib.hid hg
    obtain ⟨n, hst, hlt⟩ := al_least s
    have hn0 := alP_grows n hlt
    have hn1 := alP_le s n
    have hn : n ≤ 9000 := by omega
    obtain ⟨_, hx0, hx1, _, _⟩ := nx_bounds s
    obtain ⟨hy0, hy1⟩ := fr_bounds s
    have D1 := Lib.hid (fun W => fnext s W hTz)
    have D2 := Lib.hid (fun W => rfnext s W hTz)
    have D3 := Lib.hid (fun W => fread s W hTz)
    have D4 := Lib.hid (fun W => rfread s W hTz)
    have D5 := Lib.hid (fun W => fall s W n hTz hst hlt)
    have D6 := Lib.hid (fun W => rfall s W n hTz hst hlt)
    unfold FrP at D3
    unfold RFrP at D4
    have HAL := Lib.hid (fun W ev (h : ET W) (h2 : AlE s n W ev) => ask_all hTz h h2)
    have HS1 := Lib.hid (fun W ev (h : ET W) (h2 : EV W ev (nxA s) (nxE s)) => ask_seen h hx0 (by omega) h2)
    have HS2 := Lib.hid (fun W ev (h : ET W) (h2 : EV W ev (frRA s) (frRE s)) => ask_seen h hy0 (by omega) h2)
    unfold Ask at HAL HS1 HS2
    obtain ⟨K, hK⟩ : ∃ x, nxK s = x := ⟨_, rfl⟩
    obtain ⟨N, hN⟩ : ∃ x, nxN s = x := ⟨_, rfl⟩
    obtain ⟨L, hL⟩ : ∃ x, nxL s = x := ⟨_, rfl⟩
    obtain ⟨A, hA⟩ : ∃ x, nxA s = x := ⟨_, rfl⟩
    obtain ⟨E, hE⟩ : ∃ x, nxE s = x := ⟨_, rfl⟩
    obtain ⟨K2, hK2⟩ : ∃ x, frRK s = x := ⟨_, rfl⟩
    obtain ⟨L2, hL2⟩ : ∃ x, frRL s = x := ⟨_, rfl⟩
    obtain ⟨A2, hA2⟩ : ∃ x, frRA s = x := ⟨_, rfl⟩
    obtain ⟨E2, hE2⟩ : ∃ x, frRE s = x := ⟨_, rfl⟩
    obtain ⟨P3, hP3⟩ : ∃ x, alP s n = x := ⟨_, rfl⟩
    obtain ⟨A3, hA3⟩ : ∃ x, alRA s n = x := ⟨_, rfl⟩
    obtain ⟨E3, hE3⟩ : ∃ x, alRE s n = x := ⟨_, rfl⟩
    rw [hK, hN, hL, hA, hE] at D1 D2
    rw [hA, hE] at HS1
    rw [hK2, hL2, hA2, hE2] at D3 D4
    rw [hA2, hE2] at HS2
    rw [hP3] at D5 D6
    rw [hA3, hE3] at D6 HAL
    clear hst hlt hx0 hx1 hy0 hy1 hn0 hn1 hg hK hN hL hA hE hK2 hL2 hA2 hE2 hP3 hA3 hE3
    have z1 := fr_neF (K : Int) L
    have z2 := fu_neF A E
    have z3 := fr_neF (K2 : Int) L2
    have z4 := fu_neF A2 E2
    have z5 := fu_neF A3 E3
    have F1 := Lib.hid (fun W => ffrom (K : Int) L W)
    have F2 := Lib.hid (fun W => ffrom (K2 : Int) L2 W)
    go_enter Tryd.func4, Tryd.ntmps4
    go_wp2_with fail
    refine (D1.out _).mono ?_; rintro e w1 ⟨ev, rfl, hev, b1⟩
    have HP1 := Lib.hid (Blk.new w1 29 #[.int .i64 (K : Int), .string L])
    have HEV1 := Lib.hid (hev.keep (Joins.below_alloc1 w1 (.cells #[.int .i64 (K : Int), .string L] 29)))
    have HB1 := Lib.hid (b1.alloc b1.size (.cells #[.int .i64 (K : Int), .string L] 29))
    obtain ⟨p1, hp1⟩ : ∃ x, w1.heap.size = x := ⟨_, rfl⟩
    clear b1 hev
    go_wp2_with fail
    rw [hp1] at HP1
    clear hp1
    generalize w1.alloc (.cells #[.int .i64 (K : Int), .string L] 29) = W2 at *
    clear w1
    refine (D2.out _).mono ?_; rintro e w3 ⟨rfl, b3⟩
    have HA4 := Lib.hid ((Joins.below_alloc2 w3 (.cells #[.int .i64 (K : Int), .string L] 23) (.cells #[.int .i64 A, .int .i64 E] 37)))
    have HP4 := Lib.hid ((HP1.out.keep b3).keep HA4.out)
    have HEV4 := Lib.hid ((HEV1.out.keep b3).keep HA4.out)
    have HB3 := Lib.hid (HB1.out.trans (b3.mono HB1.out.size))
    have HB4 := Lib.hid (HB3.out.trans (HA4.out.mono HB3.out.size))
    have HQ4 := Lib.hid ((Blk.new w3 23 #[.int .i64 (K : Int), .string L]).alloc (.cells #[.int .i64 A, .int .i64 E] 37))
    have HU4 := Lib.hid (Blk.new (w3.alloc (.cells #[.int .i64 (K : Int), .string L] 23)) 37 #[.int .i64 A, .int .i64 E])
    rw [show (w3.alloc (.cells #[.int .i64 (K : Int), .string L] 23)).heap.size = w3.heap.size + 1 by simp] at HU4
    have hpu : w.heap.size ≤ w3.heap.size + 1 := by have := HB3.out.size; omega
    clear b3 HP1 HEV1 HB1 HB3 HA4
    obtain ⟨q4, hq4⟩ : ∃ x, w3.heap.size = x := ⟨_, rfl⟩
    go_wp2
    rw [hq4] at HQ4 HU4 hpu
    clear hq4
    generalize (w3.alloc (.cells #[.int .i64 (K : Int), .string L] 23)).alloc (.cells #[.int .i64 A, .int .i64 E] 37) = W4 at *
    clear w3
    have a0 := cell_regrown (by simpa using HP4.out.cell 0)
    have a1 := cell_regrown (by simpa using HP4.out.cell 1)
    have a2 := cell_regrown (by simpa using HQ4.out.cell 0)
    have a3 := cell_regrown (by simpa using HQ4.out.cell 1)
    have a4 := cell_regrown (by simpa using HU4.out.cell 0)
    have a5 := cell_regrown (by simpa using HU4.out.cell 1)
    have T1 := Lib.hid (HS1.out W4 ev (HG.out.keep HB4.out) HEV4.out)
    refine wp_region_quiet_below (by kernel_rfl) (by kernel_rfl) ?_
    repeat (first | go_big_quiet_step ((first | with_reducible exact Calls.regrown_of (F1.out _) | with_reducible exact Calls.regrown_of (T1.out _ _))) | quiet_step ((first | with_reducible exact Calls.regrown_of (F1.out _) | with_reducible exact Calls.regrown_of (T1.out _ _))))
    refine wpQuiet_nil ?_
    intro _ hw'
    obtain ⟨⟨dq, osq⟩, hw''⟩ := hw'
    subst hw''
    have HB5 := Lib.hid (HB4.out.trans ((below_regrown W4 dq osq).mono HB4.out.size))
    have HU5 := Lib.hid (HU4.out.keep (below_regrown W4 dq osq))
    clear HP4 HEV4 HB4 HQ4 HU4 a0 a1 a2 a3 a4 a5 T1
    generalize Sort.grow (redrawn W4 dq) osq = W5 at *
    clear W4 W2
    go_wp2_with fail
    refine (D3.out _).mono ?_; rintro e w6 ⟨ev2, rfl, hev, b6⟩
    have HA7 := Lib.hid (Joins.below_alloc1 w6 (.cells #[.int .i64 (K2 : Int), .string L2] 29))
    have HP7 := Lib.hid (Blk.new w6 29 #[.int .i64 (K2 : Int), .string L2])
    have HEV7 := Lib.hid (hev.keep HA7.out)
    have HB6 := Lib.hid (HB5.out.trans (b6.mono HB5.out.size))
    have HB7 := Lib.hid (HB6.out.trans (HA7.out.mono HB6.out.size))
    have HU7 := Lib.hid ((HU5.out.keep b6).keep HA7.out)
    obtain ⟨p7, hp7⟩ : ∃ x, w6.heap.size = x := ⟨_, rfl⟩
    clear b6 hev HB5 HU5 HB6 HA7
    go_wp2_with fail
    rw [hp7] at HP7
    clear hp7
    generalize w6.alloc (.cells #[.int .i64 (K2 : Int), .string L2] 29) = W7 at *
    clear w6
    refine (D4.out _).mono ?_; rintro e w8 ⟨rfl, b8⟩
    have HB8 := Lib.hid (HB7.out.trans (b8.mono HB7.out.size))
    have HP8 := Lib.hid (HP7.out.keep b8)
    have HU8 := Lib.hid (HU7.out.keep b8)
    have HEV8 := Lib.hid (HEV7.out.keep b8)
    have hul : q4 + 1 < w8.heap.size := HU8.out.lt
    have hne1 : ¬ w8.heap.size = q4 + 1 := by omega
    have u0 := HU8.out.cell 0
    have u1 := HU8.out.cell 1
    have f0 := HU8.out.frozen 0
    have f1 := HU8.out.frozen 1
    simp at u0 u1
    have HUa := Lib.hid (HU8.out.alloc (.cells #[.int .i64 (K2 : Int), .string L2] 23))
    have x0 := HUa.out.cell 0
    have x1 := HUa.out.cell 1
    have l0 := HUa.out.frozen 0
    have l1 := HUa.out.frozen 1
    rw [show (#[Value.int .i64 A, Value.int .i64 E] : Array Value)[0]? = some (.int .i64 A) from rfl] at x0
    rw [show (#[Value.int .i64 A, Value.int .i64 E] : Array Value)[1]? = some (.int .i64 E) from rfl] at x1
    have HBs := Lib.hid ((HB8.out.setCell (p := ⟨q4 + 1, 0, none⟩) hpu (.int .i64 A2)).setCell (p := ⟨q4 + 1, 1, none⟩) hpu (.int .i64 E2))
    have HUs : Hid (Blk ((w8.setCell ⟨q4 + 1, 0, none⟩ (.int .i64 A2)).setCell ⟨q4 + 1, 1, none⟩ (.int .i64 E2)) (q4 + 1) 37 #[.int .i64 A2, .int .i64 E2]) := Lib.hid ((HU8.out.set_ 0 (.int .i64 A2)).set_ 1 (.int .i64 E2))
    have HPs : Hid (Blk ((w8.setCell ⟨q4 + 1, 0, none⟩ (.int .i64 A2)).setCell ⟨q4 + 1, 1, none⟩ (.int .i64 E2)) p7 29 #[.int .i64 (K2 : Int), .string L2]) := Lib.hid ((HP8.out.far (p := ⟨q4 + 1, 0, none⟩) (HP8.out.ne_ HU8.out (by decide)) _).far (p := ⟨q4 + 1, 1, none⟩) (HP8.out.ne_ HU8.out (by decide)) _)
    have HEs := Lib.hid (ev_set2 HEV8.out HU8.out (by decide) (.int .i64 A2) (.int .i64 E2))
    have hsS : ((w8.setCell ⟨q4 + 1, 0, none⟩ (.int .i64 A2)).setCell ⟨q4 + 1, 1, none⟩ (.int .i64 E2)).heap.size = w8.heap.size := by simp
    clear b8 HP7 HU7 HEV7 HB7 HUa
    go_wp2
    clear u0 u1 f0 f1 x0 x1 l0 l1 HB8 HP8 HU8 HEV8
    generalize (w8.setCell ⟨q4 + 1, 0, none⟩ (.int .i64 A2)).setCell ⟨q4 + 1, 1, none⟩ (.int .i64 E2) = S at *
    have HB9 := Lib.hid (HBs.out.alloc HBs.out.size (.cells #[.int .i64 (K2 : Int), .string L2] 23))
    have HP9 := Lib.hid (HPs.out.alloc (.cells #[.int .i64 (K2 : Int), .string L2] 23))
    have HU9 := Lib.hid (HUs.out.alloc (.cells #[.int .i64 (K2 : Int), .string L2] 23))
    have HEV9 := Lib.hid (HEs.out.keep (Joins.below_alloc1 S (.cells #[.int .i64 (K2 : Int), .string L2] 23)))
    have HQ9 := Lib.hid (Blk.new S 23 #[.int .i64 (K2 : Int), .string L2])
    rw [hsS] at HQ9
    clear hsS HBs HPs HUs HEs
    generalize S.alloc (.cells #[.int .i64 (K2 : Int), .string L2] 23) = W9 at *
    have a0 := cell_regrown (by simpa using HP9.out.cell 0)
    have a1 := cell_regrown (by simpa using HP9.out.cell 1)
    have a2 := cell_regrown (by simpa using HQ9.out.cell 0)
    have a3 := cell_regrown (by simpa using HQ9.out.cell 1)
    have a4 := cell_regrown (by simpa using HU9.out.cell 0)
    have a5 := cell_regrown (by simpa using HU9.out.cell 1)
    have T2 := Lib.hid (HS2.out W9 ev2 (HG.out.keep HB9.out) HEV9.out)
    refine wp_region_quiet_below (by kernel_rfl) (by kernel_rfl) ?_
    repeat (first | go_big_quiet_step ((first | with_reducible exact Calls.regrown_of (F2.out _) | with_reducible exact Calls.regrown_of (T2.out _ _))) | quiet_step ((first | with_reducible exact Calls.regrown_of (F2.out _) | with_reducible exact Calls.regrown_of (T2.out _ _))))
    refine wpQuiet_nil ?_
    intro _ hw'
    obtain ⟨⟨dq, osq⟩, hw''⟩ := hw'
    subst hw''
    have HB10 := Lib.hid (HB9.out.trans ((below_regrown W9 dq osq).mono HB9.out.size))
    have HU10 := Lib.hid (HU9.out.keep (below_regrown W9 dq osq))
    clear HP9 HEV9 HB9 HQ9 HU9 a0 a1 a2 a3 a4 a5 T2
    generalize Sort.grow (redrawn W9 dq) osq = W10 at *
    clear W9 S hul hne1
    go_wp2_with fail
    refine (D5.out _).mono ?_; rintro e w11 ⟨v1, ev3, rfl, hown, hale, b11⟩
    obtain ⟨R1, cap1, rfl⟩ := own_shape hown
    have hq10 : q4 + 1 < W10.heap.size := HU10.out.lt
    have HO11 := Lib.hid hown
    have HL11 := Lib.hid hale
    have HB11 := Lib.hid (HB10.out.trans (b11.mono HB10.out.size))
    have HU11 := Lib.hid (HU10.out.keep b11)
    clear hown hale b11 HB10 HU10
    go_wp2_with fail
    refine (D6.out _).mono ?_; rintro e w12 ⟨v2, rfl, hown, b12⟩
    obtain ⟨R2, cap2, rfl⟩ := own_shape hown
    have hq11 : q4 + 1 < w11.heap.size + 1 := by have := HU11.out.lt; omega
    have HO12 := Lib.hid (fo_keep HO11.out b12)
    have HO12b := Lib.hid hown
    have HL12 := Lib.hid (ale_keep HL11.out b12)
    have HB12 := Lib.hid (HB11.out.trans (b12.mono HB11.out.size))
    have HU12 := Lib.hid (HU11.out.keep b12)
    have u0 := HU12.out.cell 0
    have u1 := HU12.out.cell 1
    have f0 := HU12.out.frozen 0
    have f1 := HU12.out.frozen 1
    simp at u0 u1
    have HBs := Lib.hid ((HB12.out.setCell (p := ⟨q4 + 1, 0, none⟩) hpu (.int .i64 A3)).setCell (p := ⟨q4 + 1, 1, none⟩) hpu (.int .i64 E3))
    have HUs : Hid (Blk ((w12.setCell ⟨q4 + 1, 0, none⟩ (.int .i64 A3)).setCell ⟨q4 + 1, 1, none⟩ (.int .i64 E3)) (q4 + 1) 37 #[.int .i64 A3, .int .i64 E3]) := Lib.hid ((HU12.out.set_ 0 (.int .i64 A3)).set_ 1 (.int .i64 E3))
    have HLs := Lib.hid (ale_set2 HL12.out HU12.out (by decide) (.int .i64 A3) (.int .i64 E3))
    have HOs := Lib.hid (rows_of (fo_far2 HO12.out hq10 (.int .i64 A3) (.int .i64 E3)))
    have HOt := Lib.hid (rows_of (fo_far2 HO12b.out hq11 (.int .i64 A3) (.int .i64 E3)))
    clear hown b12 HO11 HL11 HB11 HU11
    go_wp2
    clear u0 u1 f0 f1 HO12 HO12b HL12 HB12 HU12
    generalize (w12.setCell ⟨q4 + 1, 0, none⟩ (.int .i64 A3)).setCell ⟨q4 + 1, 1, none⟩ (.int .i64 E3) = W13 at *
    have a4 := cell_regrown (by simpa using HUs.out.cell 0)
    have a5 := cell_regrown (by simpa using HUs.out.cell 1)
    have T3 := Lib.hid (HAL.out W13 ev3 (HG.out.keep HBs.out) HLs.out)
    refine wp_region_quiet_below (by kernel_rfl) (by kernel_rfl) ?_
    repeat (first | go_big_quiet_step ((first | with_reducible exact Calls.regrown_of (T3.out _ _))) | quiet_step ((first | with_reducible exact Calls.regrown_of (T3.out _ _))))
    refine wpQuiet_nil ?_
    intro _ hw'
    obtain ⟨⟨dq, osq⟩, hw''⟩ := hw'
    subst hw''
    have HB14 := Lib.hid (HBs.out.trans ((below_regrown W13 dq osq).mono HBs.out.size))
    have HO14 := Lib.hid (rows_keep HOs.out (below_regrown W13 dq osq))
    have HO15 := Lib.hid (rows_keep HOt.out (below_regrown W13 dq osq))
    clear HUs HLs HBs HOs HOt a4 a5 T3 D1 D2 D3 D4 D5 D6 HS1 HS2 HAL z1 z2 z3 z4 z5 F1 F2
    generalize Sort.grow (redrawn W13 dq) osq = W14 at *
    clear W13 hq10 hq11
    go_wp2_with fail
    go_loopw [13] (fun i wr => ∃ k : Nat, k ≤ n ∧ i = .int .i64 k ∧ RowsAt wr R1 n s ∧ RowsAt wr R2 n s ∧ Below w.heap.size w wr) (fun i _ => n - (intOf i).toNat)
    case atStart => exact ⟨0, Nat.zero_le _, rfl, HO14.out, HO15.out, HB14.out⟩
    case round =>
      clear HO14 HO15 HB14
      obtain ⟨k, hk, rfl, ho1, ho2, hB⟩ := hrel
      by_cases hkn : k < n
      · have hk2 : (k : Int) < (n : Int) := by omega
        have hk3 : (0 : Int) ≤ (k : Int) := by omega
        obtain ⟨g1, o1, hr1, k1, k2⟩ := ho1 k hkn
        obtain ⟨g2, o2, hr2, k3, k4⟩ := ho2 k hkn
        subst hr1; subst hr2
        have HO1 := Lib.hid ho1
        have HO2 := Lib.hid ho2
        have HB := Lib.hid hB
        have z1 := fr_neF (nxK (tl s (alP s k)) : Int) (nxL (tl s (alP s k)))
        have F1 := Lib.hid (fun W => ffrom (nxK (tl s (alP s k)) : Int) (nxL (tl s (alP s k))) W)
        generalize nxK (tl s (alP s k)) = X at *
        generalize nxL (tl s (alP s k)) = Y at *
        have c1 := cell_regrown k1
        have c2 := cell_regrown k2
        have c3 := cell_regrown k3
        have c4 := cell_regrown k4
        clear ho1 ho2 hB
        go_wp2
        refine wp_region_quiet_below (by kernel_rfl) (by kernel_rfl) ?_
        repeat (first | go_big_quiet_step ((first | with_reducible exact Calls.regrown_of (F1.out _))) | quiet_step ((first | with_reducible exact Calls.regrown_of (F1.out _))))
        refine wpQuiet_nil ?_
        intro _ hw'
        obtain ⟨⟨dq, osq⟩, hw''⟩ := hw'
        subst hw''
        clear k1 k2 k3 k4 c1 c2 c3 c4 z1 F1
        go_wp2
        go_roundw
        case rel => exact ⟨k + 1, by omega, by go_num, rows_keep HO1.out (below_regrown _ dq osq), rows_keep HO2.out (below_regrown _ dq osq), HB.out.trans ((below_regrown _ dq osq).mono HB.out.size)⟩
        case measure => simp [intOf]; omega
      · obtain rfl : k = n := by omega
        have hkk : ¬ ((k : Int) < (k : Int)) := by omega
        go_wp2
        go_ret
        exact ⟨rfl, hB⟩
  · have hs2 : 9000 < (s.size : Int) := by omega
    clear hg
    go_enter Tryd.func4, Tryd.ntmps4
    go_wp2
    go_ret
    exact ⟨rfl, Below.refl _ _⟩
set_option maxRecDepth 100000 in
theorem lifted (os : Os) (started : os.Started) (H : Type) (enc : TypeId × Value → H) :
    ReturnsInHanded {} Tryd.checked os 4 .any (fun w args => (Rows.frameReadsSpec.pre enc Tryd.prog Tryd.f4 [] false w args ∧ laidMetH Tryd.prog laidL w) ∧ sizedMet enc Tryd.prog Tryd.f4 (OpenSpec.ofChange Rows.frameReadsSpec) false w args) (Rows.frameReadsSpec.post enc Tryd.prog Tryd.f4 false true false false) := by
  refine returnsInHanded_of_change_and (C := Tryd.checked) (X := fun w _ => laidMetH Tryd.prog laidL w) (fun _ _ _ hh h => h.of_heap hh) own started (by kernel_rfl) Tryd.func4
    (ChangeSpec.witness_at (enc := enc) (C := Tryd.checked) (os := os) (X := fun w _ => laidMetH Tryd.prog laidL w) false (laidWorld os) #[.string ⟨#[]⟩] 8 rfl (by kernel_rfl) (by kernel_rfl) (by kernel_rfl) (by kernel_rfl) (by kernel_rfl) (laidWorld_met os _)) ?_
  intro W base args ds gs before hval0 hW hcnd _ hL _
  have hval : ∀ (j : Nat) t v, Tryd.f4.params[j]? = some t → args[j]? = some v → Value.okWide Tryd.prog W .any base t v := hval0
  have hW' := hW
  obtain ⟨p, q, hA0, hV, rfl, hfz, hnd⟩ := hW
  have hA : DataW.TrodAll enc Tryd.prog W 0 (fun _ => true) true Tryd.f4.params.toList args.toList ds p := hA0
  rw [Tryd.params4] at hA hval
  obtain ⟨v0, vs0, d0, ds0, p0, q0, hargs, rfl, rfl, h0, r0⟩ := trodAll_cons hA
  obtain ⟨rfl, rfl, rfl⟩ := trodAll_nil r0
  obtain rfl : args = #[v0] := by cases args; simp_all
  obtain ⟨rfl, rfl⟩ := trodVars_none hV
  have k0 := h0
  have lt0 : ∀ x ∈ p0, x.block < W.heap.size := by obtain ⟨m, hm⟩ := k0; exact DataW.trod_lt m _ _ _ hm
  obtain ⟨a0, rfl, ed0, rfl, w0⟩ := open_string Tryd.underlying9 (hval 0 9 v0 rfl rfl) h0
  clear hA0 hval0
  have hg := handle_of_laid hL
  refine (walk a0 W w0 hg).mono fun e W' ⟨he, bel⟩ => ?_
  subst he
  exact ⟨_, rfl, _, _, _, [], _, [], hW', trodAll_mk1 (shut_bool Tryd.underlying4 _), (trodAll_cons_mk (Below.trod laidOut (by kernel_rfl) (of_decide_eq_true (by kernel_rfl)) k0 bel lt0) trodAll_mk0), rfl, bel.frame _, fun h => by cases h⟩
theorem over : Rows.frameReadsRow.holds Tryd.pinned (OpenSpec.ofChange Rows.frameReadsSpec) :=
  OpenClaim.holds_of_wide 4 Tryd.f4 rfl rfl rfl rfl rfl rfl rfl ⟨rfl, rfl, rfl, rfl, rfl⟩ rfl rfl rfl rfl rfl (by kernel_rfl) Tryd.func4 (by kernel_rfl)
    (of_decide_eq_true (by kernel_rfl)) (by unfold Func.isWrapper; first | (rw [if_pos (by decide +kernel)]; kernel_rfl) | (rw [if_neg (by decide +kernel)]; exact ⟨rfl, rfl⟩))
    (fun os started H enc _ => lifted os started H enc)
set_option maxRecDepth 100000 in
theorem proved : Rows.FrameReadsCardSaid :=
  Claim7.holds_tied_plain_at .later [] [.handle] true (true, "bed28a1abb8bd1d6f054b3bbdb24eb1b4ac5058343a277e2089a84be8056229b") true over (fun _ h => by cases h) (by kernel_rfl) (fun _ h => by cases h) frameReads_row_tie rfl ⟨rfl, rfl⟩ (by kernel_rfl) rfl
    (fun f fn hf hfn => by
      obtain rfl : f = 4 := Option.some.inj ((show Tryd.prog.funcNamed "selkie/selkielaw04.FrameReads" = some 4 by kernel_rfl).symm.trans hf) |>.symm
      obtain rfl : fn = Tryd.f4 := (Option.some.inj (Tryd.func4.symm.trans hfn)).symm
      exact ⟨by kernel_rfl, fun j t ht => by
        rw [Tryd.params4] at ht
        match j, ht with
        | 0, ht => (have e : t = 9 := by simpa using ht.symm); subst e; exact (show Tryd.prog.wantsStandIn 9 = false by kernel_rfl)
        | j + 1, ht => simp at ht⟩)
    (by kernel_rfl)
#print axioms proved
end Go.Proofs.YtofpefbnkmeokaaDoor.lawFrameReads
