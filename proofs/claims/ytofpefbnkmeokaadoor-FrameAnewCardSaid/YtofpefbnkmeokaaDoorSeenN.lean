/- Contract of Seen at an error within an error. -/
import Derived.Test.YtofpefbnkmeokaaDoorSeen
import Derived.Test.YtofpefbnkmeokaaDoorFrAll
namespace Go.Proofs.YtofpefbnkmeokaaDoor
open Go.RowKit Go.Extern.Stop Go.Stop Go.Extern
set_option linter.unusedVariables false
set_option maxRecDepth 100000 in
set_option maxHeartbeats 6400000 in
theorem seen_nest (fb gb : Nat) (p a fe : Int) (w : World) (hg : ET w) (hk : ¬ fe = 0) (h0 : 0 ≤ p) (h1 : p ≤ 1099511627776) (h2 : 0 ≤ a) (h3 : a ≤ 1099511627776) (hb : Blk w fb 42 #[.int .i64 p, .iface 40 (.pointer (some ⟨gb, 0, none⟩))]) (hc : Blk w gb 42 #[.int .i64 a, .iface 35 (.int .i64 fe)]) :
    Calls Tryd.prog 13 #[.iface 40 (.pointer (some ⟨fb, 0, none⟩))] w fun e w' => e = .returned (.agg #[.int .i64 (p + a), .int .i64 fe]) ∧ Below w.heap.size w w' := by
  have e1 : (fe == 0) = false := by simpa using hk
  have ta := ta_errno
  have tb := ta_fault
  have d1 : decide (p < 0) = false := decide_eq_false (by omega)
  have d2 : decide (1099511627776 < p) = false := decide_eq_false (by omega)
  have d3 : decide (a < 0) = false := decide_eq_false (by omega)
  have d4 : decide (1099511627776 < a) = false := decide_eq_false (by omega)
  have q1 : IntKind.i64.wrap (p + a) = p + a := IntWalk.i64_in _ (by omega)
  have HG := Lib.hid hg
  have HB := Lib.hid hb
  have HC := Lib.hid hc
  have hl := hb.lt
  have hl2 := hc.lt
  have hfb : ¬ w.heap.size + 1 = fb := by omega
  have hfb2 : ¬ w.heap.size = fb := by omega
  clear hk hg hb hc
  go_enter Tryd.func13, Tryd.ntmps13
  go_wp2
  refine wp_loop_rounds 3 ?_
  rw [rounds_succ]
  go_wp2_with fail
  refine (as_fault fb (w.heap.size + 1) ((w.alloc (.cells #[.int .i64 0, .int .i64 0] 37)).alloc (.cells #[.pointer none] 40)) ((HG.out.keep (Joins.below_alloc1 w _)).keep (Joins.below_alloc1 _ _)) (by simpa using Blk.new (w.alloc (.cells #[.int .i64 0, .int .i64 0] 37)) 40 #[.pointer none])).mono ?_
  rintro e w1 ⟨rfl, ht, hgr⟩
  have hbl : Below w.heap.size w w1 := below_only (Joins.below_alloc2 w _ _) hgr (by omega) (by simp; omega)
  have hb1 := ((HB.out.alloc _).alloc _).grown hgr (by intro e; injection e with e; omega)
  have HC1 := Lib.hid (((HC.out.alloc _).alloc _).grown hgr (by intro e; injection e with e; omega))
  have HG1 := Lib.hid (((HG.out.keep (Joins.below_alloc1 w _)).keep (Joins.below_alloc1 _ _)).grown hgr (by omega))
  have HR1 : Hid (Blk w1 w.heap.size 37 #[.int .i64 0, .int .i64 0]) := Lib.hid (((Blk.new w _ _).alloc _).grown hgr (by intro e; injection e with e; omega))
  have t0 := ht.cell 0
  have b0 := hb1.cell 0
  have b1 := hb1.cell 1
  simp at t0 b0 b1
  have HBL := Lib.hid hbl
  have hz : w.heap.size + 1 < w1.heap.size := ht.lt
  have hn1 : ¬ w1.heap.size = w.heap.size := by omega
  have hn2 : ¬ w1.heap.size = w.heap.size + 1 := by omega
  have hn3 : ¬ w1.heap.size = gb := by omega
  clear ht hgr hbl hb1
  go_wp2
  rw [rounds_succ]
  go_wp2_with fail
  refine (as_fault gb w1.heap.size (w1.alloc (.cells #[.pointer none] 40)) (HG1.out.keep (Joins.below_alloc1 _ _)) (Blk.new w1 _ _)).mono ?_
  rintro e w2 ⟨rfl, ht, hgr⟩
  have hbl : Below w.heap.size w w2 := below_only (HBL.out.alloc HBL.out.size _) hgr (by omega) (by simp; omega)
  have hc1 := (HC1.out.alloc _).grown hgr (by intro e; injection e with e; omega)
  have hr1 : Blk w2 w.heap.size 37 #[.int .i64 0, .int .i64 0] := (HR1.out.alloc _).grown hgr (by intro e; injection e with e; omega)
  clear t0 b0 b1
  have t0 := ht.cell 0
  have b0 := hc1.cell 0
  have b1 := hc1.cell 1
  have r0 := hr1.cell 0
  have r1 := hr1.cell 1
  have g0 := hr1.frozen 0
  have g1 := hr1.frozen 1
  simp at t0 b0 b1 r0 r1
  have HBL2 := Lib.hid hbl
  clear ht hgr hbl hc1 hr1
  go_wp2
  rw [rounds_succ]
  go_wp2
  exact bodyPost_ret (v := .agg #[.int .i64 (p + a), .int .i64 fe]) (by simp [results, Tryd.results13, go_sem, r0, r1]) rfl ⟨rfl, by repeat (first | exact HBL2.out | refine Below.setCell ?_ (by simp) _)⟩
/-- Seen, at what All leaves. -/
theorem seen_all (s : ByteArray) (n : Nat) (ev : Value) (w : World) (hs : s.size ≤ 100000) (hg : ET w) (h : AlE s n w ev) :
    Calls Tryd.prog 13 #[ev] w fun e w' => e = .returned (.agg #[.int .i64 (alRA s n), .int .i64 (alRE s n)]) ∧ Below w.heap.size w w' := by
  have hP := alP_le s n
  rcases h with ⟨h1, rfl⟩ | ⟨h1, h2, fb, gb, rfl, hb, hc⟩
  · have ea : alRA s n = 0 := if_pos h1
    have ee : alRE s n = 0 := if_pos h1
    rw [ea, ee]
    exact seen_nil w
  · have ea : alRA s n = (alP s n : Int) + nxA (tl s (alP s n)) := if_neg (by omega)
    have ee : alRE s n = nxE (tl s (alP s n)) := if_neg (by omega)
    rw [ea, ee]
    obtain ⟨_, b2, b3, _, _⟩ := nx_bounds (tl s (alP s n))
    rw [tl_size hP] at b3
    exact seen_nest fb gb _ _ _ w hg h2 (by omega) (by omega) b2 (by omega) hb hc
end Go.Proofs.YtofpefbnkmeokaaDoor
