/- Contract of Seen: what an error says. -/
import Derived.Test.YtofpefbnkmeokaaDoorErrAs
import Derived.Test.YtofpefbnkmeokaaDoorRef4
import Derived.Stop.Asserts
import Derived.RowKitTokens
namespace Go.Proofs.YtofpefbnkmeokaaDoor
open Go.RowKit Go.Extern.Stop Go.Stop Go.Extern
/-- What the package's variable holds. -/
def ET (w : World) : Prop := w.cell? ⟨0, 0, none⟩ = some (.iface 157 (.agg #[.pointer (some ⟨2, 26, none⟩)]))
theorem ET.lt {w : World} (h : ET w) : 0 < w.heap.size := block_lt h
theorem ET.keep {w w' : World} (h : ET w) (hb : Below w.heap.size w w') : ET w' := (hb.cell (p := ⟨0, 0, none⟩) h.lt).trans h
theorem ET.grown {w w' : World} {q : Nat} (h : ET w) (hg : w.grownBy w' (some q)) (hq : ¬ q = 0) : ET w' :=
  (World.cell?_of_block (w := w) (a := ⟨0, 0, none⟩) (hg.block 0 h.lt (by intro e; injection e with e; omega))).trans h
theorem as_fault (fb t : Nat) (w : World) (hg : ET w) (ht : Blk w t 40 #[.pointer none]) :
    Calls Tryd.prog 47 #[.iface 40 (.pointer (some ⟨fb, 0, none⟩)), .iface 96 (.pointer (some ⟨t, 0, none⟩))] w fun e w' => e = .returned (.bool true) ∧ Blk w' t 40 #[.pointer (some ⟨fb, 0, none⟩)] ∧ w.grownBy w' (some t) := by
  refine (as_hit ⟨fb, 0, none⟩ ⟨t, 0, none⟩ (.pointer none) w hg (by simpa using ht.cell 0) (ht.frozen 0)).mono ?_
  rintro e w' ⟨rfl, rfl⟩
  exact ⟨rfl, ((((ht.alloc _).alloc _).alloc _).alloc _).set_ 0 _, only_set (only_of (((Joins.below_alloc3 w _ _ _)).alloc (by simp; omega) _) _) _⟩
theorem ta_errno (v : Value) (W : World) : (Instr.typeAssert (.iface 35 v) 26 35 true).run Tryd.prog W = .ok (.tuple #[v, .bool true]) W := by kernel_rfl
theorem ta_fault (v : Value) (W : World) : (Instr.typeAssert (.iface 40 v) 26 35 true).run Tryd.prog W = .ok (.tuple #[.int .i64 0, .bool false]) W := by kernel_rfl
set_option maxRecDepth 100000 in
theorem seen_nil (w : World) : Calls Tryd.prog 13 #[.nilIface] w fun e w' => e = .returned (.agg #[.int .i64 0, .int .i64 0]) ∧ Below w.heap.size w w' := by
  go_enter Tryd.func13, Tryd.ntmps13
  go_wp2
  refine wp_loop_rounds 1 ?_
  rw [rounds_succ]
  go_wp2
  exact bodyPost_ret (v := .agg #[.int .i64 0, .int .i64 0]) (by simp [results, Tryd.results13, go_sem]) rfl ⟨rfl, by repeat (first | exact Joins.below_alloc1 w _ | refine Below.setCell ?_ (by simp) _)⟩
set_option maxRecDepth 100000 in
theorem seen_errno (k : Int) (w : World) (hk : ¬ k = 0) : Calls Tryd.prog 13 #[.iface 35 (.int .i64 k)] w fun e w' => e = .returned (.agg #[.int .i64 0, .int .i64 k]) ∧ Below w.heap.size w w' := by
  have e1 : (k == 0) = false := by simpa using hk
  have ta := ta_errno
  clear hk
  go_enter Tryd.func13, Tryd.ntmps13
  go_wp2
  refine wp_loop_rounds 1 ?_
  rw [rounds_succ]
  go_wp2
  exact bodyPost_ret (v := .agg #[.int .i64 0, .int .i64 k]) (by simp [results, Tryd.results13, go_sem]) rfl ⟨rfl, by repeat (first | exact Joins.below_alloc1 w _ | refine Below.setCell ?_ (by simp) _)⟩
set_option maxRecDepth 100000 in
set_option maxHeartbeats 3200000 in
theorem seen_fault (fb : Nat) (fa fe : Int) (w : World) (hg : ET w) (hk : ¬ fe = 0) (h0 : 0 ≤ fa) (h1 : fa ≤ 1099511627776) (hb : Blk w fb 42 #[.int .i64 fa, .iface 35 (.int .i64 fe)]) :
    Calls Tryd.prog 13 #[.iface 40 (.pointer (some ⟨fb, 0, none⟩))] w fun e w' => e = .returned (.agg #[.int .i64 fa, .int .i64 fe]) ∧ Below w.heap.size w w' := by
  have e1 : (fe == 0) = false := by simpa using hk
  have ta := ta_errno
  have tb := ta_fault
  have d1 : decide (fa < 0) = false := decide_eq_false (by omega)
  have d2 : decide (1099511627776 < fa) = false := decide_eq_false (by omega)
  have HG := Lib.hid hg
  have HB := Lib.hid hb
  have hl := hb.lt
  have hfb : ¬ w.heap.size + 1 = fb := by omega
  have hfb2 : ¬ w.heap.size = fb := by omega
  clear hk hg hb
  go_enter Tryd.func13, Tryd.ntmps13
  go_wp2
  refine wp_loop_rounds 2 ?_
  rw [rounds_succ]
  go_wp2_with fail
  refine (as_fault fb (w.heap.size + 1) ((w.alloc (.cells #[.int .i64 0, .int .i64 0] 37)).alloc (.cells #[.pointer none] 40)) ((HG.out.keep (Joins.below_alloc1 w _)).keep (Joins.below_alloc1 _ _)) (by simpa using Blk.new (w.alloc (.cells #[.int .i64 0, .int .i64 0] 37)) 40 #[.pointer none])).mono ?_
  rintro e w1 ⟨rfl, ht, hgr⟩
  have hbl : Below w.heap.size w w1 := below_only (Joins.below_alloc2 w _ _) hgr (by omega) (by simp; omega)
  have hb1 := ((HB.out.alloc _).alloc _).grown hgr (by intro e; injection e with e; omega)
  have hr1 : Blk w1 w.heap.size 37 #[.int .i64 0, .int .i64 0] := ((Blk.new w _ _).alloc _).grown hgr (by intro e; injection e with e; omega)
  have t0 := ht.cell 0
  have b0 := hb1.cell 0
  have b1 := hb1.cell 1
  have r0 := hr1.cell 0
  have r1 := hr1.cell 1
  have q0 := hr1.frozen 0
  have q1 := hr1.frozen 1
  simp at t0 b0 b1 r0 r1
  have HBL := Lib.hid hbl
  have hz : w.heap.size < w1.heap.size := hr1.lt
  clear ht hgr hbl hb1 hr1
  go_wp2
  rw [rounds_succ]
  go_wp2
  exact bodyPost_ret (v := .agg #[.int .i64 fa, .int .i64 fe]) (by simp [results, Tryd.results13, go_sem, r0, r1]) rfl ⟨rfl, by repeat (first | exact HBL.out | refine Below.setCell ?_ (by simp) _)⟩
/-- Seen, at what a reader has. -/
theorem seen_ev (ev : Value) (fa fe : Int) (w : World) (hg : ET w) (h0 : 0 ≤ fa) (h1 : fa ≤ 1099511627776) (h : EV w ev fa fe) :
    Calls Tryd.prog 13 #[ev] w fun e w' => e = .returned (.agg #[.int .i64 fa, .int .i64 fe]) ∧ Below w.heap.size w w' := by
  rcases h with ⟨rfl, rfl, rfl⟩ | ⟨hk, fb, rfl, hb⟩
  · exact seen_nil w
  · exact seen_fault fb fa fe w hg hk h0 h1 hb
end Go.Proofs.YtofpefbnkmeokaaDoor
