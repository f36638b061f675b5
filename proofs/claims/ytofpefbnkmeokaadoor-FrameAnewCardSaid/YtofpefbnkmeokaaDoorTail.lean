/- The readers' questions, in any world that has grown from one. -/
import Derived.Test.YtofpefbnkmeokaaDoorSeen
import Derived.Test.YtofpefbnkmeokaaDoorR2
import Derived.Lib.QuietBelow
namespace Go.Proofs.YtofpefbnkmeokaaDoor
open Go.RowKit
set_option linter.unusedVariables false
/-- A call that returns v, and makes memory at most, in every world that has grown from W. -/
def Ask (W : World) (f : FuncId) (args : Array Value) (v : Value) : Prop :=
  ∀ dq osq, Calls Tryd.prog f args (Sort.grow (redrawn W dq) osq) fun e w' => e = .returned v ∧ Below (Sort.grow (redrawn W dq) osq).heap.size (Sort.grow (redrawn W dq) osq) w'
section
variable {W : World} {b : Nat} {s : ByteArray} {p : Nat} {fa fe : Int}
theorem ask_at (h : R W b s p fa fe) : Ask W 31 #[.pointer (some ⟨b, 0, none⟩)] (.int .i64 p) := fun dq osq =>
  (oat b s p fa fe _ (h.keep (below_regrown W dq osq))).mono (by rintro e w' ⟨rfl, rfl⟩; exact ⟨rfl, Below.refl _ _⟩)
theorem ask_left (hs : s.size ≤ 100000) (h : R W b s p fa fe) : Ask W 44 #[.pointer (some ⟨b, 0, none⟩)] (.int .i64 ((s.size : Int) - p)) := fun dq osq =>
  oleft b s p fa fe _ hs (h.keep (below_regrown W dq osq))
theorem ask_rleft (hs : s.size ≤ 100000) (h : RR W b s p fa fe) : Ask W 51 #[.pointer (some ⟨b, 0, none⟩)] (.int .i64 ((s.size : Int) - p)) := fun dq osq =>
  rleft b s p fa fe _ hs (h.keep (below_regrown W dq osq))
theorem err_at (ev : Value) (w : World) (c2 : w.cell? ⟨b, 2, none⟩ = some ev) (he : ev = .nilIface ∨ ∃ fb, ev = .iface 40 (.pointer (some ⟨fb, 0, none⟩))) :
    Calls Tryd.prog 32 #[.pointer (some ⟨b, 0, none⟩)] w fun e' w' => e' = .returned ev ∧ w = w' := by
  rcases he with rfl | ⟨fb, rfl⟩
  · go_enter Tryd.func32, Tryd.ntmps32
    go_wp2
    go_ret
    exact ⟨rfl, rfl⟩
  · go_enter Tryd.func32, Tryd.ntmps32
    go_wp2
    go_ret
    exact ⟨rfl, rfl⟩
theorem ask_err (h : R W b s p fa fe) : ∃ ev, EV W ev fa fe ∧ Ask W 32 #[.pointer (some ⟨b, 0, none⟩)] ev := by
  obtain ⟨_, ev, h1, h2⟩ := h
  refine ⟨ev, h2, fun dq osq => ?_⟩
  have c2 := h1.cell 2
  simp at c2
  refine (err_at ev _ (cell_regrown c2 dq osq) ?_).mono (by rintro e w' ⟨rfl, rfl⟩; exact ⟨rfl, Below.refl _ _⟩)
  rcases h2 with ⟨_, _, h⟩ | ⟨_, fb, h, _⟩
  · exact .inl h
  · exact .inr ⟨fb, h⟩
theorem ask_seen {ev : Value} (hg : ET W) (h0 : 0 ≤ fa) (h1 : fa ≤ 1099511627776) (h : EV W ev fa fe) : Ask W 13 #[ev] (.agg #[.int .i64 fa, .int .i64 fe]) := fun dq osq =>
  seen_ev ev fa fe _ (hg.keep (below_regrown W dq osq)) h0 h1 (h.keep (below_regrown W dq osq))
end
end Go.Proofs.YtofpefbnkmeokaaDoor
