/- Contracts of octet's reader: New, Fail, next, Num and Int. -/
import Derived.Test.YtofpefbnkmeokaaDoorReadMem
import Derived.Deep.QuietTactic
import Derived.BigQuiet
import Derived.Lib.QuietBelow
import Derived.WalkSpells
namespace Go.Proofs.YtofpefbnkmeokaaDoor
open Go.RowKit
theorem retU {k : IntKind} {a b : Int} (h : a = b) : Ending.returned (.int k a) = .returned (.int k b) := by rw [h]
theorem new_any (s : ByteArray) (w : World) :
    Calls Tryd.prog 28 #[.string s] w fun e w' => e = .returned (.pointer (some ⟨w.heap.size, 0, none⟩)) ∧ R w' w.heap.size s 0 0 0 ∧ Below w.heap.size w w' := by
  go_enter Tryd.func28, Tryd.ntmps28
  go_wp2
  go_ret
  exact ⟨rfl, ⟨Nat.zero_le _, .nilIface, Blk.new w _ _, .inl ⟨rfl, rfl, rfl⟩⟩, Joins.below_alloc1 w _⟩
theorem blk_new_set (w : World) (p : Addr) (u : Value) (t : TypeId) (cs : Array Value) : Blk ((w.setCell p u).alloc (.cells cs t)) w.heap.size t cs := by
  have := Blk.new (w.setCell p u) t cs
  rwa [show (w.setCell p u).heap.size = w.heap.size by simp [World.setCell]] at this
theorem fault_new {w : World} {b : Nat} {s : ByteArray} {p : Nat} {k : Int} (hk : ¬ k = 0) (hp : p ≤ s.size) {ev : Value} (h : Blk w b 106 #[.string s, .int .i64 p, ev]) :
    R ((w.setCell ⟨b, 2, none⟩ (.iface 40 (.pointer (some ⟨w.heap.size, 0, none⟩)))).alloc (.cells #[.int .i64 p, .iface 35 (.int .i64 k)] 42)) b s p p k ∧
    w.grownBy ((w.setCell ⟨b, 2, none⟩ (.iface 40 (.pointer (some ⟨w.heap.size, 0, none⟩)))).alloc (.cells #[.int .i64 p, .iface 35 (.int .i64 k)] 42)) (some b) := by
  refine ⟨⟨hp, _, (h.set_ 2 _).alloc _, .inr ⟨hk, w.heap.size, rfl, blk_new_set w _ _ _ _⟩⟩, only_below (only_set (only_of (Below.refl _ _) _) _) (Joins.below_alloc1 _ _)⟩
set_option maxHeartbeats 800000 in
theorem fail_new (b : Nat) (s : ByteArray) (p : Nat) (k : Int) (w : World) (h : R w b s p 0 0) (hk : ¬ k = 0) :
    Calls Tryd.prog 45 #[.pointer (some ⟨b, 0, none⟩), .int .i64 k] w fun e w' => e = .returned (.tuple #[]) ∧ R w' b s p p k ∧ w.grownBy w' (some b) := by
  obtain ⟨hp, ev, h1, h2⟩ := h
  obtain ⟨-, -, rfl⟩ : (0 : Int) = 0 ∧ (0 : Int) = 0 ∧ ev = .nilIface := by
    rcases h2 with h2 | ⟨h2, _⟩
    · exact h2
    · exact absurd rfl h2
  have c1 := h1.cell 1
  have c2 := h1.cell 2
  have f2 := h1.frozen 2
  simp at c1 c2
  have e1 : (k == 0) = false := by simpa using hk
  have e2 : (k != 0) = true := by simpa using hk
  have HF := Lib.hid (fault_new hk hp h1)
  have hl := h1.lt
  clear h1 h2 hk
  go_enter Tryd.func45, Tryd.ntmps45
  go_wp2
  go_end0
  exact ⟨rfl, HF.out⟩
set_option maxHeartbeats 800000 in
theorem fail_ok (b : Nat) (s : ByteArray) (p : Nat) (fa fe : Int) (w : World) (h : R w b s p fa fe) :
    Calls Tryd.prog 45 #[.pointer (some ⟨b, 0, none⟩), .int .i64 0] w fun e w' => e = .returned (.tuple #[]) ∧ w = w' := by
  obtain ⟨hp, ev, h1, h2⟩ := h
  have c1 := h1.cell 1
  have c2 := h1.cell 2
  simp at c1 c2
  rcases h2 with ⟨rfl, rfl, rfl⟩ | ⟨hk, fb, rfl, hf⟩
  · clear h1
    go_enter Tryd.func45, Tryd.ntmps45
    go_wp2
    go_end0
    exact ⟨rfl, rfl⟩
  · clear h1 hf hk
    go_enter Tryd.func45, Tryd.ntmps45
    go_wp2
    go_end0
    exact ⟨rfl, rfl⟩
set_option maxHeartbeats 800000 in
theorem fail_had (b : Nat) (s : ByteArray) (p : Nat) (fa fe k : Int) (w : World) (h : R w b s p fa fe) (hf : ¬ fe = 0) :
    Calls Tryd.prog 45 #[.pointer (some ⟨b, 0, none⟩), .int .i64 k] w fun e w' => e = .returned (.tuple #[]) ∧ w = w' := by
  obtain ⟨hp, ev, h1, h2⟩ := h
  have c2 := h1.cell 2
  simp at c2
  rcases h2 with ⟨rfl, rfl, rfl⟩ | ⟨hk, fb, rfl, hf⟩
  · exact absurd rfl hf
  · clear h1 hf hk
    go_enter Tryd.func45, Tryd.ntmps45
    go_wp2
    go_end0
    exact ⟨rfl, rfl⟩
theorem every_any (v : Int) (w : World) : Calls Tryd.prog 103 #[.int .u64 v] w fun e w' => e = .returned (.int .i64 0) ∧ w = w' := by
  go_enter Tryd.func103, Tryd.ntmps103
  go_wp2
  go_ret
  exact ⟨rfl, rfl⟩
theorem right_over (m : Int) (v : Nat) (w : World) (h1 : m ≤ 9223372036854775807) (h : m < 0 ∨ m < (v : Int)) : Calls Tryd.prog 78 #[.int .i64 m, .int .u64 (v : Int)] w fun e w' => e = .returned (.int .i64 2) ∧ w = w' := by
  by_cases hm : m < 0
  · have hd : decide (m < 0) = true := decide_eq_true hm
    go_enter Tryd.func78, Tryd.ntmps78
    go_wp2
    go_ret
    exact ⟨rfl, rfl⟩
  · have hm0 : 0 ≤ m := by omega
    have hm2 : m < (v : Int) := by omega
    have hd : decide (m < 0) = false := decide_eq_false hm
    have hd2 : decide (m < (v : Int)) = true := decide_eq_true hm2
    go_enter Tryd.func78, Tryd.ntmps78
    go_wp2
    go_ret
    exact ⟨rfl, rfl⟩
theorem right_in (m : Int) (v : Nat) (w : World) (h1 : m ≤ 9223372036854775807) (h : ¬ (m < 0 ∨ m < (v : Int))) : Calls Tryd.prog 78 #[.int .i64 m, .int .u64 (v : Int)] w fun e w' => e = .returned (.int .i64 0) ∧ w = w' := by
  have hm0 : 0 ≤ m := by omega
  have hm2 : (v : Int) ≤ m := by omega
  have hd : decide (m < 0) = false := decide_eq_false (by omega)
  have hd2 : decide (m < (v : Int)) = false := decide_eq_false (by omega)
  go_enter Tryd.func78, Tryd.ntmps78
  go_wp2
  go_ret
  exact ⟨rfl, rfl⟩
end Go.Proofs.YtofpefbnkmeokaaDoor
