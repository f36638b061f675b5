/- errors.Is at the target api.Errno(1), by its contracts (after the kit's worked example SentryIs); frame.Torn. -/
import Derived.Test.YtofpefbnkmeokaaDoorFrAll
import Derived.WalkKit
import Derived.LaidEql
import Derived.Stop.Asserts
import Derived.RowKitTokens
namespace Go.Proofs.YtofpefbnkmeokaaDoor
open Go.RowKit Go.Extern.Stop Go.Stop Go.Extern
set_option linter.unusedVariables false
theorem eiTypeOf (v : Value) (w : World) : (Extern.ReflectliteType.typeOf #[.iface 35 v]).run Tryd.prog w = .ok (.iface 157 (.agg #[.pointer (some ⟨2, 35, none⟩)])) w := by kernel_rfl
theorem eiComparable (w : World) : ((Extern.ReflectliteType.method fun t => do Extern.Rtype.noPackHeld "Comparable" t; (fun a => Value.bool a.comparable) <$> typeInfo t) #[.agg #[.pointer (some ⟨2, 35, none⟩)]]).run Tryd.prog w = .ok (.bool true) w := by kernel_rfl
theorem eiMethodComparable (v : Value) (w : World) : (Go.method 301 157 v "Comparable").run Tryd.prog w = .ok (135, v) w := by kernel_rfl
theorem eiNoIsE (v : Value) (xT : TypeId) (w : World) : (Instr.typeAssert (.iface 35 v) xT 168 true).run Tryd.prog w = .ok (.tuple #[.nilIface, .bool false]) w := run_typeAssert_lacksB Tryd.underlying168 (by kernel_rfl) (by kernel_rfl) v xT w
theorem eiNoUnwrapE (v : Value) (xT : TypeId) (w : World) : (Instr.typeAssert (.iface 35 v) xT 164 true).run Tryd.prog w = .ok (.tuple #[.nilIface, .bool false]) w := run_typeAssert_lacksB Tryd.underlying164 (by kernel_rfl) (by kernel_rfl) v xT w
theorem eiNoUnwrapsE (v : Value) (xT : TypeId) (w : World) : (Instr.typeAssert (.iface 35 v) xT 165 true).run Tryd.prog w = .ok (.tuple #[.nilIface, .bool false]) w := run_typeAssert_lacksB Tryd.underlying165 (by kernel_rfl) (by kernel_rfl) v xT w
theorem eiNoIsF (v : Value) (xT : TypeId) (w : World) : (Instr.typeAssert (.iface 40 v) xT 168 true).run Tryd.prog w = .ok (.tuple #[.nilIface, .bool false]) w := run_typeAssert_lacksB Tryd.underlying168 (by kernel_rfl) (by kernel_rfl) v xT w
theorem eiHasUnwrapF (v : Value) (xT : TypeId) (w : World) : (Instr.typeAssert (.iface 40 v) xT 164 true).run Tryd.prog w = .ok (.tuple #[.iface 40 v, .bool true]) w := run_typeAssert_hasB Tryd.underlying164 (by kernel_rfl) v xT w
theorem eiMethodUnwrap (v : Value) (w : World) : (Go.method 301 40 v "Unwrap").run Tryd.prog w = .ok (128, v) w := by kernel_rfl
theorem eiSame (w : World) : (binOp .eql 26 (.iface 35 (.int .i64 1)) (.iface 35 (.int .i64 1))).run Tryd.prog w = .ok (.bool true) w := by kernel_rfl
theorem eiOther (w : World) : (binOp .eql 26 (.iface 35 (.int .i64 13)) (.iface 35 (.int .i64 1))).run Tryd.prog w = .ok (.bool false) w := by kernel_rfl
theorem eiTypes (v : Value) (w : World) : (binOp .eql 26 (.iface 40 v) (.iface 35 (.int .i64 1))).run Tryd.prog w = .ok (.bool false) w := run_eql_iface_types (P := Tryd.prog) 40 35 v (.int .i64 1) Tryd.underlying26 (by decide) w
set_option maxRecDepth 100000 in
set_option maxHeartbeats 3200000 in
theorem is_nil (w : World) : Calls Tryd.prog 48 #[.nilIface, .iface 35 (.int .i64 1)] w fun e w' => e = .returned (.bool false) ∧ w' = w := by
  have hn := run_eql_iface_nil_left (P := Tryd.prog) w 35 (.int .i64 1) Tryd.underlying26
  go_enter Tryd.func48, Tryd.ntmps48
  go_wp2
  go_ret
  exact ⟨rfl, rfl⟩
set_option maxRecDepth 100000 in
set_option maxHeartbeats 3200000 in
theorem is_sum (w : World) : Calls Tryd.prog 48 #[.iface 35 (.int .i64 13), .iface 35 (.int .i64 1)] w fun e w' => e = .returned (.bool false) ∧ w' = w := by
  have h8 := @run_callFunc_extern Tryd.prog 83 _ Extern.ReflectliteType.typeOf Tryd.func83 (by kernel_rfl) (by kernel_rfl) (by kernel_rfl) (by kernel_rfl)
  have h32 := @run_callFunc_extern Tryd.prog 135 _ (Extern.ReflectliteType.method fun t => do Extern.Rtype.noPackHeld "Comparable" t; pure (.bool (← typeInfo t).comparable)) Tryd.func135 (by kernel_rfl) (by kernel_rfl) (by kernel_rfl) (by kernel_rfl)
  have tT := eiTypeOf
  have cT := eiComparable
  have mR := eiMethodComparable
  have nE := eiNoIsE
  have uE := eiNoUnwrapE
  have vE := eiNoUnwrapsE
  have heq := eiOther
  go_enter Tryd.func48, Tryd.ntmps48
  go_wp2
  refine wp_loop_rounds 1 ?_
  rw [rounds_succ]
  go_wp2
  go_ret
  exact ⟨rfl, rfl⟩
set_option maxRecDepth 100000 in
set_option maxHeartbeats 3200000 in
theorem is_fault (fb : Nat) (a : Int) (w : World) (hb : Blk w fb 42 #[.int .i64 a, .iface 35 (.int .i64 1)]) : Calls Tryd.prog 48 #[.iface 40 (.pointer (some ⟨fb, 0, none⟩)), .iface 35 (.int .i64 1)] w fun e w' => e = .returned (.bool true) ∧ w' = w := by
  have h8 := @run_callFunc_extern Tryd.prog 83 _ Extern.ReflectliteType.typeOf Tryd.func83 (by kernel_rfl) (by kernel_rfl) (by kernel_rfl) (by kernel_rfl)
  have h32 := @run_callFunc_extern Tryd.prog 135 _ (Extern.ReflectliteType.method fun t => do Extern.Rtype.noPackHeld "Comparable" t; pure (.bool (← typeInfo t).comparable)) Tryd.func135 (by kernel_rfl) (by kernel_rfl) (by kernel_rfl) (by kernel_rfl)
  have tT := eiTypeOf
  have cT := eiComparable
  have mR := eiMethodComparable
  have nF := eiNoIsF
  have uF := eiHasUnwrapF
  have mU := eiMethodUnwrap
  have heq := eiSame
  have hty := eiTypes
  have b1 := hb.cell 1
  simp at b1
  clear hb
  go_enter Tryd.func48, Tryd.ntmps48
  go_wp2
  refine wp_loop_rounds 2 ?_
  rw [rounds_succ]
  go_wp2
  rw [rounds_succ]
  go_wp2
  go_ret
  exact ⟨rfl, rfl⟩
set_option maxRecDepth 100000 in
set_option maxHeartbeats 3200000 in
theorem is_fault2 (fb gb : Nat) (p a : Int) (w : World) (hc : Blk w fb 42 #[.int .i64 p, .iface 40 (.pointer (some ⟨gb, 0, none⟩))]) (hb : Blk w gb 42 #[.int .i64 a, .iface 35 (.int .i64 1)]) : Calls Tryd.prog 48 #[.iface 40 (.pointer (some ⟨fb, 0, none⟩)), .iface 35 (.int .i64 1)] w fun e w' => e = .returned (.bool true) ∧ w' = w := by
  have h8 := @run_callFunc_extern Tryd.prog 83 _ Extern.ReflectliteType.typeOf Tryd.func83 (by kernel_rfl) (by kernel_rfl) (by kernel_rfl) (by kernel_rfl)
  have h32 := @run_callFunc_extern Tryd.prog 135 _ (Extern.ReflectliteType.method fun t => do Extern.Rtype.noPackHeld "Comparable" t; pure (.bool (← typeInfo t).comparable)) Tryd.func135 (by kernel_rfl) (by kernel_rfl) (by kernel_rfl) (by kernel_rfl)
  have tT := eiTypeOf
  have cT := eiComparable
  have mR := eiMethodComparable
  have nF := eiNoIsF
  have uF := eiHasUnwrapF
  have mU := eiMethodUnwrap
  have heq := eiSame
  have hty := eiTypes
  have b1 := hb.cell 1
  have c1 := hc.cell 1
  simp at b1 c1
  clear hb hc
  go_enter Tryd.func48, Tryd.ntmps48
  go_wp2
  refine wp_loop_rounds 3 ?_
  rw [rounds_succ]
  go_wp2
  rw [rounds_succ]
  go_wp2
  rw [rounds_succ]
  go_wp2
  go_ret
  exact ⟨rfl, rfl⟩
theorem torn_of (v : Value) (b : Bool) (w : World) (h : Calls Tryd.prog 48 #[v, .iface 35 (.int .i64 1)] w fun e w' => e = .returned (.bool b) ∧ w' = w) : Calls Tryd.prog 14 #[v] w fun e w' => e = .returned (.bool b) ∧ Below w.heap.size w w' := by
  go_enter Tryd.func14, Tryd.ntmps14
  go_wp2_with fail
  refine h.mono ?_; rintro e w' ⟨rfl, rfl⟩
  go_wp2
  go_ret
  exact ⟨rfl, Below.refl _ _⟩
end Go.Proofs.YtofpefbnkmeokaaDoor
