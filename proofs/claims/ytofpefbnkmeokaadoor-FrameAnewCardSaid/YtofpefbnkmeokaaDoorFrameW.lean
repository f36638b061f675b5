/- Contracts of frame.Write and of the reference's; a frame that came in by value. -/
import Derived.Test.YtofpefbnkmeokaaDoorSum2
import Derived.Test.YtofpefbnkmeokaaDoorSeen
import Derived.Test.YtofpefbnkmeokaaDoorFrame
import Derived.Lib.SmallJoins
namespace Go.Proofs.YtofpefbnkmeokaaDoor
open Go.ChangeShapes Go.WideShapes Go.RowKit Go.Deep
set_option linter.unusedVariables false
section
variable {H : Type} {enc : TypeId × Value → H} {P : Program} {w : World} {base : Nat} {spare : Nat → Bool} {held : Bool}
theorem frame_open {r : Reach} {b0 : Nat} {t : TypeId} {f0 f1 : Field} {v : Value} {d : DataW H} {p : List MemPlace} (hs : P.underlying t = some (.struct #[f0, f1])) (hone : oneCellFields P #[f0, f1] = true) (hC : P.cellsOf t = 2)
    (h0 : P.underlying f0.type = some (.int .i64)) (h1 : P.underlying f1.type = some .string)
    (hv : Value.okWide P w r b0 t v) (h : DataW.Trod enc P w base spare held t v d p) : ∃ (a : Int) (s : ByteArray), v = .agg #[.int .i64 a, .string s] ∧ (Lit.int .i64 a).wf = true ∧ s.size ≤ maxLen := by
  obtain ⟨v0, v1, y0, y1, n, rfl, _, _, t0, t1⟩ := Joins.open_agg2 hs hone hC hv h
  obtain ⟨a, e0, _, w0⟩ := DataW.trod_int h0 t0
  obtain ⟨s, e1, _, w1⟩ := DataW.trod_string h1 t1
  simp at e0 e1
  subst e0; subst e1
  exact ⟨a, s, rfl, w0, w1⟩
end
def frB (k : Int) (s : ByteArray) : ByteArray := numN k.toNat ++ (numN s.size ++ s)
def frE (k : Int) (s : ByteArray) : Int := if k < 1 ∨ 99 < k then 5 else if 4096 < s.size then 8 else 0
def frW (k : Int) (s : ByteArray) : ByteArray := if frE k s = 0 then frB k s ++ sumStr (moreN 0 (frB k s).data.toList) else ⟨#[]⟩
theorem fr_kind {k : Int} {s : ByteArray} (h : k < 1 ∨ 99 < k) : frE k s = 5 ∧ frW k s = ⟨#[]⟩ := by
  have e : frE k s = 5 := if_pos h
  exact ⟨e, if_neg (by omega)⟩
theorem fr_long {k : Int} {s : ByteArray} (h : ¬ (k < 1 ∨ 99 < k)) (h2 : 4096 < s.size) : frE k s = 8 ∧ frW k s = ⟨#[]⟩ := by
  have e : frE k s = 8 := by unfold frE; rw [if_neg h, if_pos h2]
  exact ⟨e, if_neg (by omega)⟩
theorem fr_ok {k : Int} {s : ByteArray} (h : ¬ (k < 1 ∨ 99 < k)) (h2 : ¬ 4096 < s.size) : frE k s = 0 ∧ frW k s = frB k s ++ sumStr (moreN 0 (frB k s).data.toList) := by
  have e : frE k s = 0 := by unfold frE; rw [if_neg h, if_neg h2]
  exact ⟨e, if_pos e⟩
def frV (k : Int) (s : ByteArray) : Value := if frE k s = 0 then .nilIface else .iface 35 (.int .i64 (frE k s))
theorem frV_ok {k : Int} {s : ByteArray} (h : frE k s = 0) : frV k s = .nilIface := if_pos h
theorem frV_no {k : Int} {s : ByteArray} (h : ¬ frE k s = 0) : frV k s = .iface 35 (.int .i64 (frE k s)) := if_neg h
theorem retW {a a' : ByteArray} {b b' : Value} (h1 : a = a') (h2 : b = b') : Ending.returned (.tuple #[.string a', b']) = .returned (.tuple #[.string a, b]) := by rw [h1, h2]
theorem numN_small (v : Int) (h : v ≤ 18446744073709551615) : (numN v.toNat).size ≤ 9 := by
  rw [numN_size]; have := nN_max (v := v.toNat) (by show v.toNat < 18446744073709551616; omega); omega
theorem frB_size {k : Int} {s : ByteArray} (h : k ≤ 99) (hs : s.size ≤ 6000) : (frB k s).size ≤ 6018 := by
  unfold frB
  rw [ByteArray.size_append, ByteArray.size_append]
  have := numN_small k (by omega)
  have := numN_small (s.size : Int) (by omega)
  rw [Int.toNat_natCast] at this
  omega
theorem otz (s : ByteArray) (h : s.size ≤ 4096) : (numN s.size ++ s).size ≤ 4105 := by
  rw [ByteArray.size_append]
  have := numN_small (s.size : Int) (by omega)
  rw [Int.toNat_natCast] at this
  omega
set_option maxRecDepth 100000 in
set_option maxHeartbeats 1600000 in
theorem fwrite_low (k : Int) (s : ByteArray) (w : World) (h : k < 1) : Calls Tryd.prog 9 #[.agg #[.int .i64 k, .string s]] w fun e w' => e = .returned (.tuple #[.string (frW k s), frV k s]) ∧ Below w.heap.size w w' := by
  have HS := Lib.hid (fr_kind (k := k) (s := s) (.inl h))
  have d0 : decide (k < 1) = true := decide_eq_true (by omega)
  go_enter Tryd.func9, Tryd.ntmps9
  go_wp2
  go_ret2
  exact ⟨retW HS.out.2 (by rw [frV_no (by rw [HS.out.1]; omega), HS.out.1]; rfl), Joins.below_alloc1 w _⟩
set_option maxRecDepth 100000 in
set_option maxHeartbeats 1600000 in
theorem fwrite_high (k : Int) (s : ByteArray) (w : World) (h0 : 1 ≤ k) (h : 99 < k) : Calls Tryd.prog 9 #[.agg #[.int .i64 k, .string s]] w fun e w' => e = .returned (.tuple #[.string (frW k s), frV k s]) ∧ Below w.heap.size w w' := by
  have HS := Lib.hid (fr_kind (k := k) (s := s) (.inr h))
  have d0 : decide (k < 1) = false := decide_eq_false (by omega)
  have d1 : decide (99 < k) = true := decide_eq_true (by omega)
  go_enter Tryd.func9, Tryd.ntmps9
  go_wp2
  go_ret2
  exact ⟨retW HS.out.2 (by rw [frV_no (by rw [HS.out.1]; omega), HS.out.1]; rfl), Joins.below_alloc1 w _⟩
set_option maxRecDepth 100000 in
set_option maxHeartbeats 1600000 in
theorem fwrite_long (k : Int) (s : ByteArray) (w : World) (h0 : 1 ≤ k) (h : k ≤ 99) (hl : 4096 < s.size) : Calls Tryd.prog 9 #[.agg #[.int .i64 k, .string s]] w fun e w' => e = .returned (.tuple #[.string (frW k s), frV k s]) ∧ Below w.heap.size w w' := by
  have HS := Lib.hid (fr_long (k := k) (s := s) (by omega) hl)
  have hl2 : 4096 < (s.size : Int) := by omega
  have d0 : decide (k < 1) = false := decide_eq_false (by omega)
  have d1 : decide (99 < k) = false := decide_eq_false (by omega)
  have d2 : decide (4096 < (s.size : Int)) = true := decide_eq_true (by omega)
  go_enter Tryd.func9, Tryd.ntmps9
  go_wp2
  go_ret2
  exact ⟨retW HS.out.2 (by rw [frV_no (by rw [HS.out.1]; omega), HS.out.1]; rfl), Joins.below_alloc1 w _⟩
set_option maxRecDepth 100000 in
set_option maxHeartbeats 1600000 in
theorem fwrite_ok (k : Int) (s : ByteArray) (w : World) (h0 : 1 ≤ k) (h : k ≤ 99) (hl : s.size ≤ 4096) : Calls Tryd.prog 9 #[.agg #[.int .i64 k, .string s]] w fun e w' => e = .returned (.tuple #[.string (frW k s), frV k s]) ∧ Below w.heap.size w w' := by
  have HS := Lib.hid (fr_ok (k := k) (s := s) (by omega) (by omega))
  have D1 := Lib.hid (fun W => onum k W (by omega) (by omega))
  have D2 := Lib.hid (fun W => otext s W (by omega))
  have D3 := Lib.hid (fun W => seal_any (frB k s) W (by have := frB_size h (s := s) (by omega); omega))
  have z0 := frB_size h (s := s) (by omega)
  have z1 := numN_small k (by omega)
  have z2 := otz s hl
  have hB : numN k.toNat ++ (numN s.size ++ s) = frB k s := rfl
  obtain ⟨x, hx⟩ : ∃ x, numN k.toNat = x := ⟨_, rfl⟩
  obtain ⟨y, hy⟩ : ∃ y, numN s.size ++ s = y := ⟨_, rfl⟩
  obtain ⟨z, hz⟩ : ∃ z, frB k s = z := ⟨_, rfl⟩
  obtain ⟨v, hv⟩ : ∃ v, z ++ sumStr (moreN 0 z.data.toList) = v := ⟨_, rfl⟩
  rw [hx] at D1 z1 hB
  rw [hy] at D2 z2 hB
  rw [hz] at D3 z0 hB HS
  rw [hv] at D3 HS
  have hadd : ∀ W : World, (Op.stringOp .add x y).run Tryd.prog W = .ok (.string z) W := fun W => by rw [run_string_add W x y (by omega) (by omega), hB]
  have q1 : IntKind.u64.wrap k = k := by rw [IntKind.wrap_u64]; omega
  have hl2 : (s.size : Int) ≤ 4096 := by omega
  clear hx hy hz hv hB
  have d0 : decide (k < 1) = false := decide_eq_false (by omega)
  have d1 : decide (99 < k) = false := decide_eq_false (by omega)
  have d2 : decide (4096 < (s.size : Int)) = false := decide_eq_false (by omega)
  go_enter Tryd.func9, Tryd.ntmps9
  go_wp2
  have k1 : (w.alloc (.cells #[.int .i64 k, .string s] 29)).cell? ⟨w.heap.size, 0, none⟩ = some (.int .i64 k) := by simp
  have k2 : (w.alloc (.cells #[.int .i64 k, .string s] 29)).cell? ⟨w.heap.size, 1, none⟩ = some (.string s) := by simp
  have c1 := cell_regrown k1
  have c2 := cell_regrown k2
  have HB := Lib.hid (Joins.below_alloc1 w (.cells #[.int .i64 k, .string s] 29))
  clear k1 k2
  generalize w.alloc (.cells #[.int .i64 k, .string s] 29) = W at *
  refine wp_region_quiet_below (by kernel_rfl) (by kernel_rfl) ?_
  repeat (first | go_big_quiet_step ((first | with_reducible exact Calls.regrown_of (D1.out _) | with_reducible exact Calls.regrown_of (D2.out _) | with_reducible exact Calls.regrown_of (D3.out _))) | quiet_step ((first | with_reducible exact Calls.regrown_of (D1.out _) | with_reducible exact Calls.regrown_of (D2.out _) | with_reducible exact Calls.regrown_of (D3.out _))))
  refine wpQuiet_nil ?_
  intro _ hw'
  obtain ⟨⟨dq, osq⟩, hw''⟩ := hw'
  subst hw''
  go_wp2
  go_ret2
  exact ⟨retW HS.out.2 (by rw [frV_ok HS.out.1]; rfl), HB.out.trans ((below_regrown W dq osq).mono HB.out.size)⟩
theorem fwrite (k : Int) (s : ByteArray) (w : World) : Calls Tryd.prog 9 #[.agg #[.int .i64 k, .string s]] w fun e w' => e = .returned (.tuple #[.string (frW k s), frV k s]) ∧ Below w.heap.size w w' := by
  by_cases h0 : k < 1
  · exact fwrite_low k s w h0
  by_cases h1 : 99 < k
  · exact fwrite_high k s w (by omega) h1
  by_cases h2 : 4096 < s.size
  · exact fwrite_long k s w (by omega) (by omega) h2
  · exact fwrite_ok k s w (by omega) (by omega) (by omega)
theorem fto (a : Int) (s : ByteArray) (w : World) : Calls Tryd.prog 10 #[.agg #[.int .i64 a, .string s]] w fun e w' => e = .returned (.agg #[.int .i64 a, .string s]) ∧ Below w.heap.size w w' := by
  go_enter Tryd.func10, Tryd.ntmps10
  go_wp2
  exact bodyPost_ret (v := .agg #[.int .i64 a, .string s]) (by simp [results, Tryd.results10, go_sem]) rfl ⟨rfl, by repeat (first | exact Joins.below_alloc2 w _ _ | refine Below.setCell ?_ (by simp) _)⟩
theorem ffrom (a : Int) (s : ByteArray) (w : World) : Calls Tryd.prog 12 #[.agg #[.int .i64 a, .string s]] w fun e w' => e = .returned (.agg #[.int .i64 a, .string s]) ∧ Below w.heap.size w w' := by
  go_enter Tryd.func12, Tryd.ntmps12
  go_wp2
  exact bodyPost_ret (v := .agg #[.int .i64 a, .string s]) (by simp [results, Tryd.results12, go_sem]) rfl ⟨rfl, by repeat (first | exact Joins.below_alloc2 w _ _ | refine Below.setCell ?_ (by simp) _)⟩
end Go.Proofs.YtofpefbnkmeokaaDoor
