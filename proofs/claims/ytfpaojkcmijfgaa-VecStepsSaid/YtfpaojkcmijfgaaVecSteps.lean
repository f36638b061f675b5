/- The law VecSteps returns true for every input: what was taken one by one is within, and just that.
   Conditions: none beyond the row's own. -/
import Derived.Test.YtfpaojkcmijfgaaVMap
import Derived.Test.YtfpaojkcmijfgaaVecWorks
import Derived.Test.YtfpaojkcmijfgaaVec4
import Derived.Test.YtfpaojkcmijfgaaTab
import Derived.Test.YtfpaojkcmijfgaaFrame
import Derived.Test.YtfpaojkcmijfgaaBox
import Derived.Test.YtfpaojkcmijfgaaLexQ
import Derived.Maps.OwnSet
import Derived.Deep.RegionHeld3
import Derived.Deep.DrawnRows
import Derived.Deep.CutRange
namespace Go.Proofs.Ytfpaojkcmijfgaa.lawVecSteps
open Go.ChangeShapes Go.WideShapes Go.ChangeAt Go.RowKit
open Go.ChangeMaps (open_string shut_string)
set_option linter.unusedVariables false
attribute [local go_sem ↓] Go.wp_at_zero Go.wp_at_succ
def Rel (w : World) (bv bm N : Nat) (c i : Value) (wr : World) : Prop :=
  ∃ (k : Nat) (D : DataW Unit) (x0 x1 x2 x3 x4 x5 x6 x7 : Int), k ≤ N ∧ i = .int .i64 k ∧ c = .int .u64 (x0 + x1 + x2 + x3 + x4 + x5 + x6 + x7) ∧ vchk x0 x1 x2 x3 x4 x5 x6 x7 = 0 ∧ 0 ≤ x0 ∧ 0 ≤ x1 ∧ 0 ≤ x2 ∧ 0 ≤ x3 ∧ 0 ≤ x4 ∧ 0 ≤ x5 ∧ 0 ≤ x6 ∧ 0 ≤ x7 ∧ x0 + x1 + x2 + x3 + x4 + x5 + x6 + x7 ≤ k ∧ MapI D x0 x1 x2 x3 x4 x5 x6 x7 ∧ Blk wr bv 64 #[.int .u32 x0, .int .u32 x1, .int .u32 x2, .int .u32 x3, .int .u32 x4, .int .u32 x5, .int .u32 x6, .int .u32 x7] ∧ Own wr bm k D ∧ Below w.heap.size w wr
theorem take_cases (x0 x1 x2 x3 x4 x5 x6 x7 o s : Int) (hv : vchk x0 x1 x2 x3 x4 x5 x6 x7 = 0) :
    (tkE x0 x1 x2 x3 x4 x5 x6 x7 o s = 11 ∧ hasB x0 x1 x2 x3 x4 x5 x6 x7 o s = true) ∨ (tkE x0 x1 x2 x3 x4 x5 x6 x7 o s = 2 ∧ hasB x0 x1 x2 x3 x4 x5 x6 x7 o s = false) ∨ (tkE x0 x1 x2 x3 x4 x5 x6 x7 o s = 17 ∧ hasB x0 x1 x2 x3 x4 x5 x6 x7 o s = false) ∨
    (tkE x0 x1 x2 x3 x4 x5 x6 x7 o s = 0 ∧ hasB x0 x1 x2 x3 x4 x5 x6 x7 o s = false ∧ idV o s = 0 ∧ s = pk x0 x1 x2 x3 x4 x5 x6 x7 o + 1 ∧ tkV x0 x1 x2 x3 x4 x5 x6 x7 o s = .agg #[.int .u32 (if o = 0 then s else x0), .int .u32 (if o = 1 then s else x1), .int .u32 (if o = 2 then s else x2), .int .u32 (if o = 3 then s else x3), .int .u32 (if o = 4 then s else x4), .int .u32 (if o = 5 then s else x5), .int .u32 (if o = 6 then s else x6), .int .u32 (if o = 7 then s else x7)]) := by
  by_cases hi : idV o s = 0
  · by_cases h1 : s ≤ pk x0 x1 x2 x3 x4 x5 x6 x7 o
    · exact .inl ⟨(tk_twice ⟨hv, hi⟩ h1).1, by unfold hasB; exact decide_eq_true ⟨hi, h1⟩⟩
    · by_cases h2 : s = pk x0 x1 x2 x3 x4 x5 x6 x7 o + 1
      · exact .inr (.inr (.inr ⟨(tk_ok ⟨hv, hi⟩ h2).1, by unfold hasB; exact decide_eq_false (fun h => h1 h.2), hi, h2, (tk_ok ⟨hv, hi⟩ h2).2⟩))
      · exact .inr (.inr (.inl ⟨(tk_gap ⟨hv, hi⟩ h1 h2).1, by unfold hasB; exact decide_eq_false (fun h => h1 h.2)⟩))
  · exact .inr (.inl ⟨(tk_bad (fun h => hi h.2)).1, by unfold hasB; exact decide_eq_false (fun h => hi h.1)⟩)
theorem below_grown {B : Nat} {w w' w'' : World} {b : Nat} (h : Below B w w') (hg : w'.grownBy w'' (some b)) (hB : B ≤ b) (hs : B ≤ w'.heap.size) : Below B w w'' :=
  ⟨hg.os.trans h.os, hg.tape.trans h.tape, hg.output.trans h.output, Nat.le_trans h.size hg.size, fun k hk => (hg.block k (by omega) (by intro e; injection e with e; omega)).trans (h.block k hk)⟩
set_option maxRecDepth 100000 in
set_option maxHeartbeats 6400000 in
theorem walk (A : Option Addr) (n cap : Nat) (V : Nat → Int × Int) (w : World) (hmax : n ≤ maxLen) (htab : Tab2 w .i64 .u32 A n V) :
    Calls Try.prog 10 #[.slice A n cap] w fun e w' => e = .returned (.bool true) ∧ Below w.heap.size w w' := by
  unfold maxLen at hmax
  have HT := Lib.hid htab
  clear htab
  obtain ⟨N, hN⟩ : ∃ N : Nat, N = min n 100 := ⟨_, rfl⟩
  have hN1 : N ≤ n := by omega
  have hN2 : N ≤ 100 := by omega
  have hN3 : N = n ∨ (N = 100 ∧ 100 < n) := by omega
  have HN := Lib.hid hN3
  clear hN hN3
  have hmm := @run_makeMap Try.prog
  go_enter Try.func10, Try.ntmps10
  go_wp2_with fail
  refine (vworks _).mono ?_; rintro e w1 ⟨rfl, hb1⟩
  have HB1 := Lib.hid hb1
  clear hb1
  have hws := HB1.out.size
  go_wp2_with fail
  have HV0 := Lib.hid ((Blk.new w1 64 #[.int .u32 0, .int .u32 0, .int .u32 0, .int .u32 0, .int .u32 0, .int .u32 0, .int .u32 0, .int .u32 0]).alloc (.map #[] 0))
  have HM0 : Hid (Own _ (w1.heap.size + 1) 0 (.map [])) := Lib.hid (by
    have h := World.ownsMap_made (w1.alloc (.cells #[.int .u32 0, .int .u32 0, .int .u32 0, .int .u32 0, .int .u32 0, .int .u32 0, .int .u32 0, .int .u32 0] 64)) Try.prog 66 (plainElem (H := Unit) Try.prog 4)
    have hsz : (w1.alloc (.cells #[.int .u32 0, .int .u32 0, .int .u32 0, .int .u32 0, .int .u32 0, .int .u32 0, .int .u32 0, .int .u32 0] 64)).heap.size = w1.heap.size + 1 := by simp
    rw [hsz] at h
    exact h)
  have HB2 := Lib.hid ((HB1.out.alloc HB1.out.size (.cells #[.int .u32 0, .int .u32 0, .int .u32 0, .int .u32 0, .int .u32 0, .int .u32 0, .int .u32 0, .int .u32 0] 64)).alloc (by simp; omega) (.map #[] 0))
  clear HB1 hmm
  go_loopw [4, 6] (fun c i wr => Rel w w1.heap.size (w1.heap.size + 1) N c i wr) (fun _ i _ => N - (intOf i).toNat)
  case atStart => exact ⟨0, .map [], 0, 0, 0, 0, 0, 0, 0, 0, Nat.zero_le _, rfl, rfl, by decide, Int.le_refl _, Int.le_refl _, Int.le_refl _, Int.le_refl _, Int.le_refl _, Int.le_refl _, Int.le_refl _, Int.le_refl _, Int.le_refl _, mapI_nil, HV0.out, HM0.out, HB2.out⟩
  case round =>
    clear HV0 HM0 HB2
    obtain ⟨k, D, x0, x1, x2, x3, x4, x5, x6, x7, hk, rfl, rfl, hv, p0, p1, p2, p3, p4, p5, p6, p7, hsum, hmi, hxv, hxm, hB⟩ := hrel
    have HVv := Lib.hid hv
    have HS := Lib.hid hsum
    have HMI := Lib.hid hmi
    have HV := Lib.hid hxv
    have HM := Lib.hid hxm
    have HB := Lib.hid hB
    clear hxv hxm hB hmi hsum hv
    by_cases hkN : k < N
    · obtain ⟨⟨b, off, rfl, hc0, hc1⟩, hw0, hw1⟩ := HT.out k (by omega)
      obtain ⟨⟨o, s⟩, hx⟩ : ∃ x, V k = x := ⟨_, rfl⟩
      rw [hx] at hc0 hc1 hw0 hw1
      simp only at hc0 hc1 hw0 hw1
      clear hx
      have HW0 := Lib.hid hw0
      have HW1 := Lib.hid hw1
      have ps := (wf_u32 hw1).1
      clear hw0 hw1
      have hbl : b < w.heap.size := Go.block_lt_of_cell hc0
      have hd0 : wr.cell? ⟨b, off + k * 2, none⟩ = some (.int .i64 o) := by rw [HB.out.cell (p := ⟨b, off + k * 2, none⟩) hbl]; exact hc0
      have hd1 : wr.cell? ⟨b, off + k * 2 + 1, none⟩ = some (.int .u32 s) := by rw [HB.out.cell (p := ⟨b, off + k * 2 + 1, none⟩) hbl]; exact hc1
      clear hc0 hc1
      have hk0 : (0 : Int) ≤ (k : Int) := by omega
      have hk1 : (k : Int) < (n : Int) := by omega
      have hk2 : (k : Int) < 100 := by omega
      have HLK : Hid (∀ W : World, Own W (w1.heap.size + 1) k D → (Instr.lookup 79 (.map (some (w1.heap.size + 1))) (.agg #[.int .i64 o, .int .u32 s]) false).run Try.prog W = .ok (.bool (hasB x0 x1 x2 x3 x4 x5 x6 x7 o s)) W) := Lib.hid (fun W h => h.look HW0.out HW1.out (HMI.out.2 o s HW0.out HW1.out))
      have DT := Lib.hid (fun W => vtake x0 x1 x2 x3 x4 x5 x6 x7 o s W p0 p1 p2 p3 p4 p5 p6 p7 ps)
      have DH := Lib.hid (fun W => vhas x0 x1 x2 x3 x4 x5 x6 x7 o s W ps)
      have HC := take_cases x0 x1 x2 x3 x4 x5 x6 x7 o s HVv.out
      have k_0 := HV.out.cell 0
      have k_1 := HV.out.cell 1
      have k_2 := HV.out.cell 2
      have k_3 := HV.out.cell 3
      have k_4 := HV.out.cell 4
      have k_5 := HV.out.cell 5
      have k_6 := HV.out.cell 6
      have k_7 := HV.out.cell 7
      simp at k_0 k_1 k_2 k_3 k_4 k_5 k_6 k_7
      have hlV := HV.out.lt
      have hlM := World.ownsMap.lt HM.out
      have HNO : Hid ((∃ e b, ((e = 11 ∧ b = true) ∨ (e = 2 ∧ b = false) ∨ (e = 17 ∧ b = false)) ∧ tkE x0 x1 x2 x3 x4 x5 x6 x7 o s = e ∧ hasB x0 x1 x2 x3 x4 x5 x6 x7 o s = b) ∨
        (tkE x0 x1 x2 x3 x4 x5 x6 x7 o s = 0 ∧ hasB x0 x1 x2 x3 x4 x5 x6 x7 o s = false ∧ idV o s = 0 ∧ s = pk x0 x1 x2 x3 x4 x5 x6 x7 o + 1 ∧ tkV x0 x1 x2 x3 x4 x5 x6 x7 o s = .agg #[.int .u32 (if o = 0 then s else x0), .int .u32 (if o = 1 then s else x1), .int .u32 (if o = 2 then s else x2), .int .u32 (if o = 3 then s else x3), .int .u32 (if o = 4 then s else x4), .int .u32 (if o = 5 then s else x5), .int .u32 (if o = 6 then s else x6), .int .u32 (if o = 7 then s else x7)])) := Lib.hid (by
          rcases HC with ⟨h1, h2⟩ | ⟨h1, h2⟩ | ⟨h1, h2⟩ | h
          · exact .inl ⟨11, true, .inl ⟨rfl, rfl⟩, h1, h2⟩
          · exact .inl ⟨2, false, .inr (.inl ⟨rfl, rfl⟩), h1, h2⟩
          · exact .inl ⟨17, false, .inr (.inr ⟨rfl, rfl⟩), h1, h2⟩
          · exact .inr h)
      clear HC
      rcases HNO.out with ⟨e, bb, hcase, he, hbb⟩ | ⟨he, hbb, hid, hps, htv⟩
      · clear HNO
        obtain ⟨qz0, qz1, qz2, qz3, qz4, qz5, qz6, qz7, hz⟩ := tk_shape x0 x1 x2 x3 x4 x5 x6 x7 o s
        rw [he, hz] at DT
        rw [hbb] at DH HLK
        clear he hbb hz
        rcases hcase with ⟨rfl, rfl⟩ | ⟨rfl, rfl⟩ | ⟨rfl, rfl⟩
        · skip
          go_wp2_with fail
          refine wp_region_box [⟨9, 10, 7, 64, #[.int .u32 0, .int .u32 0, .int .u32 0, .int .u32 0, .int .u32 0, .int .u32 0, .int .u32 0, .int .u32 0], #[.int .u32 qz0, .int .u32 qz1, .int .u32 qz2, .int .u32 qz3, .int .u32 qz4, .int .u32 qz5, .int .u32 qz6, .int .u32 qz7]⟩] (by kernel_rfl) (by kernel_rfl) (by simp) (by simp) ?_
          apply Exists.intro
          refine ⟨?_, ?_, ?_⟩
          · intro WB hWB
            have cb0 := cellW k_0 hWB
            have cb1 := cellW k_1 hWB
            have cb2 := cellW k_2 hWB
            have cb3 := cellW k_3 hWB
            have cb4 := cellW k_4 hWB
            have cb5 := cellW k_5 hWB
            have cb6 := cellW k_6 hWB
            have cb7 := cellW k_7 hWB
            have cb8 := cellW hd0 hWB
            have cb9 := cellW hd1 hWB
            simp only [List.map_cons, List.map_nil, neut]
            repeat (first | go_big_quiet_step ((first | with_reducible exact Calls.regrown_of (DT.out _))) | quiet_step ((first | with_reducible exact Calls.regrown_of (DT.out _))))
            exact rfl
          · intro b hb
            simp only [List.mem_cons, List.mem_nil_iff, or_false] at hb
            rcases hb with rfl
            · refine ⟨⟨_, rfl, rfl, rfl, fun a W => by kernel_rfl⟩, by simp, Or.inl ⟨_, rfl, rfl, rfl, by kernel_rfl, fun V g h => ?_⟩⟩
              have HX : Blk V g 64 #[.int .u32 0, .int .u32 0, .int .u32 0, .int .u32 0, .int .u32 0, .int .u32 0, .int .u32 0, .int .u32 0] := h
              have z0 := HX.cell 0
              have z1 := HX.cell 1
              have z2 := HX.cell 2
              have z3 := HX.cell 3
              have z4 := HX.cell 4
              have z5 := HX.cell 5
              have z6 := HX.cell 6
              have z7 := HX.cell 7
              have y0 := HX.frozen 0
              have y1 := HX.frozen 1
              have y2 := HX.frozen 2
              have y3 := HX.frozen 3
              have y4 := HX.frozen 4
              have y5 := HX.frozen 5
              have y6 := HX.frozen 6
              have y7 := HX.frozen 7
              simp at z0 z1 z2 z3 z4 z5 z6 z7
              refine ⟨((((((((V.setCell ⟨g, 0, none⟩ (.int .u32 qz0)).setCell ⟨g, 1, none⟩ (.int .u32 qz1)).setCell ⟨g, 2, none⟩ (.int .u32 qz2)).setCell ⟨g, 3, none⟩ (.int .u32 qz3)).setCell ⟨g, 4, none⟩ (.int .u32 qz4)).setCell ⟨g, 5, none⟩ (.int .u32 qz5)).setCell ⟨g, 6, none⟩ (.int .u32 qz6)).setCell ⟨g, 7, none⟩ (.int .u32 qz7)), ?_, ((((((((HX.set_ 0 (.int .u32 qz0)).set_ 1 (.int .u32 qz1)).set_ 2 (.int .u32 qz2)).set_ 3 (.int .u32 qz3)).set_ 4 (.int .u32 qz4)).set_ 5 (.int .u32 qz5)).set_ 6 (.int .u32 qz6)).set_ 7 (.int .u32 qz7)), (grownB_set (grownB_set (grownB_set (grownB_set (grownB_set (grownB_set (grownB_set (grownB_set (grownB_refl _ _) (.int .u32 qz0)) (.int .u32 qz1)) (.int .u32 qz2)) (.int .u32 qz3)) (.int .u32 qz4)) (.int .u32 qz5)) (.int .u32 qz6)) (.int .u32 qz7))⟩
              simp only [Act.put, List.setIfInBounds_toArray, List.set_cons_zero, List.set_cons_succ]
              go_simp
          · intro β wB hwB hbs hne
            simp only [List.forall_mem_cons] at hbs
            obtain ⟨⟨gB0, XB0⟩, _⟩ := hbs
            simp only [fillB, Act.put, List.setIfInBounds_toArray, List.set_cons_zero, List.set_cons_succ]
            clear hne
            generalize β 9 = bx at gB0 XB0 ⊢
            have HX := Lib.hid (show Blk wB bx 64 #[.int .u32 qz0, .int .u32 qz1, .int .u32 qz2, .int .u32 qz3, .int .u32 qz4, .int .u32 qz5, .int .u32 qz6, .int .u32 qz7] from XB0)
            have HV1 := Lib.hid (HV.out.keep hwB)
            have HM1 := Lib.hid (Own.keep HM.out hwB)
            have HC1 := Lib.hid (HB.out.trans (hwB.mono HB.out.size))
            have hg0 : wB.cell? ⟨b, off + k * 2, none⟩ = some (.int .i64 o) := by rw [hwB.cell (p := ⟨b, off + k * 2, none⟩) (by show b < _; have := HB.out.size; omega)]; exact hd0
            have hg1 : wB.cell? ⟨b, off + k * 2 + 1, none⟩ = some (.int .u32 s) := by rw [hwB.cell (p := ⟨b, off + k * 2 + 1, none⟩) (by show b < _; have := HB.out.size; omega)]; exact hd1
            clear XB0 hwB HV HM HB hd0 hd1 k_0 k_1 k_2 k_3 k_4 k_5 k_6 k_7
            have v_0 := HV1.out.cell 0
            have v_1 := HV1.out.cell 1
            have v_2 := HV1.out.cell 2
            have v_3 := HV1.out.cell 3
            have v_4 := HV1.out.cell 4
            have v_5 := HV1.out.cell 5
            have v_6 := HV1.out.cell 6
            have v_7 := HV1.out.cell 7
            simp at v_0 v_1 v_2 v_3 v_4 v_5 v_6 v_7
            have r0 := cell_regrown v_0
            have r1 := cell_regrown v_1
            have r2 := cell_regrown v_2
            have r3 := cell_regrown v_3
            have r4 := cell_regrown v_4
            have r5 := cell_regrown v_5
            have r6 := cell_regrown v_6
            have r7 := cell_regrown v_7
            have r8 := cell_regrown hg0
            have r9 := cell_regrown hg1
            have hlk : ∀ (dq : Nat) (osq : Array Obj), (Instr.lookup 79 (.map (some (w1.heap.size + 1))) (.agg #[.int .i64 o, .int .u32 s]) false).run Try.prog (Sort.grow (redrawn wB dq) osq) = .ok (.bool true) (Sort.grow (redrawn wB dq) osq) := fun dq osq => HLK.out _ (Own.keep HM1.out (below_regrown wB dq osq))
            clear HLK
            go_upto_region 10 with (fail)
            refine wp_region_quiet_below (by kernel_rfl) (by kernel_rfl) ?_
            repeat (first | go_big_quiet_step ((first | with_reducible exact Calls.regrown_of (DH.out _))) | quiet_step ((first | with_reducible exact Calls.regrown_of (DH.out _))))
            refine wpQuiet_nil ?_
            intro _ hw'
            obtain ⟨⟨dq, osq⟩, hw''⟩ := hw'
            subst hw''
            have HX2 := Lib.hid (HX.out.keep (below_regrown wB dq osq))
            have HV2 := Lib.hid (HV1.out.keep (below_regrown wB dq osq))
            have HM2 := Lib.hid (Own.keep HM1.out (below_regrown wB dq osq))
            have HC2 := Lib.hid (HC1.out.trans ((below_regrown wB dq osq).mono HC1.out.size))
            have hf0 := r8 dq osq
            have hf1 := r9 dq osq
            clear hlk v_0 v_1 v_2 v_3 v_4 v_5 v_6 v_7 r0 r1 r2 r3 r4 r5 r6 r7 r8 r9 hg0 hg1 HX HV1 HM1 HC1
            generalize Sort.grow (redrawn wB dq) osq = W2 at *
            go_wp2
            go_roundw
            case rel => exact ⟨k + 1, D, x0, x1, x2, x3, x4, x5, x6, x7, by omega, by go_num, rfl, HVv.out, p0, p1, p2, p3, p4, p5, p6, p7, by have := HS.out; omega, HMI.out, HV2.out, World.ownsMap.mono HM2.out (by omega), HC2.out⟩
            case measure => simp [intOf] <;> omega
        · skip
          go_wp2_with fail
          refine wp_region_box [⟨9, 10, 7, 64, #[.int .u32 0, .int .u32 0, .int .u32 0, .int .u32 0, .int .u32 0, .int .u32 0, .int .u32 0, .int .u32 0], #[.int .u32 qz0, .int .u32 qz1, .int .u32 qz2, .int .u32 qz3, .int .u32 qz4, .int .u32 qz5, .int .u32 qz6, .int .u32 qz7]⟩] (by kernel_rfl) (by kernel_rfl) (by simp) (by simp) ?_
          apply Exists.intro
          refine ⟨?_, ?_, ?_⟩
          · intro WB hWB
            have cb0 := cellW k_0 hWB
            have cb1 := cellW k_1 hWB
            have cb2 := cellW k_2 hWB
            have cb3 := cellW k_3 hWB
            have cb4 := cellW k_4 hWB
            have cb5 := cellW k_5 hWB
            have cb6 := cellW k_6 hWB
            have cb7 := cellW k_7 hWB
            have cb8 := cellW hd0 hWB
            have cb9 := cellW hd1 hWB
            simp only [List.map_cons, List.map_nil, neut]
            repeat (first | go_big_quiet_step ((first | with_reducible exact Calls.regrown_of (DT.out _))) | quiet_step ((first | with_reducible exact Calls.regrown_of (DT.out _))))
            exact rfl
          · intro b hb
            simp only [List.mem_cons, List.mem_nil_iff, or_false] at hb
            rcases hb with rfl
            · refine ⟨⟨_, rfl, rfl, rfl, fun a W => by kernel_rfl⟩, by simp, Or.inl ⟨_, rfl, rfl, rfl, by kernel_rfl, fun V g h => ?_⟩⟩
              have HX : Blk V g 64 #[.int .u32 0, .int .u32 0, .int .u32 0, .int .u32 0, .int .u32 0, .int .u32 0, .int .u32 0, .int .u32 0] := h
              have z0 := HX.cell 0
              have z1 := HX.cell 1
              have z2 := HX.cell 2
              have z3 := HX.cell 3
              have z4 := HX.cell 4
              have z5 := HX.cell 5
              have z6 := HX.cell 6
              have z7 := HX.cell 7
              have y0 := HX.frozen 0
              have y1 := HX.frozen 1
              have y2 := HX.frozen 2
              have y3 := HX.frozen 3
              have y4 := HX.frozen 4
              have y5 := HX.frozen 5
              have y6 := HX.frozen 6
              have y7 := HX.frozen 7
              simp at z0 z1 z2 z3 z4 z5 z6 z7
              refine ⟨((((((((V.setCell ⟨g, 0, none⟩ (.int .u32 qz0)).setCell ⟨g, 1, none⟩ (.int .u32 qz1)).setCell ⟨g, 2, none⟩ (.int .u32 qz2)).setCell ⟨g, 3, none⟩ (.int .u32 qz3)).setCell ⟨g, 4, none⟩ (.int .u32 qz4)).setCell ⟨g, 5, none⟩ (.int .u32 qz5)).setCell ⟨g, 6, none⟩ (.int .u32 qz6)).setCell ⟨g, 7, none⟩ (.int .u32 qz7)), ?_, ((((((((HX.set_ 0 (.int .u32 qz0)).set_ 1 (.int .u32 qz1)).set_ 2 (.int .u32 qz2)).set_ 3 (.int .u32 qz3)).set_ 4 (.int .u32 qz4)).set_ 5 (.int .u32 qz5)).set_ 6 (.int .u32 qz6)).set_ 7 (.int .u32 qz7)), (grownB_set (grownB_set (grownB_set (grownB_set (grownB_set (grownB_set (grownB_set (grownB_set (grownB_refl _ _) (.int .u32 qz0)) (.int .u32 qz1)) (.int .u32 qz2)) (.int .u32 qz3)) (.int .u32 qz4)) (.int .u32 qz5)) (.int .u32 qz6)) (.int .u32 qz7))⟩
              simp only [Act.put, List.setIfInBounds_toArray, List.set_cons_zero, List.set_cons_succ]
              go_simp
          · intro β wB hwB hbs hne
            simp only [List.forall_mem_cons] at hbs
            obtain ⟨⟨gB0, XB0⟩, _⟩ := hbs
            simp only [fillB, Act.put, List.setIfInBounds_toArray, List.set_cons_zero, List.set_cons_succ]
            clear hne
            generalize β 9 = bx at gB0 XB0 ⊢
            have HX := Lib.hid (show Blk wB bx 64 #[.int .u32 qz0, .int .u32 qz1, .int .u32 qz2, .int .u32 qz3, .int .u32 qz4, .int .u32 qz5, .int .u32 qz6, .int .u32 qz7] from XB0)
            have HV1 := Lib.hid (HV.out.keep hwB)
            have HM1 := Lib.hid (Own.keep HM.out hwB)
            have HC1 := Lib.hid (HB.out.trans (hwB.mono HB.out.size))
            have hg0 : wB.cell? ⟨b, off + k * 2, none⟩ = some (.int .i64 o) := by rw [hwB.cell (p := ⟨b, off + k * 2, none⟩) (by show b < _; have := HB.out.size; omega)]; exact hd0
            have hg1 : wB.cell? ⟨b, off + k * 2 + 1, none⟩ = some (.int .u32 s) := by rw [hwB.cell (p := ⟨b, off + k * 2 + 1, none⟩) (by show b < _; have := HB.out.size; omega)]; exact hd1
            clear XB0 hwB HV HM HB hd0 hd1 k_0 k_1 k_2 k_3 k_4 k_5 k_6 k_7
            have v_0 := HV1.out.cell 0
            have v_1 := HV1.out.cell 1
            have v_2 := HV1.out.cell 2
            have v_3 := HV1.out.cell 3
            have v_4 := HV1.out.cell 4
            have v_5 := HV1.out.cell 5
            have v_6 := HV1.out.cell 6
            have v_7 := HV1.out.cell 7
            simp at v_0 v_1 v_2 v_3 v_4 v_5 v_6 v_7
            have r0 := cell_regrown v_0
            have r1 := cell_regrown v_1
            have r2 := cell_regrown v_2
            have r3 := cell_regrown v_3
            have r4 := cell_regrown v_4
            have r5 := cell_regrown v_5
            have r6 := cell_regrown v_6
            have r7 := cell_regrown v_7
            have r8 := cell_regrown hg0
            have r9 := cell_regrown hg1
            have hlk : ∀ (dq : Nat) (osq : Array Obj), (Instr.lookup 79 (.map (some (w1.heap.size + 1))) (.agg #[.int .i64 o, .int .u32 s]) false).run Try.prog (Sort.grow (redrawn wB dq) osq) = .ok (.bool false) (Sort.grow (redrawn wB dq) osq) := fun dq osq => HLK.out _ (Own.keep HM1.out (below_regrown wB dq osq))
            clear HLK
            go_upto_region 10 with (fail)
            refine wp_region_quiet_below (by kernel_rfl) (by kernel_rfl) ?_
            repeat (first | go_big_quiet_step ((first | with_reducible exact Calls.regrown_of (DH.out _))) | quiet_step ((first | with_reducible exact Calls.regrown_of (DH.out _))))
            refine wpQuiet_nil ?_
            intro _ hw'
            obtain ⟨⟨dq, osq⟩, hw''⟩ := hw'
            subst hw''
            have HX2 := Lib.hid (HX.out.keep (below_regrown wB dq osq))
            have HV2 := Lib.hid (HV1.out.keep (below_regrown wB dq osq))
            have HM2 := Lib.hid (Own.keep HM1.out (below_regrown wB dq osq))
            have HC2 := Lib.hid (HC1.out.trans ((below_regrown wB dq osq).mono HC1.out.size))
            have hf0 := r8 dq osq
            have hf1 := r9 dq osq
            clear hlk v_0 v_1 v_2 v_3 v_4 v_5 v_6 v_7 r0 r1 r2 r3 r4 r5 r6 r7 r8 r9 hg0 hg1 HX HV1 HM1 HC1
            generalize Sort.grow (redrawn wB dq) osq = W2 at *
            go_wp2
            go_roundw
            case rel => exact ⟨k + 1, D, x0, x1, x2, x3, x4, x5, x6, x7, by omega, by go_num, rfl, HVv.out, p0, p1, p2, p3, p4, p5, p6, p7, by have := HS.out; omega, HMI.out, HV2.out, World.ownsMap.mono HM2.out (by omega), HC2.out⟩
            case measure => simp [intOf] <;> omega
        · skip
          go_wp2_with fail
          refine wp_region_box [⟨9, 10, 7, 64, #[.int .u32 0, .int .u32 0, .int .u32 0, .int .u32 0, .int .u32 0, .int .u32 0, .int .u32 0, .int .u32 0], #[.int .u32 qz0, .int .u32 qz1, .int .u32 qz2, .int .u32 qz3, .int .u32 qz4, .int .u32 qz5, .int .u32 qz6, .int .u32 qz7]⟩] (by kernel_rfl) (by kernel_rfl) (by simp) (by simp) ?_
          apply Exists.intro
          refine ⟨?_, ?_, ?_⟩
          · intro WB hWB
            have cb0 := cellW k_0 hWB
            have cb1 := cellW k_1 hWB
            have cb2 := cellW k_2 hWB
            have cb3 := cellW k_3 hWB
            have cb4 := cellW k_4 hWB
            have cb5 := cellW k_5 hWB
            have cb6 := cellW k_6 hWB
            have cb7 := cellW k_7 hWB
            have cb8 := cellW hd0 hWB
            have cb9 := cellW hd1 hWB
            simp only [List.map_cons, List.map_nil, neut]
            repeat (first | go_big_quiet_step ((first | with_reducible exact Calls.regrown_of (DT.out _))) | quiet_step ((first | with_reducible exact Calls.regrown_of (DT.out _))))
            exact rfl
          · intro b hb
            simp only [List.mem_cons, List.mem_nil_iff, or_false] at hb
            rcases hb with rfl
            · refine ⟨⟨_, rfl, rfl, rfl, fun a W => by kernel_rfl⟩, by simp, Or.inl ⟨_, rfl, rfl, rfl, by kernel_rfl, fun V g h => ?_⟩⟩
              have HX : Blk V g 64 #[.int .u32 0, .int .u32 0, .int .u32 0, .int .u32 0, .int .u32 0, .int .u32 0, .int .u32 0, .int .u32 0] := h
              have z0 := HX.cell 0
              have z1 := HX.cell 1
              have z2 := HX.cell 2
              have z3 := HX.cell 3
              have z4 := HX.cell 4
              have z5 := HX.cell 5
              have z6 := HX.cell 6
              have z7 := HX.cell 7
              have y0 := HX.frozen 0
              have y1 := HX.frozen 1
              have y2 := HX.frozen 2
              have y3 := HX.frozen 3
              have y4 := HX.frozen 4
              have y5 := HX.frozen 5
              have y6 := HX.frozen 6
              have y7 := HX.frozen 7
              simp at z0 z1 z2 z3 z4 z5 z6 z7
              refine ⟨((((((((V.setCell ⟨g, 0, none⟩ (.int .u32 qz0)).setCell ⟨g, 1, none⟩ (.int .u32 qz1)).setCell ⟨g, 2, none⟩ (.int .u32 qz2)).setCell ⟨g, 3, none⟩ (.int .u32 qz3)).setCell ⟨g, 4, none⟩ (.int .u32 qz4)).setCell ⟨g, 5, none⟩ (.int .u32 qz5)).setCell ⟨g, 6, none⟩ (.int .u32 qz6)).setCell ⟨g, 7, none⟩ (.int .u32 qz7)), ?_, ((((((((HX.set_ 0 (.int .u32 qz0)).set_ 1 (.int .u32 qz1)).set_ 2 (.int .u32 qz2)).set_ 3 (.int .u32 qz3)).set_ 4 (.int .u32 qz4)).set_ 5 (.int .u32 qz5)).set_ 6 (.int .u32 qz6)).set_ 7 (.int .u32 qz7)), (grownB_set (grownB_set (grownB_set (grownB_set (grownB_set (grownB_set (grownB_set (grownB_set (grownB_refl _ _) (.int .u32 qz0)) (.int .u32 qz1)) (.int .u32 qz2)) (.int .u32 qz3)) (.int .u32 qz4)) (.int .u32 qz5)) (.int .u32 qz6)) (.int .u32 qz7))⟩
              simp only [Act.put, List.setIfInBounds_toArray, List.set_cons_zero, List.set_cons_succ]
              go_simp
          · intro β wB hwB hbs hne
            simp only [List.forall_mem_cons] at hbs
            obtain ⟨⟨gB0, XB0⟩, _⟩ := hbs
            simp only [fillB, Act.put, List.setIfInBounds_toArray, List.set_cons_zero, List.set_cons_succ]
            clear hne
            generalize β 9 = bx at gB0 XB0 ⊢
            have HX := Lib.hid (show Blk wB bx 64 #[.int .u32 qz0, .int .u32 qz1, .int .u32 qz2, .int .u32 qz3, .int .u32 qz4, .int .u32 qz5, .int .u32 qz6, .int .u32 qz7] from XB0)
            have HV1 := Lib.hid (HV.out.keep hwB)
            have HM1 := Lib.hid (Own.keep HM.out hwB)
            have HC1 := Lib.hid (HB.out.trans (hwB.mono HB.out.size))
            have hg0 : wB.cell? ⟨b, off + k * 2, none⟩ = some (.int .i64 o) := by rw [hwB.cell (p := ⟨b, off + k * 2, none⟩) (by show b < _; have := HB.out.size; omega)]; exact hd0
            have hg1 : wB.cell? ⟨b, off + k * 2 + 1, none⟩ = some (.int .u32 s) := by rw [hwB.cell (p := ⟨b, off + k * 2 + 1, none⟩) (by show b < _; have := HB.out.size; omega)]; exact hd1
            clear XB0 hwB HV HM HB hd0 hd1 k_0 k_1 k_2 k_3 k_4 k_5 k_6 k_7
            have v_0 := HV1.out.cell 0
            have v_1 := HV1.out.cell 1
            have v_2 := HV1.out.cell 2
            have v_3 := HV1.out.cell 3
            have v_4 := HV1.out.cell 4
            have v_5 := HV1.out.cell 5
            have v_6 := HV1.out.cell 6
            have v_7 := HV1.out.cell 7
            simp at v_0 v_1 v_2 v_3 v_4 v_5 v_6 v_7
            have r0 := cell_regrown v_0
            have r1 := cell_regrown v_1
            have r2 := cell_regrown v_2
            have r3 := cell_regrown v_3
            have r4 := cell_regrown v_4
            have r5 := cell_regrown v_5
            have r6 := cell_regrown v_6
            have r7 := cell_regrown v_7
            have r8 := cell_regrown hg0
            have r9 := cell_regrown hg1
            have hlk : ∀ (dq : Nat) (osq : Array Obj), (Instr.lookup 79 (.map (some (w1.heap.size + 1))) (.agg #[.int .i64 o, .int .u32 s]) false).run Try.prog (Sort.grow (redrawn wB dq) osq) = .ok (.bool false) (Sort.grow (redrawn wB dq) osq) := fun dq osq => HLK.out _ (Own.keep HM1.out (below_regrown wB dq osq))
            clear HLK
            go_upto_region 10 with (fail)
            refine wp_region_quiet_below (by kernel_rfl) (by kernel_rfl) ?_
            repeat (first | go_big_quiet_step ((first | with_reducible exact Calls.regrown_of (DH.out _))) | quiet_step ((first | with_reducible exact Calls.regrown_of (DH.out _))))
            refine wpQuiet_nil ?_
            intro _ hw'
            obtain ⟨⟨dq, osq⟩, hw''⟩ := hw'
            subst hw''
            have HX2 := Lib.hid (HX.out.keep (below_regrown wB dq osq))
            have HV2 := Lib.hid (HV1.out.keep (below_regrown wB dq osq))
            have HM2 := Lib.hid (Own.keep HM1.out (below_regrown wB dq osq))
            have HC2 := Lib.hid (HC1.out.trans ((below_regrown wB dq osq).mono HC1.out.size))
            have hf0 := r8 dq osq
            have hf1 := r9 dq osq
            clear hlk v_0 v_1 v_2 v_3 v_4 v_5 v_6 v_7 r0 r1 r2 r3 r4 r5 r6 r7 r8 r9 hg0 hg1 HX HV1 HM1 HC1
            generalize Sort.grow (redrawn wB dq) osq = W2 at *
            go_wp2
            go_roundw
            case rel => exact ⟨k + 1, D, x0, x1, x2, x3, x4, x5, x6, x7, by omega, by go_num, rfl, HVv.out, p0, p1, p2, p3, p4, p5, p6, p7, by have := HS.out; omega, HMI.out, HV2.out, World.ownsMap.mono HM2.out (by omega), HC2.out⟩
            case measure => simp [intOf] <;> omega
      · clear HNO
        rw [he, htv] at DT
        rw [hbb] at DH HLK
        have HP := Lib.hid (mapI_put HMI.out HW0.out HW1.out hid hps)
        have HQ := Lib.hid (upd_sum hid hps)
        have HK := Lib.hid (upd_chk HVv.out hid)
        have HL := Lib.hid (upd_le hid hps)
        have HU0 : Hid ((0 : Int) ≤ (if o = 0 then s else x0) ∧ (0 : Int) ≤ (if o = 1 then s else x1) ∧ (0 : Int) ≤ (if o = 2 then s else x2) ∧ (0 : Int) ≤ (if o = 3 then s else x3) ∧ (0 : Int) ≤ (if o = 4 then s else x4) ∧ (0 : Int) ≤ (if o = 5 then s else x5) ∧ (0 : Int) ≤ (if o = 6 then s else x6) ∧ (0 : Int) ≤ (if o = 7 then s else x7)) := Lib.hid (by refine ⟨?_, ?_, ?_, ?_, ?_, ?_, ?_, ?_⟩ <;> split <;> assumption)
        have HU1 : Hid ((if o = 0 then s else x0) ≤ (4294967295 : Int) ∧ (if o = 1 then s else x1) ≤ (4294967295 : Int) ∧ (if o = 2 then s else x2) ≤ (4294967295 : Int) ∧ (if o = 3 then s else x3) ≤ (4294967295 : Int) ∧ (if o = 4 then s else x4) ≤ (4294967295 : Int) ∧ (if o = 5 then s else x5) ≤ (4294967295 : Int) ∧ (if o = 6 then s else x6) ≤ (4294967295 : Int) ∧ (if o = 7 then s else x7) ≤ (4294967295 : Int)) := Lib.hid (by have := vchk_inv HVv.out; have := idV_inv hid; refine ⟨?_, ?_, ?_, ?_, ?_, ?_, ?_, ?_⟩ <;> split <;> omega)
        clear he hbb htv hps hid
        generalize (if o = 0 then s else x0) = qy0 at *
        generalize (if o = 1 then s else x1) = qy1 at *
        generalize (if o = 2 then s else x2) = qy2 at *
        generalize (if o = 3 then s else x3) = qy3 at *
        generalize (if o = 4 then s else x4) = qy4 at *
        generalize (if o = 5 then s else x5) = qy5 at *
        generalize (if o = 6 then s else x6) = qy6 at *
        generalize (if o = 7 then s else x7) = qy7 at *
        obtain ⟨u0, u1, u2, u3, u4, u5, u6, u7⟩ := HU0.out
        obtain ⟨t0, t1, t2, t3, t4, t5, t6, t7⟩ := HU1.out
        clear HU0 HU1
        have DL0 : ∀ W : World, Calls Try.prog 40 #[.agg #[.int .u32 x0, .int .u32 x1, .int .u32 x2, .int .u32 x3, .int .u32 x4, .int .u32 x5, .int .u32 x6, .int .u32 x7], .agg #[.int .u32 qy0, .int .u32 qy1, .int .u32 qy2, .int .u32 qy3, .int .u32 qy4, .int .u32 qy5, .int .u32 qy6, .int .u32 qy7]] W fun e w' => e = .returned (.bool true) ∧ Below W.heap.size W w' := fun W => (vle x0 x1 x2 x3 x4 x5 x6 x7 qy0 qy1 qy2 qy3 qy4 qy5 qy6 qy7 W).mono (by rintro e w' ⟨rfl, h⟩; exact ⟨by rw [HL.out], h⟩)
        have DL := Lib.hid DL0
        have DS := Lib.hid (fun W => vtotal qy0 qy1 qy2 qy3 qy4 qy5 qy6 qy7 W u0 t0 u1 t1 u2 t2 u3 t3 u4 t4 u5 t5 u6 t6 u7 t7)
        rw [HQ.out] at DS
        clear DL0
        have hsu := HS.out
        generalize hS : x0 + x1 + x2 + x3 + x4 + x5 + x6 + x7 = S at *
        have hS0 : 0 ≤ S := by omega
        have HSS := Lib.hid hS
        clear hS
        go_wp2_with fail
        refine wp_region_box [⟨9, 10, 7, 64, #[.int .u32 0, .int .u32 0, .int .u32 0, .int .u32 0, .int .u32 0, .int .u32 0, .int .u32 0, .int .u32 0], #[.int .u32 qy0, .int .u32 qy1, .int .u32 qy2, .int .u32 qy3, .int .u32 qy4, .int .u32 qy5, .int .u32 qy6, .int .u32 qy7]⟩] (by kernel_rfl) (by kernel_rfl) (by simp) (by simp) ?_
        apply Exists.intro
        refine ⟨?_, ?_, ?_⟩
        · intro WB hWB
          have cb0 := cellW k_0 hWB
          have cb1 := cellW k_1 hWB
          have cb2 := cellW k_2 hWB
          have cb3 := cellW k_3 hWB
          have cb4 := cellW k_4 hWB
          have cb5 := cellW k_5 hWB
          have cb6 := cellW k_6 hWB
          have cb7 := cellW k_7 hWB
          have cb8 := cellW hd0 hWB
          have cb9 := cellW hd1 hWB
          simp only [List.map_cons, List.map_nil, neut]
          repeat (first | go_big_quiet_step ((first | with_reducible exact Calls.regrown_of (DT.out _))) | quiet_step ((first | with_reducible exact Calls.regrown_of (DT.out _))))
          exact rfl
        · intro b hb
          simp only [List.mem_cons, List.mem_nil_iff, or_false] at hb
          rcases hb with rfl
          · refine ⟨⟨_, rfl, rfl, rfl, fun a W => by kernel_rfl⟩, by simp, Or.inl ⟨_, rfl, rfl, rfl, by kernel_rfl, fun V g h => ?_⟩⟩
            have HX : Blk V g 64 #[.int .u32 0, .int .u32 0, .int .u32 0, .int .u32 0, .int .u32 0, .int .u32 0, .int .u32 0, .int .u32 0] := h
            have z0 := HX.cell 0
            have z1 := HX.cell 1
            have z2 := HX.cell 2
            have z3 := HX.cell 3
            have z4 := HX.cell 4
            have z5 := HX.cell 5
            have z6 := HX.cell 6
            have z7 := HX.cell 7
            have y0 := HX.frozen 0
            have y1 := HX.frozen 1
            have y2 := HX.frozen 2
            have y3 := HX.frozen 3
            have y4 := HX.frozen 4
            have y5 := HX.frozen 5
            have y6 := HX.frozen 6
            have y7 := HX.frozen 7
            simp at z0 z1 z2 z3 z4 z5 z6 z7
            refine ⟨((((((((V.setCell ⟨g, 0, none⟩ (.int .u32 qy0)).setCell ⟨g, 1, none⟩ (.int .u32 qy1)).setCell ⟨g, 2, none⟩ (.int .u32 qy2)).setCell ⟨g, 3, none⟩ (.int .u32 qy3)).setCell ⟨g, 4, none⟩ (.int .u32 qy4)).setCell ⟨g, 5, none⟩ (.int .u32 qy5)).setCell ⟨g, 6, none⟩ (.int .u32 qy6)).setCell ⟨g, 7, none⟩ (.int .u32 qy7)), ?_, ((((((((HX.set_ 0 (.int .u32 qy0)).set_ 1 (.int .u32 qy1)).set_ 2 (.int .u32 qy2)).set_ 3 (.int .u32 qy3)).set_ 4 (.int .u32 qy4)).set_ 5 (.int .u32 qy5)).set_ 6 (.int .u32 qy6)).set_ 7 (.int .u32 qy7)), (grownB_set (grownB_set (grownB_set (grownB_set (grownB_set (grownB_set (grownB_set (grownB_set (grownB_refl _ _) (.int .u32 qy0)) (.int .u32 qy1)) (.int .u32 qy2)) (.int .u32 qy3)) (.int .u32 qy4)) (.int .u32 qy5)) (.int .u32 qy6)) (.int .u32 qy7))⟩
            simp only [Act.put, List.setIfInBounds_toArray, List.set_cons_zero, List.set_cons_succ]
            go_simp
        · intro β wB hwB hbs hne
          simp only [List.forall_mem_cons] at hbs
          obtain ⟨⟨gB0, XB0⟩, _⟩ := hbs
          simp only [fillB, Act.put, List.setIfInBounds_toArray, List.set_cons_zero, List.set_cons_succ]
          clear hne
          generalize β 9 = bx at gB0 XB0 ⊢
          have HX := Lib.hid (show Blk wB bx 64 #[.int .u32 qy0, .int .u32 qy1, .int .u32 qy2, .int .u32 qy3, .int .u32 qy4, .int .u32 qy5, .int .u32 qy6, .int .u32 qy7] from XB0)
          have HV1 := Lib.hid (HV.out.keep hwB)
          have HM1 := Lib.hid (Own.keep HM.out hwB)
          have HC1 := Lib.hid (HB.out.trans (hwB.mono HB.out.size))
          have hg0 : wB.cell? ⟨b, off + k * 2, none⟩ = some (.int .i64 o) := by rw [hwB.cell (p := ⟨b, off + k * 2, none⟩) (by show b < _; have := HB.out.size; omega)]; exact hd0
          have hg1 : wB.cell? ⟨b, off + k * 2 + 1, none⟩ = some (.int .u32 s) := by rw [hwB.cell (p := ⟨b, off + k * 2 + 1, none⟩) (by show b < _; have := HB.out.size; omega)]; exact hd1
          clear XB0 hwB HV HM HB hd0 hd1 k_0 k_1 k_2 k_3 k_4 k_5 k_6 k_7
          have v_0 := HV1.out.cell 0
          have v_1 := HV1.out.cell 1
          have v_2 := HV1.out.cell 2
          have v_3 := HV1.out.cell 3
          have v_4 := HV1.out.cell 4
          have v_5 := HV1.out.cell 5
          have v_6 := HV1.out.cell 6
          have v_7 := HV1.out.cell 7
          simp at v_0 v_1 v_2 v_3 v_4 v_5 v_6 v_7
          have r0 := cell_regrown v_0
          have r1 := cell_regrown v_1
          have r2 := cell_regrown v_2
          have r3 := cell_regrown v_3
          have r4 := cell_regrown v_4
          have r5 := cell_regrown v_5
          have r6 := cell_regrown v_6
          have r7 := cell_regrown v_7
          have r8 := cell_regrown hg0
          have r9 := cell_regrown hg1
          have hlk : ∀ (dq : Nat) (osq : Array Obj), (Instr.lookup 79 (.map (some (w1.heap.size + 1))) (.agg #[.int .i64 o, .int .u32 s]) false).run Try.prog (Sort.grow (redrawn wB dq) osq) = .ok (.bool false) (Sort.grow (redrawn wB dq) osq) := fun dq osq => HLK.out _ (Own.keep HM1.out (below_regrown wB dq osq))
          clear HLK
          go_upto_region 10 with (fail)
          refine wp_region_quiet_below (by kernel_rfl) (by kernel_rfl) ?_
          repeat (first | go_big_quiet_step ((first | with_reducible exact Calls.regrown_of (DH.out _))) | quiet_step ((first | with_reducible exact Calls.regrown_of (DH.out _))))
          refine wpQuiet_nil ?_
          intro _ hw'
          obtain ⟨⟨dq, osq⟩, hw''⟩ := hw'
          subst hw''
          have HX2 := Lib.hid (HX.out.keep (below_regrown wB dq osq))
          have HV2 := Lib.hid (HV1.out.keep (below_regrown wB dq osq))
          have HM2 := Lib.hid (Own.keep HM1.out (below_regrown wB dq osq))
          have HC2 := Lib.hid (HC1.out.trans ((below_regrown wB dq osq).mono HC1.out.size))
          have hf0 := r8 dq osq
          have hf1 := r9 dq osq
          clear hlk v_0 v_1 v_2 v_3 v_4 v_5 v_6 v_7 r0 r1 r2 r3 r4 r5 r6 r7 r8 r9 hg0 hg1 HX HV1 HM1 HC1
          generalize Sort.grow (redrawn wB dq) osq = W2 at *
          have hkey := key_id HW0.out HW1.out
          have hval := plainElem_bool (H := Unit) Try.underlying4 true
          have hown := HM2.out
          go_wp2_with (first | (at_mapUpdate; refine wpList_mapUpdate_own _ rfl _ _ _ 79 rfl 66 4 key_law Try.underlying79 _ (w1.heap.size + 1) k D rfl hown (by unfold maxLen; omega) _ _ (klit o s) rfl rfl hkey (.lit (.bool true)) [] hval ?_; intro W3 hown1 hgrow1; clear hown hkey hval; have HX3 := Lib.hid (HX2.out.grown hgrow1 (by intro e; injection e with e; omega)); have HV3 := Lib.hid (HV2.out.grown hgrow1 (by intro e; injection e with e; omega)); have HM3 := Lib.hid (show Own W3 (w1.heap.size + 1) (k + 1) _ from hown1); have HC3 := Lib.hid (below_grown HC2.out hgrow1 (by omega) HC2.out.size); clear hown1 hgrow1 HX2 HV2 HM2 HC2 hf0 hf1; have v_0 := HV3.out.cell 0; have v_1 := HV3.out.cell 1; have v_2 := HV3.out.cell 2; have v_3 := HV3.out.cell 3; have v_4 := HV3.out.cell 4; have v_5 := HV3.out.cell 5; have v_6 := HV3.out.cell 6; have v_7 := HV3.out.cell 7; simp at v_0 v_1 v_2 v_3 v_4 v_5 v_6 v_7; have b_0 := HX3.out.cell 0; have b_1 := HX3.out.cell 1; have b_2 := HX3.out.cell 2; have b_3 := HX3.out.cell 3; have b_4 := HX3.out.cell 4; have b_5 := HX3.out.cell 5; have b_6 := HX3.out.cell 6; have b_7 := HX3.out.cell 7; simp at b_0 b_1 b_2 b_3 b_4 b_5 b_6 b_7) | fail)
          refine (DL.out _).mono ?_; rintro e w4 ⟨rfl, hb4⟩
          have HX4 := Lib.hid (HX3.out.keep hb4)
          have HV4 := Lib.hid (HV3.out.keep hb4)
          have HM4 := Lib.hid (Own.keep HM3.out hb4)
          have HC4 := Lib.hid (HC3.out.trans (hb4.mono HC3.out.size))
          clear hb4 HX3 HV3 HM3 HC3 v_0 v_1 v_2 v_3 v_4 v_5 v_6 v_7 b_0 b_1 b_2 b_3 b_4 b_5 b_6 b_7
          have b_0 := HX4.out.cell 0
          have b_1 := HX4.out.cell 1
          have b_2 := HX4.out.cell 2
          have b_3 := HX4.out.cell 3
          have b_4 := HX4.out.cell 4
          have b_5 := HX4.out.cell 5
          have b_6 := HX4.out.cell 6
          have b_7 := HX4.out.cell 7
          simp at b_0 b_1 b_2 b_3 b_4 b_5 b_6 b_7
          go_wp2_with fail
          refine (DS.out _).mono ?_; rintro e w5 ⟨rfl, hb5⟩
          have HX5 := Lib.hid (HX4.out.keep hb5)
          have HV5 := Lib.hid (HV4.out.keep hb5)
          have HM5 := Lib.hid (Own.keep HM4.out hb5)
          have HC5 := Lib.hid (HC4.out.trans (hb5.mono HC4.out.size))
          clear hb5 HX4 HV4 HM4 HC4 b_0 b_1 b_2 b_3 b_4 b_5 b_6 b_7
          have b_0 := HX5.out.cell 0
          have b_1 := HX5.out.cell 1
          have b_2 := HX5.out.cell 2
          have b_3 := HX5.out.cell 3
          have b_4 := HX5.out.cell 4
          have b_5 := HX5.out.cell 5
          have b_6 := HX5.out.cell 6
          have b_7 := HX5.out.cell 7
          simp at b_0 b_1 b_2 b_3 b_4 b_5 b_6 b_7
          have y_0 := HV5.out.frozen 0
          have y_1 := HV5.out.frozen 1
          have y_2 := HV5.out.frozen 2
          have y_3 := HV5.out.frozen 3
          have y_4 := HV5.out.frozen 4
          have y_5 := HV5.out.frozen 5
          have y_6 := HV5.out.frozen 6
          have y_7 := HV5.out.frozen 7
          have v_0 := HV5.out.cell 0
          have v_1 := HV5.out.cell 1
          have v_2 := HV5.out.cell 2
          have v_3 := HV5.out.cell 3
          have v_4 := HV5.out.cell 4
          have v_5 := HV5.out.cell 5
          have v_6 := HV5.out.cell 6
          have v_7 := HV5.out.cell 7
          simp at v_0 v_1 v_2 v_3 v_4 v_5 v_6 v_7
          have hne1 : w1.heap.size + 1 ≠ w1.heap.size := by omega
          have hV6 : Blk ((((((((w5.setCell ⟨w1.heap.size, 0, none⟩ (.int .u32 qy0)).setCell ⟨w1.heap.size, 1, none⟩ (.int .u32 qy1)).setCell ⟨w1.heap.size, 2, none⟩ (.int .u32 qy2)).setCell ⟨w1.heap.size, 3, none⟩ (.int .u32 qy3)).setCell ⟨w1.heap.size, 4, none⟩ (.int .u32 qy4)).setCell ⟨w1.heap.size, 5, none⟩ (.int .u32 qy5)).setCell ⟨w1.heap.size, 6, none⟩ (.int .u32 qy6)).setCell ⟨w1.heap.size, 7, none⟩ (.int .u32 qy7)) w1.heap.size 64 #[.int .u32 qy0, .int .u32 qy1, .int .u32 qy2, .int .u32 qy3, .int .u32 qy4, .int .u32 qy5, .int .u32 qy6, .int .u32 qy7] := ((((((((HV5.out.set_ 0 (.int .u32 qy0)).set_ 1 (.int .u32 qy1)).set_ 2 (.int .u32 qy2)).set_ 3 (.int .u32 qy3)).set_ 4 (.int .u32 qy4)).set_ 5 (.int .u32 qy5)).set_ 6 (.int .u32 qy6)).set_ 7 (.int .u32 qy7))
          have HV6 := Lib.hid hV6
          have hM6 : Own ((((((((w5.setCell ⟨w1.heap.size, 0, none⟩ (.int .u32 qy0)).setCell ⟨w1.heap.size, 1, none⟩ (.int .u32 qy1)).setCell ⟨w1.heap.size, 2, none⟩ (.int .u32 qy2)).setCell ⟨w1.heap.size, 3, none⟩ (.int .u32 qy3)).setCell ⟨w1.heap.size, 4, none⟩ (.int .u32 qy4)).setCell ⟨w1.heap.size, 5, none⟩ (.int .u32 qy5)).setCell ⟨w1.heap.size, 6, none⟩ (.int .u32 qy6)).setCell ⟨w1.heap.size, 7, none⟩ (.int .u32 qy7)) (w1.heap.size + 1) (k + 1) _ := (Own.set (Own.set (Own.set (Own.set (Own.set (Own.set (Own.set (Own.set HM5.out (p := ⟨w1.heap.size, 0, none⟩) hne1 (.int .u32 qy0)) (p := ⟨w1.heap.size, 1, none⟩) hne1 (.int .u32 qy1)) (p := ⟨w1.heap.size, 2, none⟩) hne1 (.int .u32 qy2)) (p := ⟨w1.heap.size, 3, none⟩) hne1 (.int .u32 qy3)) (p := ⟨w1.heap.size, 4, none⟩) hne1 (.int .u32 qy4)) (p := ⟨w1.heap.size, 5, none⟩) hne1 (.int .u32 qy5)) (p := ⟨w1.heap.size, 6, none⟩) hne1 (.int .u32 qy6)) (p := ⟨w1.heap.size, 7, none⟩) hne1 (.int .u32 qy7))
          have HM6 := Lib.hid hM6
          have hC6 : Below w.heap.size w ((((((((w5.setCell ⟨w1.heap.size, 0, none⟩ (.int .u32 qy0)).setCell ⟨w1.heap.size, 1, none⟩ (.int .u32 qy1)).setCell ⟨w1.heap.size, 2, none⟩ (.int .u32 qy2)).setCell ⟨w1.heap.size, 3, none⟩ (.int .u32 qy3)).setCell ⟨w1.heap.size, 4, none⟩ (.int .u32 qy4)).setCell ⟨w1.heap.size, 5, none⟩ (.int .u32 qy5)).setCell ⟨w1.heap.size, 6, none⟩ (.int .u32 qy6)).setCell ⟨w1.heap.size, 7, none⟩ (.int .u32 qy7)) := ((((((((HC5.out.setCell hws (.int .u32 qy0)).setCell hws (.int .u32 qy1)).setCell hws (.int .u32 qy2)).setCell hws (.int .u32 qy3)).setCell hws (.int .u32 qy4)).setCell hws (.int .u32 qy5)).setCell hws (.int .u32 qy6)).setCell hws (.int .u32 qy7))
          have HC6 := Lib.hid hC6
          clear hV6 hM6 hC6 HX5 HV5 HM5 HC5
          go_wp2
          go_roundw
          case rel => exact ⟨k + 1, _, qy0, qy1, qy2, qy3, qy4, qy5, qy6, qy7, by omega, by go_num, by rw [HQ.out], HK.out, u0, u1, u2, u3, u4, u5, u6, u7, by rw [HQ.out]; omega, HP.out, HV6.out, HM6.out, HC6.out⟩
          case measure => simp [intOf] <;> omega
    · obtain rfl : k = N := by omega
      clear hkN
      have hex : (k = n) ∨ (k = 100 ∧ 100 < n) := HN.out
      rcases hex with hex | ⟨hex, hex2⟩
      all_goals
        go_wp2
        go_ret
        exact ⟨rfl, HB.out⟩
set_option maxRecDepth 100000 in
theorem lifted (os : Os) (started : os.Started) (H : Type) (enc : TypeId × Value → H) :
    ReturnsInHanded {} Try.checked os 10 .any (Rows.vecStepsSpec.pre6 enc Try.prog Try.f10 Rows.vecStepsRow.domain false) (Rows.vecStepsSpec.post enc Try.prog Try.f10 false true false false) := by
  refine returnsInHanded_of_change (C := Try.checked) own started (by kernel_rfl) Try.func10
    (ChangeSpec.witness6 (enc := enc) (C := Try.checked) false ⟨#[], #[.slice none 0 0], []⟩ 8 (by kernel_rfl) (by kernel_rfl) (by kernel_rfl) (by kernel_rfl)) ?_
  intro W base args ds gs before hval0 hW hcnd _
  have hval : ∀ (j : Nat) t v, Try.f10.params[j]? = some t → args[j]? = some v → Value.okWide Try.prog W .any base t v := hval0
  have hW' := hW
  obtain ⟨p, q, hA0, hV, rfl, hfz, hnd⟩ := hW
  have hA : DataW.TrodAll enc Try.prog W 0 (fun _ => true) true Try.f10.params.toList args.toList ds p := hA0
  rw [Try.params10] at hA hval
  obtain ⟨v0, vs0, d0, ds0, p0, q0, hargs, rfl, rfl, h0, r0⟩ := trodAll_cons hA
  obtain ⟨rfl, rfl, rfl⟩ := trodAll_nil r0
  obtain rfl : args = #[v0] := by cases args; simp_all
  obtain ⟨rfl, rfl⟩ := trodVars_none hV
  have k0 := h0
  have lt0 : ∀ x ∈ p0, x.block < W.heap.size := by obtain ⟨m, hm⟩ := k0; exact DataW.trod_lt m _ _ _ hm
  obtain ⟨a0A, a0n, a0c, a0V, rfl, w0l, w0t⟩ := tab2_open (k0 := .i64) (k1 := .u32) Try.underlying78 Try.underlying66 (by kernel_rfl) rfl rfl (by kernel_rfl) (by kernel_rfl) (by kernel_rfl) (by kernel_rfl) (hval 0 78 v0 rfl rfl) h0
  clear hA0 hval0
  refine (walk a0A a0n a0c a0V W w0l w0t).mono fun e W' ⟨he, bel⟩ => ?_
  subst he
  exact ⟨_, rfl, _, _, _, [], _, [], hW', trodAll_mk1 (shut_bool Try.underlying4 _), (trodAll_cons_mk (Below.trod laidOut (by kernel_rfl) (of_decide_eq_true (by kernel_rfl)) k0 bel lt0) trodAll_mk0), rfl, bel.frame _, fun h => by cases h⟩
theorem over : Rows.vecStepsRow.holds Try.pinned (OpenSpec.ofChange Rows.vecStepsSpec) :=
  OpenClaim.holds_of_wide 10 Try.f10 rfl rfl rfl rfl rfl rfl rfl ⟨rfl, rfl, rfl, rfl, rfl⟩ rfl rfl rfl rfl rfl (by kernel_rfl) Try.func10 (by kernel_rfl)
    (of_decide_eq_true (by kernel_rfl)) (by unfold Func.isWrapper; first | (rw [if_pos (by decide +kernel)]; kernel_rfl) | (rw [if_neg (by decide +kernel)]; exact ⟨rfl, rfl⟩))
    (fun os started H enc _ => lifted os started H enc)
theorem proved : Rows.VecStepsSaid := over
#print axioms proved
end Go.Proofs.Ytfpaojkcmijfgaa.lawVecSteps
