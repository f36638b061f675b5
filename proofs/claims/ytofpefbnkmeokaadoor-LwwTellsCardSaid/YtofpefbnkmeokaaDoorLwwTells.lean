/- The law LwwTells returns true for every input: package lww and the reference answer alike on registers, and on their bytes.
   Conditions: none beyond the row's own. -/
import Derived.Test.YtofpefbnkmeokaaDoorLwwRW
import Derived.Test.YtofpefbnkmeokaaDoorBox
import Derived.Test.YtofpefbnkmeokaaDoorAgg
import Derived.Test.YtofpefbnkmeokaaDoorFrame
import Derived.Test.YtofpefbnkmeokaaDoorDoor
import Derived.Deep.QuietTactic
import Derived.BigQuiet
import Derived.Lib.QuietBelow
import Derived.Deep.RegionHeld3
import Derived.Deep.RegionWith
import Derived.Deep.CutRange
namespace Go.Proofs.YtofpefbnkmeokaaDoor.lawLwwTells
open Go.ChangeShapes Go.WideShapes Go.ChangeAt Go.RowKit
open Go.ChangeMaps (open_string shut_string)
set_option linter.unusedVariables false
/-- What holds at the head of a round. -/
def Rel (w : World) (pb qb : Nat) (T : ByteArray) (i : Value) (wr : World) : Prop :=
  ∃ (k p : Nat) (fa fe : Int), k ≤ 3 ∧ i = .int .i64 k ∧ R wr pb T p fa fe ∧ RR wr qb T p fa fe ∧ FA T fa fe ∧ Below w.heap.size w wr
theorem lw_eql (a b c : Int) (W : World) : (binOp .eql 61 (.agg #[.int .i64 a, .int .u32 b, .int .i64 c]) (.agg #[.int .i64 a, .int .u32 b, .int .i64 c])).run Tryd.prog W = Result.ok (.bool true) W := by simp [go_sem]
set_option maxRecDepth 100000 in
set_option maxHeartbeats 12800000 in
theorem walk (v1 t1 o1 v2 t2 o2 : Int) (s : ByteArray) (w : World) (w0 : (Lit.int .i64 v1).wf = true) (w1 : (Lit.int .u32 t1).wf = true) (w2 : (Lit.int .i64 o1).wf = true) (w3 : (Lit.int .i64 v2).wf = true) (w5 : (Lit.int .u32 t2).wf = true) (w6 : (Lit.int .i64 o2).wf = true) (w4 : s.size ≤ maxLen) (hg : ET w) :
    Calls Tryd.prog 6 #[.agg #[.int .i64 v1, .int .u32 t1, .int .i64 o1], .agg #[.int .i64 v2, .int .u32 t2, .int .i64 o2], .string s] w fun e w' => e = .returned (.bool true) ∧ Below w.heap.size w w' := by
  obtain ⟨g1, g2⟩ := wf_i64 w0
  obtain ⟨g3, g4⟩ := wf_i64 w3
  obtain ⟨g5, _⟩ := wf_u32 w1
  obtain ⟨g6, _⟩ := wf_u32 w5
  unfold maxLen at w4
  have HG := Lib.hid hg
  clear w0 w1 w2 w3 w5 w6 hg
  by_cases hs : s.size ≤ 1000
  · have hs2 : ¬ (1000 < (s.size : Int)) := by omega
    obtain ⟨x, hx⟩ : ∃ x, lwW v1 t1 o1 = x := ⟨_, rfl⟩
    obtain ⟨z, hz⟩ : ∃ x, lwW v2 t2 o2 = x := ⟨_, rfl⟩
    have hzz := lwW_size t2 o2 g3 g4
    have A1 := Lib.hid (fun W => lwapply v1 t1 o1 v2 t2 o2 W)
    have A2 := Lib.hid (fun W => rlwapply v1 t1 o1 v2 t2 o2 W)
    have D1 := Lib.hid (fun W => lwto v1 t1 o1 W)
    have D9 := Lib.hid (fun W => lwto v2 t2 o2 W)
    have D2 := Lib.hid (fun W => lwmerge v1 t1 o1 v2 t2 o2 W)
    have D3 := Lib.hid (fun W => rlwmerge v1 t1 o1 v2 t2 o2 W)
    have D7 := Lib.hid (fun W => lwwrite v1 t1 o1 W g1 g2 g5)
    have D8 := Lib.hid (fun W => rlwwrite v1 t1 o1 W g1 g2 g5)
    have C7 := Lib.hid (fun W => lwwrite v2 t2 o2 W g3 g4 g6)
    have C8 := Lib.hid (fun W => rlwwrite v2 t2 o2 W g3 g4 g6)
    obtain ⟨P, hP⟩ : ∃ x, laS v1 t1 o1 v2 t2 o2 v1 v2 = x := ⟨_, rfl⟩
    obtain ⟨Q, hQ⟩ : ∃ x, laS v1 t1 o1 v2 t2 o2 t1 t2 = x := ⟨_, rfl⟩
    obtain ⟨O, hO⟩ : ∃ x, laS v1 t1 o1 v2 t2 o2 o1 o2 = x := ⟨_, rfl⟩
    obtain ⟨c, hc⟩ : ∃ x, laE t1 o1 t2 o2 = x := ⟨_, rfl⟩
    obtain ⟨p, hp⟩ : ∃ x, mgS v1 t1 o1 v2 t2 o2 v1 v2 = x := ⟨_, rfl⟩
    obtain ⟨q, hq⟩ : ∃ x, mgS v1 t1 o1 v2 t2 o2 t1 t2 = x := ⟨_, rfl⟩
    obtain ⟨r, hr⟩ : ∃ x, mgS v1 t1 o1 v2 t2 o2 o1 o2 = x := ⟨_, rfl⟩
    rw [hx] at D7 D8
    rw [hz] at C7 C8 hzz
    rw [hP, hQ, hO, hc] at A1 A2
    rw [hp, hq, hr] at D2 D3
    have D4 := Lib.hid (fun W => lwfrom P Q O W)
    have D5 := Lib.hid (fun W => lwfrom p q r W)
    obtain ⟨T, hT⟩ : ∃ T, z ++ s = T := ⟨_, rfl⟩
    have hTz : T.size ≤ 100000 := by rw [← hT, ByteArray.size_append]; omega
    have hadd : ∀ W : World, (Op.stringOp .add z s).run Tryd.prog W = .ok (.string T) W := fun W => by rw [run_string_add W z s (by omega) (by omega), hT]
    have qe := lw_eql P Q O
    have qf := lw_eql p q r
    clear hx hz hP hQ hO hc hp hq hr hT g1 g2 g3 g4 g5 g6
    go_enter Tryd.func6, Tryd.ntmps6
    go_wp2_with fail
    have HB0 := Lib.hid (Joins.below_alloc2 w (.cells #[.int .i64 v1, .int .u32 t1, .int .i64 o1] 61) (.cells #[.int .i64 v2, .int .u32 t2, .int .i64 o2] 61))
    have HS0 := Lib.hid ((Blk.new w 61 #[.int .i64 v1, .int .u32 t1, .int .i64 o1]).alloc (.cells #[.int .i64 v2, .int .u32 t2, .int .i64 o2] 61))
    have HT0 := Lib.hid (Blk.new (w.alloc (.cells #[.int .i64 v1, .int .u32 t1, .int .i64 o1] 61)) 61 #[.int .i64 v2, .int .u32 t2, .int .i64 o2])
    have hsz : (w.alloc (.cells #[.int .i64 v1, .int .u32 t1, .int .i64 o1] 61)).heap.size = w.heap.size + 1 := by simp
    rw [hsz] at HT0
    clear hsz
    generalize (w.alloc (.cells #[.int .i64 v1, .int .u32 t1, .int .i64 o1] 61)).alloc (.cells #[.int .i64 v2, .int .u32 t2, .int .i64 o2] 61) = W0 at HB0 HS0 HT0 ⊢
    have a1 := HS0.out.cell 0
    have a2 := HS0.out.cell 1
    have a3 := HS0.out.cell 2
    have a4 := HT0.out.cell 0
    have a5 := HT0.out.cell 1
    have a6 := HT0.out.cell 2
    simp at a1 a2 a3 a4 a5 a6
    have hs0 := HS0.out.lt
    have ht0 := HT0.out.lt
    refine wp_region_box [⟨10, 11, 7, 62, #[.int .i64 0, .int .u32 0, .int .i64 0], #[.int .i64 P, .int .u32 Q, .int .i64 O]⟩] (by kernel_rfl) (by kernel_rfl) (by simp) (by simp) ?_
    apply Exists.intro
    refine ⟨?_, ?_, ?_⟩
    · intro W2 hW2
      have c1 := cellW a1 hW2
      have c2 := cellW a2 hW2
      have c3 := cellW a3 hW2
      have c4 := cellW a4 hW2
      have c5 := cellW a5 hW2
      have c6 := cellW a6 hW2
      simp only [List.map_cons, List.map_nil, neut]
      repeat (first | go_big_quiet_step ((first | with_reducible exact Calls.regrown_of (D1.out _) | with_reducible exact Calls.regrown_of (A1.out _))) | quiet_step ((first | with_reducible exact Calls.regrown_of (D1.out _) | with_reducible exact Calls.regrown_of (A1.out _))))
      exact rfl
    · intro b hb
      simp only [List.mem_cons, List.mem_nil_iff, or_false] at hb
      subst hb
      refine ⟨⟨_, rfl, rfl, rfl, fun a W => by kernel_rfl⟩, by simp, Or.inl ⟨_, rfl, rfl, rfl, by kernel_rfl, fun V g h => ?_⟩⟩
      have HX : Blk V g _ _ := h
      have z0 := HX.cell 0
      have z1 := HX.cell 1
      have z2 := HX.cell 2
      have y0 := HX.frozen 0
      have y1 := HX.frozen 1
      have y2 := HX.frozen 2
      simp at z0 z1 z2
      refine ⟨((V.setCell ⟨g, 0, none⟩ _).setCell ⟨g, 1, none⟩ _).setCell ⟨g, 2, none⟩ _, ?_, ((HX.set_ 0 _).set_ 1 _).set_ 2 _, grownB_set (grownB_set (grownB_set (grownB_refl _ _) _) _) _⟩
      simp only [Act.put, List.setIfInBounds_toArray, List.set_cons_zero, List.set_cons_succ]
      go_simp
    intro β x2 hx2 hbs hne
    simp only [List.forall_mem_cons] at hbs
    obtain ⟨⟨gx, X2⟩, _⟩ := hbs
    clear hne
    simp only [fillB, Act.put, List.setIfInBounds_toArray, List.set_cons_zero, List.set_cons_succ]
    generalize β 10 = bx at gx X2 ⊢
    have HX2 := Lib.hid (show Blk x2 bx _ _ from X2)
    have HS2 := Lib.hid (HS0.out.keep hx2)
    have HT2 := Lib.hid (HT0.out.keep hx2)
    have HB2 := Lib.hid (HB0.out.trans (hx2.mono HB0.out.size))
    clear X2 hx2 gx a1 a2 a3 a4 a5 a6 HS0 HT0 HB0 hs0 ht0
    have c1 := HS2.out.cell 0
    have c2 := HS2.out.cell 1
    have c3 := HS2.out.cell 2
    have c4 := HT2.out.cell 0
    have c5 := HT2.out.cell 1
    have c6 := HT2.out.cell 2
    simp at c1 c2 c3 c4 c5 c6
    go_wp2_with fail
    refine (A2.out _).mono ?_; rintro e3 u3 ⟨rfl, hb3⟩
    have HS3 := Lib.hid (HS2.out.keep hb3)
    have HT3 := Lib.hid (HT2.out.keep hb3)
    have HX3 := Lib.hid (HX2.out.keep hb3)
    have HB3 := Lib.hid (HB2.out.trans (hb3.mono HB2.out.size))
    have hx3 := HX3.out.lt
    have hs4 := HS3.out.lt
    have ht4 := HT3.out.lt
    clear hb3 c1 c2 c3 c4 c5 c6
    go_wp2
    have HS4 := Lib.hid (HS3.out.alloc (.cells #[.int .i64 P, .int .u32 Q, .int .i64 O] 61))
    have HT4 := Lib.hid (HT3.out.alloc (.cells #[.int .i64 P, .int .u32 Q, .int .i64 O] 61))
    have HX4 := Lib.hid (HX3.out.alloc (.cells #[.int .i64 P, .int .u32 Q, .int .i64 O] 61))
    have HY4 := Lib.hid (Blk.new u3 61 #[.int .i64 P, .int .u32 Q, .int .i64 O])
    have HB4 := Lib.hid (HB3.out.alloc HB3.out.size (.cells #[.int .i64 P, .int .u32 Q, .int .i64 O] 61))
    generalize hW : u3.alloc (.cells #[.int .i64 P, .int .u32 Q, .int .i64 O] 61) = W at HS4 HT4 HX4 HY4 HB4 ⊢
    have k1 := HS4.out.cell 0
    have k2 := HS4.out.cell 1
    have k3 := HS4.out.cell 2
    have k4 := HX4.out.cell 0
    have k5 := HX4.out.cell 1
    have k6 := HX4.out.cell 2
    have k7 := HY4.out.cell 0
    have k8 := HY4.out.cell 1
    have k9 := HY4.out.cell 2
    have l1 := HT4.out.cell 0
    have l2 := HT4.out.cell 1
    have l3 := HT4.out.cell 2
    simp at k1 k2 k3 k4 k5 k6 k7 k8 k9 l1 l2 l3
    clear hW
    have c1 := cell_regrown k1
    have c2 := cell_regrown k2
    have c3 := cell_regrown k3
    have c4 := cell_regrown k4
    have c5 := cell_regrown k5
    have c6 := cell_regrown k6
    have c7 := cell_regrown k7
    have c8 := cell_regrown k8
    have c9 := cell_regrown k9
    have m1 := cell_regrown l1
    have m2 := cell_regrown l2
    have m3 := cell_regrown l3
    refine wp_region_quiet_below (by kernel_rfl) (by kernel_rfl) ?_
    repeat (first | go_big_quiet_step ((first | with_reducible exact Calls.regrown_of (D1.out _) | with_reducible exact Calls.regrown_of (D2.out _) | with_reducible exact Calls.regrown_of (D3.out _) | with_reducible exact Calls.regrown_of (D4.out _) | with_reducible exact Calls.regrown_of (D5.out _) | with_reducible exact Calls.regrown_of (D7.out _) | with_reducible exact Calls.regrown_of (D8.out _) | with_reducible exact Calls.regrown_of (D9.out _))) | quiet_step ((first | with_reducible exact Calls.regrown_of (D1.out _) | with_reducible exact Calls.regrown_of (D2.out _) | with_reducible exact Calls.regrown_of (D3.out _) | with_reducible exact Calls.regrown_of (D4.out _) | with_reducible exact Calls.regrown_of (D5.out _) | with_reducible exact Calls.regrown_of (D7.out _) | with_reducible exact Calls.regrown_of (D8.out _) | with_reducible exact Calls.regrown_of (D9.out _))))
    refine wpQuiet_nil ?_
    intro _ hw'
    obtain ⟨⟨dq, osq⟩, hw''⟩ := hw'
    subst hw''
    have HB5 := Lib.hid (HB4.out.trans ((below_regrown W dq osq).mono HB4.out.size))
    have d1 := m1 dq osq
    have d2 := m2 dq osq
    have d3 := m3 dq osq
    clear c1 c2 c3 c4 c5 c6 c7 c8 c9 m1 m2 m3 k1 k2 k3 k4 k5 k6 k7 k8 k9 l1 l2 l3 qe qf
    generalize Sort.grow (redrawn W dq) osq = W2 at *
    go_wp2_with fail
    go_region_held3 (fun w' => w'.cell? ⟨w.heap.size + 1, 0, none⟩ = some (.int .i64 v2) ∧ w'.cell? ⟨w.heap.size + 1, 1, none⟩ = some (.int .u32 t2) ∧ w'.cell? ⟨w.heap.size + 1, 2, none⟩ = some (.int .i64 o2)) (first | assumption | go_keep)
      (first
        | (go_at_call 21; refine (D9.out _).mono ?_; rintro e1 v0 ⟨rfl, hb1⟩; have j1 := hb1.cell (World.block_lt_of_cell? _ ⟨w.heap.size + 1, 0, none⟩ d1); have j2 := hb1.cell (World.block_lt_of_cell? _ ⟨w.heap.size + 1, 1, none⟩ d2); have j3 := hb1.cell (World.block_lt_of_cell? _ ⟨w.heap.size + 1, 2, none⟩ d3); rw [World.cell?_drew, d1] at j1; rw [World.cell?_drew, d2] at j2; rw [World.cell?_drew, d3] at j3; have HC1 := Lib.hid (HB5.out.drew.trans (hb1.mono HB5.out.size)); clear hb1)
        | (go_at_call 26; refine (C7.out _).mono ?_; rintro e1 v1 ⟨rfl, hb1⟩; have m1 := hb1.cell (World.block_lt_of_cell? _ ⟨w.heap.size + 1, 0, none⟩ j1); have m2 := hb1.cell (World.block_lt_of_cell? _ ⟨w.heap.size + 1, 1, none⟩ j2); have m3 := hb1.cell (World.block_lt_of_cell? _ ⟨w.heap.size + 1, 2, none⟩ j3); rw [j1] at m1; rw [j2] at m2; rw [j3] at m3; have HC2 := Lib.hid (HC1.out.trans (hb1.mono HC1.out.size)); clear hb1)
        | (go_at_call 28; refine (new_any T _).mono ?_; rintro e2 v2 ⟨rfl, hr2, hb2⟩; have n1 := hb2.cell (World.block_lt_of_cell? _ ⟨w.heap.size + 1, 0, none⟩ m1); have n2 := hb2.cell (World.block_lt_of_cell? _ ⟨w.heap.size + 1, 1, none⟩ m2); have n3 := hb2.cell (World.block_lt_of_cell? _ ⟨w.heap.size + 1, 2, none⟩ m3); rw [m1] at n1; rw [m2] at n2; rw [m3] at n3; have HR2 := Lib.hid hr2; have HC3 := Lib.hid (HC2.out.trans (hb2.mono HC2.out.size)); have hpb : w.heap.size ≤ v1.heap.size := HC2.out.size; clear hb2 hr2)
        | (go_at_call 27; refine (C8.out _).mono ?_; rintro e3 v3 ⟨rfl, hb3⟩; have l1 := hb3.cell (World.block_lt_of_cell? _ ⟨w.heap.size + 1, 0, none⟩ n1); have l2 := hb3.cell (World.block_lt_of_cell? _ ⟨w.heap.size + 1, 1, none⟩ n2); have l3 := hb3.cell (World.block_lt_of_cell? _ ⟨w.heap.size + 1, 2, none⟩ n3); rw [n1] at l1; rw [n2] at l2; rw [n3] at l3; have HR3 := Lib.hid (HR2.out.keep hb3); have HC4 := Lib.hid (HC3.out.trans (hb3.mono HC3.out.size)); have hqb : w.heap.size ≤ v3.heap.size := HC4.out.size; clear hb3))
    have HST := Lib.hid (show Rel w v1.heap.size v3.heap.size T (.int .i64 0) (v3.alloc (.cells #[.string T, .int .i64 0, .int .i64 0, .int .i64 0] 77)) from
      ⟨0, 0, 0, 0, by omega, rfl, HR3.out.keep (Joins.below_alloc1 v3 _), ⟨Nat.zero_le _, Blk.new v3 _ _⟩, FA.zero T, HC4.out.alloc HC4.out.size _⟩)
    clear A1 A2 D1 D2 D3 D4 D5 D7 D8 D9 C7 C8 hadd d1 d2 d3 j1 j2 j3 m1 m2 m3 n1 n2 n3 l1 l2 l3 HR2 HR3 HB2 HB3 HB4 HB5 HC1 HC2 HC3 HC4 HS2 HS3 HS4 HT2 HT3 HT4 HX2 HX3 HX4 HY4 hx3 hs4 ht4
    go_wp2
    go_loopw [13] (fun i wr => Rel w v1.heap.size v3.heap.size T i wr) (fun i _ => 3 - (intOf i).toNat)
    case atStart => exact HST.out
    case round =>
      clear HST
      obtain ⟨k, p, fa, fe, hk, rfl, hr, hq, hfa, hB⟩ := hrel
      have HR := Lib.hid hr
      have HQ := Lib.hid hq
      have HF := Lib.hid hfa
      have HB := Lib.hid hB
      have hpp := hr.1
      clear hr hq hfa hB
      by_cases hlt : k < 3
      · have HF2 := Lib.hid (HF.out.lw hpp)
        obtain ⟨X, hX⟩ : ∃ x, lwX T p fe = x := ⟨_, rfl⟩
        obtain ⟨Y, hY⟩ : ∃ x, lwT T p fe = x := ⟨_, rfl⟩
        obtain ⟨Z, hZ⟩ : ∃ x, lwO T p fe = x := ⟨_, rfl⟩
        have E1 := Lib.hid (fun W h => lwread v1.heap.size T p fa fe W hTz h)
        have E2 := Lib.hid (fun W h => rlwread v3.heap.size T p fa fe W hTz h)
        rw [hX, hY, hZ] at E1 E2
        have qe := lw_eql X Y Z
        clear hX hY hZ
        go_wp2
        go_region_with (first
          | (go_at_call 29; refine (E1.out _ (by exact HR.out)).mono ?_; rintro e4 u1 ⟨rfl, hr1, hg1⟩; have HR1 := Lib.hid hr1; have HQ1 := Lib.hid (RR.by_prog (by exact HQ.out) (by exact HR.out) hg1); have HB1 := Lib.hid (below_only (Below.drew HB.out) hg1 hpb (by exact HB.out.size)); clear hr1 hg1)
          | (go_at_call 23; refine (lwfrom _ _ _ _).mono ?_; rintro e5 u2 ⟨rfl, hb5⟩; have HR2 := Lib.hid (HR1.out.keep hb5); have HQ2 := Lib.hid (HQ1.out.keep hb5); have HB2 := Lib.hid (HB1.out.trans (hb5.mono HB1.out.size)); clear hb5)
          | (go_at_call 30; refine (E2.out _ (by exact HQ2.out)).mono ?_; rintro e5 u2 ⟨rfl, hq2, hg2⟩; have HR3 := Lib.hid (HR2.out.by_ref HQ2.out hg2); have HB3 := Lib.hid (below_only HB2.out hg2 hqb HB2.out.size); have HQ3 := Lib.hid hq2; obtain ⟨x0, x1, x2, x3, _⟩ := rr_cells hq2; clear hq2 hg2)
          | (go_at_call 31; refine (oat v1.heap.size T _ _ _ _ (by exact HR3.out)).mono ?_; rintro e6 u3 ⟨rfl, rfl⟩)
          | (go_at_call 32; obtain ⟨ev, hev, hec⟩ := oerr _ _ _ _ _ _ HR3.out; refine hec.mono ?_; rintro e7 u4 ⟨rfl, rfl⟩; have HEV := Lib.hid hev; clear hec hev)
          | (go_at_call 13; refine (seen_ev ev _ _ _ (HG.out.keep HB3.out) HF2.out.1 (by have := HF2.out.2.1; omega) HEV.out).mono ?_; rintro e8 u5 ⟨rfl, hb5⟩; have HR5 := Lib.hid (HR3.out.keep hb5); have HQ5 := Lib.hid (HQ3.out.keep hb5); have HB6 := Lib.hid (HB3.out.trans (hb5.mono HB3.out.size)); obtain ⟨y0, y1, y2, y3, _⟩ := rr_cells HQ5.out; clear hb5))
        all_goals
          go_wp2
          go_roundw
          case rel => exact ⟨k + 1, _, _, _, by omega, by go_num, HR5.out, HQ5.out, HF2.out, HB6.out⟩
          case measure => simp [intOf]; omega
      · go_wp2
        go_ret
        exact ⟨rfl, HB.out⟩
  · have hs2 : 1000 < (s.size : Int) := by omega
    go_enter Tryd.func6, Tryd.ntmps6
    go_wp2
    go_ret
    exact ⟨rfl, Joins.below_alloc2 w _ _⟩
set_option maxRecDepth 100000 in
theorem lifted (os : Os) (started : os.Started) (H : Type) (enc : TypeId × Value → H) :
    ReturnsInHanded {} Tryd.checked os 6 .any (fun w args => (Rows.lwwTellsSpec.pre enc Tryd.prog Tryd.f6 [] false w args ∧ laidMetH Tryd.prog laidL w) ∧ sizedMet enc Tryd.prog Tryd.f6 (OpenSpec.ofChange Rows.lwwTellsSpec) false w args) (Rows.lwwTellsSpec.post enc Tryd.prog Tryd.f6 false true false false) := by
  refine returnsInHanded_of_change_and (C := Tryd.checked) (X := fun w _ => laidMetH Tryd.prog laidL w) (fun _ _ _ hh h => h.of_heap hh) own started (by kernel_rfl) Tryd.func6
    (ChangeSpec.witness_at (enc := enc) (C := Tryd.checked) (os := os) (X := fun w _ => laidMetH Tryd.prog laidL w) false (laidWorld os) #[.agg #[.int .i64 0, .int .u32 0, .int .i64 0], .agg #[.int .i64 0, .int .u32 0, .int .i64 0], .string ⟨#[]⟩] 8 rfl (by kernel_rfl) (by kernel_rfl) (by kernel_rfl) (by kernel_rfl) (by kernel_rfl) (laidWorld_met os _)) ?_
  intro W base args ds gs before hval0 hW hcnd _ hL _
  have hval : ∀ (j : Nat) t v, Tryd.f6.params[j]? = some t → args[j]? = some v → Value.okWide Tryd.prog W .any base t v := hval0
  have hW' := hW
  obtain ⟨p, q, hA0, hV, rfl, hfz, hnd⟩ := hW
  have hA : DataW.TrodAll enc Tryd.prog W 0 (fun _ => true) true Tryd.f6.params.toList args.toList ds p := hA0
  rw [Tryd.params6] at hA hval
  obtain ⟨v0, vs0, d0, ds0, p0, q0, hargs, rfl, rfl, h0, r0⟩ := trodAll_cons hA
  obtain ⟨v1, vs1, d1, ds1, p1, q1, rfl, rfl, rfl, h1, r1⟩ := trodAll_cons r0
  obtain ⟨v2, vs2, d2, ds2, p2, q2, rfl, rfl, rfl, h2, r2⟩ := trodAll_cons r1
  obtain ⟨rfl, rfl, rfl⟩ := trodAll_nil r2
  obtain rfl : args = #[v0, v1, v2] := by cases args; simp_all
  obtain ⟨rfl, rfl⟩ := trodVars_none hV
  have k0 := h0
  have lt0 : ∀ x ∈ p0, x.block < W.heap.size := by obtain ⟨m, hm⟩ := k0; exact DataW.trod_lt m _ _ _ hm
  obtain ⟨a0x, a0y, a0z, rfl, w0x, w0y, w0z⟩ := state_open (k0 := .i64) (k1 := .u32) (k2 := .i64) Tryd.underlying61 (by kernel_rfl) rfl rfl (by kernel_rfl) (by kernel_rfl) Tryd.underlying59 (by kernel_rfl) rfl rfl (by kernel_rfl) (by kernel_rfl) (by kernel_rfl) (by kernel_rfl) (hval 0 61 v0 rfl rfl) h0
  have k1 := h1
  have lt1 : ∀ x ∈ p1, x.block < W.heap.size := by obtain ⟨m, hm⟩ := k1; exact DataW.trod_lt m _ _ _ hm
  obtain ⟨a1x, a1y, a1z, rfl, w1x, w1y, w1z⟩ := state_open (k0 := .i64) (k1 := .u32) (k2 := .i64) Tryd.underlying61 (by kernel_rfl) rfl rfl (by kernel_rfl) (by kernel_rfl) Tryd.underlying59 (by kernel_rfl) rfl rfl (by kernel_rfl) (by kernel_rfl) (by kernel_rfl) (by kernel_rfl) (hval 1 61 v1 rfl rfl) h1
  have k2 := h2
  have lt2 : ∀ x ∈ p2, x.block < W.heap.size := by obtain ⟨m, hm⟩ := k2; exact DataW.trod_lt m _ _ _ hm
  obtain ⟨a2, rfl, ed2, rfl, w2⟩ := open_string Tryd.underlying9 (hval 2 9 v2 rfl rfl) h2
  clear hA0 hval0
  have hg := handle_of_laid hL
  refine (walk a0x a0y a0z a1x a1y a1z a2 W w0x w0y w0z w1x w1y w1z w2 hg).mono fun e W' ⟨he, bel⟩ => ?_
  subst he
  exact ⟨_, rfl, _, _, _, [], _, [], hW', trodAll_mk1 (shut_bool Tryd.underlying4 _), (trodAll_cons_mk (Below.trod laidOut (by kernel_rfl) (of_decide_eq_true (by kernel_rfl)) k0 bel lt0) (trodAll_cons_mk (Below.trod laidOut (by kernel_rfl) (of_decide_eq_true (by kernel_rfl)) k1 bel lt1) (trodAll_cons_mk (Below.trod laidOut (by kernel_rfl) (of_decide_eq_true (by kernel_rfl)) k2 bel lt2) trodAll_mk0))), rfl, bel.frame _, fun h => by cases h⟩
theorem over : Rows.lwwTellsRow.holds Tryd.pinned (OpenSpec.ofChange Rows.lwwTellsSpec) :=
  OpenClaim.holds_of_wide 6 Tryd.f6 rfl rfl rfl rfl rfl rfl rfl ⟨rfl, rfl, rfl, rfl, rfl⟩ rfl rfl rfl rfl rfl (by kernel_rfl) Tryd.func6 (by kernel_rfl)
    (of_decide_eq_true (by kernel_rfl)) (by unfold Func.isWrapper; first | (rw [if_pos (by decide +kernel)]; kernel_rfl) | (rw [if_neg (by decide +kernel)]; exact ⟨rfl, rfl⟩))
    (fun os started H enc _ => lifted os started H enc)
set_option maxRecDepth 100000 in
theorem proved : Rows.LwwTellsCardSaid :=
  Claim7.holds_tied_plain_at .later [] [.handle] true (true, "bed28a1abb8bd1d6f054b3bbdb24eb1b4ac5058343a277e2089a84be8056229b") true over (fun _ h => by cases h) (by kernel_rfl) (fun _ h => by cases h) lwwTells_row_tie rfl ⟨rfl, rfl⟩ (by kernel_rfl) rfl
    (fun f fn hf hfn => by
      obtain rfl : f = 6 := Option.some.inj ((show Tryd.prog.funcNamed "selkie/selkielaw10.LwwTells" = some 6 by kernel_rfl).symm.trans hf) |>.symm
      obtain rfl : fn = Tryd.f6 := (Option.some.inj (Tryd.func6.symm.trans hfn)).symm
      exact ⟨by kernel_rfl, fun j t ht => by
        rw [Tryd.params6] at ht
        match j, ht with
        | 0, ht => (have e : t = 61 := by simpa using ht.symm); subst e; exact (show Tryd.prog.wantsStandIn 61 = false by kernel_rfl)
        | 1, ht => (have e : t = 61 := by simpa using ht.symm); subst e; exact (show Tryd.prog.wantsStandIn 61 = false by kernel_rfl)
        | 2, ht => (have e : t = 9 := by simpa using ht.symm); subst e; exact (show Tryd.prog.wantsStandIn 9 = false by kernel_rfl)
        | j + 3, ht => simp at ht⟩)
    (by kernel_rfl)
#print axioms proved
end Go.Proofs.YtofpefbnkmeokaaDoor.lawLwwTells
