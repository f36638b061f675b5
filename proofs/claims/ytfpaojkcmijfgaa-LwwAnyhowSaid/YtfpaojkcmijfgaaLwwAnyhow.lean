/- The law LwwAnyhow returns true for every input: writes in whatever order come to one register, that of the last stamp.
   Conditions: none beyond the row's own. -/
import Derived.Test.YtfpaojkcmijfgaaLwwWorks
import Derived.Test.YtfpaojkcmijfgaaLwwFold
import Derived.Test.YtfpaojkcmijfgaaTab
import Derived.Test.YtfpaojkcmijfgaaFrame
import Derived.Test.YtfpaojkcmijfgaaBox
import Derived.Deep.RegionHeld3
import Derived.Deep.DrawnRows
namespace Go.Proofs.Ytfpaojkcmijfgaa.lawLwwAnyhow
open Go.ChangeShapes Go.WideShapes Go.ChangeAt Go.RowKit
open Go.ChangeMaps (open_string shut_string)
set_option linter.unusedVariables false
attribute [local go_sem ↓] Go.wp_at_zero Go.wp_at_succ
theorem cell_far {w : World} {b c i j : Nat} {v : Value} (h : ¬ (b = c)) : (w.setCell ⟨c, j, none⟩ v).cell? ⟨b, i, none⟩ = w.cell? ⟨b, i, none⟩ :=
  World.cell?_of_block (Below.heap_setCell w ⟨c, j, none⟩ v b h)
def Rel1 (w : World) (zs : List Reg) (N ba bb bl : Nat) (i : Value) (wr : World) : Prop :=
  ∃ k : Nat, k ≤ N ∧ i = .int .i64 k ∧ Blk wr ba 53 #[.int .i64 (foldF (0, 0, 0) (zs.take k)).1, .int .u32 (foldF (0, 0, 0) (zs.take k)).2.1, .int .i64 (foldF (0, 0, 0) (zs.take k)).2.2] ∧ Blk wr bb 53 #[.int .i64 0, .int .u32 0, .int .i64 0] ∧ Blk wr bl 53 #[.int .i64 (foldF (0, 0, 0) (zs.take k)).1, .int .u32 (foldF (0, 0, 0) (zs.take k)).2.1, .int .i64 (foldF (0, 0, 0) (zs.take k)).2.2] ∧ Below w.heap.size w wr
def Rel2 (w : World) (zs : List Reg) (ba bb bl : Nat) (i : Value) (wr : World) : Prop :=
  ∃ j : Nat, j ≤ zs.length ∧ i = .int .i64 ((j : Int) - 1) ∧ Blk wr ba 53 #[.int .i64 (foldB zs).1, .int .u32 (foldB zs).2.1, .int .i64 (foldB zs).2.2] ∧ Blk wr bb 53 #[.int .i64 (foldB (zs.drop j)).1, .int .u32 (foldB (zs.drop j)).2.1, .int .i64 (foldB (zs.drop j)).2.2] ∧ Blk wr bl 53 #[.int .i64 (foldB zs).1, .int .u32 (foldB zs).2.1, .int .i64 (foldB zs).2.2] ∧ Below w.heap.size w wr
set_option maxRecDepth 100000 in
set_option maxHeartbeats 6400000 in
theorem walk (A : Option Addr) (n cap : Nat) (V : Nat → Int × Int × Int) (w : World) (hmax : n ≤ maxLen) (htab : Tab3 w .i64 .u32 .i64 A n V) :
    Calls Try.prog 5 #[.slice A n cap] w fun e w' => e = .returned (.bool true) ∧ Below w.heap.size w w' := by
  unfold maxLen at hmax
  have HT := Lib.hid htab
  clear htab
  obtain ⟨N, hN⟩ : ∃ N : Nat, N = min n 60 := ⟨_, rfl⟩
  have hN1 : N ≤ n := by omega
  have hN2 : N ≤ 60 := by omega
  have hN3 : N = n ∨ (N = 60 ∧ 60 < n) := by omega
  have HM := Lib.hid (show min (n : Int) 60 = (N : Int) by omega)
  have HN := Lib.hid hN3
  clear hN hN3
  generalize hzs : (List.range N).map V = zs
  have HL : Hid (zs.length = N) := Lib.hid (by rw [← hzs]; simp)
  have HZ : Hid (∀ i, i < N → zs.getD i (0, 0, 0) = V i) := Lib.hid (by
    intro i hi
    rw [← hzs, List.getD_eq_getElem?_getD, List.getElem?_map, List.getElem?_range hi]
    rfl)
  have H0 : Hid (∀ x ∈ zs, 0 ≤ x.2.1) := Lib.hid (by
    intro x hx
    rw [← hzs] at hx
    obtain ⟨i, hi, rfl⟩ := List.mem_map.1 hx
    have := (HT.out i (by have := List.mem_range.1 hi; omega)).2.2.1
    exact (wf_u32 this).1)
  clear hzs
  go_enter Try.func5, Try.ntmps5
  go_wp2_with fail
  refine (lwworks _).mono ?_; rintro e w1 ⟨rfl, hb1⟩
  have HB1 := Lib.hid hb1
  clear hb1
  have hws := HB1.out.size
  go_wp2_with fail
  have HXa := Lib.hid (((Blk.new w1 53 #[.int .i64 0, .int .u32 0, .int .i64 0]).alloc (.cells #[.int .i64 0, .int .u32 0, .int .i64 0] 53)).alloc (.cells #[.int .i64 0, .int .u32 0, .int .i64 0] 53))
  have HXb := Lib.hid ((Blk.new (w1.alloc (.cells #[.int .i64 0, .int .u32 0, .int .i64 0] 53)) 53 #[.int .i64 0, .int .u32 0, .int .i64 0]).alloc (.cells #[.int .i64 0, .int .u32 0, .int .i64 0] 53))
  have HXl := Lib.hid (Blk.new ((w1.alloc (.cells #[.int .i64 0, .int .u32 0, .int .i64 0] 53)).alloc (.cells #[.int .i64 0, .int .u32 0, .int .i64 0] 53)) 53 #[.int .i64 0, .int .u32 0, .int .i64 0])
  have hsz : (w1.alloc (.cells #[.int .i64 0, .int .u32 0, .int .i64 0] 53)).heap.size = w1.heap.size + 1 := by simp
  have hsz2 : ((w1.alloc (.cells #[.int .i64 0, .int .u32 0, .int .i64 0] 53)).alloc (.cells #[.int .i64 0, .int .u32 0, .int .i64 0] 53)).heap.size = w1.heap.size + 1 + 1 := by simp
  rw [hsz] at HXb
  rw [hsz2] at HXl
  clear hsz hsz2
  have HB2 := Lib.hid (((HB1.out.alloc HB1.out.size (.cells #[.int .i64 0, .int .u32 0, .int .i64 0] 53)).alloc (by simp; omega) (.cells #[.int .i64 0, .int .u32 0, .int .i64 0] 53)).alloc (by simp; omega) (.cells #[.int .i64 0, .int .u32 0, .int .i64 0] 53))
  clear HB1
  go_loopw [6] (fun i wr => Rel1 w zs N w1.heap.size (w1.heap.size + 1) (w1.heap.size + 1 + 1) i wr) (fun i _ => N - (intOf i).toNat)
  case atStart => exact ⟨0, Nat.zero_le _, rfl, HXa.out, HXb.out, HXl.out, HB2.out⟩
  case round =>
    clear HXa HXb HXl HB2
    obtain ⟨k, hk, rfl, hxa, hxb, hxl, hB⟩ := hrel
    have HXa := Lib.hid hxa
    have HXb := Lib.hid hxb
    have HXl := Lib.hid hxl
    have HB := Lib.hid hB
    clear hxa hxb hxl hB
    by_cases hkN : k < N
    · obtain ⟨⟨b, off, rfl, hc0, hc1, hc2⟩, hw0, hw1, hw2⟩ := HT.out k (by omega)
      have hzk := HZ.out k hkN
      have HP := Lib.hid (foldF_take zs k (by have := HL.out; omega))
      have HG := Lib.hid (good_foldF (zs.take k) (fun x hx => H0.out x (List.mem_of_mem_take hx)))
      rw [hzk] at HP
      obtain ⟨⟨u, v, t⟩, hx⟩ : ∃ x, V k = x := ⟨_, rfl⟩
      rw [hx] at hc0 hc1 hc2 HP hw0 hw1 hw2
      simp only at hc0 hc1 hc2 hw0 hw1 hw2
      clear hzk hx
      obtain ⟨hu1, hu2⟩ := wf_i64 hw0
      obtain ⟨hv1, hv2⟩ := wf_u32 hw1
      obtain ⟨ht1, ht2⟩ := wf_i64 hw2
      clear hw0 hw1 hw2
      obtain ⟨⟨p, q, r⟩, hs⟩ : ∃ x, foldF (0, 0, 0) (zs.take k) = x := ⟨_, rfl⟩
      rw [hs] at HXa HXl HP HG
      simp only at HXa HXl
      clear hs
      have hbl : b < w.heap.size := Go.block_lt_of_cell hc0
      have hd0 : wr.cell? ⟨b, off + k * 3, none⟩ = some (.int .i64 u) := by rw [HB.out.cell (p := ⟨b, off + k * 3, none⟩) hbl]; exact hc0
      have hd1 : wr.cell? ⟨b, off + k * 3 + 1, none⟩ = some (.int .u32 v) := by rw [HB.out.cell (p := ⟨b, off + k * 3 + 1, none⟩) hbl]; exact hc1
      have hd2 : wr.cell? ⟨b, off + k * 3 + 2, none⟩ = some (.int .i64 t) := by rw [HB.out.cell (p := ⟨b, off + k * 3 + 2, none⟩) hbl]; exact hc2
      clear hc0 hc1 hc2
      have hk0 : (0 : Int) ≤ (k : Int) := by omega
      have hk1 : (k : Int) < (n : Int) := by omega
      have hk2 : (k : Int) < 60 := by omega
      have k1 := HXa.out.cell 0
      have k2 := HXa.out.cell 1
      have k3 := HXa.out.cell 2
      simp at k1 k2 k3
      have hlA := HXa.out.lt
      have hlB := HXb.out.lt
      have hlL := HXl.out.lt
      have CASES : (okW (u, v, t) = false) ∨ (okW (u, v, t) = true ∧ ∃ a b c, mgT (p, q, r) (u, v, t) = (a, b, c)) := by
        cases h : okW (u, v, t) with
        | false => exact .inl rfl
        | true => exact .inr ⟨rfl, _, _, _, rfl⟩
      rcases CASES with hno | ⟨hyes, m1, m2, m3, hm⟩
      · have hstep : foldF (0, 0, 0) (zs.take (k + 1)) = (p, q, r) := by rw [HP.out]; unfold step; rw [if_neg (by rw [hno]; exact Bool.false_ne_true)]
        have HS := Lib.hid hstep
        have DA := Lib.hid (fun W => apply_not HG.out hno W)
        clear hstep hno
        go_wp2_with fail
        refine wp_region_box [⟨15, 16, 7, 53, #[.int .i64 0, .int .u32 0, .int .i64 0], #[.int .i64 0, .int .u32 0, .int .i64 0]⟩] (by kernel_rfl) (by kernel_rfl) (by simp) (by simp) ?_
        apply Exists.intro
        refine ⟨?_, ?_, ?_⟩
        · intro WB hWB
          have cb0 := cellW k1 hWB
          have cb1 := cellW k2 hWB
          have cb2 := cellW k3 hWB
          have cb3 := cellW hd0 hWB
          have cb4 := cellW hd1 hWB
          have cb5 := cellW hd2 hWB
          simp only [List.map_cons, List.map_nil, neut]
          repeat (first | go_big_quiet_step ((first | with_reducible exact Calls.regrown_of (DA.out _))) | quiet_step ((first | with_reducible exact Calls.regrown_of (DA.out _))))
          exact rfl
        · intro b hb
          simp only [List.mem_cons, List.mem_nil_iff, or_false] at hb
          rcases hb with rfl
          all_goals
            refine ⟨⟨_, rfl, rfl, rfl, fun a W => by kernel_rfl⟩, by simp, Or.inl ⟨_, rfl, rfl, rfl, by kernel_rfl, fun V g h => ?_⟩⟩
            have HX : Blk V g _ _ := h
            have z0 := HX.cell 0
            have z1 := HX.cell 1
            have z2 := HX.cell 2
            have y0 := HX.frozen 0
            have y1 := HX.frozen 1
            have y2 := HX.frozen 2
            simp at z0 z1 z2
            refine ⟨(((V.setCell ⟨g, 0, none⟩ _).setCell ⟨g, 1, none⟩ _).setCell ⟨g, 2, none⟩ _), ?_, (((HX.set_ 0 _).set_ 1 _).set_ 2 _), (grownB_set (grownB_set (grownB_set (grownB_refl _ _) _) _) _)⟩
            simp only [Act.put, List.setIfInBounds_toArray, List.set_cons_zero, List.set_cons_succ]
            go_simp
        · intro β wB hwB hbs hne
          simp only [List.forall_mem_cons] at hbs
          obtain ⟨⟨gB0, XB0⟩, _⟩ := hbs
          simp only [fillB, Act.put, List.setIfInBounds_toArray, List.set_cons_zero, List.set_cons_succ]
          clear hne
          have HYa := Lib.hid (HXa.out.keep hwB)
          have HYb := Lib.hid (HXb.out.keep hwB)
          have HYl := Lib.hid (HXl.out.keep hwB)
          have HC := Lib.hid (HB.out.trans (hwB.mono HB.out.size))
          clear XB0 gB0 hwB HXa HXb HXl k1 k2 k3
          go_wp2
          go_roundw
          case rel => exact ⟨k + 1, by omega, by go_num, by rw [HS.out]; exact HYa.out, HYb.out, by rw [HS.out]; exact HYl.out, HC.out⟩
          case measure => simp [intOf]; omega
      · have hstep : foldF (0, 0, 0) (zs.take (k + 1)) = (m1, m2, m3) := by rw [HP.out]; unfold step; rw [if_pos hyes]; exact hm
        have HS := Lib.hid hstep
        have DA := Lib.hid (fun W => apply_to HG.out hyes hm W)
        have hgm : Good (m1, m2, m3) := by rw [← hm]; exact good_mg HG.out (good_okW hyes hv1)
        have hm2 : mgT (m1, m2, m3) (u, v, t) = (m1, m2, m3) := by rw [← hm]; exact mgT_again _ _
        have DB := Lib.hid (fun W => apply_to hgm hyes hm2 W)
        have DM := Lib.hid (fun W => rmerge_to hm W)
        have DF := Lib.hid (fun W => lwfrom p q r W)
        have DT := Lib.hid (fun W => lwto u v t W)
        have heqc : (m1, m2, m3) = (u, v, t) ∨ ((m1, m2, m3) = (p, q, r) ∧ (m1, m2, m3) ≠ (u, v, t)) := by
          by_cases h : (m1, m2, m3) = (u, v, t)
          · exact .inl h
          · rcases mgT_or (p, q, r) (u, v, t) with h1 | h1
            · exact absurd (hm.symm.trans h1) h
            · exact .inr ⟨hm.symm.trans h1, h⟩
        have HE : Hid ((m1 = u ∧ m2 = v ∧ m3 = t ∧ ∀ W : World, (binOp .eql 56 (.agg #[.int .i64 m1, .int .u32 m2, .int .i64 m3]) (.agg #[.int .i64 u, .int .u32 v, .int .i64 t])).run Try.prog W = Result.ok (.bool true) W) ∨
            (m1 = p ∧ m2 = q ∧ m3 = r ∧ ∀ W : World, (binOp .eql 56 (.agg #[.int .i64 m1, .int .u32 m2, .int .i64 m3]) (.agg #[.int .i64 u, .int .u32 v, .int .i64 t])).run Try.prog W = Result.ok (.bool false) W)) := Lib.hid (by
          rcases heqc with h | ⟨h, h2⟩
          · injection h with h1 h
            injection h with h2 h3
            subst h1; subst h2; subst h3
            exact .inl ⟨rfl, rfl, rfl, rlw_eq _ _ _⟩
          · refine .inr ⟨?_, ?_, ?_, fun W => rlw_ne h2 W⟩
            · exact congrArg (·.1) h
            · exact congrArg (·.2.1) h
            · exact congrArg (·.2.2) h)
        clear hstep hyes hm hgm hm2 heqc
        go_wp2_with fail
        refine wp_region_box [⟨15, 16, 7, 53, #[.int .i64 0, .int .u32 0, .int .i64 0], #[.int .i64 m1, .int .u32 m2, .int .i64 m3]⟩] (by kernel_rfl) (by kernel_rfl) (by simp) (by simp) ?_
        apply Exists.intro
        refine ⟨?_, ?_, ?_⟩
        · intro WB hWB
          have cb0 := cellW k1 hWB
          have cb1 := cellW k2 hWB
          have cb2 := cellW k3 hWB
          have cb3 := cellW hd0 hWB
          have cb4 := cellW hd1 hWB
          have cb5 := cellW hd2 hWB
          simp only [List.map_cons, List.map_nil, neut]
          repeat (first | go_big_quiet_step ((first | with_reducible exact Calls.regrown_of (DA.out _))) | quiet_step ((first | with_reducible exact Calls.regrown_of (DA.out _))))
          exact rfl
        · intro b hb
          simp only [List.mem_cons, List.mem_nil_iff, or_false] at hb
          rcases hb with rfl
          all_goals
            refine ⟨⟨_, rfl, rfl, rfl, fun a W => by kernel_rfl⟩, by simp, Or.inl ⟨_, rfl, rfl, rfl, by kernel_rfl, fun V g h => ?_⟩⟩
            have HX : Blk V g _ _ := h
            have z0 := HX.cell 0
            have z1 := HX.cell 1
            have z2 := HX.cell 2
            have y0 := HX.frozen 0
            have y1 := HX.frozen 1
            have y2 := HX.frozen 2
            simp at z0 z1 z2
            refine ⟨(((V.setCell ⟨g, 0, none⟩ _).setCell ⟨g, 1, none⟩ _).setCell ⟨g, 2, none⟩ _), ?_, (((HX.set_ 0 _).set_ 1 _).set_ 2 _), (grownB_set (grownB_set (grownB_set (grownB_refl _ _) _) _) _)⟩
            simp only [Act.put, List.setIfInBounds_toArray, List.set_cons_zero, List.set_cons_succ]
            go_simp
        · intro β wB hwB hbs hne
          simp only [List.forall_mem_cons] at hbs
          obtain ⟨⟨gB0, XB0⟩, _⟩ := hbs
          simp only [fillB, Act.put, List.setIfInBounds_toArray, List.set_cons_zero, List.set_cons_succ]
          clear hne
          generalize β 15 = bx at gB0 XB0 ⊢
          have HX := Lib.hid (show Blk wB bx _ _ from XB0)
          have HYa := Lib.hid (HXa.out.keep hwB)
          have HYb := Lib.hid (HXb.out.keep hwB)
          have HYl := Lib.hid (HXl.out.keep hwB)
          have HC := Lib.hid (HB.out.trans (hwB.mono HB.out.size))
          have hg0 : wB.cell? ⟨b, off + k * 3, none⟩ = some (.int .i64 u) := by rw [hwB.cell (p := ⟨b, off + k * 3, none⟩) (by show b < _; omega)]; exact hd0
          have hg1 : wB.cell? ⟨b, off + k * 3 + 1, none⟩ = some (.int .u32 v) := by rw [hwB.cell (p := ⟨b, off + k * 3 + 1, none⟩) (by show b < _; omega)]; exact hd1
          have hg2 : wB.cell? ⟨b, off + k * 3 + 2, none⟩ = some (.int .i64 t) := by rw [hwB.cell (p := ⟨b, off + k * 3 + 2, none⟩) (by show b < _; omega)]; exact hd2
          have hne1 : ¬ (w1.heap.size = b) := by omega
          have hne2 : ¬ (b = w1.heap.size) := by omega
          have hne3 : ¬ (w1.heap.size = bx) := by omega
          have hne4 : ¬ (bx = w1.heap.size) := by omega
          clear XB0 hwB HXa HXb HXl k1 k2 k3 hd0 hd1 hd2
          have k1 := HX.out.cell 0
          have k2 := HX.out.cell 1
          have k3 := HX.out.cell 2
          simp at k1 k2 k3
          go_wp2_with fail
          go_region_held3 (fun w' => w'.cell? ⟨bx, 0, none⟩ = some (.int .i64 m1) ∧ w'.cell? ⟨bx, 1, none⟩ = some (.int .u32 m2) ∧ w'.cell? ⟨bx, 2, none⟩ = some (.int .i64 m3) ∧ w'.cell? ⟨b, off + k * 3, none⟩ = some (.int .i64 u) ∧ w'.cell? ⟨b, off + k * 3 + 1, none⟩ = some (.int .u32 v) ∧ w'.cell? ⟨b, off + k * 3 + 2, none⟩ = some (.int .i64 t)) (first | assumption | (and_intros <;> first | assumption | (simp [*]; done)) | go_keep)
            (first
              | (go_at_call 24; refine (DB.out _).mono ?_; rintro e1 v1 ⟨rfl, hb1⟩
                 have HXv := Lib.hid (HX.out.drew.keep hb1)
                 have HAv := Lib.hid (HYa.out.drew.keep hb1)
                 have HBv := Lib.hid (HYb.out.drew.keep hb1)
                 have HLv := Lib.hid (HYl.out.drew.keep hb1)
                 have HCv := Lib.hid (HC.out.drew.trans (hb1.mono HC.out.size))
                 have i0 : v1.cell? ⟨b, off + k * 3, none⟩ = some (.int .i64 u) := by rw [hb1.cell (p := ⟨b, off + k * 3, none⟩) (Go.block_lt_of_cell hg0)]; exact hg0
                 have i1 : v1.cell? ⟨b, off + k * 3 + 1, none⟩ = some (.int .u32 v) := by rw [hb1.cell (p := ⟨b, off + k * 3 + 1, none⟩) (Go.block_lt_of_cell hg1)]; exact hg1
                 have i2 : v1.cell? ⟨b, off + k * 3 + 2, none⟩ = some (.int .i64 t) := by rw [hb1.cell (p := ⟨b, off + k * 3 + 2, none⟩) (Go.block_lt_of_cell hg2)]; exact hg2
                 have l1 := HXv.out.cell 0
                 have l2 := HXv.out.cell 1
                 have l3 := HXv.out.cell 2
                 have n1 := HAv.out.cell 0
                 have n2 := HAv.out.cell 1
                 have n3 := HAv.out.cell 2
                 have y1 := HAv.out.frozen 0
                 have y2 := HAv.out.frozen 1
                 have y3 := HAv.out.frozen 2
                 simp at l1 l2 l3 n1 n2 n3
                 clear hb1))
          have HA5 := Lib.hid (((HAv.out.set_ 0 (.int .i64 m1)).set_ 1 (.int .u32 m2)).set_ 2 (.int .i64 m3))
          have HB5 : Hid (Blk (((v1.setCell ⟨w1.heap.size, 0, none⟩ (.int .i64 m1)).setCell ⟨w1.heap.size, 1, none⟩ (.int .u32 m2)).setCell ⟨w1.heap.size, 2, none⟩ (.int .i64 m3)) (w1.heap.size + 1) 53 #[.int .i64 0, .int .u32 0, .int .i64 0]) := Lib.hid (((HBv.out.far (by simp; try omega) _).far (by simp; try omega) _).far (by simp; try omega) _)
          have HL5 : Hid (Blk (((v1.setCell ⟨w1.heap.size, 0, none⟩ (.int .i64 m1)).setCell ⟨w1.heap.size, 1, none⟩ (.int .u32 m2)).setCell ⟨w1.heap.size, 2, none⟩ (.int .i64 m3)) (w1.heap.size + 1 + 1) 53 #[.int .i64 p, .int .u32 q, .int .i64 r]) := Lib.hid (((HLv.out.far (by simp; try omega) _).far (by simp; try omega) _).far (by simp; try omega) _)
          have HC5 : Hid (Below w.heap.size w (((v1.setCell ⟨w1.heap.size, 0, none⟩ (.int .i64 m1)).setCell ⟨w1.heap.size, 1, none⟩ (.int .u32 m2)).setCell ⟨w1.heap.size, 2, none⟩ (.int .i64 m3))) := Lib.hid (((HCv.out.setCell hws _).setCell hws _).setCell hws _)
          have r0 : (((v1.setCell ⟨w1.heap.size, 0, none⟩ (.int .i64 m1)).setCell ⟨w1.heap.size, 1, none⟩ (.int .u32 m2)).setCell ⟨w1.heap.size, 2, none⟩ (.int .i64 m3)).cell? ⟨b, off + k * 3, none⟩ = some (.int .i64 u) := by rw [cell_far hne2, cell_far hne2, cell_far hne2]; exact i0
          have r1 : (((v1.setCell ⟨w1.heap.size, 0, none⟩ (.int .i64 m1)).setCell ⟨w1.heap.size, 1, none⟩ (.int .u32 m2)).setCell ⟨w1.heap.size, 2, none⟩ (.int .i64 m3)).cell? ⟨b, off + k * 3 + 1, none⟩ = some (.int .u32 v) := by rw [cell_far hne2, cell_far hne2, cell_far hne2]; exact i1
          have r2 : (((v1.setCell ⟨w1.heap.size, 0, none⟩ (.int .i64 m1)).setCell ⟨w1.heap.size, 1, none⟩ (.int .u32 m2)).setCell ⟨w1.heap.size, 2, none⟩ (.int .i64 m3)).cell? ⟨b, off + k * 3 + 2, none⟩ = some (.int .i64 t) := by rw [cell_far hne2, cell_far hne2, cell_far hne2]; exact i2
          generalize (((v1.setCell ⟨w1.heap.size, 0, none⟩ (.int .i64 m1)).setCell ⟨w1.heap.size, 1, none⟩ (.int .u32 m2)).setCell ⟨w1.heap.size, 2, none⟩ (.int .i64 m3)) = W3 at HA5 HB5 HL5 HC5 r0 r1 r2 ⊢
          clear HXv HAv HBv HLv HCv i0 i1 i2 l1 l2 l3 n1 n2 n3 y1 y2 y3 hg0 hg1 hg2 k1 k2 k3 HX HYa HYb HYl HC hlA hlB hlL gB0 hne3 hne4
          have k1 := HL5.out.cell 0
          have k2 := HL5.out.cell 1
          have k3 := HL5.out.cell 2
          simp at k1 k2 k3
          have c1 := cell_regrown k1
          have c2 := cell_regrown k2
          have c3 := cell_regrown k3
          have c4 := cell_regrown r0
          have c5 := cell_regrown r1
          have c6 := cell_regrown r2
          go_wp2_with fail
          rcases HE.out with ⟨e1, e2, e3, hq⟩ | ⟨e1, e2, e3, hq⟩
          · have HEE := Lib.hid (And.intro e1 (And.intro e2 e3))
            clear e1 e2 e3
            refine wp_region_quiet_below (by kernel_rfl) (by kernel_rfl) ?_
            repeat (first | go_big_quiet_step ((first | with_reducible exact Calls.regrown_of (DF.out _) | with_reducible exact Calls.regrown_of (DM.out _))) | quiet_step ((first | with_reducible exact Calls.regrown_of (DF.out _) | with_reducible exact Calls.regrown_of (DM.out _))))
            refine wpQuiet_nil ?_
            intro _ hw'
            obtain ⟨⟨dq, osq⟩, hw''⟩ := hw'
            subst hw''
            have HA6 := Lib.hid (HA5.out.keep (below_regrown W3 dq osq))
            have HB6 := Lib.hid (HB5.out.keep (below_regrown W3 dq osq))
            have HL6 := Lib.hid (HL5.out.keep (below_regrown W3 dq osq))
            have HC6 := Lib.hid (HC5.out.trans ((below_regrown W3 dq osq).mono HC5.out.size))
            have s0 := c4 dq osq
            have s1 := c5 dq osq
            have s2 := c6 dq osq
            clear c1 c2 c3 c4 c5 c6 k1 k2 k3 r0 r1 r2 hq
            generalize Sort.grow (redrawn W3 dq) osq = W4 at *
            go_wp2_with fail
            refine (DT.out _).mono ?_; rintro e w5 ⟨rfl, hb5⟩
            have HA7 := Lib.hid (HA6.out.keep hb5)
            have HB7 := Lib.hid (HB6.out.keep hb5)
            have HL7 := Lib.hid (HL6.out.keep hb5)
            have HC7 := Lib.hid (HC6.out.trans (hb5.mono HC6.out.size))
            clear hb5 s0 s1 s2
            have k1 := HL7.out.cell 0
            have k2 := HL7.out.cell 1
            have k3 := HL7.out.cell 2
            have y1 := HL7.out.frozen 0
            have y2 := HL7.out.frozen 1
            have y3 := HL7.out.frozen 2
            simp at k1 k2 k3
            go_wp2
            go_roundw
            case rel =>
              refine ⟨k + 1, by omega, by go_num, ?_, ?_, ?_, ?_⟩
              · rw [HS.out]; exact ((HA7.out.far (by simp; try omega) _).far (by simp; try omega) _).far (by simp; try omega) _
              · exact ((HB7.out.far (by simp; try omega) _).far (by simp; try omega) _).far (by simp; try omega) _
              · rw [HS.out]
                obtain ⟨e1, e2, e3⟩ := HEE.out
                rw [e1, e2, e3]
                exact ((HL7.out.set_ 0 _).set_ 1 _).set_ 2 _
              · exact ((HC7.out.setCell (by simp; omega) _).setCell (by simp; omega) _).setCell (by simp; omega) _
            case measure => simp [intOf] <;> omega
          · have HEE := Lib.hid (And.intro e1 (And.intro e2 e3))
            clear e1 e2 e3
            refine wp_region_quiet_below (by kernel_rfl) (by kernel_rfl) ?_
            repeat (first | go_big_quiet_step ((first | with_reducible exact Calls.regrown_of (DF.out _) | with_reducible exact Calls.regrown_of (DM.out _))) | quiet_step ((first | with_reducible exact Calls.regrown_of (DF.out _) | with_reducible exact Calls.regrown_of (DM.out _))))
            refine wpQuiet_nil ?_
            intro _ hw'
            obtain ⟨⟨dq, osq⟩, hw''⟩ := hw'
            subst hw''
            have HA6 := Lib.hid (HA5.out.keep (below_regrown W3 dq osq))
            have HB6 := Lib.hid (HB5.out.keep (below_regrown W3 dq osq))
            have HL6 := Lib.hid (HL5.out.keep (below_regrown W3 dq osq))
            have HC6 := Lib.hid (HC5.out.trans ((below_regrown W3 dq osq).mono HC5.out.size))
            clear c1 c2 c3 c4 c5 c6 k1 k2 k3 r0 r1 r2 hq
            generalize Sort.grow (redrawn W3 dq) osq = W4 at *
            go_wp2
            go_roundw
            case rel =>
              refine ⟨k + 1, by omega, by go_num, ?_, HB6.out, ?_, HC6.out⟩
              · rw [HS.out]; exact HA6.out
              · rw [HS.out]
                obtain ⟨e1, e2, e3⟩ := HEE.out
                rw [e1, e2, e3]
                exact HL6.out
            case measure => simp [intOf] <;> omega
    · obtain rfl : k = N := by omega
      clear hkN
      have hmin := HM.out
      have hex : (k = n) ∨ (k = 60 ∧ 60 < n) := HN.out
      have hlA := HXa.out.lt
      have hlB := HXb.out.lt
      have hlL := HXl.out.lt
      have htk : zs.take k = zs := List.take_of_length_le (by have := HL.out; omega)
      rw [htk, fold_same zs H0.out] at HXa HXl
      clear htk
      have hstart : ∀ m : Int, m = (k : Int) - 1 → Rel2 w zs w1.heap.size (w1.heap.size + 1) (w1.heap.size + 1 + 1) (.int .i64 m) wr := by
        rintro m rfl
        refine ⟨zs.length, Nat.le_refl _, by rw [HL.out], HXa.out, ?_, HXl.out, HB.out⟩
        rw [List.drop_length]
        exact HXb.out
      have HST := Lib.hid hstart
      have HE := Lib.hid lw_eqlP
      clear hstart
      rcases hex with hex | ⟨hex, hex2⟩
      all_goals
        go_wp2_with fail
        go_loopw [9] (fun i wr => Rel2 w zs w1.heap.size (w1.heap.size + 1) (w1.heap.size + 1 + 1) i wr) (fun i _ => (intOf i + 1).toNat)
        case atStart => exact HST.out _ (by omega)
        case round =>
          clear HST HXa HXb HXl HB hmin hlA hlB hlL
          obtain ⟨j, hj, hi, hxa, hxb, hxl, hB⟩ := hrel
          have HXa := Lib.hid hxa
          have HXb := Lib.hid hxb
          have HXl := Lib.hid hxl
          have HB := Lib.hid hB
          clear hxa hxb hxl hB
          have hlA := HXa.out.lt
          have hlB := HXb.out.lt
          have hlL := HXl.out.lt
          cases j with
          | zero =>
            have e0 : ((0 : Nat) : Int) - 1 = -1 := rfl
            rw [e0] at hi
            subst hi
            clear e0
            rw [List.drop_zero] at HXb
            obtain ⟨⟨p, q, r⟩, hs⟩ : ∃ x, foldB zs = x := ⟨_, rfl⟩
            rw [hs] at HXa HXb HXl
            simp only at HXa HXb HXl
            clear hs
            have k1 := HXa.out.cell 0
            have k2 := HXa.out.cell 1
            have k3 := HXa.out.cell 2
            have k4 := HXb.out.cell 0
            have k5 := HXb.out.cell 1
            have k6 := HXb.out.cell 2
            have k7 := HXl.out.cell 0
            have k8 := HXl.out.cell 1
            have k9 := HXl.out.cell 2
            simp at k1 k2 k3 k4 k5 k6 k7 k8 k9
            have heq := HE.out
            go_wp2
            go_ret
            exact ⟨rfl, HB.out⟩
          | succ j =>
            have e0 : ((j + 1 : Nat) : Int) - 1 = (j : Int) := by omega
            rw [e0] at hi
            subst hi
            clear e0
            have hjl : j < n := by have := HL.out; omega
            obtain ⟨⟨b, off, rfl, hc0, hc1, hc2⟩, hw0, hw1, hw2⟩ := HT.out j hjl
            have hzk := HZ.out j (by have := HL.out; omega)
            have HP := Lib.hid (foldB_drop zs j (by omega))
            have HG := Lib.hid (good_foldB (zs.drop (j + 1)) (fun x hx => H0.out x (List.mem_of_mem_drop hx)))
            rw [hzk] at HP
            obtain ⟨⟨u, v, t⟩, hx⟩ : ∃ x, V j = x := ⟨_, rfl⟩
            rw [hx] at hc0 hc1 hc2 HP hw0 hw1 hw2
            simp only at hc0 hc1 hc2 hw0 hw1 hw2
            clear hzk hx
            obtain ⟨hv1, hv2⟩ := wf_u32 hw1
            clear hw0 hw1 hw2
            obtain ⟨⟨p, q, r⟩, hs⟩ : ∃ x, foldB (zs.drop (j + 1)) = x := ⟨_, rfl⟩
            rw [hs] at HXb HP HG
            simp only at HXb
            clear hs
            have hbl : b < w.heap.size := Go.block_lt_of_cell hc0
            have hd0 : wr.cell? ⟨b, off + j * 3, none⟩ = some (.int .i64 u) := by rw [HB.out.cell (p := ⟨b, off + j * 3, none⟩) hbl]; exact hc0
            have hd1 : wr.cell? ⟨b, off + j * 3 + 1, none⟩ = some (.int .u32 v) := by rw [HB.out.cell (p := ⟨b, off + j * 3 + 1, none⟩) hbl]; exact hc1
            have hd2 : wr.cell? ⟨b, off + j * 3 + 2, none⟩ = some (.int .i64 t) := by rw [HB.out.cell (p := ⟨b, off + j * 3 + 2, none⟩) hbl]; exact hc2
            clear hc0 hc1 hc2
            have hk0 : (0 : Int) ≤ (j : Int) := by omega
            have hk1 : (j : Int) < (n : Int) := by omega
            have k1 := HXb.out.cell 0
            have k2 := HXb.out.cell 1
            have k3 := HXb.out.cell 2
            simp at k1 k2 k3
            have CASES : (okW (u, v, t) = false) ∨ (okW (u, v, t) = true ∧ ∃ a b c, mgT (p, q, r) (u, v, t) = (a, b, c)) := by
              cases h : okW (u, v, t) with
              | false => exact .inl rfl
              | true => exact .inr ⟨rfl, _, _, _, rfl⟩
            rcases CASES with hno | ⟨hyes, m1, m2, m3, hm⟩
            · have hstep : foldB (zs.drop j) = (p, q, r) := by rw [HP.out]; unfold step; rw [if_neg (by rw [hno]; exact Bool.false_ne_true)]
              have HS := Lib.hid hstep
              have DA := Lib.hid (fun W => apply_not HG.out hno W)
              clear hstep hno
              go_wp2_with fail
              refine wp_region_box [⟨15, 16, 10, 53, #[.int .i64 0, .int .u32 0, .int .i64 0], #[.int .i64 0, .int .u32 0, .int .i64 0]⟩] (by kernel_rfl) (by kernel_rfl) (by simp) (by simp) ?_
              apply Exists.intro
              refine ⟨?_, ?_, ?_⟩
              · intro WB hWB
                have cb0 := cellW k1 hWB
                have cb1 := cellW k2 hWB
                have cb2 := cellW k3 hWB
                have cb3 := cellW hd0 hWB
                have cb4 := cellW hd1 hWB
                have cb5 := cellW hd2 hWB
                simp only [List.map_cons, List.map_nil, neut]
                repeat (first | go_big_quiet_step ((first | with_reducible exact Calls.regrown_of (DA.out _))) | quiet_step ((first | with_reducible exact Calls.regrown_of (DA.out _))))
                exact rfl
              · intro b hb
                simp only [List.mem_cons, List.mem_nil_iff, or_false] at hb
                rcases hb with rfl
                all_goals
                  refine ⟨⟨_, rfl, rfl, rfl, fun a W => by kernel_rfl⟩, by simp, Or.inl ⟨_, rfl, rfl, rfl, by kernel_rfl, fun V g h => ?_⟩⟩
                  have HX : Blk V g _ _ := h
                  have z0 := HX.cell 0
                  have z1 := HX.cell 1
                  have z2 := HX.cell 2
                  have y0 := HX.frozen 0
                  have y1 := HX.frozen 1
                  have y2 := HX.frozen 2
                  simp at z0 z1 z2
                  refine ⟨(((V.setCell ⟨g, 0, none⟩ _).setCell ⟨g, 1, none⟩ _).setCell ⟨g, 2, none⟩ _), ?_, (((HX.set_ 0 _).set_ 1 _).set_ 2 _), (grownB_set (grownB_set (grownB_set (grownB_refl _ _) _) _) _)⟩
                  simp only [Act.put, List.setIfInBounds_toArray, List.set_cons_zero, List.set_cons_succ]
                  go_simp
              · intro β wB hwB hbs hne
                simp only [List.forall_mem_cons] at hbs
                obtain ⟨⟨gB0, XB0⟩, _⟩ := hbs
                simp only [fillB, Act.put, List.setIfInBounds_toArray, List.set_cons_zero, List.set_cons_succ]
                clear hne
                have HYa := Lib.hid (HXa.out.keep hwB)
                have HYb := Lib.hid (HXb.out.keep hwB)
                have HYl := Lib.hid (HXl.out.keep hwB)
                have HC := Lib.hid (HB.out.trans (hwB.mono HB.out.size))
                clear XB0 gB0 hwB HXa HXb HXl k1 k2 k3
                go_wp2
                go_roundw
                case rel => exact ⟨j, by omega, rfl, HYa.out, by rw [HS.out]; exact HYb.out, HYl.out, HC.out⟩
                case measure => simp [intOf] <;> omega
            · have hstep : foldB (zs.drop j) = (m1, m2, m3) := by rw [HP.out]; unfold step; rw [if_pos hyes]; exact hm
              have HS := Lib.hid hstep
              have DA := Lib.hid (fun W => apply_to HG.out hyes hm W)
              clear hstep hyes hm
              go_wp2_with fail
              refine wp_region_box [⟨15, 16, 10, 53, #[.int .i64 0, .int .u32 0, .int .i64 0], #[.int .i64 m1, .int .u32 m2, .int .i64 m3]⟩] (by kernel_rfl) (by kernel_rfl) (by simp) (by simp) ?_
              apply Exists.intro
              refine ⟨?_, ?_, ?_⟩
              · intro WB hWB
                have cb0 := cellW k1 hWB
                have cb1 := cellW k2 hWB
                have cb2 := cellW k3 hWB
                have cb3 := cellW hd0 hWB
                have cb4 := cellW hd1 hWB
                have cb5 := cellW hd2 hWB
                simp only [List.map_cons, List.map_nil, neut]
                repeat (first | go_big_quiet_step ((first | with_reducible exact Calls.regrown_of (DA.out _))) | quiet_step ((first | with_reducible exact Calls.regrown_of (DA.out _))))
                exact rfl
              · intro b hb
                simp only [List.mem_cons, List.mem_nil_iff, or_false] at hb
                rcases hb with rfl
                all_goals
                  refine ⟨⟨_, rfl, rfl, rfl, fun a W => by kernel_rfl⟩, by simp, Or.inl ⟨_, rfl, rfl, rfl, by kernel_rfl, fun V g h => ?_⟩⟩
                  have HX : Blk V g _ _ := h
                  have z0 := HX.cell 0
                  have z1 := HX.cell 1
                  have z2 := HX.cell 2
                  have y0 := HX.frozen 0
                  have y1 := HX.frozen 1
                  have y2 := HX.frozen 2
                  simp at z0 z1 z2
                  refine ⟨(((V.setCell ⟨g, 0, none⟩ _).setCell ⟨g, 1, none⟩ _).setCell ⟨g, 2, none⟩ _), ?_, (((HX.set_ 0 _).set_ 1 _).set_ 2 _), (grownB_set (grownB_set (grownB_set (grownB_refl _ _) _) _) _)⟩
                  simp only [Act.put, List.setIfInBounds_toArray, List.set_cons_zero, List.set_cons_succ]
                  go_simp
              · intro β wB hwB hbs hne
                simp only [List.forall_mem_cons] at hbs
                obtain ⟨⟨gB0, XB0⟩, _⟩ := hbs
                simp only [fillB, Act.put, List.setIfInBounds_toArray, List.set_cons_zero, List.set_cons_succ]
                clear hne
                generalize β 15 = bx at gB0 XB0 ⊢
                have HX := Lib.hid (show Blk wB bx _ _ from XB0)
                have HYa := Lib.hid (HXa.out.keep hwB)
                have HYb := Lib.hid (HXb.out.keep hwB)
                have HYl := Lib.hid (HXl.out.keep hwB)
                have HC := Lib.hid (HB.out.trans (hwB.mono HB.out.size))
                clear XB0 hwB HXa HXb HXl k1 k2 k3
                have k1 := HX.out.cell 0
                have k2 := HX.out.cell 1
                have k3 := HX.out.cell 2
                have j1 := HYb.out.cell 0
                have j2 := HYb.out.cell 1
                have j3 := HYb.out.cell 2
                have f1 := HYb.out.frozen 0
                have f2 := HYb.out.frozen 1
                have f3 := HYb.out.frozen 2
                simp at k1 k2 k3 j1 j2 j3
                go_wp2
                go_roundw
                case rel =>
                  refine ⟨j, by omega, rfl, ?_, ?_, ?_, ?_⟩
                  · exact ((HYa.out.far (by simp; try omega) _).far (by simp; try omega) _).far (by simp; try omega) _
                  · rw [HS.out]
                    exact ((HYb.out.set_ 0 _).set_ 1 _).set_ 2 _
                  · exact ((HYl.out.far (by simp; try omega) _).far (by simp; try omega) _).far (by simp; try omega) _
                  · exact ((HC.out.setCell (by simp; omega) _).setCell (by simp; omega) _).setCell (by simp; omega) _
                case measure => simp [intOf] <;> omega
set_option maxRecDepth 100000 in
theorem lifted (os : Os) (started : os.Started) (H : Type) (enc : TypeId × Value → H) :
    ReturnsInHanded {} Try.checked os 5 .any (Rows.lwwAnyhowSpec.pre6 enc Try.prog Try.f5 Rows.lwwAnyhowRow.domain false) (Rows.lwwAnyhowSpec.post enc Try.prog Try.f5 false true false false) := by
  refine returnsInHanded_of_change (C := Try.checked) own started (by kernel_rfl) Try.func5
    (ChangeSpec.witness6 (enc := enc) (C := Try.checked) false ⟨#[], #[.slice none 0 0], []⟩ 8 (by kernel_rfl) (by kernel_rfl) (by kernel_rfl) (by kernel_rfl)) ?_
  intro W base args ds gs before hval0 hW hcnd _
  have hval : ∀ (j : Nat) t v, Try.f5.params[j]? = some t → args[j]? = some v → Value.okWide Try.prog W .any base t v := hval0
  have hW' := hW
  obtain ⟨p, q, hA0, hV, rfl, hfz, hnd⟩ := hW
  have hA : DataW.TrodAll enc Try.prog W 0 (fun _ => true) true Try.f5.params.toList args.toList ds p := hA0
  rw [Try.params5] at hA hval
  obtain ⟨v0, vs0, d0, ds0, p0, q0, hargs, rfl, rfl, h0, r0⟩ := trodAll_cons hA
  obtain ⟨rfl, rfl, rfl⟩ := trodAll_nil r0
  obtain rfl : args = #[v0] := by cases args; simp_all
  obtain ⟨rfl, rfl⟩ := trodVars_none hV
  have k0 := h0
  have lt0 : ∀ x ∈ p0, x.block < W.heap.size := by obtain ⟨m, hm⟩ := k0; exact DataW.trod_lt m _ _ _ hm
  obtain ⟨a0A, a0n, a0c, a0V, rfl, w0l, w0t⟩ := tab3_open (k0 := .i64) (k1 := .u32) (k2 := .i64) Try.underlying51 Try.underlying56 (by kernel_rfl) rfl rfl (by kernel_rfl) (by kernel_rfl) Try.underlying40 (by kernel_rfl) rfl rfl (by kernel_rfl) (by kernel_rfl) (by kernel_rfl) (by kernel_rfl) (hval 0 51 v0 rfl rfl) h0
  clear hA0 hval0
  refine (walk a0A a0n a0c a0V W w0l w0t).mono fun e W' ⟨he, bel⟩ => ?_
  subst he
  exact ⟨_, rfl, _, _, _, [], _, [], hW', trodAll_mk1 (shut_bool Try.underlying4 _), (trodAll_cons_mk (Below.trod laidOut (by kernel_rfl) (of_decide_eq_true (by kernel_rfl)) k0 bel lt0) trodAll_mk0), rfl, bel.frame _, fun h => by cases h⟩
theorem over : Rows.lwwAnyhowRow.holds Try.pinned (OpenSpec.ofChange Rows.lwwAnyhowSpec) :=
  OpenClaim.holds_of_wide 5 Try.f5 rfl rfl rfl rfl rfl rfl rfl ⟨rfl, rfl, rfl, rfl, rfl⟩ rfl rfl rfl rfl rfl (by kernel_rfl) Try.func5 (by kernel_rfl)
    (of_decide_eq_true (by kernel_rfl)) (by unfold Func.isWrapper; first | (rw [if_pos (by decide +kernel)]; kernel_rfl) | (rw [if_neg (by decide +kernel)]; exact ⟨rfl, rfl⟩))
    (fun os started H enc _ => lifted os started H enc)
theorem proved : Rows.LwwAnyhowSaid := over
#print axioms proved
end Go.Proofs.Ytfpaojkcmijfgaa.lawLwwAnyhow
