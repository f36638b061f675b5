/- The law PncAnyhow returns true for every input: changes in whatever order come to one counter, which says what they come to together.
   Conditions: none beyond the row's own. -/
import Derived.Test.YtfpaojkcmijfgaaPncWorks
import Derived.Test.YtfpaojkcmijfgaaRowI
import Derived.Test.YtfpaojkcmijfgaaFrame
import Derived.Test.YtfpaojkcmijfgaaBox
namespace Go.Proofs.Ytfpaojkcmijfgaa.lawPncAnyhow
open Go.ChangeShapes Go.WideShapes Go.ChangeAt Go.RowKit
open Go.ChangeMaps (open_string shut_string)
set_option linter.unusedVariables false
theorem ap_in {p m b : Int} (hp : 0 ≤ p) (hp2 : p ≤ 200000000000) (hm : 0 ≤ m) (hm2 : m ≤ 200000000000) (h1 : -1073741824 ≤ b) (h2 : b ≤ 1073741824) : apE p m b = 0 ∧ apP p m b = p + posP b ∧ apM p m b = m + negP b := by
  have hc : pchk p m = 0 := pchk_yes (by omega)
  by_cases h0 : 0 ≤ b
  · obtain ⟨e1, e2, e3⟩ := ap_okP ⟨hc, h1, h2⟩ h0 (by omega)
    refine ⟨e1, ?_, ?_⟩
    · rw [e2]; unfold posP; rw [if_pos ⟨h0, h2⟩]
    · rw [e3]; unfold negP; rw [if_neg (by omega)]; omega
  · obtain ⟨e1, e2, e3⟩ := ap_okM ⟨hc, h1, h2⟩ h0 (by omega)
    refine ⟨e1, ?_, ?_⟩
    · rw [e2]; unfold posP; rw [if_neg (by omega)]; omega
    · rw [e3]; unfold negP; rw [if_pos (by omega)]; omega
theorem ap_out {p m b : Int} (h : ¬ (-1073741824 ≤ b ∧ b ≤ 1073741824)) : apE p m b = 2 ∧ apP p m b = 0 ∧ apM p m b = 0 ∧ posP b = 0 ∧ negP b = 0 := by
  obtain ⟨e1, e2, e3⟩ := ap_bad (p := p) (m := m) (b := b) (by omega)
  refine ⟨e1, e2, e3, ?_, ?_⟩
  · unfold posP; rw [if_neg (by omega)]
  · unfold negP; rw [if_neg (by omega)]
theorem pn_sub {b : Int} (h1 : -1073741824 ≤ b) (h2 : b ≤ 1073741824) : posP b - negP b = b := by
  unfold posP negP; split <;> split <;> omega
/-- What holds at the head of a round of the first loop. -/
def Rel1 (w : World) (zs : List Int) (N ba bb : Nat) (s i : Value) (wr : World) : Prop :=
  ∃ k : Nat, k ≤ N ∧ i = .int .i64 k ∧ s = .int .i64 (sumP (zs.take k) - sumM (zs.take k)) ∧ Blk wr ba 25 #[.int .i64 (sumP (zs.take k)), .int .i64 (sumM (zs.take k))] ∧ Blk wr bb 25 #[.int .i64 0, .int .i64 0] ∧ Below w.heap.size w wr
def Rel2 (w : World) (zs : List Int) (p m : Int) (ba bb : Nat) (i : Value) (wr : World) : Prop :=
  ∃ j : Nat, j ≤ zs.length ∧ i = .int .i64 ((j : Int) - 1) ∧ Blk wr ba 25 #[.int .i64 p, .int .i64 m] ∧ Blk wr bb 25 #[.int .i64 (sumP (zs.drop j)), .int .i64 (sumM (zs.drop j))] ∧ Below w.heap.size w wr
set_option maxRecDepth 100000 in
set_option maxHeartbeats 6400000 in
theorem walk (a0 : Option Addr) (len0 cap0 : Nat) (z0 : List Int) (w : World) (w0 : IsRow .i64 w a0 len0 cap0 z0) :
    Calls Try.prog 3 #[.slice a0 len0 cap0] w fun e w' => e = .returned (.bool true) ∧ Below w.heap.size w w' := by
  obtain ⟨hI, hmax⟩ := row_at w0
  unfold maxLen at hmax
  have HI := Lib.hid hI
  clear w0 hI
  obtain ⟨N, hN⟩ : ∃ N : Nat, N = min len0 100 := ⟨_, rfl⟩
  have hN1 : N ≤ len0 := by omega
  have hN2 : N ≤ 100 := by omega
  have hN3 : N = len0 ∨ (N = 100 ∧ 100 < len0) := by omega
  have hmin : min (len0 : Int) 100 = (N : Int) := by omega
  have HM := Lib.hid hmin
  clear hN hmin
  generalize hzs : (List.range len0).map (fun i => z0.getD i 0) = zs
  have hzl : zs.length = len0 := by rw [← hzs]; simp
  have HZ : Hid (∀ i, i < len0 → zs.getD i 0 = z0.getD i 0) := Lib.hid (by
    intro i hi
    rw [← hzs, List.getD_eq_getElem?_getD, List.getElem?_map, List.getElem?_range hi]
    rfl)
  clear hzs
  have HL := Lib.hid hzl
  clear hzl
  have HN := Lib.hid hN3
  clear hN3
  go_enter Try.func3, Try.ntmps3
  go_wp2_with fail
  refine (pnworks _).mono ?_; rintro e w1 ⟨rfl, hb1⟩
  have HB1 := Lib.hid hb1
  clear hb1
  go_wp2_with fail
  have HXa := Lib.hid ((Blk.new w1 25 #[.int .i64 0, .int .i64 0]).alloc (.cells #[.int .i64 0, .int .i64 0] 25))
  have HXb := Lib.hid (Blk.new (w1.alloc (.cells #[.int .i64 0, .int .i64 0] 25)) 25 #[.int .i64 0, .int .i64 0])
  have hsz : (w1.alloc (.cells #[.int .i64 0, .int .i64 0] 25)).heap.size = w1.heap.size + 1 := by simp
  rw [hsz] at HXb
  clear hsz
  have HB2 := Lib.hid ((HB1.out.alloc HB1.out.size (.cells #[.int .i64 0, .int .i64 0] 25)).alloc (by have := HB1.out.size; simp; omega) (.cells #[.int .i64 0, .int .i64 0] 25))
  have hws := HB1.out.size
  clear HB1
  go_loopw [5, 6] (fun s i wr => Rel1 w zs N w1.heap.size (w1.heap.size + 1) s i wr) (fun _ i _ => N - (intOf i).toNat)
  case atStart => exact ⟨0, Nat.zero_le _, rfl, rfl, HXa.out, HXb.out, HB2.out⟩
  case round =>
    clear HXa HXb HB2
    obtain ⟨k, hk, rfl, rfl, hxa, hxb, hB⟩ := hrel
    have HXa := Lib.hid hxa
    have HXb := Lib.hid hxb
    have HB := Lib.hid hB
    clear hxa hxb hB
    have bp := sumP_bd (zs.take k)
    have bm := sumM_bd (zs.take k)
    have hlt : (zs.take k).length ≤ 100 := by rw [List.length_take]; omega
    have bp2 : sumP (zs.take k) ≤ 107374182400 := by omega
    have bm2 : sumM (zs.take k) ≤ 107374182400 := by omega
    have bp1 := bp.1
    have bm1 := bm.1
    clear bp bm hlt
    by_cases hkN : k < N
    · obtain ⟨b, off, rfl, hc, hwz⟩ := HI.out k (by omega)
      have hzk := HZ.out k (by omega)
      rw [← hzk] at hc hwz
      obtain ⟨z, hz⟩ : ∃ z, zs.getD k 0 = z := ⟨_, rfl⟩
      have HP := Lib.hid (sumP_take zs k (by have := HL.out; omega) z hz)
      have HQ := Lib.hid (sumM_take zs k (by have := HL.out; omega) z hz)
      rw [hz] at hc hwz
      obtain ⟨hz1, hz2⟩ := wf_i64 hwz
      have hcr : wr.cell? ⟨b, off + k, none⟩ = some (.int .i64 z) := by rw [HB.out.cell (Go.block_lt_of_cell hc)]; exact hc
      have hbl : b < w.heap.size := Go.block_lt_of_cell hc
      clear hz hzk hwz hc
      have hk0 : (0 : Int) ≤ (k : Int) := by omega
      have hk1 : (k : Int) < (len0 : Int) := by omega
      have hk2 : (k : Int) < 100 := by omega
      generalize hpp : sumP (zs.take k) = p at *
      generalize hmm : sumM (zs.take k) = m at *
      clear hpp hmm
      by_cases hin : -1073741824 ≤ z ∧ z ≤ 1073741824
      · obtain ⟨h1, h2⟩ := hin
        obtain ⟨e1, e2, e3⟩ := ap_in bp1 (by omega) bm1 (by omega) h1 h2
        have A0 : ∀ W : World, Calls Try.prog 13 #[.agg #[.int .i64 p, .int .i64 m], .int .i64 z] W fun e w' => e = .returned (.tuple #[.agg #[.int .i64 (p + posP z), .int .i64 (m + negP z)], .int .i64 0]) ∧ Below W.heap.size W w' := fun W =>
          (papply p m z W hz1 hz2).mono (by rintro e w' ⟨rfl, h⟩; exact ⟨retA ⟨e1.symm, e2.symm, e3.symm⟩, h⟩)
        have DA := Lib.hid A0
        have HS := Lib.hid (pn_sub h1 h2)
        clear A0 e1 e2 e3
        have q1 : decide (-1073741824 ≤ z) = true := decide_eq_true h1
        have q2 : decide (z ≤ 1073741824) = true := decide_eq_true h2
        have k1 := HXa.out.cell 0
        have k2 := HXa.out.cell 1
        simp at k1 k2
        obtain ⟨p', hp'⟩ : ∃ x, p + posP z = x := ⟨_, rfl⟩
        obtain ⟨m', hm'⟩ : ∃ x, m + negP z = x := ⟨_, rfl⟩
        rw [hp', hm'] at DA
        rw [hp'] at HP
        rw [hm'] at HQ
        have HS2 := Lib.hid (show p - m + z = p' - m' by have := HS.out; omega)
        have hpr : 0 ≤ p' ∧ p' ≤ 107374182400 + 1073741824 := by have := posP_bd z; omega
        have hmr : 0 ≤ m' ∧ m' ≤ 107374182400 + 1073741824 := by have := negP_bd z; omega
        clear hp' hm'
        go_wp2_with fail
        refine wp_region_box [⟨9, 10, 7, 25, #[.int .i64 0, .int .i64 0], #[.int .i64 p', .int .i64 m']⟩] (by kernel_rfl) (by kernel_rfl) (by simp) (by simp) ?_
        apply Exists.intro
        refine ⟨?_, ?_, ?_⟩
        · intro WB hWB
          have cb0 := cellW k1 hWB
          have cb1 := cellW k2 hWB
          have cb2 := cellW hcr hWB
          simp only [List.map_cons, List.map_nil, neut]
          repeat (first | go_big_quiet_step ((first | with_reducible exact Calls.regrown_of (DA.out _))) | quiet_step ((first | with_reducible exact Calls.regrown_of (DA.out _))))
          exact rfl
        · intro b hb
          simp only [List.mem_cons, List.mem_nil_iff, or_false] at hb
          rcases hb with rfl
          all_goals
            refine ⟨⟨_, rfl, rfl, rfl, fun a W => by kernel_rfl⟩, by simp, Or.inl ⟨_, rfl, rfl, rfl, by kernel_rfl, fun V g h => ?_⟩⟩
            have HX : Blk V g _ _ := h
            have z0 := HX.cell 0
            have z1 := HX.cell 1
            have y0 := HX.frozen 0
            have y1 := HX.frozen 1
            simp at z0 z1
            refine ⟨((V.setCell ⟨g, 0, none⟩ _).setCell ⟨g, 1, none⟩ _), ?_, ((HX.set_ 0 _).set_ 1 _), (grownB_set (grownB_set (grownB_refl _ _) _) _)⟩
            simp only [Act.put, List.setIfInBounds_toArray, List.set_cons_zero, List.set_cons_succ]
            go_simp
        · intro β wB hwB hbs hne
          simp only [List.forall_mem_cons] at hbs
          obtain ⟨⟨gB0, XB0⟩, _⟩ := hbs
          simp only [fillB, Act.put, List.setIfInBounds_toArray, List.set_cons_zero, List.set_cons_succ]
          clear hne
          generalize β 9 = bx at gB0 XB0 ⊢
          have HX := Lib.hid (show Blk wB bx _ _ from XB0)
          have HYa := Lib.hid (HXa.out.keep hwB)
          have HYb := Lib.hid (HXb.out.keep hwB)
          have HC := Lib.hid (HB.out.trans (hwB.mono HB.out.size))
          have hlA := HXa.out.lt
          have hlB := HXb.out.lt
          have hcB : wB.cell? ⟨b, off + k, none⟩ = some (.int .i64 z) := by rw [hwB.cell (Go.block_lt_of_cell hcr)]; exact hcr
          have hne1 : ¬ (w1.heap.size = b) := by omega
          have hne2 : ¬ (b = w1.heap.size) := by omega
          clear XB0 hwB HXa HXb k1 k2
          have k1 := HX.out.cell 0
          have k2 := HX.out.cell 1
          have j1 := HYa.out.cell 0
          have j2 := HYa.out.cell 1
          have f1 := HYa.out.frozen 0
          have f2 := HYa.out.frozen 1
          simp at k1 k2 j1 j2
          go_wp2
          go_roundw
          case rel =>
            refine ⟨k + 1, by omega, by go_num, ?_, ?_, ?_, ?_⟩
            · rw [HP.out, HQ.out, HS2.out]
            · rw [HP.out, HQ.out]
              exact (HYa.out.set_ 0 _).set_ 1 _
            · exact (HYb.out.far (by simp) _).far (by simp) _
            · exact (HC.out.setCell hws _).setCell hws _
          case measure => simp [intOf]; omega
      · obtain ⟨e1, e2, e3, e4, e5⟩ := ap_out (p := p) (m := m) hin
        have A0 : ∀ W : World, Calls Try.prog 13 #[.agg #[.int .i64 p, .int .i64 m], .int .i64 z] W fun e w' => e = .returned (.tuple #[.agg #[.int .i64 0, .int .i64 0], .int .i64 2]) ∧ Below W.heap.size W w' := fun W =>
          (papply p m z W hz1 hz2).mono (by rintro e w' ⟨rfl, h⟩; exact ⟨retA ⟨e1.symm, e2.symm, e3.symm⟩, h⟩)
        have DA := Lib.hid A0
        rw [e4, Int.add_zero] at HP
        rw [e5, Int.add_zero] at HQ
        clear A0 e1 e2 e3 e4 e5
        have hcase : (decide (-1073741824 ≤ z) = false) ∨ (decide (-1073741824 ≤ z) = true ∧ decide (z ≤ 1073741824) = false) := by
          by_cases h1 : -1073741824 ≤ z
          · exact .inr ⟨decide_eq_true h1, decide_eq_false (fun h2 => hin ⟨h1, h2⟩)⟩
          · exact .inl (decide_eq_false h1)
        have k1 := HXa.out.cell 0
        have k2 := HXa.out.cell 1
        simp at k1 k2
        clear hin
        go_wp2_with fail
        refine wp_region_box [⟨9, 10, 7, 25, #[.int .i64 0, .int .i64 0], #[.int .i64 0, .int .i64 0]⟩] (by kernel_rfl) (by kernel_rfl) (by simp) (by simp) ?_
        apply Exists.intro
        refine ⟨?_, ?_, ?_⟩
        · intro WB hWB
          have cb0 := cellW k1 hWB
          have cb1 := cellW k2 hWB
          have cb2 := cellW hcr hWB
          simp only [List.map_cons, List.map_nil, neut]
          repeat (first | go_big_quiet_step ((first | with_reducible exact Calls.regrown_of (DA.out _))) | quiet_step ((first | with_reducible exact Calls.regrown_of (DA.out _))))
          exact rfl
        · intro b hb
          simp only [List.mem_cons, List.mem_nil_iff, or_false] at hb
          rcases hb with rfl
          all_goals
            refine ⟨⟨_, rfl, rfl, rfl, fun a W => by kernel_rfl⟩, by simp, Or.inl ⟨_, rfl, rfl, rfl, by kernel_rfl, fun V g h => ?_⟩⟩
            have HX : Blk V g _ _ := h
            have z0 := HX.cell 0
            have z1 := HX.cell 1
            have y0 := HX.frozen 0
            have y1 := HX.frozen 1
            simp at z0 z1
            refine ⟨((V.setCell ⟨g, 0, none⟩ _).setCell ⟨g, 1, none⟩ _), ?_, ((HX.set_ 0 _).set_ 1 _), (grownB_set (grownB_set (grownB_refl _ _) _) _)⟩
            simp only [Act.put, List.setIfInBounds_toArray, List.set_cons_zero, List.set_cons_succ]
            go_simp
        · intro β wB hwB hbs hne
          simp only [List.forall_mem_cons] at hbs
          obtain ⟨⟨gB0, XB0⟩, _⟩ := hbs
          simp only [fillB, Act.put, List.setIfInBounds_toArray, List.set_cons_zero, List.set_cons_succ]
          clear hne
          have HYa := Lib.hid (HXa.out.keep hwB)
          have HYb := Lib.hid (HXb.out.keep hwB)
          have HC := Lib.hid (HB.out.trans (hwB.mono HB.out.size))
          have hcB : wB.cell? ⟨b, off + k, none⟩ = some (.int .i64 z) := by rw [hwB.cell (Go.block_lt_of_cell hcr)]; exact hcr
          clear XB0 gB0 hwB HXa HXb k1 k2
          rcases hcase with q1 | ⟨q1, q2⟩
          all_goals
            go_wp2
            go_roundw
            case rel =>
              refine ⟨k + 1, by omega, by go_num, ?_, ?_, HYb.out, HC.out⟩
              · rw [HP.out, HQ.out]
              · rw [HP.out, HQ.out]
                exact HYa.out
            case measure => simp [intOf]; omega
    · obtain rfl : k = N := by omega
      clear hkN
      have HZN : Hid ((zs.take k).length = k) := Lib.hid (by rw [List.length_take]; have := HL.out; omega)
      have ha0 : sumP (zs.take k) - sumM (zs.take k) = sumP (zs.take k) - sumM (zs.take k) := rfl
      clear ha0
      obtain ⟨p, hp⟩ : ∃ x, sumP (zs.take k) = x := ⟨_, rfl⟩
      obtain ⟨m, hm⟩ : ∃ x, sumM (zs.take k) = x := ⟨_, rfl⟩
      rw [hp] at bp1 bp2 HXa ⊢
      rw [hm] at bm1 bm2 HXa ⊢
      have HPp := Lib.hid hp
      have HMm := Lib.hid hm
      clear hp hm
      have hmin := HM.out
      have hex : (k = len0) ∨ (k = 100 ∧ 100 < len0) := HN.out
      have hlA := HXa.out.lt
      have hlB := HXb.out.lt
      have hlN : (zs.take k).length ≤ 100 := by rw [HZN.out]; omega
      generalize hzN : zs.take k = zN at HPp HMm HZN hlN
      have HG := Lib.hid (show ∀ j, j < k → zN.getD j 0 = z0.getD j 0 from by
        intro j hj
        rw [← hzN, List.getD_eq_getElem?_getD, List.getElem?_take, if_pos hj, ← List.getD_eq_getElem?_getD]
        exact HZ.out j (by omega))
      have hlZ := HZN.out
      clear hzN
      have V0 : ∀ W : World, Calls Try.prog 14 #[.agg #[.int .i64 p, .int .i64 m]] W fun e w' => e = .returned (.int .i64 (p - m)) ∧ Below W.heap.size W w' := fun W =>
        (pvalue p m W).mono (by rintro e w' ⟨rfl, h⟩; exact ⟨retP (if_pos (pchk_yes (by omega))), h⟩)
      have DV := Lib.hid V0
      clear V0
      have HE := Lib.hid pn_eql
      have hstart : ∀ n : Int, n = (k : Int) - 1 → Rel2 w zN p m w1.heap.size (w1.heap.size + 1) (.int .i64 n) wr := by
        rintro n rfl
        refine ⟨zN.length, Nat.le_refl _, by rw [hlZ], HXa.out, ?_, HB.out⟩
        rw [List.drop_length]
        exact HXb.out
      have HST := Lib.hid hstart
      clear hstart
      rcases hex with hex | ⟨hex, hex2⟩
      all_goals
        go_wp2_with fail
        go_loopw [9] (fun i wr => Rel2 w zN p m w1.heap.size (w1.heap.size + 1) i wr) (fun i _ => (intOf i + 1).toNat)
        case atStart => exact HST.out _ (by omega)
        case round =>
          clear HST HXa HXb HB hmin hlA hlB
          obtain ⟨j, hj, hi, hxa, hxb, hB⟩ := hrel
          have HXa := Lib.hid hxa
          have HXb := Lib.hid hxb
          have HB := Lib.hid hB
          clear hxa hxb hB
          have hlA := HXa.out.lt
          have hlB := HXb.out.lt
          cases j with
          | zero =>
            have e0 : ((0 : Nat) : Int) - 1 = -1 := rfl
            rw [e0] at hi
            subst hi
            clear e0
            have k1 := HXa.out.cell 0
            have k2 := HXa.out.cell 1
            have k3 := HXb.out.cell 0
            have k4 := HXb.out.cell 1
            rw [List.drop_zero] at k3 k4
            simp at k1 k2 k3 k4
            rw [HPp.out] at k3
            rw [HMm.out] at k4
            have heq := HE.out
            go_wp2_with fail
            refine (DV.out _).mono ?_; rintro e w9 ⟨rfl, hb9⟩
            go_wp2
            go_ret
            exact ⟨rfl, HB.out.trans (hb9.mono HB.out.size)⟩
          | succ j =>
            have e0 : ((j + 1 : Nat) : Int) - 1 = (j : Int) := by omega
            rw [e0] at hi
            subst hi
            clear e0
            obtain ⟨b, off, rfl, hc, hwz⟩ := HI.out j (by omega)
            have hzk := HG.out j (by omega)
            rw [← hzk] at hc hwz
            obtain ⟨z, hz⟩ : ∃ z, zN.getD j 0 = z := ⟨_, rfl⟩
            have HP := Lib.hid (sumP_drop zN j (by omega) z hz)
            have HQ := Lib.hid (sumM_drop zN j (by omega) z hz)
            rw [hz] at hc hwz
            obtain ⟨hz1, hz2⟩ := wf_i64 hwz
            have hcr : wr.cell? ⟨b, off + j, none⟩ = some (.int .i64 z) := by rw [HB.out.cell (Go.block_lt_of_cell hc)]; exact hc
            have hbl : b < w.heap.size := Go.block_lt_of_cell hc
            clear hz hzk hwz hc
            have bp := sumP_bd (zN.drop (j + 1))
            have bm := sumM_bd (zN.drop (j + 1))
            have hld : (zN.drop (j + 1)).length ≤ 100 := by rw [List.length_drop]; omega
            obtain ⟨c, hc⟩ : ∃ x, sumP (zN.drop (j + 1)) = x := ⟨_, rfl⟩
            obtain ⟨d, hd⟩ : ∃ x, sumM (zN.drop (j + 1)) = x := ⟨_, rfl⟩
            rw [hc] at bp HP HXb
            rw [hd] at bm HQ HXb
            have hc1 : 0 ≤ c := by omega
            have hc2 : c ≤ 107374182400 := by omega
            have hd1 : 0 ≤ d := by omega
            have hd2 : d ≤ 107374182400 := by omega
            clear bp bm hld hc hd
            have hk0 : (0 : Int) ≤ (j : Int) := by omega
            have hk1 : (j : Int) < (len0 : Int) := by omega
            have k1 := HXb.out.cell 0
            have k2 := HXb.out.cell 1
            simp at k1 k2
            by_cases hin : -1073741824 ≤ z ∧ z ≤ 1073741824
            · obtain ⟨h1, h2⟩ := hin
              obtain ⟨e1, e2, e3⟩ := ap_in hc1 (by omega) hd1 (by omega) h1 h2
              have A0 : ∀ W : World, Calls Try.prog 13 #[.agg #[.int .i64 c, .int .i64 d], .int .i64 z] W fun e w' => e = .returned (.tuple #[.agg #[.int .i64 (c + posP z), .int .i64 (d + negP z)], .int .i64 0]) ∧ Below W.heap.size W w' := fun W =>
                (papply c d z W hz1 hz2).mono (by rintro e w' ⟨rfl, h⟩; exact ⟨retA ⟨e1.symm, e2.symm, e3.symm⟩, h⟩)
              have DA := Lib.hid A0
              clear A0 e1 e2 e3
              rw [show posP z + c = c + posP z from Int.add_comm _ _] at HP
              rw [show negP z + d = d + negP z from Int.add_comm _ _] at HQ
              obtain ⟨p', hp'⟩ : ∃ x, c + posP z = x := ⟨_, rfl⟩
              obtain ⟨m', hm'⟩ : ∃ x, d + negP z = x := ⟨_, rfl⟩
              rw [hp', hm'] at DA
              rw [hp'] at HP
              rw [hm'] at HQ
              clear hp' hm'
              go_wp2_with fail
              refine wp_region_box [⟨9, 10, 10, 25, #[.int .i64 0, .int .i64 0], #[.int .i64 p', .int .i64 m']⟩] (by kernel_rfl) (by kernel_rfl) (by simp) (by simp) ?_
              apply Exists.intro
              refine ⟨?_, ?_, ?_⟩
              · intro WB hWB
                have cb0 := cellW k1 hWB
                have cb1 := cellW k2 hWB
                have cb2 := cellW hcr hWB
                simp only [List.map_cons, List.map_nil, neut]
                repeat (first | go_big_quiet_step ((first | with_reducible exact Calls.regrown_of (DA.out _))) | quiet_step ((first | with_reducible exact Calls.regrown_of (DA.out _))))
                exact rfl
              · intro b hb
                simp only [List.mem_cons, List.mem_nil_iff, or_false] at hb
                rcases hb with rfl
                all_goals
                  refine ⟨⟨_, rfl, rfl, rfl, fun a W => by kernel_rfl⟩, by simp, Or.inl ⟨_, rfl, rfl, rfl, by kernel_rfl, fun V g h => ?_⟩⟩
                  have HX : Blk V g _ _ := h
                  have z0 := HX.cell 0
                  have z1 := HX.cell 1
                  have y0 := HX.frozen 0
                  have y1 := HX.frozen 1
                  simp at z0 z1
                  refine ⟨((V.setCell ⟨g, 0, none⟩ _).setCell ⟨g, 1, none⟩ _), ?_, ((HX.set_ 0 _).set_ 1 _), (grownB_set (grownB_set (grownB_refl _ _) _) _)⟩
                  simp only [Act.put, List.setIfInBounds_toArray, List.set_cons_zero, List.set_cons_succ]
                  go_simp
              · intro β wB hwB hbs hne
                simp only [List.forall_mem_cons] at hbs
                obtain ⟨⟨gB0, XB0⟩, _⟩ := hbs
                simp only [fillB, Act.put, List.setIfInBounds_toArray, List.set_cons_zero, List.set_cons_succ]
                clear hne
                generalize β 9 = bx at gB0 XB0 ⊢
                have HX := Lib.hid (show Blk wB bx _ _ from XB0)
                have HYa := Lib.hid (HXa.out.keep hwB)
                have HYb := Lib.hid (HXb.out.keep hwB)
                have HC := Lib.hid (HB.out.trans (hwB.mono HB.out.size))
                clear XB0 hwB HXa HXb k1 k2
                have k1 := HX.out.cell 0
                have k2 := HX.out.cell 1
                have j1 := HYb.out.cell 0
                have j2 := HYb.out.cell 1
                have f1 := HYb.out.frozen 0
                have f2 := HYb.out.frozen 1
                simp at k1 k2 j1 j2
                go_wp2
                go_roundw
                case rel =>
                  refine ⟨j, by omega, rfl, ?_, ?_, ?_⟩
                  · exact (HYa.out.far (by simp) _).far (by simp) _
                  · rw [HP.out, HQ.out]
                    exact (HYb.out.set_ 0 _).set_ 1 _
                  · exact (HC.out.setCell (by simp; omega) _).setCell (by simp; omega) _
                case measure => simp [intOf] <;> omega
            · obtain ⟨e1, e2, e3, e4, e5⟩ := ap_out (p := c) (m := d) hin
              have A0 : ∀ W : World, Calls Try.prog 13 #[.agg #[.int .i64 c, .int .i64 d], .int .i64 z] W fun e w' => e = .returned (.tuple #[.agg #[.int .i64 0, .int .i64 0], .int .i64 2]) ∧ Below W.heap.size W w' := fun W =>
                (papply c d z W hz1 hz2).mono (by rintro e w' ⟨rfl, h⟩; exact ⟨retA ⟨e1.symm, e2.symm, e3.symm⟩, h⟩)
              have DA := Lib.hid A0
              rw [e4, Int.zero_add] at HP
              rw [e5, Int.zero_add] at HQ
              clear A0 e1 e2 e3 e4 e5 hin
              go_wp2_with fail
              refine wp_region_box [⟨9, 10, 10, 25, #[.int .i64 0, .int .i64 0], #[.int .i64 0, .int .i64 0]⟩] (by kernel_rfl) (by kernel_rfl) (by simp) (by simp) ?_
              apply Exists.intro
              refine ⟨?_, ?_, ?_⟩
              · intro WB hWB
                have cb0 := cellW k1 hWB
                have cb1 := cellW k2 hWB
                have cb2 := cellW hcr hWB
                simp only [List.map_cons, List.map_nil, neut]
                repeat (first | go_big_quiet_step ((first | with_reducible exact Calls.regrown_of (DA.out _))) | quiet_step ((first | with_reducible exact Calls.regrown_of (DA.out _))))
                exact rfl
              · intro b hb
                simp only [List.mem_cons, List.mem_nil_iff, or_false] at hb
                rcases hb with rfl
                all_goals
                  refine ⟨⟨_, rfl, rfl, rfl, fun a W => by kernel_rfl⟩, by simp, Or.inl ⟨_, rfl, rfl, rfl, by kernel_rfl, fun V g h => ?_⟩⟩
                  have HX : Blk V g _ _ := h
                  have z0 := HX.cell 0
                  have z1 := HX.cell 1
                  have y0 := HX.frozen 0
                  have y1 := HX.frozen 1
                  simp at z0 z1
                  refine ⟨((V.setCell ⟨g, 0, none⟩ _).setCell ⟨g, 1, none⟩ _), ?_, ((HX.set_ 0 _).set_ 1 _), (grownB_set (grownB_set (grownB_refl _ _) _) _)⟩
                  simp only [Act.put, List.setIfInBounds_toArray, List.set_cons_zero, List.set_cons_succ]
                  go_simp
              · intro β wB hwB hbs hne
                simp only [List.forall_mem_cons] at hbs
                obtain ⟨⟨gB0, XB0⟩, _⟩ := hbs
                simp only [fillB, Act.put, List.setIfInBounds_toArray, List.set_cons_zero, List.set_cons_succ]
                clear hne
                have HYa := Lib.hid (HXa.out.keep hwB)
                have HYb := Lib.hid (HXb.out.keep hwB)
                have HC := Lib.hid (HB.out.trans (hwB.mono HB.out.size))
                clear XB0 gB0 hwB HXa HXb k1 k2
                go_wp2
                go_roundw
                case rel =>
                  refine ⟨j, by omega, rfl, HYa.out, ?_, HC.out⟩
                  rw [HP.out, HQ.out]
                  exact HYb.out
                case measure => simp [intOf] <;> omega
set_option maxRecDepth 100000 in
theorem lifted (os : Os) (started : os.Started) (H : Type) (enc : TypeId × Value → H) :
    ReturnsInHanded {} Try.checked os 3 .any (Rows.pncAnyhowSpec.pre6 enc Try.prog Try.f3 Rows.pncAnyhowRow.domain false) (Rows.pncAnyhowSpec.post enc Try.prog Try.f3 false true false false) := by
  refine returnsInHanded_of_change (C := Try.checked) own started (by kernel_rfl) Try.func3
    (ChangeSpec.witness6 (enc := enc) (C := Try.checked) false ⟨#[], #[.slice none 0 0], []⟩ 8 (by kernel_rfl) (by kernel_rfl) (by kernel_rfl) (by kernel_rfl)) ?_
  intro W base args ds gs before hval0 hW hcnd _
  have hval : ∀ (j : Nat) t v, Try.f3.params[j]? = some t → args[j]? = some v → Value.okWide Try.prog W .any base t v := hval0
  have hW' := hW
  obtain ⟨p, q, hA0, hV, rfl, hfz, hnd⟩ := hW
  have hA : DataW.TrodAll enc Try.prog W 0 (fun _ => true) true Try.f3.params.toList args.toList ds p := hA0
  rw [Try.params3] at hA hval
  obtain ⟨v0, vs0, d0, ds0, p0, q0, hargs, rfl, rfl, h0, r0⟩ := trodAll_cons hA
  obtain ⟨rfl, rfl, rfl⟩ := trodAll_nil r0
  obtain rfl : args = #[v0] := by cases args; simp_all
  obtain ⟨rfl, rfl⟩ := trodVars_none hV
  have k0 := h0
  have lt0 : ∀ x ∈ p0, x.block < W.heap.size := by obtain ⟨m, hm⟩ := k0; exact DataW.trod_lt m _ _ _ hm
  obtain ⟨a0, len0, cap0, rfl⟩ := okWide_slice Try.underlying22 (hval 0 22 v0 rfl rfl)
  obtain ⟨z0, w0⟩ : ∃ zs, IsRow .i64 W a0 len0 cap0 zs := by
    obtain ⟨fuel, hf⟩ := h0
    rcases open_ints Try.underlying22 Try.underlying2 (by kernel_rfl) hf with ⟨hcs, _⟩ | ⟨x, l, c, zs, hcs, _, hl, hm, hz, _, hcell, hwz⟩
    · simp [Value.cells] at hcs
      obtain ⟨rfl, rfl, rfl⟩ := hcs
      exact ⟨[], .inl ⟨rfl, rfl, rfl, rfl⟩⟩
    · simp [Value.cells] at hcs
      obtain ⟨rfl, rfl, rfl⟩ := hcs
      exact ⟨zs, .inr ⟨_, rfl, hl, hm, by simpa using hz, hcell, hwz⟩⟩
  clear hA0 hval0
  refine (walk a0 len0 cap0 z0 W w0).mono fun e W' ⟨he, bel⟩ => ?_
  subst he
  exact ⟨_, rfl, _, _, _, [], _, [], hW', trodAll_mk1 (shut_bool Try.underlying4 _), (trodAll_cons_mk (Below.trod laidOut (by kernel_rfl) (of_decide_eq_true (by kernel_rfl)) k0 bel lt0) trodAll_mk0), rfl, bel.frame _, fun h => by cases h⟩
theorem over : Rows.pncAnyhowRow.holds Try.pinned (OpenSpec.ofChange Rows.pncAnyhowSpec) :=
  OpenClaim.holds_of_wide 3 Try.f3 rfl rfl rfl rfl rfl rfl rfl ⟨rfl, rfl, rfl, rfl, rfl⟩ rfl rfl rfl rfl rfl (by kernel_rfl) Try.func3 (by kernel_rfl)
    (of_decide_eq_true (by kernel_rfl)) (by unfold Func.isWrapper; first | (rw [if_pos (by decide +kernel)]; kernel_rfl) | (rw [if_neg (by decide +kernel)]; exact ⟨rfl, rfl⟩))
    (fun os started H enc _ => lifted os started H enc)
theorem proved : Rows.PncAnyhowSaid := over
#print axioms proved
end Go.Proofs.Ytfpaojkcmijfgaa.lawPncAnyhow
