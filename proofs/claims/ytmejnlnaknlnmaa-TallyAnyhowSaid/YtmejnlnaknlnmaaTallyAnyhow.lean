/- The law TallyAnyhow returns true for every input: the order of what is added does not matter.
   Conditions: none beyond the row's own. -/
import Derived.Test.YtmejnlnaknlnmaaApp
import Derived.Test.YtmejnlnaknlnmaaTallyWorks
namespace Go.Proofs.Ytmejnlnaknlnmaa.lawTallyAnyhow
open Go.ChangeShapes Go.WideShapes Go.ChangeAt Go.RowKit
open Go.ChangeMaps (open_string shut_string)
set_option linter.unusedVariables false
/-! ### The plain law. -/
theorem plus_comm (a b : Int) : plusV a b = plusV b a ∧ plusE a b = plusE b a := by
  unfold plusV plusE
  rw [Int.add_comm b a]
  constructor
  · by_cases h : (-1125899906842624 ≤ a ∧ a ≤ 1125899906842624 ∧ -1125899906842624 ≤ b ∧ b ≤ 1125899906842624) ∧ (-1125899906842624 ≤ a + b ∧ a + b ≤ 1125899906842624)
    · rw [if_pos h, if_pos (by omega)]
    · rw [if_neg h, if_neg (by omega)]
  · by_cases h : -1125899906842624 ≤ a ∧ a ≤ 1125899906842624 ∧ -1125899906842624 ≤ b ∧ b ≤ 1125899906842624
    · have h' : -1125899906842624 ≤ b ∧ b ≤ 1125899906842624 ∧ -1125899906842624 ≤ a ∧ a ≤ 1125899906842624 := ⟨h.2.2.1, h.2.2.2, h.1, h.2.1⟩
      rw [if_pos h, if_pos h']
    · have h' : ¬ (-1125899906842624 ≤ b ∧ b ≤ 1125899906842624 ∧ -1125899906842624 ≤ a ∧ a ≤ 1125899906842624) := fun x => h ⟨x.2.2.1, x.2.2.2, x.1, x.2.1⟩
      rw [if_neg h, if_neg h']
theorem addE_zero {s z : Int} (h : addE s z = 0) : addV s z = s + z ∧ s ≤ 1048576 ∧ z ≤ 1048576 ∧ s + z ≤ 1048576 := by
  unfold addE at h
  split at h
  · split at h
    · rename_i h1 h2
      exact ⟨(add_ok s z h1.1 h1.2 h2).1, h1.1, h1.2, h2⟩
    · cases h
  · cases h
theorem addE_ok {s z : Int} (h1 : s ≤ 1048576) (h2 : z ≤ 1048576) (h3 : s + z ≤ 1048576) : addE s z = 0 ∧ addV s z = s + z := ⟨(add_ok s z h1 h2 h3).2, (add_ok s z h1 h2 h3).1⟩
theorem sumGo_ok (l : List Int) : ∀ s : Int, (sumGo s l).2 = 0 → (sumGo s l).1 = s + l.sum ∧ (s ≤ 1048576 → s + l.sum ≤ 1048576) := by
  induction l with
  | nil => intro s _; simp [sumGo]
  | cons z r ih =>
    intro s h
    rw [sumGo] at h ⊢
    by_cases he : addE s z = 0
    · rw [if_pos he] at h ⊢
      obtain ⟨e, h1, h2, h3⟩ := addE_zero he
      rw [e] at h ⊢
      have := ih (s + z) h
      simp only [List.sum_cons]
      exact ⟨by rw [this.1]; omega, fun _ => by have := this.2 h3; omega⟩
    · rw [if_neg he] at h
      exact absurd h he
theorem sumGo_append (l m : List Int) : ∀ s : Int, sumGo s (l ++ m) = if (sumGo s l).2 = 0 then sumGo (sumGo s l).1 m else (0, (sumGo s l).2) := by
  induction l with
  | nil => intro s; simp [sumGo]
  | cons z r ih =>
    intro s
    rw [List.cons_append, sumGo, sumGo]
    by_cases he : addE s z = 0
    · rw [if_pos he, if_pos he, ih]
    · rw [if_neg he, if_neg he, if_neg he]
theorem any_law (l m : List Int) (hl : ¬ 64 < l.length) (hm : ¬ 64 < m.length) (h1 : sumE l = 0) (h2 : sumE m = 0) (h3 : sumE (l ++ m) = 0) :
    addV (sumV l) (sumV m) = sumV (l ++ m) ∧ addE (sumV l) (sumV m) = 0 := by
  have hlm : ¬ 64 < (l ++ m).length := by
    intro h
    rw [(sum_long _ h).2] at h3
    cases h3
  rw [(sum_short l hl).2] at h1
  rw [(sum_short m hm).2] at h2
  rw [(sum_short _ hlm).2] at h3
  rw [(sum_short l hl).1, (sum_short m hm).1, (sum_short _ hlm).1]
  obtain ⟨a1, a2⟩ := sumGo_ok l 0 h1
  obtain ⟨b1, b2⟩ := sumGo_ok m 0 h2
  obtain ⟨c1, c2⟩ := sumGo_ok (l ++ m) 0 h3
  rw [a1, b1, c1]
  have e : (l ++ m).sum = l.sum + m.sum := List.sum_append
  have := addE_ok (s := 0 + l.sum) (z := 0 + m.sum) (by have := a2 (by omega); omega) (by have := b2 (by omega); omega) (by have := c2 (by omega); omega)
  rw [e]
  exact ⟨by rw [this.2]; omega, this.1⟩
theorem sumGo_bd (l : List Int) : ∀ s : Int, 0 ≤ s → s ≤ 4294967295 → (∀ z ∈ l, 0 ≤ z ∧ z ≤ 4294967295) → 0 ≤ (sumGo s l).1 ∧ (sumGo s l).1 ≤ 4294967295 := by
  induction l with
  | nil => intro s h0 h1 _; exact ⟨h0, h1⟩
  | cons z r ih =>
    intro s h0 h1 hz
    rw [sumGo]
    split
    · have hb := addV_bd s z h0 (hz z (by simp)).1
      exact ih _ hb.1 (by omega) (fun y hy => hz y (by simp [hy]))
    · simp
theorem sumV_bd (l : List Int) (hz : ∀ z ∈ l, 0 ≤ z ∧ z ≤ 4294967295) : 0 ≤ sumV l ∧ sumV l ≤ 4294967295 := by
  unfold sumV
  split
  · omega
  · exact sumGo_bd l 0 (by omega) (by omega) hz
set_option maxHeartbeats 2000000 in
theorem walk (a0 : Option Addr) (len0 cap0 : Nat) (z0 : List Int) (a1 : Option Addr) (len1 cap1 : Nat) (z1 : List Int) (a b : Int) (w : World) (w0 : IsRow .u32 w a0 len0 cap0 z0) (w1 : IsRow .u32 w a1 len1 cap1 z1) (w2 : (Lit.int .i64 a).wf = true) (w3 : (Lit.int .i64 b).wf = true) :
    Calls Try.prog 12 #[.slice a0 len0 cap0, .slice a1 len1 cap1, .int .i64 a, .int .i64 b] w fun e w' => e = .returned (.bool true) ∧ Below w.heap.size w w' := by
  obtain ⟨a0', a1'⟩ := wf_i64 w2
  obtain ⟨b0', b1'⟩ := wf_i64 w3
  clear w2 w3
  obtain ⟨hI, hwf, hlen, hmax⟩ := row_ints w0
  obtain ⟨hI1, hwf1, hlen1, hmax1⟩ := row_ints w1
  unfold maxLen at hmax hmax1
  generalize z0.take len0 = l at hI hwf hlen
  generalize z1.take len1 = m at hI1 hwf1 hlen1
  clear w0 z0 w1 z1
  subst hlen
  subst hlen1
  have HZ := Lib.hid (show ∀ z ∈ l, 0 ≤ z ∧ z ≤ 4294967295 from fun z hz => wf_u32 (hwf z hz))
  have HZ1 := Lib.hid (show ∀ z ∈ m, 0 ≤ z ∧ z ≤ 4294967295 from fun z hz => wf_u32 (hwf1 z hz))
  have HZ2 := Lib.hid (show ∀ z ∈ l ++ m, 0 ≤ z ∧ z ≤ 4294967295 from fun z hz => by
    rcases List.mem_append.1 hz with h | h
    · exact wf_u32 (hwf z h)
    · exact wf_u32 (hwf1 z h))
  clear hwf hwf1
  have HI := Lib.hid hI
  have HI1 := Lib.hid hI1
  clear hI hI1
  by_cases hL : 60 < l.length
  · go_enter Try.func12, Try.ntmps12
    go_wp2_with fail
    refine (tworks _).mono ?_; rintro e w1 ⟨rfl, hb1⟩
    go_wp2
    go_ret
    exact ⟨rfl, hb1⟩
  by_cases hM : 60 < m.length
  · go_enter Try.func12, Try.ntmps12
    go_wp2_with fail
    refine (tworks _).mono ?_; rintro e w1 ⟨rfl, hb1⟩
    go_wp2
    go_ret
    exact ⟨rfl, hb1⟩
  obtain ⟨i0, hi, hz0, hz1, hz2⟩ := info_parts info_u32
  obtain ⟨p1, p2⟩ := plus_comm b a
  have C2 : ∀ W : World, Calls Try.prog 23 #[.int .i64 b, .int .i64 a] W fun e w' => e = .returned (.tuple #[.int .i64 (plusV a b), .int .i64 (plusE a b)]) ∧ Below W.heap.size W w' := fun W =>
    (plus_any b a W b0' b1' a0' a1').mono (by rintro e w' ⟨rfl, h⟩; exact ⟨ret_two p1 p2, h⟩)
  have D2 := Lib.hid C2
  have HL := Lib.hid (any_law l m (by omega) (by omega))
  clear C2 p1 p2
  go_enter Try.func12, Try.ntmps12
  go_wp2_with fail
  refine (tworks _).mono ?_; rintro e w1 ⟨rfl, hb1⟩
  go_wp2_with fail
  refine (plus_any a b _ a0' a1' b0' b1').mono ?_; rintro e w2 ⟨rfl, hb2⟩
  have g2 := hb1.trans (hb2.mono hb1.size)
  go_wp2_with fail
  refine (D2.out _).mono ?_; rintro e w3 ⟨rfl, hb3⟩
  have g3 := g2.trans (hb3.mono g2.size)
  have HI3 := Lib.hid (HI.out.below g3)
  have HJ3 := Lib.hid (HI1.out.below g3)
  clear hb1 hb2 hb3 g2
  go_wp2_with (at_builtin; refine wpList_append_ints rfl _ _ 48 rfl w3.heap.size 28 i0 .u32 4 Try.underlying48 hi hz0 hz1 hz2 _ 0 [] rfl (World.ownsRow_made w3 #[] 0 (Nat.le_refl _) (by decide) rfl) _ _ rfl (HI3.out.below ((Below.refl _ _).alloc (Nat.le_refl _) _)) (by unfold maxLen; omega) (by omega) (by simp) ?_)
  intro v1 W1 hownv1 hgrowv1
  have cv1 : Below w3.heap.size w3 W1 := ((Below.refl _ _).alloc (Nat.le_refl _) _).grown hgrowv1 (by simp) (by intro k hk; simp [Value.ownBlock] at hk; omega)
  have g4 := g3.trans (cv1.mono g3.size)
  have J1 := Lib.hid (own_ints hownv1).2
  clear hownv1 hgrowv1 cv1 HI3 HJ3
  go_wp2_with fail
  refine (sum_any v1 l _ J1.out HZ.out (by omega)).mono ?_; rintro e w4 ⟨rfl, hb4⟩
  have g5 := g4.trans (hb4.mono g4.size)
  have HJ4 := Lib.hid (HI1.out.below g5)
  clear hb4 J1
  go_wp2_with (at_builtin; refine wpList_append_ints rfl _ _ 48 rfl w4.heap.size 28 i0 .u32 4 Try.underlying48 hi hz0 hz1 hz2 _ 0 [] rfl (World.ownsRow_made w4 #[] 0 (Nat.le_refl _) (by decide) rfl) _ _ rfl (HJ4.out.below ((Below.refl _ _).alloc (Nat.le_refl _) _)) (by unfold maxLen; omega) (by omega) (by simp) ?_)
  intro v2 W2 hownv2 hgrowv2
  have cv2 : Below w4.heap.size w4 W2 := ((Below.refl _ _).alloc (Nat.le_refl _) _).grown hgrowv2 (by simp) (by intro k hk; simp [Value.ownBlock] at hk; omega)
  have g6 := g5.trans (cv2.mono g5.size)
  have J2 := Lib.hid (own_ints hownv2).2
  clear hownv2 hgrowv2 cv2 HJ4
  go_wp2_with fail
  refine (sum_any v2 m _ J2.out HZ1.out (by omega)).mono ?_; rintro e w5 ⟨rfl, hb5⟩
  have g7 := g6.trans (hb5.mono g6.size)
  have HI5 := Lib.hid (HI.out.below g7)
  clear hb5 J2
  go_wp2_with (at_builtin; refine wpList_append_ints rfl _ _ 48 rfl w5.heap.size 28 i0 .u32 4 Try.underlying48 hi hz0 hz1 hz2 _ 0 [] rfl (World.ownsRow_made w5 #[] 0 (Nat.le_refl _) (by decide) rfl) _ _ rfl (HI5.out.below ((Below.refl _ _).alloc (Nat.le_refl _) _)) (by unfold maxLen; omega) (by omega) (by simp) ?_)
  intro v3 W3 hownv3 hgrowv3
  have cv3 : Below w5.heap.size w5 W3 := ((Below.refl _ _).alloc (Nat.le_refl _) _).grown hgrowv3 (by simp) (by intro k hk; simp [Value.ownBlock] at hk; omega)
  have g8 := g7.trans (cv3.mono g7.size)
  have HJ6 := Lib.hid (HI1.out.below g8)
  have hlt3 := hownv3.lt
  have hs3 := cv3.size
  have HW := Lib.hid hownv3
  have HT := Lib.hid hlt3
  have HC := Lib.hid cv3
  clear hownv3 hgrowv3 cv3 HI5 hlt3
  go_wp2_with (at_builtin; refine wpList_append_ints rfl _ _ 48 rfl w5.heap.size 28 i0 .u32 4 Try.underlying48 hi hz0 hz1 hz2 _ _ _ rfl HW.out _ _ rfl HJ6.out (by unfold maxLen; omega) (by omega) (by omega) ?_)
  intro v4 W4 hown4 hgrow4
  have c4 : Below w5.heap.size w5 W4 := HC.out.grown hgrow4 hs3 (fun k hk => (HT.out k hk).1)
  have g9 := g7.trans (c4.mono g7.size)
  rw [← List.map_append] at hown4
  have J4 := Lib.hid (own_ints hown4).2
  clear hown4 hgrow4 c4 HC HT HW
  go_wp2_with fail
  refine (sum_any v4 (l ++ m) _ J4.out HZ2.out (by simp; omega)).mono ?_; rintro e w6 ⟨rfl, hb6⟩
  have g10 := g9.trans (hb6.mono g9.size)
  clear hb6 J4 HJ6
  by_cases h1 : sumE l = 0
  · have t1 : (sumE l != 0) = false := by simp [h1]
    by_cases h2 : sumE m = 0
    · have t2 : (sumE m != 0) = false := by simp [h2]
      by_cases h3 : sumE (l ++ m) = 0
      · have t3 : (sumE (l ++ m) != 0) = false := by simp [h3]
        obtain ⟨f1, f2⟩ := HL.out h1 h2 h3
        have C9 : ∀ W : World, Calls Try.prog 25 #[.int .u32 (sumV l), .int .u32 (sumV m)] W fun e w' => e = .returned (.tuple #[.int .u32 (sumV (l ++ m)), .int .i64 0]) ∧ Below W.heap.size W w' := fun W =>
          (add_any (sumV l) (sumV m) W (sumV_bd l HZ.out).1 (sumV_bd l HZ.out).2 (sumV_bd m HZ1.out).1 (sumV_bd m HZ1.out).2).mono (by rintro e w' ⟨rfl, h⟩; exact ⟨ret_two f1 f2, h⟩)
        have D9 := Lib.hid C9
        clear C9 f1 f2 h1 h2 h3
        go_wp2_with fail
        refine (D9.out _).mono ?_; rintro e w7 ⟨rfl, hb7⟩
        go_wp2
        go_ret
        exact ⟨rfl, g10.trans (hb7.mono g10.size)⟩
      · have t3 : (sumE (l ++ m) != 0) = true := by simp [h3]
        clear h1 h2 h3
        go_wp2
        go_ret
        exact ⟨rfl, g10⟩
    · have t2 : (sumE m != 0) = true := by simp [h2]
      clear h1 h2
      go_wp2
      go_ret
      exact ⟨rfl, g10⟩
  · have t1 : (sumE l != 0) = true := by simp [h1]
    clear h1
    go_wp2
    go_ret
    exact ⟨rfl, g10⟩
set_option maxRecDepth 100000 in
theorem lifted (os : Os) (started : os.Started) (H : Type) (enc : TypeId × Value → H) :
    ReturnsInHanded {} Try.checked os 12 .any (Rows.tallyAnyhowSpec.pre6 enc Try.prog Try.f12 Rows.tallyAnyhowRow.domain false) (Rows.tallyAnyhowSpec.post enc Try.prog Try.f12 false true false false) := by
  refine returnsInHanded_of_change (C := Try.checked) own started (by kernel_rfl) Try.func12
    (ChangeSpec.witness6 (enc := enc) (C := Try.checked) false ⟨#[], #[.slice none 0 0, .slice none 0 0, .int .i64 0, .int .i64 0], []⟩ 8 (by kernel_rfl) (by kernel_rfl) (by kernel_rfl) (by kernel_rfl)) ?_
  intro W base args ds gs before hval0 hW hcnd _
  have hval : ∀ (j : Nat) t v, Try.f12.params[j]? = some t → args[j]? = some v → Value.okWide Try.prog W .any base t v := hval0
  have hW' := hW
  obtain ⟨p, q, hA0, hV, rfl, hfz, hnd⟩ := hW
  have hA : DataW.TrodAll enc Try.prog W 0 (fun _ => true) true Try.f12.params.toList args.toList ds p := hA0
  rw [Try.params12] at hA hval
  obtain ⟨v0, vs0, d0, ds0, p0, q0, hargs, rfl, rfl, h0, r0⟩ := trodAll_cons hA
  obtain ⟨v1, vs1, d1, ds1, p1, q1, rfl, rfl, rfl, h1, r1⟩ := trodAll_cons r0
  obtain ⟨v2, vs2, d2, ds2, p2, q2, rfl, rfl, rfl, h2, r2⟩ := trodAll_cons r1
  obtain ⟨v3, vs3, d3, ds3, p3, q3, rfl, rfl, rfl, h3, r3⟩ := trodAll_cons r2
  obtain ⟨rfl, rfl, rfl⟩ := trodAll_nil r3
  obtain rfl : args = #[v0, v1, v2, v3] := by cases args; simp_all
  obtain ⟨rfl, rfl⟩ := trodVars_none hV
  have k0 := h0
  have lt0 : ∀ x ∈ p0, x.block < W.heap.size := by obtain ⟨m, hm⟩ := k0; exact DataW.trod_lt m _ _ _ hm
  obtain ⟨a0, len0, cap0, rfl⟩ := okWide_slice Try.underlying48 (hval 0 48 v0 rfl rfl)
  obtain ⟨z0, w0⟩ : ∃ zs, IsRow .u32 W a0 len0 cap0 zs := by
    obtain ⟨fuel, hf⟩ := h0
    rcases open_ints Try.underlying48 Try.underlying28 (by kernel_rfl) hf with ⟨hcs, _⟩ | ⟨x, l, c, zs, hcs, _, hl, hm, hz, _, hcell, hwz⟩
    · simp [Value.cells] at hcs
      obtain ⟨rfl, rfl, rfl⟩ := hcs
      exact ⟨[], .inl ⟨rfl, rfl, rfl, rfl⟩⟩
    · simp [Value.cells] at hcs
      obtain ⟨rfl, rfl, rfl⟩ := hcs
      exact ⟨zs, .inr ⟨_, rfl, hl, hm, by simpa using hz, hcell, hwz⟩⟩
  have k1 := h1
  have lt1 : ∀ x ∈ p1, x.block < W.heap.size := by obtain ⟨m, hm⟩ := k1; exact DataW.trod_lt m _ _ _ hm
  obtain ⟨a1, len1, cap1, rfl⟩ := okWide_slice Try.underlying48 (hval 1 48 v1 rfl rfl)
  obtain ⟨z1, w1⟩ : ∃ zs, IsRow .u32 W a1 len1 cap1 zs := by
    obtain ⟨fuel, hf⟩ := h1
    rcases open_ints Try.underlying48 Try.underlying28 (by kernel_rfl) hf with ⟨hcs, _⟩ | ⟨x, l, c, zs, hcs, _, hl, hm, hz, _, hcell, hwz⟩
    · simp [Value.cells] at hcs
      obtain ⟨rfl, rfl, rfl⟩ := hcs
      exact ⟨[], .inl ⟨rfl, rfl, rfl, rfl⟩⟩
    · simp [Value.cells] at hcs
      obtain ⟨rfl, rfl, rfl⟩ := hcs
      exact ⟨zs, .inr ⟨_, rfl, hl, hm, by simpa using hz, hcell, hwz⟩⟩
  have k2 := h2
  have lt2 : ∀ x ∈ p2, x.block < W.heap.size := by obtain ⟨m, hm⟩ := k2; exact DataW.trod_lt m _ _ _ hm
  obtain ⟨a2, rfl, ed2, rfl, w2⟩ := open_int Try.underlying2 (hval 2 2 v2 rfl rfl) h2
  have k3 := h3
  have lt3 : ∀ x ∈ p3, x.block < W.heap.size := by obtain ⟨m, hm⟩ := k3; exact DataW.trod_lt m _ _ _ hm
  obtain ⟨a3, rfl, ed3, rfl, w3⟩ := open_int Try.underlying2 (hval 3 2 v3 rfl rfl) h3
  clear hA0 hval0
  refine (walk a0 len0 cap0 z0 a1 len1 cap1 z1 a2 a3 W w0 w1 w2 w3).mono fun e W' ⟨he, bel⟩ => ?_
  subst he
  exact ⟨_, rfl, _, _, _, [], _, [], hW', trodAll_mk1 (shut_bool Try.underlying4 _), (trodAll_cons_mk (Below.trod laidOut (by kernel_rfl) (of_decide_eq_true (by kernel_rfl)) k0 bel lt0) (trodAll_cons_mk (Below.trod laidOut (by kernel_rfl) (of_decide_eq_true (by kernel_rfl)) k1 bel lt1) (trodAll_cons_mk (Below.trod laidOut (by kernel_rfl) (of_decide_eq_true (by kernel_rfl)) k2 bel lt2) (trodAll_cons_mk (Below.trod laidOut (by kernel_rfl) (of_decide_eq_true (by kernel_rfl)) k3 bel lt3) trodAll_mk0)))), rfl, bel.frame _, fun h => by cases h⟩
theorem over : Rows.tallyAnyhowRow.holds Try.pinned (OpenSpec.ofChange Rows.tallyAnyhowSpec) :=
  OpenClaim.holds_of_wide 12 Try.f12 rfl rfl rfl rfl rfl rfl rfl ⟨rfl, rfl, rfl, rfl, rfl⟩ rfl rfl rfl rfl rfl (by kernel_rfl) Try.func12 (by kernel_rfl)
    (of_decide_eq_true (by kernel_rfl)) (by unfold Func.isWrapper; first | (rw [if_pos (by decide +kernel)]; kernel_rfl) | (rw [if_neg (by decide +kernel)]; exact ⟨rfl, rfl⟩))
    (fun os started H enc _ => lifted os started H enc)
theorem proved : Rows.TallyAnyhowSaid := over
#print axioms proved
end Go.Proofs.Ytmejnlnaknlnmaa.lawTallyAnyhow
