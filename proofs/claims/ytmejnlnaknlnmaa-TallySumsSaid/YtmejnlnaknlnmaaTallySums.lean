/- The law TallySums returns true for every input: Sum and the reference's Sum answer one plain function; the list stays as it is.
   Conditions: none beyond the row's own. -/
import Derived.Test.YtmejnlnaknlnmaaApp
import Derived.Lib.SmallJoins
namespace Go.Proofs.Ytmejnlnaknlnmaa.lawTallySums
open Go.ChangeShapes Go.WideShapes Go.ChangeAt Go.RowKit
open Go.ChangeMaps (open_string shut_string)
set_option linter.unusedVariables false
theorem ints_at {k : IntKind} {w : World} {zs : List Int} {b off n cap : Nat} {i : Nat} {z : Int} (h : Ints k w (.slice (some ⟨b, off, none⟩) n cap) zs) (hi : i < zs.length) (hz : zs.getD i 0 = z) :
    w.cell? ⟨b, off + i, none⟩ = some (.int k z) := by
  rcases h with ⟨_, _, _, rfl, _⟩ | ⟨b', off', cap', hv, hc⟩
  · exact absurd hi (by simp)
  · obtain ⟨ha, _, _⟩ := Value.slice.inj hv
    obtain ⟨rfl, rfl, _⟩ := Addr.mk.inj (Option.some.inj ha)
    rw [← hz]; exact hc i hi
set_option maxHeartbeats 800000 in
theorem walk (a0 : Option Addr) (len0 cap0 : Nat) (z0 : List Int) (w : World) (w0 : IsRow .u32 w a0 len0 cap0 z0) :
    Calls Try.prog 10 #[.slice a0 len0 cap0] w fun e w' => e = .returned (.bool true) ∧ Below w.heap.size w w' := by
  obtain ⟨hI, hwf, hlen, hmax⟩ := row_ints w0
  unfold maxLen at hmax
  generalize z0.take len0 = zs at hI hwf hlen
  clear w0 z0
  subst hlen
  have hz0 : ∀ z ∈ zs, 0 ≤ z ∧ z ≤ 4294967295 := fun z hz => wf_u32 (hwf z hz)
  have HZ := Lib.hid hz0
  clear hz0 hwf
  by_cases hL : 1000 < zs.length
  · go_enter Try.func10, Try.ntmps10
    go_wp2
    go_ret
    exact ⟨rfl, Below.refl _ _⟩
  · have HI := Lib.hid hI
    obtain ⟨i0, hi, hz0, hz1, hz2⟩ := info_parts info_u32
    by_cases hz : zs.length = 0
    · obtain rfl : zs = [] := List.length_eq_zero_iff.1 hz
      clear hz hI
      go_enter Try.func10, Try.ntmps10
      go_wp2_with (at_builtin; refine wpList_append_ints rfl _ _ 48 rfl w.heap.size 28 i0 .u32 4 Try.underlying48 hi hz0 hz1 hz2 _ 0 [] rfl (World.ownsRow_made w #[] 0 (Nat.le_refl _) (by decide) rfl) _ _ rfl (HI.out.below ((Below.refl _ _).alloc (Nat.le_refl _) _)) (by first | (unfold maxLen; simp; done) | (unfold maxLen; omega)) (by first | (simp; done) | omega) (by simp) ?_)
      intro v1 w1 hown hgrow
      have hb1 : Below w.heap.size w w1 := ((Below.refl _ _).alloc (Nat.le_refl _) _).grown hgrow (by simp) (by intro k hk; simp [Value.ownBlock] at hk; omega)
      have hI1 := (own_ints (k := .u32) (zs := []) hown).2
      clear hown hgrow
      have HI1 := Lib.hid hI1
      clear hI1
      go_wp2_with fail
      refine (sum_any _ _ _ HI1.out HZ.out (by omega)).mono ?_; rintro e w2 ⟨rfl, hb2⟩
      have hb02 := hb1.trans (hb2.mono hb1.size)
      go_wp2_with fail
      refine (rsum_any _ _ _ (HI.out.below hb02) HZ.out (by omega)).mono ?_; rintro e w3 ⟨rfl, hb3⟩
      have hb03 := hb02.trans (hb3.mono hb02.size)
      have HI3 := Lib.hid ((HI1.out.below hb2).below hb3)
      have HJ3 := Lib.hid (HI.out.below hb03)
      clear hb1 hb2 hb02 hb3
      go_wp2
      refine wp_loop_rounds 1 ?_
      rw [rounds_succ]
      go_wp2
      go_ret
      exact ⟨rfl, hb03⟩
    · rcases hI with ⟨_, _, _, hnil, _⟩ | ⟨b, off, cap, hv, hc⟩
      · exact absurd (by rw [hnil]; rfl) hz
      obtain ⟨rfl, _, rfl⟩ := Value.slice.inj hv
      clear hv hc
      go_enter Try.func10, Try.ntmps10
      go_wp2_with (at_builtin; refine wpList_append_ints rfl _ _ 48 rfl w.heap.size 28 i0 .u32 4 Try.underlying48 hi hz0 hz1 hz2 _ 0 [] rfl (World.ownsRow_made w #[] 0 (Nat.le_refl _) (by decide) rfl) _ _ rfl (HI.out.below ((Below.refl _ _).alloc (Nat.le_refl _) _)) (by first | (unfold maxLen; simp; done) | (unfold maxLen; omega)) (by first | (simp; done) | omega) (by simp) ?_)
      intro v1 w1 hown hgrow
      have hb1 : Below w.heap.size w w1 := ((Below.refl _ _).alloc (Nat.le_refl _) _).grown hgrow (by simp) (by intro k hk; simp [Value.ownBlock] at hk; omega)
      have hI1 := (own_ints hown).2
      clear hown hgrow
      have hJ1 := hI1
      rcases hJ1 with ⟨_, _, _, hnil, _⟩ | ⟨g, o, cap1, rfl, hc1⟩
      · exact absurd (by rw [hnil]; rfl) hz
      clear hc1
      have HI1 := Lib.hid hI1
      clear hI1
      go_wp2_with fail
      refine (sum_any _ _ _ HI1.out HZ.out (by omega)).mono ?_; rintro e w2 ⟨rfl, hb2⟩
      have hb02 := hb1.trans (hb2.mono hb1.size)
      go_wp2_with fail
      refine (rsum_any _ _ _ (HI.out.below hb02) HZ.out (by omega)).mono ?_; rintro e w3 ⟨rfl, hb3⟩
      have hb03 := hb02.trans (hb3.mono hb02.size)
      have HI3 := Lib.hid ((HI1.out.below hb2).below hb3)
      have HJ3 := Lib.hid (HI.out.below hb03)
      clear hb1 hb2 hb02 hb3
      go_wp2
      go_loopw [8] (fun i wr => ∃ k : Nat, k ≤ zs.length ∧ i = .int .i64 k ∧ Below w3.heap.size w3 wr) (fun i _ => zs.length - (intOf i).toNat)
      case atStart => exact ⟨0, Nat.zero_le _, rfl, Below.refl _ _⟩
      case round =>
        obtain ⟨k, hk, rfl, hbr⟩ := hrel
        by_cases hlt : k < zs.length
        · obtain ⟨z, hzk⟩ : ∃ z, zs.getD k 0 = z := ⟨_, rfl⟩
          have hc1 := ints_at (HI3.out.below hbr) hlt hzk
          have hc2 := ints_at (HJ3.out.below hbr) hlt hzk
          clear hzk
          have hk0 : (0 : Int) ≤ (k : Int) := by omega
          have hk1 : (k : Int) < (zs.length : Int) := by omega
          go_wp2
          go_quiet (fail)
          go_wp2
          go_roundw
          case rel => exact ⟨k + 1, by omega, by go_num, hbr.trans (Joins.below_draws _ _ _)⟩
          case measure => simp [intOf]; omega
        · go_wp2
          go_ret
          exact ⟨rfl, hb03.trans (hbr.mono hb03.size)⟩
set_option maxRecDepth 100000 in
theorem lifted (os : Os) (started : os.Started) (H : Type) (enc : TypeId × Value → H) :
    ReturnsInHanded {} Try.checked os 10 .any (Rows.tallySumsSpec.pre6 enc Try.prog Try.f10 Rows.tallySumsRow.domain false) (Rows.tallySumsSpec.post enc Try.prog Try.f10 false true false false) := by
  refine returnsInHanded_of_change (C := Try.checked) own started (by kernel_rfl) Try.func10
    (ChangeSpec.witness6 (enc := enc) (C := Try.checked) false ⟨#[], #[.slice none 0 0], []⟩ 8 (by kernel_rfl) (by kernel_rfl) (by kernel_rfl) (by kernel_rfl)) ?_
  intro W base args ds gs before hval0 hW hcnd _
  have hval : ∀ (j : Nat) t v, Try.f10.params[j]? = some t → args[j]? = some v → Value.okWide Try.prog W .any base t v := hval0
  have hW' := hW
  obtain ⟨p, q, hA0, hV, rfl, hfz, hnd⟩ := hW
  have hA : DataW.TrodAll enc Try.prog W 0 (fun _ => true) true Try.f10.params.toList args.toList ds p := hA0
  rw [Try.params10] at hA hval
  obtain ⟨v0, vs0, d0, ds0, p0, q0, hargs, rfl, rfl, h0, r0⟩ := trodAll_cons hA
  obtain ⟨rfl, rfl, rfl⟩ := trodAll_nil r0
  obtain rfl : args = #[v0] := by cases args; simp_all
  obtain ⟨rfl, rfl⟩ := trodVars_none hV
  have k0 := h0
  have lt0 : ∀ x ∈ p0, x.block < W.heap.size := by obtain ⟨m, hm⟩ := k0; exact DataW.trod_lt m _ _ _ hm
  obtain ⟨a0, len0, cap0, rfl⟩ := okWide_slice Try.underlying48 (hval 0 48 v0 rfl rfl)
  obtain ⟨z0, w0⟩ : ∃ zs, IsRow .u32 W a0 len0 cap0 zs := by
    obtain ⟨fuel, hf⟩ := h0
    rcases open_ints Try.underlying48 Try.underlying28 (by kernel_rfl) hf with ⟨hcs, _⟩ | ⟨x, l, c, zs, hcs, _, hl, hm, hz, _, hcell, hwz⟩
    · simp [Value.cells] at hcs
      obtain ⟨rfl, rfl, rfl⟩ := hcs
      exact ⟨[], .inl ⟨rfl, rfl, rfl, rfl⟩⟩
    · simp [Value.cells] at hcs
      obtain ⟨rfl, rfl, rfl⟩ := hcs
      exact ⟨zs, .inr ⟨_, rfl, hl, hm, by simpa using hz, hcell, hwz⟩⟩
  clear hA0 hval0
  refine (walk a0 len0 cap0 z0 W w0).mono fun e W' ⟨he, bel⟩ => ?_
  subst he
  exact ⟨_, rfl, _, _, _, [], _, [], hW', trodAll_mk1 (shut_bool Try.underlying4 _), (trodAll_cons_mk (Below.trod laidOut (by kernel_rfl) (of_decide_eq_true (by kernel_rfl)) k0 bel lt0) trodAll_mk0), rfl, bel.frame _, fun h => by cases h⟩
theorem over : Rows.tallySumsRow.holds Try.pinned (OpenSpec.ofChange Rows.tallySumsSpec) :=
  OpenClaim.holds_of_wide 10 Try.f10 rfl rfl rfl rfl rfl rfl rfl ⟨rfl, rfl, rfl, rfl, rfl⟩ rfl rfl rfl rfl rfl (by kernel_rfl) Try.func10 (by kernel_rfl)
    (of_decide_eq_true (by kernel_rfl)) (by unfold Func.isWrapper; first | (rw [if_pos (by decide +kernel)]; kernel_rfl) | (rw [if_neg (by decide +kernel)]; exact ⟨rfl, rfl⟩))
    (fun os started H enc _ => lifted os started H enc)
theorem proved : Rows.TallySumsSaid := over
#print axioms proved
end Go.Proofs.Ytmejnlnaknlnmaa.lawTallySums
