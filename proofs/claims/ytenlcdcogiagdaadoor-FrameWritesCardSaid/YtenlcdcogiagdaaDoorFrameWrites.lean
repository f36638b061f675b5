/- The law FrameWrites returns true for every input: package frame and the reference write the same bytes, or say what is wrong.
   Conditions: none beyond the row's own. -/
import Derived.Test.YtenlcdcogiagdaaDoorFrameW
import Derived.Test.YtenlcdcogiagdaaDoorDoor
namespace Go.Proofs.YtenlcdcogiagdaaDoor.lawFrameWrites
open Go.ChangeShapes Go.WideShapes Go.ChangeAt Go.RowKit
open Go.ChangeMaps (open_string shut_string)
set_option linter.unusedVariables false
theorem seen_fr (k : Int) (s : ByteArray) (w : World) : Calls Tryd.prog 25 #[frV k s] w fun e w' => e = .returned (.agg #[.int .i64 0, .int .i64 (frE k s)]) ∧ Below w.heap.size w w' := by
  by_cases h : frE k s = 0
  · rw [frV_ok h, h]; exact seen_nil w
  · rw [frV_no h]; exact seen_errno _ w h
set_option maxRecDepth 100000 in
set_option maxHeartbeats 1600000 in
theorem walk (k : Int) (s : ByteArray) (w : World) (w0 : (Lit.int .i64 k).wf = true) (w1 : s.size ≤ maxLen) (hg : ET w) :
    Calls Tryd.prog 8 #[.agg #[.int .i64 k, .string s]] w fun e w' => e = .returned (.bool true) ∧ Below w.heap.size w w' := by
  unfold maxLen at w1
  clear w0 hg
  by_cases hs : s.size ≤ 6000
  · have hs2 : ¬ (6000 < (s.size : Int)) := by omega
    have D1 := Lib.hid (fun W => fto k s W)
    have D2 := Lib.hid (fun W => fwrite k s W)
    have D3 := Lib.hid (fun W => rfwrite k s W)
    have D4 := Lib.hid (fun W => seen_fr k s W)
    obtain ⟨x, hx⟩ : ∃ x, frW k s = x := ⟨_, rfl⟩
    obtain ⟨v, hv⟩ : ∃ x, frV k s = x := ⟨_, rfl⟩
    obtain ⟨e, he⟩ : ∃ x, frE k s = x := ⟨_, rfl⟩
    rw [hx] at D2 D3
    rw [hv] at D2 D4
    rw [he] at D3 D4
    clear hx hv he
    go_enter Tryd.func8, Tryd.ntmps8
    go_wp2_with fail
    refine (D1.out _).mono ?_; rintro e1 w1 ⟨rfl, hb1⟩
    have HB1 := Lib.hid ((Joins.below_alloc1 w (.cells #[.int .i64 k, .string s] 54)).trans (hb1.mono (by simp)))
    have HS1 := Lib.hid ((Blk.new w 54 #[.int .i64 k, .string s]).keep hb1)
    clear hb1
    go_wp2_with fail
    refine (D2.out _).mono ?_; rintro e2 w2 ⟨rfl, hb2⟩
    have HB2 := Lib.hid (HB1.out.trans (hb2.mono HB1.out.size))
    have HS2 := Lib.hid (HS1.out.keep hb2)
    have c0 := HS2.out.cell 0
    have c1 := HS2.out.cell 1
    simp at c0 c1
    clear hb2
    go_wp2_with fail
    refine (D3.out _).mono ?_; rintro e3 w3 ⟨rfl, hb3⟩
    have HB3 := Lib.hid (HB2.out.trans (hb3.mono HB2.out.size))
    clear hb3 c0 c1
    go_wp2_with fail
    refine (D4.out _).mono ?_; rintro e4 w4 ⟨rfl, hb4⟩
    go_wp2
    go_ret
    exact ⟨rfl, HB3.out.trans (hb4.mono HB3.out.size)⟩
  · have hs2 : 6000 < (s.size : Int) := by omega
    go_enter Tryd.func8, Tryd.ntmps8
    go_wp2
    go_ret
    exact ⟨rfl, Joins.below_alloc1 w _⟩
set_option maxRecDepth 100000 in
theorem lifted (os : Os) (started : os.Started) (H : Type) (enc : TypeId × Value → H) :
    ReturnsInHanded {} Tryd.checked os 8 .any (fun w args => (Rows.frameWritesSpec.pre enc Tryd.prog Tryd.f8 [] false w args ∧ laidMetH Tryd.prog laidL w) ∧ sizedMet enc Tryd.prog Tryd.f8 (OpenSpec.ofChange Rows.frameWritesSpec) false w args) (Rows.frameWritesSpec.post enc Tryd.prog Tryd.f8 false true false false) := by
  refine returnsInHanded_of_change_and (C := Tryd.checked) (X := fun w _ => laidMetH Tryd.prog laidL w) (fun _ _ _ hh h => h.of_heap hh) own started (by kernel_rfl) Tryd.func8
    (ChangeSpec.witness_at (enc := enc) (C := Tryd.checked) (os := os) (X := fun w _ => laidMetH Tryd.prog laidL w) false (laidWorld os) #[.agg #[.int .i64 0, .string ⟨#[]⟩]] 8 rfl (by kernel_rfl) (by kernel_rfl) (by kernel_rfl) (by kernel_rfl) (by kernel_rfl) (laidWorld_met os _)) ?_
  intro W base args ds gs before hval0 hW hcnd _ hL _
  have hval : ∀ (j : Nat) t v, Tryd.f8.params[j]? = some t → args[j]? = some v → Value.okWide Tryd.prog W .any base t v := hval0
  have hW' := hW
  obtain ⟨p, q, hA0, hV, rfl, hfz, hnd⟩ := hW
  have hA : DataW.TrodAll enc Tryd.prog W 0 (fun _ => true) true Tryd.f8.params.toList args.toList ds p := hA0
  rw [Tryd.params8] at hA hval
  obtain ⟨v0, vs0, d0, ds0, p0, q0, hargs, rfl, rfl, h0, r0⟩ := trodAll_cons hA
  obtain ⟨rfl, rfl, rfl⟩ := trodAll_nil r0
  obtain rfl : args = #[v0] := by cases args; simp_all
  obtain ⟨rfl, rfl⟩ := trodVars_none hV
  have k0 := h0
  have lt0 : ∀ x ∈ p0, x.block < W.heap.size := by obtain ⟨m, hm⟩ := k0; exact DataW.trod_lt m _ _ _ hm
  obtain ⟨a0k, a0s, rfl, w0k, w0s⟩ := frame_open Tryd.underlying54 (by kernel_rfl) (by kernel_rfl) (by kernel_rfl) (by kernel_rfl) (hval 0 54 v0 rfl rfl) h0
  clear hA0 hval0
  have hg := handle_of_laid hL
  refine (walk a0k a0s W w0k w0s hg).mono fun e W' ⟨he, bel⟩ => ?_
  subst he
  exact ⟨_, rfl, _, _, _, [], _, [], hW', trodAll_mk1 (shut_bool Tryd.underlying4 _), (trodAll_cons_mk (Below.trod laidOut (by kernel_rfl) (of_decide_eq_true (by kernel_rfl)) k0 bel lt0) trodAll_mk0), rfl, bel.frame _, fun h => by cases h⟩
theorem over : Rows.frameWritesRow.holds Tryd.pinned (OpenSpec.ofChange Rows.frameWritesSpec) :=
  OpenClaim.holds_of_wide 8 Tryd.f8 rfl rfl rfl rfl rfl rfl rfl ⟨rfl, rfl, rfl, rfl, rfl⟩ rfl rfl rfl rfl rfl (by kernel_rfl) Tryd.func8 (by kernel_rfl)
    (of_decide_eq_true (by kernel_rfl)) (by unfold Func.isWrapper; first | (rw [if_pos (by decide +kernel)]; kernel_rfl) | (rw [if_neg (by decide +kernel)]; exact ⟨rfl, rfl⟩))
    (fun os started H enc _ => lifted os started H enc)
set_option maxRecDepth 100000 in
theorem proved : Rows.FrameWritesCardSaid :=
  Claim7.holds_tied_plain_at .later [] [.handle] true (true, "5dff801f1d23b17b57b0468a6d7ee1696a7011d53c8452f6898cbad9b38e4afd") true over (fun _ h => by cases h) (by kernel_rfl) (fun _ h => by cases h) frameWrites_row_tie rfl ⟨rfl, rfl⟩ (by kernel_rfl) rfl
    (fun f fn hf hfn => by
      obtain rfl : f = 8 := Option.some.inj ((show Tryd.prog.funcNamed "selkie/selkielaw04.FrameWrites" = some 8 by kernel_rfl).symm.trans hf) |>.symm
      obtain rfl : fn = Tryd.f8 := (Option.some.inj (Tryd.func8.symm.trans hfn)).symm
      exact ⟨by kernel_rfl, fun j t ht => by
        rw [Tryd.params8] at ht
        match j, ht with
        | 0, ht => (have e : t = 54 := by simpa using ht.symm); subst e; exact (show Tryd.prog.wantsStandIn 54 = false by kernel_rfl)
        | j + 1, ht => simp at ht⟩)
    (by kernel_rfl)
#print axioms proved
end Go.Proofs.YtenlcdcogiagdaaDoor.lawFrameWrites
