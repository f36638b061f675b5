/- The law LampTells returns true for every input: package lamp and the reference answer alike on stamps, and on their bytes.
   Conditions: none beyond the row's own. -/
import Derived.Test.YtjckganigfblnaaDoorLampRW
import Derived.Test.YtjckganigfblnaaDoorAgg
import Derived.Test.YtjckganigfblnaaDoorFrame
import Derived.Test.YtjckganigfblnaaDoorDoor
import Derived.Deep.QuietTactic
import Derived.BigQuiet
import Derived.Lib.QuietBelow
import Derived.Deep.RegionHeld3
import Derived.Deep.RegionWith
namespace Go.Proofs.YtjckganigfblnaaDoor.lawLampTells
open Go.ChangeShapes Go.WideShapes Go.ChangeAt Go.RowKit
open Go.ChangeMaps (open_string shut_string)
set_option linter.unusedVariables false
attribute [local go_sem ↓] Go.wp_at_zero Go.wp_at_succ
/-- What holds at the head of a round. -/
def Rel (w : World) (pb qb : Nat) (T : ByteArray) (i : Value) (wr : World) : Prop :=
  ∃ (k p : Nat) (fa fe : Int), k ≤ 3 ∧ i = .int .i64 k ∧ R wr pb T p fa fe ∧ RR wr qb T p fa fe ∧ FA T fa fe ∧ Below w.heap.size w wr
set_option maxRecDepth 100000 in
set_option maxHeartbeats 6400000 in
theorem walk (t1 o1 t2 o2 : Int) (s : ByteArray) (w : World) (w0 : (Lit.int .u32 t1).wf = true) (w1 : (Lit.int .i64 o1).wf = true) (w2 : (Lit.int .u32 t2).wf = true) (w3 : (Lit.int .i64 o2).wf = true) (w4 : s.size ≤ maxLen) (hg : ET w) :
    Calls Tryd.prog 4 #[.agg #[.int .u32 t1, .int .i64 o1], .agg #[.int .u32 t2, .int .i64 o2], .string s] w fun e w' => e = .returned (.bool true) ∧ Below w.heap.size w w' := by
  obtain ⟨g1, _⟩ := wf_u32 w0
  unfold maxLen at w4
  have HG := Lib.hid hg
  clear w0 w1 w2 w3 hg
  by_cases hs : s.size ≤ 1000
  · have hs2 : ¬ (1000 < (s.size : Int)) := by omega
    obtain ⟨x, hx⟩ : ∃ x, stW t1 o1 = x := ⟨_, rfl⟩
    have hxz := stW_size t1 o1
    have D1 := Lib.hid (fun W => stcheck t1 o1 W)
    have D2 := Lib.hid (fun W => rstcheck t1 o1 W)
    have D3 := Lib.hid (fun W => stcompare t1 o1 t2 o2 W)
    have D4 := Lib.hid (fun W => rstcompare t1 o1 t2 o2 W)
    have D5 := Lib.hid (fun W => stwrite t1 o1 W g1)
    have D6 := Lib.hid (fun W => rstwrite t1 o1 W g1)
    obtain ⟨c, hc⟩ : ∃ x, or2 (ordI t1 t2) (ordI o1 o2) = x := ⟨_, rfl⟩
    obtain ⟨v, hv⟩ : ∃ x, stV t1 o1 = x := ⟨_, rfl⟩
    rw [hx] at D5 D6 hxz
    rw [hc] at D3 D4
    rw [hv] at D1 D2
    obtain ⟨T, hT⟩ : ∃ T, x ++ s = T := ⟨_, rfl⟩
    have hTz : T.size ≤ 100000 := by rw [← hT, ByteArray.size_append]; omega
    have hadd : ∀ W : World, (Op.stringOp .add x s).run Tryd.prog W = .ok (.string T) W := fun W => by rw [run_string_add W x s (by omega) (by omega), hT]
    have HT := Lib.hid hT
    clear hx hc hv hT g1
    go_enter Tryd.func4, Tryd.ntmps4
    go_wp2
    generalize hW : (w.alloc (.cells #[.int .u32 t1, .int .i64 o1] 48)).alloc (.cells #[.int .u32 t2, .int .i64 o2] 48) = W
    have hb : Below w.heap.size w W := by rw [← hW]; exact Joins.below_alloc2 w _ _
    have k1 : W.cell? ⟨w.heap.size, 0, none⟩ = some (.int .u32 t1) := by rw [← hW]; simp
    have k2 : W.cell? ⟨w.heap.size, 1, none⟩ = some (.int .i64 o1) := by rw [← hW]; simp
    have k3 : W.cell? ⟨w.heap.size + 1, 0, none⟩ = some (.int .u32 t2) := by rw [← hW]; simp
    have k4 : W.cell? ⟨w.heap.size + 1, 1, none⟩ = some (.int .i64 o2) := by rw [← hW]; simp
    clear hW
    have c1 := cell_regrown k1
    have c2 := cell_regrown k2
    have c3 := cell_regrown k3
    have c4 := cell_regrown k4
    have HB := Lib.hid hb
    clear hb
    refine wp_region_quiet_below (by kernel_rfl) (by kernel_rfl) ?_
    repeat (first | go_big_quiet_step ((first | with_reducible exact Calls.regrown_of (D1.out _) | with_reducible exact Calls.regrown_of (D2.out _) | with_reducible exact Calls.regrown_of (D3.out _) | with_reducible exact Calls.regrown_of (D4.out _) | with_reducible exact Calls.regrown_of (D5.out _) | with_reducible exact Calls.regrown_of (D6.out _))) | quiet_step ((first | with_reducible exact Calls.regrown_of (D1.out _) | with_reducible exact Calls.regrown_of (D2.out _) | with_reducible exact Calls.regrown_of (D3.out _) | with_reducible exact Calls.regrown_of (D4.out _) | with_reducible exact Calls.regrown_of (D5.out _) | with_reducible exact Calls.regrown_of (D6.out _))))
    refine wpQuiet_nil ?_
    intro _ hw'
    obtain ⟨⟨dq, osq⟩, hw''⟩ := hw'
    subst hw''
    have HB2 := Lib.hid (HB.out.trans ((below_regrown W dq osq).mono HB.out.size))
    have d1 := c1 dq osq
    have d2 := c2 dq osq
    clear c1 c2 c3 c4 k1 k2 k3 k4
    generalize Sort.grow (redrawn W dq) osq = W2 at *
    clear HB W
    go_wp2_with fail
    go_region_held3 (fun w' => w'.cell? ⟨w.heap.size, 0, none⟩ = some (.int .u32 t1) ∧ w'.cell? ⟨w.heap.size, 1, none⟩ = some (.int .i64 o1)) (first | assumption | go_keep)
      (first
        | (go_at_call 25; refine (D5.out _).mono ?_; rintro e1 v1 ⟨rfl, hb1⟩; have m1 := hb1.cell (World.block_lt_of_cell? _ ⟨w.heap.size, 0, none⟩ d1); have m2 := hb1.cell (World.block_lt_of_cell? _ ⟨w.heap.size, 1, none⟩ d2); rw [World.cell?_drew, d1] at m1; rw [World.cell?_drew, d2] at m2; have HB3 := Lib.hid (HB2.out.drew.trans (hb1.mono HB2.out.size)); clear hb1)
        | (go_at_call 13; refine (new_any T _).mono ?_; rintro e2 v2 ⟨rfl, hr2, hb2⟩; have n1 := hb2.cell (World.block_lt_of_cell? _ ⟨w.heap.size, 0, none⟩ m1); have n2 := hb2.cell (World.block_lt_of_cell? _ ⟨w.heap.size, 1, none⟩ m2); rw [m1] at n1; rw [m2] at n2; have HR2 := Lib.hid hr2; have HB4 := Lib.hid (HB3.out.trans (hb2.mono HB3.out.size)); have hpb : w.heap.size ≤ v1.heap.size := HB3.out.size; clear hb2 hr2)
        | (go_at_call 26; refine (D6.out _).mono ?_; rintro e3 v3 ⟨rfl, hb3⟩; have l1 := hb3.cell (World.block_lt_of_cell? _ ⟨w.heap.size, 0, none⟩ n1); have l2 := hb3.cell (World.block_lt_of_cell? _ ⟨w.heap.size, 1, none⟩ n2); rw [n1] at l1; rw [n2] at l2; have HR3 := Lib.hid (HR2.out.keep hb3); have HB5 := Lib.hid (HB4.out.trans (hb3.mono HB4.out.size)); have hqb : w.heap.size ≤ v3.heap.size := HB5.out.size; clear hb3))
    have HST := Lib.hid (show Rel w v1.heap.size v3.heap.size T (.int .i64 0) (v3.alloc (.cells #[.string T, .int .i64 0, .int .i64 0, .int .i64 0] 36)) from
      ⟨0, 0, 0, 0, by omega, rfl, HR3.out.keep (Joins.below_alloc1 v3 _), ⟨Nat.zero_le _, Blk.new v3 _ _⟩, FA.zero T, HB5.out.alloc HB5.out.size _⟩)
    clear D1 D2 D3 D4 D5 D6 hadd d1 d2 m1 m2 n1 n2 l1 l2 HR2 HR3 HB2 HB3 HB4 HB5 HT
    go_wp2
    go_loopw [9] (fun i wr => Rel w v1.heap.size v3.heap.size T i wr) (fun i _ => 3 - (intOf i).toNat)
    case atStart => exact HST.out
    case round =>
      clear HST
      obtain ⟨k, p, fa, fe, hk, rfl, hr, hq, hfa, hB⟩ := hrel
      have HR := Lib.hid hr
      have HQ := Lib.hid hq
      have HF := Lib.hid hfa
      have HB := Lib.hid hB
      have hpp := hr.1
      clear hr hq hfa hB
      by_cases hlt : k < 3
      · have HF2 := Lib.hid (HF.out.r2 (m1 := 1048576) (m2 := 7) hpp)
        go_wp2
        go_region_with (first
          | (go_at_call 27; refine (stread v1.heap.size T p fa fe _ hTz (by exact HR.out)).mono ?_; rintro e4 u1 ⟨rfl, hr1, hg1⟩; have HR1 := Lib.hid hr1; have HQ1 := Lib.hid (RR.by_prog (by exact HQ.out) (by exact HR.out) hg1); have HB1 := Lib.hid (below_only (Below.drew HB.out) hg1 hpb (by exact HB.out.size)); clear hr1 hg1)
          | (go_at_call 28; refine (rstread v3.heap.size T p fa fe _ hTz (by exact HQ1.out)).mono ?_; rintro e5 u2 ⟨rfl, hq2, hg2⟩; have HR2 := Lib.hid (HR1.out.by_ref HQ1.out hg2); have HB2 := Lib.hid (below_only HB1.out hg2 hqb HB1.out.size); have HQ2 := Lib.hid hq2; obtain ⟨x0, x1, x2, x3, _⟩ := rr_cells hq2; clear hq2 hg2)
          | (go_at_call 18; refine (oat v1.heap.size T _ _ _ _ (by exact HR2.out)).mono ?_; rintro e6 u3 ⟨rfl, rfl⟩)
          | (go_at_call 20; obtain ⟨ev, hev, hec⟩ := oerr _ _ _ _ _ _ HR2.out; refine hec.mono ?_; rintro e7 u4 ⟨rfl, rfl⟩; have HEV := Lib.hid hev; clear hec hev)
          | (go_at_call 19; refine (seen_ev ev _ _ _ (HG.out.keep HB2.out) HF2.out.1 (by have := HF2.out.2.1; omega) HEV.out).mono ?_; rintro e8 u5 ⟨rfl, hb5⟩; have HR5 := Lib.hid (HR2.out.keep hb5); have HQ5 := Lib.hid (HQ2.out.keep hb5); have HB6 := Lib.hid (HB2.out.trans (hb5.mono HB2.out.size)); obtain ⟨y0, y1, y2, y3, _⟩ := rr_cells HQ5.out; clear hb5))
        all_goals
          go_wp2
          go_roundw
          case rel => exact ⟨k + 1, _, _, _, by omega, by go_num, HR5.out, HQ5.out, HF2.out, HB6.out⟩
          case measure => simp [intOf]; omega
      · go_wp2
        go_ret
        exact ⟨rfl, HB.out⟩
  · have hs2 : 1000 < (s.size : Int) := by omega
    go_enter Tryd.func4, Tryd.ntmps4
    go_wp2
    go_ret
    exact ⟨rfl, Joins.below_alloc2 w _ _⟩
set_option maxRecDepth 100000 in
theorem lifted (os : Os) (started : os.Started) (H : Type) (enc : TypeId × Value → H) :
    ReturnsInHanded {} Tryd.checked os 4 .any (fun w args => (Rows.lampTellsSpec.pre enc Tryd.prog Tryd.f4 [] false w args ∧ laidMetH Tryd.prog laidL w) ∧ sizedMet enc Tryd.prog Tryd.f4 (OpenSpec.ofChange Rows.lampTellsSpec) false w args) (Rows.lampTellsSpec.post enc Tryd.prog Tryd.f4 false true false false) := by
  refine returnsInHanded_of_change_and (C := Tryd.checked) (X := fun w _ => laidMetH Tryd.prog laidL w) (fun _ _ _ hh h => h.of_heap hh) own started (by kernel_rfl) Tryd.func4
    (ChangeSpec.witness_at (enc := enc) (C := Tryd.checked) (os := os) (X := fun w _ => laidMetH Tryd.prog laidL w) false (laidWorld os) #[.agg #[.int .u32 0, .int .i64 0], .agg #[.int .u32 0, .int .i64 0], .string ⟨#[]⟩] 8 rfl (by kernel_rfl) (by kernel_rfl) (by kernel_rfl) (by kernel_rfl) (by kernel_rfl) (laidWorld_met os _)) ?_
  intro W base args ds gs before hval0 hW hcnd _ hL _
  have hval : ∀ (j : Nat) t v, Tryd.f4.params[j]? = some t → args[j]? = some v → Value.okWide Tryd.prog W .any base t v := hval0
  have hW' := hW
  obtain ⟨p, q, hA0, hV, rfl, hfz, hnd⟩ := hW
  have hA : DataW.TrodAll enc Tryd.prog W 0 (fun _ => true) true Tryd.f4.params.toList args.toList ds p := hA0
  rw [Tryd.params4] at hA hval
  obtain ⟨v0, vs0, d0, ds0, p0, q0, hargs, rfl, rfl, h0, r0⟩ := trodAll_cons hA
  obtain ⟨v1, vs1, d1, ds1, p1, q1, rfl, rfl, rfl, h1, r1⟩ := trodAll_cons r0
  obtain ⟨v2, vs2, d2, ds2, p2, q2, rfl, rfl, rfl, h2, r2⟩ := trodAll_cons r1
  obtain ⟨rfl, rfl, rfl⟩ := trodAll_nil r2
  obtain rfl : args = #[v0, v1, v2] := by cases args; simp_all
  obtain ⟨rfl, rfl⟩ := trodVars_none hV
  have k0 := h0
  have lt0 : ∀ x ∈ p0, x.block < W.heap.size := by obtain ⟨m, hm⟩ := k0; exact DataW.trod_lt m _ _ _ hm
  obtain ⟨a0x, a0y, rfl, w0x, w0y⟩ := pair_open (k0 := .u32) (k1 := .i64) Tryd.underlying48 (by kernel_rfl) rfl rfl (by kernel_rfl) (by kernel_rfl) (by kernel_rfl) (by kernel_rfl) (hval 0 48 v0 rfl rfl) h0
  have k1 := h1
  have lt1 : ∀ x ∈ p1, x.block < W.heap.size := by obtain ⟨m, hm⟩ := k1; exact DataW.trod_lt m _ _ _ hm
  obtain ⟨a1x, a1y, rfl, w1x, w1y⟩ := pair_open (k0 := .u32) (k1 := .i64) Tryd.underlying48 (by kernel_rfl) rfl rfl (by kernel_rfl) (by kernel_rfl) (by kernel_rfl) (by kernel_rfl) (hval 1 48 v1 rfl rfl) h1
  have k2 := h2
  have lt2 : ∀ x ∈ p2, x.block < W.heap.size := by obtain ⟨m, hm⟩ := k2; exact DataW.trod_lt m _ _ _ hm
  obtain ⟨a2, rfl, ed2, rfl, w2⟩ := open_string Tryd.underlying9 (hval 2 9 v2 rfl rfl) h2
  clear hA0 hval0
  have hg := handle_of_laid hL
  refine (walk a0x a0y a1x a1y a2 W w0x w0y w1x w1y w2 hg).mono fun e W' ⟨he, bel⟩ => ?_
  subst he
  exact ⟨_, rfl, _, _, _, [], _, [], hW', trodAll_mk1 (shut_bool Tryd.underlying4 _), (trodAll_cons_mk (Below.trod laidOut (by kernel_rfl) (of_decide_eq_true (by kernel_rfl)) k0 bel lt0) (trodAll_cons_mk (Below.trod laidOut (by kernel_rfl) (of_decide_eq_true (by kernel_rfl)) k1 bel lt1) (trodAll_cons_mk (Below.trod laidOut (by kernel_rfl) (of_decide_eq_true (by kernel_rfl)) k2 bel lt2) trodAll_mk0))), rfl, bel.frame _, fun h => by cases h⟩
theorem over : Rows.lampTellsRow.holds Tryd.pinned (OpenSpec.ofChange Rows.lampTellsSpec) :=
  OpenClaim.holds_of_wide 4 Tryd.f4 rfl rfl rfl rfl rfl rfl rfl ⟨rfl, rfl, rfl, rfl, rfl⟩ rfl rfl rfl rfl rfl (by kernel_rfl) Tryd.func4 (by kernel_rfl)
    (of_decide_eq_true (by kernel_rfl)) (by unfold Func.isWrapper; first | (rw [if_pos (by decide +kernel)]; kernel_rfl) | (rw [if_neg (by decide +kernel)]; exact ⟨rfl, rfl⟩))
    (fun os started H enc _ => lifted os started H enc)
set_option maxRecDepth 100000 in
theorem proved : Rows.LampTellsCardSaid :=
  Claim7.holds_tied_plain_at .later [] [.handle] true (true, "4e4649b2e56293408b5a5a7ede715043e58c140f8488b5403f3bf02124768ed7") true over (fun _ h => by cases h) (by kernel_rfl) (fun _ h => by cases h) lampTells_row_tie rfl ⟨rfl, rfl⟩ (by kernel_rfl) rfl
    (fun f fn hf hfn => by
      obtain rfl : f = 4 := Option.some.inj ((show Tryd.prog.funcNamed "selkie/selkielaw09.LampTells" = some 4 by kernel_rfl).symm.trans hf) |>.symm
      obtain rfl : fn = Tryd.f4 := (Option.some.inj (Tryd.func4.symm.trans hfn)).symm
      exact ⟨by kernel_rfl, fun j t ht => by
        rw [Tryd.params4] at ht
        match j, ht with
        | 0, ht => (have e : t = 48 := by simpa using ht.symm); subst e; exact (show Tryd.prog.wantsStandIn 48 = false by kernel_rfl)
        | 1, ht => (have e : t = 48 := by simpa using ht.symm); subst e; exact (show Tryd.prog.wantsStandIn 48 = false by kernel_rfl)
        | 2, ht => (have e : t = 9 := by simpa using ht.symm); subst e; exact (show Tryd.prog.wantsStandIn 9 = false by kernel_rfl)
        | j + 3, ht => simp at ht⟩)
    (by kernel_rfl)
#print axioms proved
end Go.Proofs.YtjckganigfblnaaDoor.lawLampTells
