/- The law OctetBack returns true for every input: what is written is read as it was, whatever follows.
   Conditions: none beyond the row's own. -/
import Derived.Test.YtenlcdcogiagdaaDoorOctWorks
import Derived.Test.YtenlcdcogiagdaaDoorReadLaw
import Derived.Test.YtenlcdcogiagdaaDoorFrame
import Derived.Test.YtenlcdcogiagdaaDoorDoor
namespace Go.Proofs.YtenlcdcogiagdaaDoor.lawOctetBack
open Go.ChangeShapes Go.WideShapes Go.ChangeAt Go.RowKit
open Go.ChangeMaps (open_string shut_string)
set_option linter.unusedVariables false
theorem rest_of (a b : ByteArray) : rest (a ++ b) 0 = a.data.toList ++ b.data.toList := by simp [rest]
theorem back_plain (v : Nat) (s : Int) (t more T : ByteArray) (hv : v < 18446744073709551616) (h0 : -9223372036854775808 ≤ s) (h1 : s ≤ 9223372036854775807) (ht : t.size ≤ 2000)
    (hT : numN v ++ (numN t.size ++ t) ++ numN (zig s).toNat ++ more = T) : ∃ p1 p2 p3 : Nat,
    (rdV none T 0 0 = v ∧ rdP none T 0 0 = p1 ∧ rdA none T 0 0 0 = 0 ∧ rdF none T 0 0 = 0) ∧ (txS t.size T p1 0 = t ∧ txP t.size T p1 0 = p2 ∧ txA t.size T p1 0 0 = 0 ∧ txE t.size T p1 0 = 0) ∧
    (unzig (rdV none T p2 0) = s ∧ rdP none T p2 0 = p3 ∧ rdA none T p2 0 0 = 0 ∧ rdF none T p2 0 = 0) ∧ (T.size : Int) - p3 = more.size ∧ p3 ≤ T.size := by
  have e : (256 : Nat) ^ 8 = 18446744073709551616 := by decide
  have hz := zig_bd h0 h1
  have htl : t.data.toList.length = t.size := by simp
  have hr : rest T 0 = numB v ++ (numB t.data.toList.length ++ (t.data.toList ++ (numB (zig s).toNat ++ more.data.toList))) := by
    rw [← hT, htl]
    simp [rest, numN_data]
  obtain ⟨a1, a2, a3, a4, a5⟩ := read_num (lim := none) (fa := 0) hr (by omega) (by intro m h; cases h)
  obtain ⟨b1, b2, b3, b4, b5⟩ := read_text (m := t.size) (fa := 0) a5 (by omega) (by omega)
  obtain ⟨c1, c2, c3, c4, c5⟩ := read_num (lim := none) (fa := 0) b5 (by omega) (by intro m h; cases h)
  refine ⟨_, _, _, ⟨a1, a2, a3, a4⟩, ⟨b1.trans (bytes_ext rfl).symm, b2, b3, b4⟩, ⟨by rw [c1, unzig_zig], c2, c3, c4⟩, ?_⟩
  have hl := congrArg List.length c5
  rw [rest_length] at hl
  have hm : more.data.toList.length = more.size := by simp
  have hp := rdP_le (lim := none) (s := T) (p := 0 + (nN v + 1) + (nN t.data.toList.length + 1) + t.data.toList.length) (fe := 0) (by
    have := txP_le (m := t.size) (s := T) (p := 0 + (nN v + 1)) (fe := 0) (by have := rdP_le (lim := none) (s := T) (p := 0) (fe := 0) (Nat.zero_le _); rw [a2] at this; exact this)
    rw [b2] at this; exact this)
  rw [c2] at hp
  rw [hm] at hl
  exact ⟨by omega, hp⟩
set_option maxHeartbeats 3200000 in
theorem walk (v s : Int) (t more : ByteArray) (w : World) (w0 : (Lit.int .u64 v).wf = true) (w1 : (Lit.int .i64 s).wf = true) (w2 : t.size ≤ maxLen) (w3 : more.size ≤ maxLen) (hg : ET w) :
    Calls Tryd.prog 4 #[.int .u64 v, .int .i64 s, .string t, .string more] w fun e w' => e = .returned (.bool true) ∧ Below w.heap.size w w' := by
  obtain ⟨g1, g2⟩ := wf_u64 w0
  obtain ⟨g3, g4⟩ := wf_i64 w1
  unfold maxLen at w2 w3
  have D0 := Lib.hid (oworks w hg)
  clear w0 w1 hg
  by_cases ht : t.size ≤ 2000
  · by_cases hm : more.size ≤ 2000
    · have q1 : decide (2000 < (t.size : Int)) = false := decide_eq_false (by omega)
      have q2 : decide (2000 < (more.size : Int)) = false := decide_eq_false (by omega)
      obtain ⟨T, hT⟩ : ∃ T, numN v.toNat ++ (numN t.size ++ t) ++ numN (zig s).toNat ++ more = T := ⟨_, rfl⟩
      obtain ⟨p1, p2, p3, ⟨a1, a2, a3, a4⟩, ⟨b1, b2, b3, b4⟩, ⟨c1, c2, c3, c4⟩, hl, hp3⟩ := back_plain v.toNat s t more T (by omega) g3 g4 ht hT
      have D1 := Lib.hid (fun W => onum v W g1 g2)
      have D2 := Lib.hid (fun W => otext t W (by omega))
      have D3 := Lib.hid (fun W => osigned s W g3 g4)
      have z1 : (numN v.toNat).size ≤ 9 := by rw [numN_size]; have := nN_max (v := v.toNat) (by show v.toNat < 18446744073709551616; omega); omega
      have z2 : (numN t.size ++ t).size ≤ 2009 := by rw [ByteArray.size_append, numN_size]; have := nN_max (v := t.size) (by show t.size < 18446744073709551616; omega); omega
      have z3 : (numN (zig s).toNat).size ≤ 9 := by rw [numN_size]; have := zig_bd g3 g4; have := nN_max (v := (zig s).toNat) (by show (zig s).toNat < 18446744073709551616; omega); omega
      obtain ⟨x, hx⟩ : ∃ x, numN v.toNat = x := ⟨_, rfl⟩
      obtain ⟨y, hy⟩ : ∃ y, numN t.size ++ t = y := ⟨_, rfl⟩
      obtain ⟨z, hz⟩ : ∃ z, numN (zig s).toNat = z := ⟨_, rfl⟩
      rw [hx] at D1 z1 hT
      rw [hy] at D2 z2 hT
      rw [hz] at D3 z3 hT
      have hTz : T.size ≤ 100000 := by rw [← hT]; simp [ByteArray.size_append]; omega
      have E1 := Lib.hid (fun b W h => onumr b T 0 0 0 W hTz h)
      rw [a1, a2, a3, a4, Int.toNat_of_nonneg g1] at E1
      have E2 := Lib.hid (fun b W h => otextr b T p1 0 0 t.size W hTz h (by omega))
      rw [b1, b2, b3, b4] at E2
      have E3 := Lib.hid (fun b W h => osignr b T p2 0 0 W hTz h)
      rw [c1, c2, c3, c4] at E3
      have E4 := Lib.hid (fun b W h => oleft b T p3 0 0 W hTz h)
      rw [hl] at E4
      have HT := Lib.hid hT
      clear a1 a2 a3 a4 b1 b2 b3 b4 c1 c2 c3 c4 hl hx hy hz hT g1 g2 g3 g4
      go_enter Tryd.func4, Tryd.ntmps4
      go_wp2_with fail
      refine D0.out.mono ?_; rintro e w1 ⟨rfl, h1⟩
      have H1 := Lib.hid h1
      clear h1
      go_wp2_with fail
      refine (D1.out _).mono ?_; rintro e w2 ⟨rfl, h2⟩
      have H2 := Lib.hid (H1.out.trans (h2.mono H1.out.size))
      clear h2
      go_wp2_with fail
      refine (D2.out _).mono ?_; rintro e w3 ⟨rfl, h3⟩
      have H3 := Lib.hid (H2.out.trans (h3.mono H2.out.size))
      clear h3
      go_wp2_with fail
      refine (D3.out _).mono ?_; rintro e w4 ⟨rfl, h4⟩
      have H4 := Lib.hid (H3.out.trans (h4.mono H3.out.size))
      clear h4
      go_wp2_with fail
      refine (new_any _ _).mono ?_; rintro e w5 ⟨rfl, hr5, h5⟩
      rw [HT.out] at hr5
      have HR5 := Lib.hid hr5
      have H5 := Lib.hid (H4.out.trans (h5.mono H4.out.size))
      have hq : w.heap.size ≤ w4.heap.size := H4.out.size
      clear hr5 h5
      go_wp2_with fail
      refine (E1.out _ _ HR5.out).mono ?_; rintro e w6 ⟨rfl, hr6, g6⟩
      have HR6 := Lib.hid hr6
      have H6 := Lib.hid (below_only H5.out g6 hq H5.out.size)
      clear hr6 g6
      go_wp2_with fail
      refine (E2.out _ _ HR6.out).mono ?_; rintro e w7 ⟨rfl, hr7, g7⟩
      have HR7 := Lib.hid hr7
      have H7 := Lib.hid (below_only H6.out g7 hq H6.out.size)
      clear hr7 g7
      go_wp2_with fail
      refine (E3.out _ _ HR7.out).mono ?_; rintro e w8 ⟨rfl, hr8, g8⟩
      have HR8 := Lib.hid hr8
      have H8 := Lib.hid (below_only H7.out g8 hq H7.out.size)
      clear hr8 g8
      go_wp2_with fail
      refine (E4.out _ _ HR8.out).mono ?_; rintro e w9 ⟨rfl, h9⟩
      have HR9 := Lib.hid (HR8.out.keep h9)
      have H9 := Lib.hid (H8.out.trans (h9.mono H8.out.size))
      clear h9
      go_wp2_with fail
      obtain ⟨ev, hev, hec⟩ := oerr _ _ _ _ _ w9 HR9.out
      obtain ⟨-, rfl⟩ := ev_nil hev
      refine hec.mono ?_; rintro e w10 ⟨rfl, rfl⟩
      clear hec hev
      go_wp2
      go_ret
      exact ⟨rfl, H9.out⟩
    · have q1 : decide (2000 < (t.size : Int)) = false := decide_eq_false (by omega)
      have q2 : decide (2000 < (more.size : Int)) = true := decide_eq_true (by omega)
      go_enter Tryd.func4, Tryd.ntmps4
      go_wp2_with fail
      refine D0.out.mono ?_; rintro e w1 ⟨rfl, h1⟩
      go_wp2
      go_ret
      exact ⟨rfl, h1⟩
  · have q1 : decide (2000 < (t.size : Int)) = true := decide_eq_true (by omega)
    go_enter Tryd.func4, Tryd.ntmps4
    go_wp2_with fail
    refine D0.out.mono ?_; rintro e w1 ⟨rfl, h1⟩
    go_wp2
    go_ret
    exact ⟨rfl, h1⟩
set_option maxRecDepth 100000 in
theorem lifted (os : Os) (started : os.Started) (H : Type) (enc : TypeId × Value → H) :
    ReturnsInHanded {} Tryd.checked os 4 .any (fun w args => (Rows.octetBackSpec.pre enc Tryd.prog Tryd.f4 [] false w args ∧ laidMetH Tryd.prog laidL w) ∧ sizedMet enc Tryd.prog Tryd.f4 (OpenSpec.ofChange Rows.octetBackSpec) false w args) (Rows.octetBackSpec.post enc Tryd.prog Tryd.f4 false true false false) := by
  refine returnsInHanded_of_change_and (C := Tryd.checked) (X := fun w _ => laidMetH Tryd.prog laidL w) (fun _ _ _ hh h => h.of_heap hh) own started (by kernel_rfl) Tryd.func4
    (ChangeSpec.witness_at (enc := enc) (C := Tryd.checked) (os := os) (X := fun w _ => laidMetH Tryd.prog laidL w) false (laidWorld os) #[.int .u64 0, .int .i64 0, .string ⟨#[]⟩, .string ⟨#[]⟩] 8 rfl (by kernel_rfl) (by kernel_rfl) (by kernel_rfl) (by kernel_rfl) (by kernel_rfl) (laidWorld_met os _)) ?_
  intro W base args ds gs before hval0 hW hcnd _ hL _
  have hval : ∀ (j : Nat) t v, Tryd.f4.params[j]? = some t → args[j]? = some v → Value.okWide Tryd.prog W .any base t v := hval0
  have hW' := hW
  obtain ⟨p, q, hA0, hV, rfl, hfz, hnd⟩ := hW
  have hA : DataW.TrodAll enc Tryd.prog W 0 (fun _ => true) true Tryd.f4.params.toList args.toList ds p := hA0
  rw [Tryd.params4] at hA hval
  obtain ⟨v0, vs0, d0, ds0, p0, q0, hargs, rfl, rfl, h0, r0⟩ := trodAll_cons hA
  obtain ⟨v1, vs1, d1, ds1, p1, q1, rfl, rfl, rfl, h1, r1⟩ := trodAll_cons r0
  obtain ⟨v2, vs2, d2, ds2, p2, q2, rfl, rfl, rfl, h2, r2⟩ := trodAll_cons r1
  obtain ⟨v3, vs3, d3, ds3, p3, q3, rfl, rfl, rfl, h3, r3⟩ := trodAll_cons r2
  obtain ⟨rfl, rfl, rfl⟩ := trodAll_nil r3
  obtain rfl : args = #[v0, v1, v2, v3] := by cases args; simp_all
  obtain ⟨rfl, rfl⟩ := trodVars_none hV
  have k0 := h0
  have lt0 : ∀ x ∈ p0, x.block < W.heap.size := by obtain ⟨m, hm⟩ := k0; exact DataW.trod_lt m _ _ _ hm
  obtain ⟨a0, rfl, ed0, rfl, w0⟩ := open_int Tryd.underlying33 (hval 0 33 v0 rfl rfl) h0
  have k1 := h1
  have lt1 : ∀ x ∈ p1, x.block < W.heap.size := by obtain ⟨m, hm⟩ := k1; exact DataW.trod_lt m _ _ _ hm
  obtain ⟨a1, rfl, ed1, rfl, w1⟩ := open_int Tryd.underlying2 (hval 1 2 v1 rfl rfl) h1
  have k2 := h2
  have lt2 : ∀ x ∈ p2, x.block < W.heap.size := by obtain ⟨m, hm⟩ := k2; exact DataW.trod_lt m _ _ _ hm
  obtain ⟨a2, rfl, ed2, rfl, w2⟩ := open_string Tryd.underlying9 (hval 2 9 v2 rfl rfl) h2
  have k3 := h3
  have lt3 : ∀ x ∈ p3, x.block < W.heap.size := by obtain ⟨m, hm⟩ := k3; exact DataW.trod_lt m _ _ _ hm
  obtain ⟨a3, rfl, ed3, rfl, w3⟩ := open_string Tryd.underlying9 (hval 3 9 v3 rfl rfl) h3
  clear hA0 hval0
  have hg := handle_of_laid hL
  refine (walk a0 a1 a2 a3 W w0 w1 w2 w3 hg).mono fun e W' ⟨he, bel⟩ => ?_
  subst he
  exact ⟨_, rfl, _, _, _, [], _, [], hW', trodAll_mk1 (shut_bool Tryd.underlying4 _), (trodAll_cons_mk (Below.trod laidOut (by kernel_rfl) (of_decide_eq_true (by kernel_rfl)) k0 bel lt0) (trodAll_cons_mk (Below.trod laidOut (by kernel_rfl) (of_decide_eq_true (by kernel_rfl)) k1 bel lt1) (trodAll_cons_mk (Below.trod laidOut (by kernel_rfl) (of_decide_eq_true (by kernel_rfl)) k2 bel lt2) (trodAll_cons_mk (Below.trod laidOut (by kernel_rfl) (of_decide_eq_true (by kernel_rfl)) k3 bel lt3) trodAll_mk0)))), rfl, bel.frame _, fun h => by cases h⟩
theorem over : Rows.octetBackRow.holds Tryd.pinned (OpenSpec.ofChange Rows.octetBackSpec) :=
  OpenClaim.holds_of_wide 4 Tryd.f4 rfl rfl rfl rfl rfl rfl rfl ⟨rfl, rfl, rfl, rfl, rfl⟩ rfl rfl rfl rfl rfl (by kernel_rfl) Tryd.func4 (by kernel_rfl)
    (of_decide_eq_true (by kernel_rfl)) (by unfold Func.isWrapper; first | (rw [if_pos (by decide +kernel)]; kernel_rfl) | (rw [if_neg (by decide +kernel)]; exact ⟨rfl, rfl⟩))
    (fun os started H enc _ => lifted os started H enc)
set_option maxRecDepth 100000 in
theorem proved : Rows.OctetBackCardSaid :=
  Claim7.holds_tied_plain_at .later [] [.handle] true (true, "5dff801f1d23b17b57b0468a6d7ee1696a7011d53c8452f6898cbad9b38e4afd") true over (fun _ h => by cases h) (by kernel_rfl) (fun _ h => by cases h) octetBack_row_tie rfl ⟨rfl, rfl⟩ (by kernel_rfl) rfl
    (fun f fn hf hfn => by
      obtain rfl : f = 4 := Option.some.inj ((show Tryd.prog.funcNamed "selkie/selkielaw02.OctetBack" = some 4 by kernel_rfl).symm.trans hf) |>.symm
      obtain rfl : fn = Tryd.f4 := (Option.some.inj (Tryd.func4.symm.trans hfn)).symm
      exact ⟨by kernel_rfl, fun j t ht => by
        rw [Tryd.params4] at ht
        match j, ht with
        | 0, ht => (have e : t = 33 := by simpa using ht.symm); subst e; exact (show Tryd.prog.wantsStandIn 33 = false by kernel_rfl)
        | 1, ht => (have e : t = 2 := by simpa using ht.symm); subst e; exact (show Tryd.prog.wantsStandIn 2 = false by kernel_rfl)
        | 2, ht => (have e : t = 9 := by simpa using ht.symm); subst e; exact (show Tryd.prog.wantsStandIn 9 = false by kernel_rfl)
        | 3, ht => (have e : t = 9 := by simpa using ht.symm); subst e; exact (show Tryd.prog.wantsStandIn 9 = false by kernel_rfl)
        | j + 4, ht => simp at ht⟩)
    (by kernel_rfl)
#print axioms proved
end Go.Proofs.YtenlcdcogiagdaaDoor.lawOctetBack
