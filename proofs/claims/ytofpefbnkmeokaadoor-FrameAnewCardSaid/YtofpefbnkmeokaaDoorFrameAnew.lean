/- The law FrameAnew returns true for every input: what was read of bytes, written anew, are the bytes that were read.
   Conditions: the package variable errors.errorType holds its handle (the row's own). -/
import Derived.Test.YtofpefbnkmeokaaDoorFrWorks
import Derived.Test.YtofpefbnkmeokaaDoorTail
import Derived.Test.YtofpefbnkmeokaaDoorDoor
namespace Go.Proofs.YtofpefbnkmeokaaDoor.lawFrameAnew
open Go.ChangeShapes Go.WideShapes Go.ChangeAt Go.RowKit
open Go.ChangeMaps (open_string shut_string)
set_option linter.unusedVariables false
def RowsAt (w : World) (A : Option Addr) (n : Nat) (s : ByteArray) : Prop :=
  ∀ j, j < n → ∃ g off, A = some ⟨g, off, none⟩ ∧ w.cell? ⟨g, off + j * 2, none⟩ = some (.int .i64 (nxK (tl s (alP s j)) : Int)) ∧ w.cell? ⟨g, off + j * 2 + 1, none⟩ = some (.string (nxL (tl s (alP s j))))
theorem rows_keep {w w' : World} {A : Option Addr} {n : Nat} {s : ByteArray} (h : RowsAt w A n s) (hb : Below w.heap.size w w') : RowsAt w' A n s := by
  intro j hj
  obtain ⟨g, off, e, c0, c1⟩ := h j hj
  have hl := World.block_lt_of_cell? w _ c0
  exact ⟨g, off, e, by rw [hb.cell (p := ⟨g, off + j * 2, none⟩) hl]; exact c0, by rw [hb.cell (p := ⟨g, off + j * 2 + 1, none⟩) hl]; exact c1⟩
theorem own_rows {w : World} {base : Nat} {e : TypeId} {v : Value} {n : Nat} {s : ByteArray} (h : w.ownsRow base e 2 v n (alL s n)) : ∃ A cap, v = .slice A n cap ∧ RowsAt w A n s := by
  rcases h.2 with ⟨rfl, rfl⟩ | ⟨g, cap, cur, rfl, _⟩
  · exact ⟨none, 0, rfl, fun j hj => absurd hj (by omega)⟩
  · refine ⟨_, cap, rfl, fun j hj => ⟨g, 0, rfl, ?_, ?_⟩⟩
    · rw [Nat.zero_add, h.cellAt (j * 2) (by omega)]
      exact (alL_at s n j hj).1
    · rw [Nat.zero_add, h.cellAt (j * 2 + 1) (by omega)]
      exact (alL_at s n j hj).2
theorem ale_keep {s : ByteArray} {n : Nat} {w w' : World} {ev : Value} (h : AlE s n w ev) (hb : Below w.heap.size w w') : AlE s n w' ev := by
  rcases h with h | ⟨h1, h2, fb, gb, e, h3, h4⟩
  · exact .inl h
  · exact .inr ⟨h1, h2, fb, gb, e, h3.keep hb, h4.keep hb⟩
theorem own_shape {w : World} {base : Nat} {e : TypeId} {v : Value} {n : Nat} {xs : List Value} (h : w.ownsRow base e 2 v n xs) : ∃ A cap, v = .slice A n cap := by
  rcases h.2 with ⟨rfl, rfl⟩ | ⟨g, cap, cur, rfl, _⟩
  · exact ⟨none, 0, rfl⟩
  · exact ⟨_, cap, rfl⟩
theorem rows_of {w : World} {base : Nat} {e : TypeId} {A : Option Addr} {cap n : Nat} {s : ByteArray} (h : w.ownsRow base e 2 (.slice A n cap) n (alL s n)) : RowsAt w A n s := by
  obtain ⟨A', cap', e1, h1⟩ := own_rows h
  injection e1 with e1
  subst e1
  exact h1
theorem an_step {s : ByteArray} {k : Nat} (h : ¬ alStop s k) :
    s.extract 0 (alP s (k + 1)) = s.extract 0 (alP s k) ++ frW (nxK (tl s (alP s k)) : Int) (nxL (tl s (alP s k))) ∧ frE (nxK (tl s (alP s k)) : Int) (nxL (tl s (alP s k))) = 0 ∧ (frW (nxK (tl s (alP s k)) : Int) (nxL (tl s (alP s k)))).size ≤ 6022 := by
  obtain ⟨h1, h2⟩ := al_go h
  have hle := alP_le s k
  obtain ⟨b1, _, _, b4, _⟩ := nx_bounds (tl s (alP s k))
  obtain ⟨_, c2, c3, c4, c5⟩ := b4 h2
  obtain ⟨e1, e2⟩ := fr_ok (k := (nxK (tl s (alP s k)) : Int)) (s := nxL (tl s (alP s k))) (by omega) (by omega)
  have e3 := nx_inv h2
  rw [tl_size hle] at b1
  have hP : alP s (k + 1) = alP s k + nxN (tl s (alP s k)) := rfl
  have hz := frB_size (k := (nxK (tl s (alP s k)) : Int)) (s := nxL (tl s (alP s k))) (by omega) (by omega)
  refine ⟨ba_ext ?_, e1, by rw [e2, ByteArray.size_append, sumStr_size]; omega⟩
  rw [ap_data, e2, ← e3, ex_data, ex_data, ex_data]
  unfold tl
  rw [ex_data, List.drop_zero, List.drop_zero, Nat.sub_zero, Nat.sub_zero, Nat.sub_zero]
  have hl : s.data.toList.length = s.size := by simp
  rw [List.take_of_length_le (l := List.drop (alP s k) s.data.toList) (by rw [List.length_drop, hl]; omega)]
  rw [hP, List.take_add]
  rfl
set_option maxRecDepth 100000 in
set_option maxHeartbeats 12800000 in
theorem walk (s : ByteArray) (w : World) (w0 : s.size ≤ maxLen) (hg : ET w) :
    Calls Tryd.prog 5 #[.string s] w fun e w' => e = .returned (.bool true) ∧ Below w.heap.size w w' := by
  unfold maxLen at w0
  have D0 := Lib.hid (fworks w hg)
  by_cases hs : s.size ≤ 9000
  · have hs2 : ¬ (9000 < (s.size : Int)) := by omega
    obtain ⟨n, hst, hlt⟩ := al_least s
    have hn0 := alP_grows n hlt
    have hn1 := alP_le s n
    have hn9 : n ≤ 9000 := by omega
    have D5 := Lib.hid (fun W => fall s W n (by omega) hst hlt)
    have HST : Hid (∀ k, k < n → s.extract 0 (alP s (k + 1)) = s.extract 0 (alP s k) ++ frW (nxK (tl s (alP s k)) : Int) (nxL (tl s (alP s k))) ∧ frE (nxK (tl s (alP s k)) : Int) (nxL (tl s (alP s k))) = 0 ∧ (frW (nxK (tl s (alP s k)) : Int) (nxL (tl s (alP s k)))).size ≤ 6022 ∧ alP s k ≤ 9000) := Lib.hid (fun k hk => by
      obtain ⟨h1, h2, h3⟩ := an_step (hlt k hk)
      have := alP_le s k
      exact ⟨h1, h2, h3, by omega⟩)
    have HZ : Hid (s.extract 0 (alP s 0) = ⟨#[]⟩) := Lib.hid (ba_ext (by rw [ex_data]; show List.take (0 - 0) _ = _; simp))
    have hP0 : (0 : Int) ≤ (alP s n : Int) := by omega
    have hP1 : (alP s n : Int) ≤ (s.size : Int) := by omega
    have hP2 : decide ((alP s n : Int) < 0) = false := decide_eq_false (by omega)
    have hP3 : decide ((s.size : Int) < (alP s n : Int)) = false := decide_eq_false (by omega)
    have hP4 : decide (s.size < alP s n) = false := decide_eq_false (by omega)
    clear hst hlt hn0 hg
    go_enter Tryd.func5, Tryd.ntmps5
    go_wp2_with fail
    refine D0.out.mono ?_; rintro e w1 ⟨rfl, b1⟩
    have HB1 := Lib.hid b1
    clear b1
    go_wp2_with fail
    refine (D5.out _).mono ?_; rintro e w2 ⟨v1, ev, rfl, hown, hale, b2⟩
    obtain ⟨R1, cap1, rfl⟩ := own_shape hown
    have HO2 := Lib.hid (rows_of hown)
    have HB2 := Lib.hid (HB1.out.trans (b2.mono HB1.out.size))
    clear hown b2 HB1 D0 D5
    rcases hale with ⟨hq, rfl⟩ | ⟨hq, hE, fb, gb, rfl, _, _⟩
    · have hq2 : ((alP s n : Int) == (s.size : Int)) = true := by simp; omega
      have hq3 : (alP s n == s.size) = true := by simp; omega
      clear hq
      go_wp2_with fail
      go_loopw [6, 7] (fun t i wr => ∃ k : Nat, k ≤ n ∧ t = .string (s.extract 0 (alP s k)) ∧ i = .int .i64 k ∧ RowsAt wr R1 n s ∧ Below w.heap.size w wr) (fun _ i _ => n - (intOf i).toNat)
      case atStart => exact ⟨0, Nat.zero_le _, by rw [HZ.out], rfl, HO2.out, HB2.out⟩
      case round =>
        clear HO2 HB2
        obtain ⟨k, hk, rfl, rfl, ho, hB⟩ := hrel
        by_cases hkn : k < n
        · have hk2 : (k : Int) < (n : Int) := by omega
          have hk3 : (0 : Int) ≤ (k : Int) := by omega
          obtain ⟨g1, o1, hr1, k1, k2⟩ := ho k hkn
          subst hr1
          have HO := Lib.hid ho
          have HB := Lib.hid hB
          obtain ⟨s1, s2, s3, s4⟩ := HST.out k hkn
          have D := Lib.hid (fun W => fwrite (nxK (tl s (alP s k)) : Int) (nxL (tl s (alP s k))) W)
          rw [frV_ok s2] at D
          have hadd : ∀ W : World, (Op.stringOp .add (s.extract 0 (alP s k)) (frW (nxK (tl s (alP s k)) : Int) (nxL (tl s (alP s k))))).run Tryd.prog W = .ok (.string (s.extract 0 (alP s (k + 1)))) W := fun W => by rw [run_string_add W _ _ (by rw [ByteArray.size_extract]; omega) (by omega), ← s1]
          clear s1 s2 s3 s4 ho hB
          generalize nxK (tl s (alP s k)) = X at *
          generalize nxL (tl s (alP s k)) = Y at *
          generalize frW (X : Int) Y = b at *
          obtain ⟨T2, hT2⟩ : ∃ x, s.extract 0 (alP s (k + 1)) = x := ⟨_, rfl⟩
          rw [hT2] at hadd
          have HT2 := Lib.hid hT2
          clear hT2
          generalize s.extract 0 (alP s k) = T1 at *
          go_wp2_with fail
          refine (D.out _).mono ?_; rintro e w5 ⟨rfl, b5⟩
          have HO5 := Lib.hid (rows_keep HO.out b5)
          have HB5 := Lib.hid (HB.out.trans (b5.mono HB.out.size))
          clear b5 HO HB k1 k2
          go_wp2
          go_roundw
          case rel => exact ⟨k + 1, by omega, by rw [HT2.out], by go_num, HO5.out, HB5.out⟩
          case measure => simp [intOf]; omega
        · obtain rfl : k = n := by omega
          have hkk : ¬ ((k : Int) < (k : Int)) := by omega
          have HB := Lib.hid hB
          clear ho hB
          go_wp2
          go_ret
          exact ⟨rfl, HB.out⟩
    · have hq2 : ((alP s n : Int) == (s.size : Int)) = false := by simp; omega
      have hq3 : (alP s n == s.size) = false := by simp; omega
      clear hq hE
      go_wp2_with fail
      go_loopw [6, 7] (fun t i wr => ∃ k : Nat, k ≤ n ∧ t = .string (s.extract 0 (alP s k)) ∧ i = .int .i64 k ∧ RowsAt wr R1 n s ∧ Below w.heap.size w wr) (fun _ i _ => n - (intOf i).toNat)
      case atStart => exact ⟨0, Nat.zero_le _, by rw [HZ.out], rfl, HO2.out, HB2.out⟩
      case round =>
        clear HO2 HB2
        obtain ⟨k, hk, rfl, rfl, ho, hB⟩ := hrel
        by_cases hkn : k < n
        · have hk2 : (k : Int) < (n : Int) := by omega
          have hk3 : (0 : Int) ≤ (k : Int) := by omega
          obtain ⟨g1, o1, hr1, k1, k2⟩ := ho k hkn
          subst hr1
          have HO := Lib.hid ho
          have HB := Lib.hid hB
          obtain ⟨s1, s2, s3, s4⟩ := HST.out k hkn
          have D := Lib.hid (fun W => fwrite (nxK (tl s (alP s k)) : Int) (nxL (tl s (alP s k))) W)
          rw [frV_ok s2] at D
          have hadd : ∀ W : World, (Op.stringOp .add (s.extract 0 (alP s k)) (frW (nxK (tl s (alP s k)) : Int) (nxL (tl s (alP s k))))).run Tryd.prog W = .ok (.string (s.extract 0 (alP s (k + 1)))) W := fun W => by rw [run_string_add W _ _ (by rw [ByteArray.size_extract]; omega) (by omega), ← s1]
          clear s1 s2 s3 s4 ho hB
          generalize nxK (tl s (alP s k)) = X at *
          generalize nxL (tl s (alP s k)) = Y at *
          generalize frW (X : Int) Y = b at *
          obtain ⟨T2, hT2⟩ : ∃ x, s.extract 0 (alP s (k + 1)) = x := ⟨_, rfl⟩
          rw [hT2] at hadd
          have HT2 := Lib.hid hT2
          clear hT2
          generalize s.extract 0 (alP s k) = T1 at *
          go_wp2_with fail
          refine (D.out _).mono ?_; rintro e w5 ⟨rfl, b5⟩
          have HO5 := Lib.hid (rows_keep HO.out b5)
          have HB5 := Lib.hid (HB.out.trans (b5.mono HB.out.size))
          clear b5 HO HB k1 k2
          go_wp2
          go_roundw
          case rel => exact ⟨k + 1, by omega, by rw [HT2.out], by go_num, HO5.out, HB5.out⟩
          case measure => simp [intOf]; omega
        · obtain rfl : k = n := by omega
          have hkk : ¬ ((k : Int) < (k : Int)) := by omega
          have HB := Lib.hid hB
          clear ho hB
          go_wp2
          go_ret
          exact ⟨rfl, HB.out⟩
  · have hs2 : 9000 < (s.size : Int) := by omega
    clear hg
    go_enter Tryd.func5, Tryd.ntmps5
    go_wp2_with fail
    refine D0.out.mono ?_; rintro e w1 ⟨rfl, b1⟩
    go_wp2
    go_ret
    exact ⟨rfl, b1⟩
set_option maxRecDepth 100000 in
theorem lifted (os : Os) (started : os.Started) (H : Type) (enc : TypeId × Value → H) :
    ReturnsInHanded {} Tryd.checked os 5 .any (fun w args => (Rows.frameAnewSpec.pre enc Tryd.prog Tryd.f5 [] false w args ∧ laidMetH Tryd.prog laidL w) ∧ sizedMet enc Tryd.prog Tryd.f5 (OpenSpec.ofChange Rows.frameAnewSpec) false w args) (Rows.frameAnewSpec.post enc Tryd.prog Tryd.f5 false true false false) := by
  refine returnsInHanded_of_change_and (C := Tryd.checked) (X := fun w _ => laidMetH Tryd.prog laidL w) (fun _ _ _ hh h => h.of_heap hh) own started (by kernel_rfl) Tryd.func5
    (ChangeSpec.witness_at (enc := enc) (C := Tryd.checked) (os := os) (X := fun w _ => laidMetH Tryd.prog laidL w) false (laidWorld os) #[.string ⟨#[]⟩] 8 rfl (by kernel_rfl) (by kernel_rfl) (by kernel_rfl) (by kernel_rfl) (by kernel_rfl) (laidWorld_met os _)) ?_
  intro W base args ds gs before hval0 hW hcnd _ hL _
  have hval : ∀ (j : Nat) t v, Tryd.f5.params[j]? = some t → args[j]? = some v → Value.okWide Tryd.prog W .any base t v := hval0
  have hW' := hW
  obtain ⟨p, q, hA0, hV, rfl, hfz, hnd⟩ := hW
  have hA : DataW.TrodAll enc Tryd.prog W 0 (fun _ => true) true Tryd.f5.params.toList args.toList ds p := hA0
  rw [Tryd.params5] at hA hval
  obtain ⟨v0, vs0, d0, ds0, p0, q0, hargs, rfl, rfl, h0, r0⟩ := trodAll_cons hA
  obtain ⟨rfl, rfl, rfl⟩ := trodAll_nil r0
  obtain rfl : args = #[v0] := by cases args; simp_all
  obtain ⟨rfl, rfl⟩ := trodVars_none hV
  have k0 := h0
  have lt0 : ∀ x ∈ p0, x.block < W.heap.size := by obtain ⟨m, hm⟩ := k0; exact DataW.trod_lt m _ _ _ hm
  obtain ⟨a0, rfl, ed0, rfl, w0⟩ := open_string Tryd.underlying9 (hval 0 9 v0 rfl rfl) h0
  clear hA0 hval0
  have hg := handle_of_laid hL
  refine (walk a0 W w0 hg).mono fun e W' ⟨he, bel⟩ => ?_
  subst he
  exact ⟨_, rfl, _, _, _, [], _, [], hW', trodAll_mk1 (shut_bool Tryd.underlying4 _), (trodAll_cons_mk (Below.trod laidOut (by kernel_rfl) (of_decide_eq_true (by kernel_rfl)) k0 bel lt0) trodAll_mk0), rfl, bel.frame _, fun h => by cases h⟩
theorem over : Rows.frameAnewRow.holds Tryd.pinned (OpenSpec.ofChange Rows.frameAnewSpec) :=
  OpenClaim.holds_of_wide 5 Tryd.f5 rfl rfl rfl rfl rfl rfl rfl ⟨rfl, rfl, rfl, rfl, rfl⟩ rfl rfl rfl rfl rfl (by kernel_rfl) Tryd.func5 (by kernel_rfl)
    (of_decide_eq_true (by kernel_rfl)) (by unfold Func.isWrapper; first | (rw [if_pos (by decide +kernel)]; kernel_rfl) | (rw [if_neg (by decide +kernel)]; exact ⟨rfl, rfl⟩))
    (fun os started H enc _ => lifted os started H enc)
set_option maxRecDepth 100000 in
theorem proved : Rows.FrameAnewCardSaid :=
  Claim7.holds_tied_plain_at .later [] [.handle] true (true, "bed28a1abb8bd1d6f054b3bbdb24eb1b4ac5058343a277e2089a84be8056229b") true over (fun _ h => by cases h) (by kernel_rfl) (fun _ h => by cases h) frameAnew_row_tie rfl ⟨rfl, rfl⟩ (by kernel_rfl) rfl
    (fun f fn hf hfn => by
      obtain rfl : f = 5 := Option.some.inj ((show Tryd.prog.funcNamed "selkie/selkielaw04.FrameAnew" = some 5 by kernel_rfl).symm.trans hf) |>.symm
      obtain rfl : fn = Tryd.f5 := (Option.some.inj (Tryd.func5.symm.trans hfn)).symm
      exact ⟨by kernel_rfl, fun j t ht => by
        rw [Tryd.params5] at ht
        match j, ht with
        | 0, ht => (have e : t = 9 := by simpa using ht.symm); subst e; exact (show Tryd.prog.wantsStandIn 9 = false by kernel_rfl)
        | j + 1, ht => simp at ht⟩)
    (by kernel_rfl)
#print axioms proved
end Go.Proofs.YtofpefbnkmeokaaDoor.lawFrameAnew
