/- The check of the first answers of package frame: works returns true. -/
import Derived.Test.YtofpefbnkmeokaaDoorFrLaw
import Derived.Test.YtofpefbnkmeokaaDoorFrRead
import Derived.Test.YtofpefbnkmeokaaDoorSeenN
namespace Go.Proofs.YtofpefbnkmeokaaDoor
open Go.RowKit
set_option linter.unusedVariables false
theorem fw_eq {v k : Nat} {l : List UInt8} (h1 : 256 ^ k ≤ v) (h2 : v < 256 ^ (k + 1)) (h3 : ((k + 1) :: beN (k + 1) v).map UInt8.ofNat = l) : numN v = ⟨l.toArray⟩ := by
  unfold numN numB; rw [nN_at h1 h2, h3]
theorem fw_1 : numN 1 = ⟨#[1, 1]⟩ := fw_eq (k := 0) (by decide) (by decide) (by decide)
theorem fw_2 : numN 2 = ⟨#[1, 2]⟩ := fw_eq (k := 0) (by decide) (by decide) (by decide)
def wAB : ByteArray := ⟨#[97, 98]⟩
def wF : ByteArray := ⟨#[1, 1, 1, 2, 97, 98, 47, 178, 156, 35]⟩
def wG : ByteArray := ⟨#[1, 1, 1, 2, 97, 98, 47, 178, 156, 120]⟩
theorem fw_crc : moreN 0 [1, 1, 1, 2, 97, 98] = 597471791 := by decide +kernel
theorem fw_sum : sumStr 597471791 = ⟨#[47, 178, 156, 35]⟩ := by decide +kernel
theorem fw_B : frB 1 wAB = ⟨#[1, 1, 1, 2, 97, 98]⟩ := by
  unfold frB wAB
  rw [show ((1 : Int)).toNat = 1 from rfl, show (⟨#[97, 98]⟩ : ByteArray).size = 2 from rfl, fw_1, fw_2]
  rfl
theorem fw_F : wF = frB 1 wAB ++ sumStr (moreN 0 (frB 1 wAB).data.toList) := by
  rw [fw_B, show (⟨#[1, 1, 1, 2, 97, 98]⟩ : ByteArray).data.toList = [1, 1, 1, 2, 97, 98] from rfl, fw_crc, fw_sum]
  rfl
theorem fw_W : frW 1 wAB = wF ∧ frE 1 wAB = 0 := by
  obtain ⟨h1, h2⟩ := fr_ok (k := 1) (s := wAB) (by omega) (by decide)
  exact ⟨h2.trans fw_F.symm, h1⟩
theorem fw_0 : frW 0 ⟨#[]⟩ = ⟨#[]⟩ ∧ frE 0 ⟨#[]⟩ = 5 := by
  obtain ⟨h1, h2⟩ := fr_kind (k := 0) (s := ⟨#[]⟩) (by omega)
  exact ⟨h2, h1⟩
theorem fw_N : nxE wF = 0 ∧ nxA wF = 0 ∧ nxK wF = 1 ∧ nxL wF = wAB ∧ nxN wF = 10 :=
  nx_full (S := wF) (u := wF) (k := 1) (t := wAB) (l := []) (by omega) (by omega) (by decide) fw_F (by simp)
theorem fw_R : frRE wF = 0 ∧ frRA wF = 0 ∧ frRK wF = 1 ∧ frRL wF = wAB := by
  obtain ⟨h1, h2, h3, h4, h5⟩ := fw_N
  obtain ⟨a1, a2, a3, a4⟩ := fr_all (s := wF) h1 (by rw [h5]; decide)
  exact ⟨a1, a2, a3.trans h3, a4.trans h4⟩
theorem fw_bad : ¬ nxE wG = 0 := by
  have hr : rest wG 0 = numB 1 ++ (numB ([97, 98] : List UInt8).length ++ (([97, 98] : List UInt8) ++ [47, 178, 156, 120])) := by
    rw [← numN_data, ← numN_data, fw_1, show ([97, 98] : List UInt8).length = 2 from rfl, fw_2]; rfl
  obtain ⟨a1, a2, a3, a4, a5, a6⟩ := nx_front (S := wG) (k := 1) (t := [97, 98]) (by omega) (by omega) (by decide) hr
  have n1 : nN 1 = 1 := by have := numN_size 1; rw [fw_1] at this; have e : (2 : Nat) = nN 1 + 1 := this; omega
  have n2 : nN 2 = 1 := by have := numN_size 2; rw [fw_2] at this; have e : (2 : Nat) = nN 2 + 1 := this; omega
  rw [show ([97, 98] : List UInt8).length = 2 from rfl, n1, n2] at a4
  have hq : nxQ wG = 6 := a4
  have hs : wG.size = 10 := rfl
  intro h
  have hen : endsB (wG.extract 0 (nxQ wG + 4)) = true := by
    cases e : endsB (wG.extract 0 (nxQ wG + 4)) with
    | true => rfl
    | false =>
      have : nxE wG = 13 := by unfold nxE fnE; rw [if_neg (by omega), if_neg (by omega), if_neg (by omega), if_neg (by rw [e]; decide)]
      omega
  rw [hq, show wG.extract 0 (6 + 4) = wG by decide +kernel] at hen
  have h2 := (endsB_iff wG (by decide)).1 hen
  rw [show wG.data.toList.take (wG.size - 4) = [1, 1, 1, 2, 97, 98] from rfl, fw_crc, fw_sum] at h2
  exact absurd h2 (by decide)
theorem fw_cut : (wF.extract 0 9 ++ (⟨#[120]⟩ : ByteArray)) = wG := by decide +kernel
theorem fw_six : ((wF.extract 0 6).toList == [1, 1, 1, 2, 97, 98]) = true := by
  rw [beq_iff_eq, ByteArray.toList_eq]
  decide +kernel
theorem wk_eqF (W : World) : (binOp .eql 23 (.agg #[.int .i64 1, .string wAB]) (.agg #[.int .i64 1, .string wAB])).run Tryd.prog W = Result.ok (.bool true) W := by
  simp [go_sem]
theorem wk_eqU (W : World) : (binOp .eql 37 (.agg #[.int .i64 0, .int .i64 5]) (.agg #[.int .i64 0, .int .i64 5])).run Tryd.prog W = Result.ok (.bool true) W := by
  simp [go_sem]
theorem wk_field (a e : Int) (W : World) : (Instr.field 37 (.agg #[.int .i64 a, .int .i64 e]) 1).run Tryd.prog W = Result.ok (.int .i64 e) W := by kernel_rfl
set_option maxRecDepth 100000 in
set_option maxHeartbeats 6400000 in
theorem fworks (w : World) (hg : ET w) : Calls Tryd.prog 8 #[] w fun e w' => e = .returned (.bool true) ∧ Below w.heap.size w w' := by
  have HG := Lib.hid hg
  have C1 : ∀ W : World, Calls Tryd.prog 9 #[.agg #[.int .i64 1, .string ⟨#[97, 98]⟩]] W fun e w' => e = .returned (.tuple #[.string wF, .nilIface]) ∧ Below W.heap.size W w' := fun W => by
    have h := fwrite 1 wAB W
    rw [fw_W.1, frV_ok fw_W.2] at h
    exact h
  have C2 : ∀ W : World, Calls Tryd.prog 9 #[.agg #[.int .i64 0, .string ⟨#[]⟩]] W fun e w' => e = .returned (.tuple #[.string ⟨#[]⟩, .iface 35 (.int .i64 5)]) ∧ Below W.heap.size W w' := fun W => by
    have h := fwrite 0 ⟨#[]⟩ W
    rw [fw_0.1, frV_no (by rw [fw_0.2]; omega), fw_0.2] at h
    exact h
  have C3 : ∀ W : World, Calls Tryd.prog 16 #[.string wF] W fun e w' => e = .returned (.tuple #[.agg #[.int .i64 1, .string ⟨#[97, 98]⟩], .nilIface]) ∧ Below W.heap.size W w' := fun W => by
    refine (fread wF W (by decide)).mono ?_
    rintro e w' ⟨ev, rfl, hev, hb⟩
    obtain ⟨h1, h2, h3, h4⟩ := fw_R
    rw [h1] at hev
    obtain ⟨-, rfl⟩ := ev_nil hev
    rw [h3, h4]
    exact ⟨rfl, hb⟩
  have C4 : ∀ W : World, Calls Tryd.prog 11 #[.string wG] W fun e w' => ∃ K L N fb, e = .returned (.tuple #[.agg #[.int .i64 K, .string L], .int .i64 N, .iface 40 (.pointer (some ⟨fb, 0, none⟩))]) ∧ EV w' (.iface 40 (.pointer (some ⟨fb, 0, none⟩))) (nxA wG) (nxE wG) ∧ Below W.heap.size W w' := fun W => by
    refine (fnext wG W (by decide)).mono ?_
    rintro e w' ⟨ev, rfl, hev, hb⟩
    obtain ⟨fb, rfl⟩ := ev_some hev fw_bad
    exact ⟨_, _, _, fb, rfl, hev, hb⟩
  have C5 : ∀ W : World, Calls Tryd.prog 12 #[.agg #[.int .i64 1, .string ⟨#[97, 98]⟩]] W fun e w' => e = .returned (.agg #[.int .i64 1, .string ⟨#[97, 98]⟩]) ∧ Below W.heap.size W w' := fun W => ffrom 1 _ W
  have C6 : ∀ W : World, Calls Tryd.prog 13 #[.iface 35 (.int .i64 5)] W fun e w' => e = .returned (.agg #[.int .i64 0, .int .i64 5]) ∧ Below W.heap.size W w' := fun W => seen_errno 5 W (by omega)
  have HC7 : Hid (∀ W fb, ET W → EV W (.iface 40 (.pointer (some ⟨fb, 0, none⟩))) (nxA wG) (nxE wG) → Calls Tryd.prog 13 #[.iface 40 (.pointer (some ⟨fb, 0, none⟩))] W fun e w' => ∃ A E, e = .returned (.agg #[.int .i64 A, .int .i64 E]) ∧ ¬ E = 0 ∧ Below W.heap.size W w') := Lib.hid (fun W fb h1 h2 => by
    obtain ⟨_, b2, b3, _, _⟩ := nx_bounds wG
    have hs : wG.size = 10 := rfl
    refine (seen_ev _ _ _ W h1 b2 (by omega) h2).mono ?_
    rintro e w' ⟨rfl, hb⟩
    exact ⟨_, _, rfl, fw_bad, hb⟩)
  have D1 := Lib.hid C1
  have D2 := Lib.hid C2
  have D3 := Lib.hid C3
  have D4 := Lib.hid C4
  have D5 := Lib.hid C5
  have D6 := Lib.hid C6
  have hz : wF.size = 10 := rfl
  have hzi : (wF.size : Int) = 10 := rfl
  have hsix := fw_six
  have hadd : ∀ W : World, (Op.stringOp .add (wF.extract 0 9) ⟨#[120]⟩).run Tryd.prog W = .ok (.string wG) W := fun W => by rw [run_string_add W _ _ (by rw [ByteArray.size_extract]; omega) (by decide), fw_cut]
  have z1 := wk_eqF
  have z2 := wk_eqU
  rw [show wAB = ⟨#[97, 98]⟩ from rfl] at z1
  clear C1 C2 C3 C4 C5 C6 hg
  generalize wF = x at *
  generalize wG = y at *
  generalize nxA y = ya at *
  generalize nxE y = ye at *
  go_enter Tryd.func8, Tryd.ntmps8
  go_wp2_with fail
  refine (D1.out _).mono ?_; rintro e w1 ⟨rfl, b1⟩
  have HB1 := Lib.hid b1
  clear b1
  go_wp2_with fail
  refine (D3.out _).mono ?_; rintro e w2 ⟨rfl, b2⟩
  have HB2 := Lib.hid (HB1.out.trans (b2.mono HB1.out.size))
  have HF2 := Lib.hid (Blk.new w2 29 #[.int .i64 1, .string ⟨#[97, 98]⟩])
  have HB2a := Lib.hid (HB2.out.alloc HB2.out.size (.cells #[.int .i64 1, .string ⟨#[97, 98]⟩] 29))
  obtain ⟨p2, hp2⟩ : ∃ x, w2.heap.size = x := ⟨_, rfl⟩
  rw [hp2] at HF2
  clear b2
  go_wp2_with fail
  clear hp2
  generalize w2.alloc (.cells #[.int .i64 1, .string ⟨#[97, 98]⟩] 29) = W2 at *
  refine (D2.out _).mono ?_; rintro e w3 ⟨rfl, b3⟩
  have HB3 := Lib.hid (HB2a.out.trans (b3.mono HB2a.out.size))
  have HF3 := Lib.hid (HF2.out.keep b3)
  clear b3
  go_wp2_with fail
  refine (D4.out _).mono ?_; rintro e w4 ⟨K, L, N, fb, rfl, hev, b4⟩
  have HB4 := Lib.hid (HB3.out.trans (b4.mono HB3.out.size))
  have HB4a := Lib.hid (HB4.out.alloc HB4.out.size (.cells #[.int .i64 K, .string L] 29))
  have HF4 := Lib.hid ((HF3.out.keep b4).alloc (.cells #[.int .i64 K, .string L] 29))
  have HE4 := Lib.hid (hev.keep (Joins.below_alloc1 w4 (.cells #[.int .i64 K, .string L] 29)))
  have f0 := (HF3.out.keep b4).cell 0
  have f1 := (HF3.out.keep b4).cell 1
  have y0 := HF4.out.cell 0
  have y1 := HF4.out.cell 1
  simp at f0 f1
  rw [show (#[Value.int .i64 1, Value.string ⟨#[97, 98]⟩] : Array Value)[0]? = some (.int .i64 1) from rfl] at y0
  rw [show (#[Value.int .i64 1, Value.string ⟨#[97, 98]⟩] : Array Value)[1]? = some (.string ⟨#[97, 98]⟩) from rfl] at y1
  have hlt := HF3.out.lt
  have hlt2 : p2 < w4.heap.size := (HF3.out.keep b4).lt
  have hne : ¬ w4.heap.size = p2 := by omega
  clear hev b4
  go_wp2_with fail
  refine (D5.out _).mono ?_; rintro e w5 ⟨rfl, b5⟩
  have HB5 := Lib.hid (HB4a.out.trans (b5.mono HB4a.out.size))
  have HE5 := Lib.hid (HE4.out.keep b5)
  clear b5 f0 f1 y0 y1
  go_wp2_with fail
  refine (D6.out _).mono ?_; rintro e w6 ⟨rfl, b6⟩
  have HB6 := Lib.hid (HB5.out.trans (b6.mono HB5.out.size))
  have HE6 := Lib.hid (HE5.out.keep b6)
  clear b6
  go_wp2_with fail
  refine (HC7.out _ fb (HG.out.keep HB6.out) HE6.out).mono ?_; rintro e w7 ⟨A, E, rfl, hE, b7⟩
  have g1 : (E != 0) = true := by simpa using hE
  have g2 : (E == 0) = false := by simpa using hE
  have HB7 := Lib.hid (HB6.out.trans (b7.mono HB6.out.size))
  clear hE b7
  have hfld := wk_field A E
  go_wp2
  go_ret
  exact ⟨rfl, HB7.out⟩
end Go.Proofs.YtofpefbnkmeokaaDoor
