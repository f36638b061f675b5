/- Contracts of octet's reader: Signed, Text, At, Left, Err and End. -/
import Derived.Test.YtofpefbnkmeokaaDoorRead3
import Derived.Laws.BitsAllLaws
namespace Go.Proofs.YtofpefbnkmeokaaDoor
open Go.RowKit
/-- A number with a sign, out of one without. -/
def unzig (v : Nat) : Int := if v % 2 = 1 then -((v / 2 : Nat) : Int) - 1 else ((v / 2 : Nat) : Int)
theorem unzig_odd {v : Nat} (h : v % 2 = 1) : unzig v = -((v / 2 : Nat) : Int) - 1 := if_pos h
theorem unzig_even {v : Nat} (h : ¬ v % 2 = 1) : unzig v = ((v / 2 : Nat) : Int) := if_neg h
theorem ofInt_i64n (a : Nat) (ha : a < 9223372036854775808) : (BitVec.ofInt 64 (a : Int)).toNat = a := by
  rw [BitVec.ofInt_natCast, BitVec.toNat_ofNat]; exact Nat.mod_eq_of_lt (by omega)
theorem i64_xor_zero (n : Nat) (h : n < 9223372036854775808) : bits .xor .i64 (n : Int) 0 = (n : Int) := by
  show IntKind.i64.wrap ((BitVec.ofInt 64 (n : Int) ^^^ BitVec.ofInt 64 0).toNat : Int) = _
  rw [BitVec.toNat_xor, ofInt_i64n n h, show (BitVec.ofInt 64 0).toNat = 0 from rfl, Nat.xor_zero, IntKind.wrap_i64]
  omega
theorem i64_xor_ones (n : Nat) (h : n < 9223372036854775808) : bits .xor .i64 (n : Int) (-1) = -(n : Int) - 1 := by
  show IntKind.i64.wrap ((BitVec.ofInt 64 (n : Int) ^^^ BitVec.ofInt 64 (-1)).toNat : Int) = _
  rw [show BitVec.ofInt 64 (-1) = BitVec.allOnes 64 from rfl, BitVec.xor_allOnes, BitVec.toNat_not, ofInt_i64n n h, IntKind.wrap_i64]
  omega
theorem and_one (v r : Nat) (h : v < 18446744073709551616) (hr : v % 2 = r) : bits .and .u64 (v : Int) 1 = (r : Int) := by
  rw [show (1 : Int) = ((1 : Nat) : Int) from rfl, u64_and_nat v 1 h (by omega), nat_mask1, hr]
set_option maxHeartbeats 1600000 in
theorem osignr (b : Nat) (s : ByteArray) (p : Nat) (fa fe : Int) (w : World) (hs : s.size ≤ 100000) (h : R w b s p fa fe) :
    Calls Tryd.prog 64 #[.pointer (some ⟨b, 0, none⟩)] w fun e' w' => e' = .returned (.int .i64 (unzig (rdV none s p fe))) ∧ R w' b s (rdP none s p fe) (rdA none s p fa fe) (rdF none s p fe) ∧ w.grownBy w' (some b) := by
  have D := Lib.hid (onumr b s p fa fe w hs h)
  have hv := rdV_lt none s p fe
  obtain ⟨v, hv2⟩ : ∃ v, rdV none s p fe = v := ⟨_, rfl⟩
  rw [hv2] at D hv ⊢
  clear h hv2
  by_cases ho : v % 2 = 1
  · have HU := Lib.hid (unzig_odd ho)
    have e1 := and_one v 1 (by omega) ho
    obtain ⟨n, hn⟩ : ∃ n, v / 2 = n := ⟨_, rfl⟩
    rw [hn] at HU
    have e2 : (v : Int) / 2 = (n : Int) := by omega
    have e3 := i64_xor_ones n (by omega)
    have hn2 : (n : Int) ≤ 9223372036854775807 := by omega
    clear ho hn
    go_enter Tryd.func64, Tryd.ntmps64
    go_wp2_with fail
    refine D.out.mono ?_; rintro e' w1 ⟨rfl, hr, hg⟩
    go_wp2
    go_ret
    exact ⟨retU HU.out.symm, hr, hg⟩
  · have HU := Lib.hid (unzig_even ho)
    have e1 := and_one v 0 (by omega) (by omega)
    obtain ⟨n, hn⟩ : ∃ n, v / 2 = n := ⟨_, rfl⟩
    rw [hn] at HU
    have e2 : (v : Int) / 2 = (n : Int) := by omega
    have e3 := i64_xor_zero n (by omega)
    have hn2 : (n : Int) ≤ 9223372036854775807 := by omega
    clear ho hn
    go_enter Tryd.func64, Tryd.ntmps64
    go_wp2_with fail
    refine D.out.mono ?_; rintro e' w1 ⟨rfl, hr, hg⟩
    go_wp2
    go_ret
    exact ⟨retU HU.out.symm, hr, hg⟩
theorem oat (b : Nat) (s : ByteArray) (p : Nat) (fa fe : Int) (w : World) (h : R w b s p fa fe) :
    Calls Tryd.prog 31 #[.pointer (some ⟨b, 0, none⟩)] w fun e' w' => e' = .returned (.int .i64 p) ∧ w = w' := by
  obtain ⟨_, ev, h1, _⟩ := h
  have c1 := h1.cell 1
  simp at c1
  clear h1
  go_enter Tryd.func31, Tryd.ntmps31
  go_wp2
  go_ret
  exact ⟨rfl, rfl⟩
theorem oerr (b : Nat) (s : ByteArray) (p : Nat) (fa fe : Int) (w : World) (h : R w b s p fa fe) :
    ∃ ev, EV w ev fa fe ∧ Calls Tryd.prog 32 #[.pointer (some ⟨b, 0, none⟩)] w fun e' w' => e' = .returned ev ∧ w = w' := by
  obtain ⟨_, ev, h1, h2⟩ := h
  refine ⟨ev, h2, ?_⟩
  have c2 := h1.cell 2
  simp at c2
  clear h1
  rcases h2 with ⟨_, _, rfl⟩ | ⟨_, fb, rfl, _⟩
  · go_enter Tryd.func32, Tryd.ntmps32
    go_wp2
    go_ret
    exact ⟨rfl, rfl⟩
  · go_enter Tryd.func32, Tryd.ntmps32
    go_wp2
    go_ret
    exact ⟨rfl, rfl⟩
theorem oleft (b : Nat) (s : ByteArray) (p : Nat) (fa fe : Int) (w : World) (hs : s.size ≤ 100000) (h : R w b s p fa fe) :
    Calls Tryd.prog 44 #[.pointer (some ⟨b, 0, none⟩)] w fun e' w' => e' = .returned (.int .i64 ((s.size : Int) - p)) ∧ Below w.heap.size w w' := by
  obtain ⟨hp, ev, h1, _⟩ := h
  have c0 := h1.cell 0
  have c1 := h1.cell 1
  simp at c0 c1
  have hp2 : (p : Int) ≤ (s.size : Int) := by omega
  have q1 : IntKind.i64.wrap ((s.size : Int) - (p : Int)) = (s.size : Int) - (p : Int) := IntWalk.i64_in _ (by omega)
  clear h1
  go_enter Tryd.func44, Tryd.ntmps44
  go_wp2
  go_quiet (fail)
  go_wp2
  go_ret
  exact ⟨rfl, Joins.below_draws _ _ _⟩
/-! ### A text. -/
def txE (m : Int) (s : ByteArray) (p : Nat) (fe : Int) : Int := if rdF (some m) s p fe = 0 then (if s.size - rdP (some m) s p fe < rdV (some m) s p fe then 1 else 0) else rdF (some m) s p fe
def txA (m : Int) (s : ByteArray) (p : Nat) (fa fe : Int) : Int := if rdF (some m) s p fe = 0 ∧ s.size - rdP (some m) s p fe < rdV (some m) s p fe then p else rdA (some m) s p fa fe
def txP (m : Int) (s : ByteArray) (p : Nat) (fe : Int) : Nat := if txE m s p fe = 0 then rdP (some m) s p fe + rdV (some m) s p fe else p
def txS (m : Int) (s : ByteArray) (p : Nat) (fe : Int) : ByteArray := if txE m s p fe = 0 then s.extract (rdP (some m) s p fe) (rdP (some m) s p fe + rdV (some m) s p fe) else ⟨#[]⟩
theorem rdP_bad {m : Int} {s : ByteArray} {p : Nat} {fe : Int} (h : ¬ rdF (some m) s p fe = 0) : rdP (some m) s p fe = p := by
  by_cases hf : fe = 0
  · subst hf
    have : ¬ rdE (some m) (rest s p) = 0 := by intro e; unfold rdF at h; rw [if_pos rfl, e] at h; exact h rfl
    exact (rd_bad (fa := 0) this).2.1
  · exact (rd_had (fa := 0) hf).2.1
theorem tx_bad {m : Int} {s : ByteArray} {p : Nat} {fa fe : Int} (h : ¬ rdF (some m) s p fe = 0) : txE m s p fe = rdF (some m) s p fe ∧ txA m s p fa fe = rdA (some m) s p fa fe ∧ txP m s p fe = p ∧ txS m s p fe = ⟨#[]⟩ := by
  have e : txE m s p fe = rdF (some m) s p fe := if_neg h
  exact ⟨e, if_neg (fun k => h k.1), if_neg (by rw [e]; exact h), if_neg (by rw [e]; exact h)⟩
theorem tx_short {m : Int} {s : ByteArray} {p : Nat} {fa fe : Int} (h : rdF (some m) s p fe = 0) (h2 : s.size - rdP (some m) s p fe < rdV (some m) s p fe) : txE m s p fe = 1 ∧ txA m s p fa fe = p ∧ txP m s p fe = p ∧ txS m s p fe = ⟨#[]⟩ := by
  have e : txE m s p fe = 1 := by unfold txE; rw [if_pos h, if_pos h2]
  exact ⟨e, if_pos ⟨h, h2⟩, if_neg (by rw [e]; omega), if_neg (by rw [e]; omega)⟩
theorem tx_good {m : Int} {s : ByteArray} {p : Nat} {fa fe : Int} (h : rdF (some m) s p fe = 0) (h2 : ¬ s.size - rdP (some m) s p fe < rdV (some m) s p fe) : txE m s p fe = 0 ∧ txA m s p fa fe = rdA (some m) s p fa fe ∧
    txP m s p fe = rdP (some m) s p fe + rdV (some m) s p fe ∧ txS m s p fe = s.extract (rdP (some m) s p fe) (rdP (some m) s p fe + rdV (some m) s p fe) := by
  have e : txE m s p fe = 0 := by unfold txE; rw [if_pos h, if_neg h2]
  exact ⟨e, if_neg (fun k => h2 k.2), if_pos e, if_pos e⟩
theorem r_err0 {w : World} {b : Nat} {s : ByteArray} {p : Nat} {fa : Int} (h : R w b s p fa 0) : fa = 0 ∧ w.cell? ⟨b, 2, none⟩ = some .nilIface := by
  obtain ⟨_, ev, h1, h2⟩ := h
  obtain ⟨h3, rfl⟩ := ev_nil h2
  exact ⟨h3, by simpa using h1.cell 2⟩
theorem r_err1 {w : World} {b : Nat} {s : ByteArray} {p : Nat} {fa fe : Int} (h : R w b s p fa fe) (hf : ¬ fe = 0) : ∃ fb, w.cell? ⟨b, 2, none⟩ = some (.iface 40 (.pointer (some ⟨fb, 0, none⟩))) := by
  obtain ⟨_, ev, h1, h2⟩ := h
  obtain ⟨fb, rfl⟩ := ev_some h2 hf
  exact ⟨fb, by simpa using h1.cell 2⟩
theorem r_cells {w : World} {b : Nat} {s : ByteArray} {p : Nat} {fa fe : Int} (h : R w b s p fa fe) : w.cell? ⟨b, 0, none⟩ = some (.string s) ∧ w.cell? ⟨b, 1, none⟩ = some (.int .i64 p) ∧ w.frozen? ⟨b, 1, none⟩ = false := by
  obtain ⟨_, ev, h1, h2⟩ := h
  exact ⟨by simpa using h1.cell 0, by simpa using h1.cell 1, h1.frozen 1⟩
set_option maxHeartbeats 3200000 in
theorem otextr (b : Nat) (s : ByteArray) (p : Nat) (fa fe m : Int) (w : World) (hs : s.size ≤ 100000) (h : R w b s p fa fe) (hm : m ≤ 9223372036854775807) :
    Calls Tryd.prog 43 #[.pointer (some ⟨b, 0, none⟩), .int .i64 m] w fun e' w' => e' = .returned (.string (txS m s p fe)) ∧ R w' b s (txP m s p fe) (txA m s p fa fe) (txE m s p fe) ∧ w.grownBy w' (some b) := by
  have D := Lib.hid (ointr b s p fa fe m w hs h hm)
  have hv := rdV_in (m := m) s p fe
  have hpp := rdP_le (lim := some m) (fe := fe) h.1
  have hp := h.1
  have cw := (r_cells h).2.1
  clear h
  by_cases hF : rdF (some m) s p fe = 0
  · by_cases hl : s.size - rdP (some m) s p fe < rdV (some m) s p fe
    · have HT := Lib.hid (tx_short (fa := fa) hF hl)
      rw [hF] at D
      obtain ⟨v, hv2⟩ : ∃ v, rdV (some m) s p fe = v := ⟨_, rfl⟩
      obtain ⟨p1, hp1⟩ : ∃ p1, rdP (some m) s p fe = p1 := ⟨_, rfl⟩
      obtain ⟨a1, ha1⟩ : ∃ a, rdA (some m) s p fa fe = a := ⟨_, rfl⟩
      rw [hv2] at D hv hl
      rw [hp1] at D hpp hl
      rw [ha1] at D
      have hl2 : (s.size : Int) - (p1 : Int) < (v : Int) := by omega
      have hv3 : (v : Int) ≤ 9223372036854775807 := by omega
      clear hv2 hp1 ha1 hF hv hl
      go_enter Tryd.func43, Tryd.ntmps43
      go_wp2_with fail
      refine D.out.mono ?_; rintro e' w1 ⟨rfl, hr, hg⟩
      obtain ⟨rfl, d2⟩ := r_err0 hr
      have HR := Lib.hid hr
      have HG := Lib.hid hg
      clear hr hg cw
      go_wp2_with fail
      refine (oleft b s p1 0 0 _ hs HR.out).mono ?_; rintro e' w2 ⟨rfl, hb2⟩
      have HR2 := Lib.hid (HR.out.keep hb2)
      have HG2 := Lib.hid (only_below HG.out hb2)
      have HB := Lib.hid (r_back (p' := p) HR2.out hp)
      obtain ⟨_, k1, f1⟩ := r_cells HR2.out
      clear hb2 d2
      go_wp2_with fail
      refine (fail_new b s p 1 _ HB.out (by omega)).mono ?_; rintro e' w3 ⟨rfl, hr3, hg3⟩
      go_wp2
      go_ret
      obtain ⟨t1, t2, t3, t4⟩ := HT.out
      rw [t1, t2, t3, t4]
      exact ⟨rfl, hr3, only_then (only_set HG2.out _) hg3⟩
    · have HT := Lib.hid (tx_good (fa := fa) hF hl)
      rw [hF] at D
      obtain ⟨v, hv2⟩ : ∃ v, rdV (some m) s p fe = v := ⟨_, rfl⟩
      obtain ⟨p1, hp1⟩ : ∃ p1, rdP (some m) s p fe = p1 := ⟨_, rfl⟩
      obtain ⟨a1, ha1⟩ : ∃ a, rdA (some m) s p fa fe = a := ⟨_, rfl⟩
      rw [hv2] at D hl HT
      rw [hp1] at D hpp hl HT
      rw [ha1] at D HT
      have hl2 : (v : Int) ≤ (s.size : Int) - (p1 : Int) := by omega
      have hl3 : (p1 : Int) + (v : Int) ≤ (s.size : Int) := by omega
      have hl4 : (p1 : Int) ≤ (p1 : Int) + (v : Int) := by omega
      have hl5 : (0 : Int) ≤ (p1 : Int) := by omega
      have hl6 : (p1 : Int) ≤ (s.size : Int) := by omega
      have hl7 : p1 + v ≤ s.size := by omega
      have g1 : IntKind.i64.wrap ((p1 : Int) + (v : Int)) = (p1 : Int) + (v : Int) := IntWalk.i64_in _ (by omega)
      have g2 : ((p1 : Int) + (v : Int)).toNat = p1 + v := by omega
      have HG1 := Lib.hid g1
      have HG3 := Lib.hid g2
      clear hv2 hp1 ha1 hF hv hl g1 g2
      go_enter Tryd.func43, Tryd.ntmps43
      go_wp2_with fail
      refine D.out.mono ?_; rintro e' w1 ⟨rfl, hr, hg⟩
      obtain ⟨rfl, d2⟩ := r_err0 hr
      have HR := Lib.hid hr
      have HG := Lib.hid hg
      clear hr hg cw
      go_wp2_with fail
      refine (oleft b s p1 0 0 _ hs HR.out).mono ?_; rintro e' w2 ⟨rfl, hb2⟩
      have HR2 := Lib.hid (HR.out.keep hb2)
      have HG2 := Lib.hid (only_below HG.out hb2)
      obtain ⟨k0, k1, f1⟩ := r_cells HR2.out
      have g1 := HG1.out
      have g2 := HG3.out
      clear hb2 d2
      go_wp2
      go_quiet (fail)
      have HB := Lib.hid (fun n => r_step (p' := p1 + v) (HR2.out.drewN n) hl7)
      go_wp2
      go_ret
      obtain ⟨t1, t2, t3, t4⟩ := HT.out
      rw [t1, t2, t3, t4]
      exact ⟨rfl, HB.out _, only_set (only_drewN HG2.out _) _⟩
  · have HT := Lib.hid (tx_bad (fa := fa) hF)
    obtain ⟨v, hv2⟩ : ∃ v, rdV (some m) s p fe = v := ⟨_, rfl⟩
    have hp1 := rdP_bad hF
    obtain ⟨a1, ha1⟩ : ∃ a, rdA (some m) s p fa fe = a := ⟨_, rfl⟩
    obtain ⟨f1, hf1⟩ : ∃ a, rdF (some m) s p fe = a := ⟨_, rfl⟩
    rw [hv2] at D
    rw [hp1] at D
    rw [ha1] at D HT
    rw [hf1] at D HT hF
    clear hv2 hp1 ha1 hf1 hv hpp
    go_enter Tryd.func43, Tryd.ntmps43
    go_wp2_with fail
    refine D.out.mono ?_; rintro e' w1 ⟨rfl, hr, hg⟩
    obtain ⟨fb, d2⟩ := r_err1 hr hF
    have HR := Lib.hid hr
    have HG := Lib.hid hg
    clear hr hg cw hF
    go_wp2
    go_ret
    obtain ⟨t1, t2, t3, t4⟩ := HT.out
    rw [t1, t2, t3, t4]
    exact ⟨rfl, HR.out, HG.out⟩
/-! ### The end. -/
def enE (s : ByteArray) (p : Nat) (fe : Int) : Int := if fe = 0 ∧ p < s.size then 6 else fe
def enA (s : ByteArray) (p : Nat) (fa fe : Int) : Int := if fe = 0 ∧ p < s.size then p else fa
def EndPost (w : World) (b : Nat) (s : ByteArray) (p : Nat) (fa fe : Int) (e' : Ending) (w' : World) : Prop := ∃ ev, e' = .returned ev ∧ EV w' ev fa fe ∧ R w' b s p fa fe ∧ w.grownBy w' (some b)
theorem r_ev {w : World} {b : Nat} {s : ByteArray} {p : Nat} {fa fe : Int} (h : R w b s p fa fe) : ∃ ev, EV w ev fa fe ∧ w.cell? ⟨b, 2, none⟩ = some ev ∧ (ev = .nilIface ∨ ∃ fb, ev = .iface 40 (.pointer (some ⟨fb, 0, none⟩))) := by
  obtain ⟨_, ev, h1, h2⟩ := h
  refine ⟨ev, h2, by simpa using h1.cell 2, ?_⟩
  rcases h2 with ⟨_, _, h⟩ | ⟨_, fb, h, _⟩
  · exact .inl h
  · exact .inr ⟨fb, h⟩
end Go.Proofs.YtofpefbnkmeokaaDoor
