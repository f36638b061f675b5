/- Contracts of the reference's reader: Int, Signed, Text, Left and End. -/
import Derived.Test.YtofpefbnkmeokaaDoorRefNum
import Derived.Test.YtofpefbnkmeokaaDoorRead4
namespace Go.Proofs.YtofpefbnkmeokaaDoor
open Go.RowKit
theorem rdF_zero {lim : Option Int} {s : ByteArray} {p : Nat} {fe : Int} (h : rdF lim s p fe = 0) : fe = 0 ∧ rdE lim (rest s p) = 0 := by
  unfold rdF at h
  by_cases hf : fe = 0
  · rw [if_pos hf] at h; exact ⟨hf, by omega⟩
  · rw [if_neg hf] at h; exact absurd h hf
theorem ri_bad {m : Int} {s : ByteArray} {p : Nat} {fa fe : Int} (h : ¬ rdF none s p fe = 0) : rdV (some m) s p fe = 0 ∧ rdP (some m) s p fe = rdP none s p fe ∧ rdA (some m) s p fa fe = rdA none s p fa fe ∧ rdF (some m) s p fe = rdF none s p fe := by
  by_cases hf : fe = 0
  · subst hf
    have h1 : ¬ (numAt (rest s p)).2.2 = 0 := by
      intro e
      unfold rdF at h
      rw [if_pos rfl, rdE_none e] at h
      exact h rfl
    have e1 : rdE none (rest s p) = (numAt (rest s p)).2.2 := rdE_field h1
    have e2 : rdE (some m) (rest s p) = (numAt (rest s p)).2.2 := rdE_field h1
    obtain ⟨a1, a2, a3, a4⟩ := rd_bad (lim := none) (s := s) (p := p) (fa := fa) (by rw [e1]; exact h1)
    obtain ⟨b1, b2, b3, b4⟩ := rd_bad (lim := some m) (s := s) (p := p) (fa := fa) (by rw [e2]; exact h1)
    rw [a2, a3, a4, b1, b2, b3, b4, e1, e2]
    exact ⟨rfl, rfl, rfl, rfl⟩
  · obtain ⟨a1, a2, a3, a4⟩ := rd_had (lim := none) (s := s) (p := p) (fa := fa) hf
    obtain ⟨b1, b2, b3, b4⟩ := rd_had (lim := some m) (s := s) (p := p) (fa := fa) hf
    rw [a2, a3, a4, b1, b2, b3, b4]
    exact ⟨rfl, rfl, rfl, rfl⟩
theorem ri_over {m : Int} {s : ByteArray} {p : Nat} {fa fe : Int} (h : rdF none s p fe = 0) (h2 : m < 0 ∨ m < (rdV none s p fe : Int)) : rdV (some m) s p fe = 0 ∧ rdP (some m) s p fe = p ∧ rdA (some m) s p fa fe = p ∧ rdF (some m) s p fe = 2 := by
  obtain ⟨rfl, h3⟩ := rdF_zero h
  have hz := rdE_zero h3
  obtain ⟨a1, _, _, _⟩ := rd_good (lim := none) (s := s) (p := p) (fa := fa) h3
  rw [a1] at h2
  have e2 : rdE (some m) (rest s p) = 2 := rdE_over hz h2
  obtain ⟨b1, b2, b3, b4⟩ := rd_bad (lim := some m) (s := s) (p := p) (fa := fa) (by rw [e2]; omega)
  rw [b1, b2, b3, b4, e2]
  exact ⟨rfl, rfl, rfl, rfl⟩
theorem ri_in {m : Int} {s : ByteArray} {p : Nat} {fa fe : Int} (h : rdF none s p fe = 0) (h2 : ¬ (m < 0 ∨ m < (rdV none s p fe : Int))) : rdV (some m) s p fe = rdV none s p fe ∧ rdP (some m) s p fe = rdP none s p fe ∧ rdA (some m) s p fa fe = rdA none s p fa fe ∧ rdF (some m) s p fe = 0 := by
  obtain ⟨rfl, h3⟩ := rdF_zero h
  have hz := rdE_zero h3
  obtain ⟨a1, a2, a3, _⟩ := rd_good (lim := none) (s := s) (p := p) (fa := fa) h3
  rw [a1] at h2
  have e2 : rdE (some m) (rest s p) = 0 := rdE_in hz h2
  obtain ⟨b1, b2, b3, b4⟩ := rd_good (lim := some m) (s := s) (p := p) (fa := fa) e2
  rw [a1, a2, a3, b1, b2, b3, b4]
  exact ⟨rfl, rfl, rfl, rfl⟩
theorem rr_cells {w : World} {q : Nat} {s : ByteArray} {p : Nat} {fa fe : Int} (h : RR w q s p fa fe) : w.cell? ⟨q, 0, none⟩ = some (.string s) ∧ w.cell? ⟨q, 1, none⟩ = some (.int .i64 p) ∧ w.cell? ⟨q, 2, none⟩ = some (.int .i64 fa) ∧ w.cell? ⟨q, 3, none⟩ = some (.int .i64 fe) ∧ w.frozen? ⟨q, 1, none⟩ = false := by
  obtain ⟨_, h1⟩ := h
  exact ⟨by simpa using h1.cell 0, by simpa using h1.cell 1, by simpa using h1.cell 2, by simpa using h1.cell 3, h1.frozen 1⟩
set_option maxHeartbeats 3200000 in
theorem rintr (q : Nat) (s : ByteArray) (p : Nat) (fa fe m : Int) (w : World) (hs : s.size ≤ 100000) (h : RR w q s p fa fe) (hm : m ≤ 9223372036854775807) :
    Calls Tryd.prog 49 #[.pointer (some ⟨q, 0, none⟩), .int .i64 m] w fun e' w' => e' = .returned (.int .i64 (rdV (some m) s p fe : Int)) ∧ RR w' q s (rdP (some m) s p fe) (rdA (some m) s p fa fe) (rdF (some m) s p fe) ∧ w.grownBy w' (some q) := by
  have D := Lib.hid (rnumr q s p fa fe w hs h)
  have hp := h.1
  have cw := (rr_cells h).2.1
  clear h
  by_cases hF : rdF none s p fe = 0
  · by_cases ho : m < 0 ∨ m < (rdV none s p fe : Int)
    · have HT := Lib.hid (ri_over (fa := fa) hF ho)
      rw [hF] at D
      obtain ⟨v, hv2⟩ : ∃ v, rdV none s p fe = v := ⟨_, rfl⟩
      obtain ⟨p1, hp1⟩ : ∃ p1, rdP none s p fe = p1 := ⟨_, rfl⟩
      obtain ⟨a1, ha1⟩ : ∃ a, rdA none s p fa fe = a := ⟨_, rfl⟩
      rw [hv2] at D ho
      rw [hp1, ha1] at D
      clear hv2 hp1 ha1 hF
      have HO := Lib.hid ho
      clear ho
      by_cases hm0 : m < 0
      · have g1 : decide (m < 0) = true := decide_eq_true hm0
        clear hm0
        go_enter Tryd.func49, Tryd.ntmps49
        go_wp2_with fail
        refine D.out.mono ?_; rintro e' w1 ⟨rfl, hr, hg⟩
        obtain ⟨k0, k1, k2, k3, f1⟩ := rr_cells hr
        have HR := Lib.hid (rr_at (p' := p) hr hp)
        have HG := Lib.hid hg
        clear hr hg cw
        go_wp2_with fail
        refine (rfail_new q s p a1 2 _ HR.out.1 (by omega)).mono ?_; rintro e' w3 ⟨rfl, hr3, hg3⟩
        obtain ⟨_, _, _, d3, _⟩ := rr_cells hr3
        have HR3 := Lib.hid hr3
        have HG3 := Lib.hid hg3
        clear hr3 hg3 k0 k1 k2 k3
        go_wp2
        go_ret
        obtain ⟨t1, t2, t3, t4⟩ := HT.out
        rw [t1, t2, t3, t4]
        exact ⟨rfl, HR3.out, only_then HG.out (only_then HR.out.2 HG3.out)⟩
      · have g1 : decide (m < 0) = false := decide_eq_false hm0
        have hm1 : 0 ≤ m := by omega
        have hm2 : m < (v : Int) := by have := HO.out; omega
        have g2 : decide (m < (v : Int)) = true := decide_eq_true hm2
        clear hm0
        go_enter Tryd.func49, Tryd.ntmps49
        go_wp2_with fail
        refine D.out.mono ?_; rintro e' w1 ⟨rfl, hr, hg⟩
        obtain ⟨k0, k1, k2, k3, f1⟩ := rr_cells hr
        have HR := Lib.hid (rr_at (p' := p) hr hp)
        have HG := Lib.hid hg
        clear hr hg cw
        go_wp2_with fail
        refine (rfail_new q s p a1 2 _ HR.out.1 (by omega)).mono ?_; rintro e' w3 ⟨rfl, hr3, hg3⟩
        obtain ⟨_, _, _, d3, _⟩ := rr_cells hr3
        have HR3 := Lib.hid hr3
        have HG3 := Lib.hid hg3
        clear hr3 hg3 k0 k1 k2 k3
        go_wp2
        go_ret
        obtain ⟨t1, t2, t3, t4⟩ := HT.out
        rw [t1, t2, t3, t4]
        exact ⟨rfl, HR3.out, only_then HG.out (only_then HR.out.2 HG3.out)⟩
    · have HT := Lib.hid (ri_in (fa := fa) hF ho)
      rw [hF] at D
      obtain ⟨v, hv2⟩ : ∃ v, rdV none s p fe = v := ⟨_, rfl⟩
      obtain ⟨p1, hp1⟩ : ∃ p1, rdP none s p fe = p1 := ⟨_, rfl⟩
      obtain ⟨a1, ha1⟩ : ∃ a, rdA none s p fa fe = a := ⟨_, rfl⟩
      rw [hv2] at D ho HT
      rw [hp1, ha1] at D HT
      clear hv2 hp1 ha1 hF
      have hm1 : 0 ≤ m := by omega
      have hm2 : (v : Int) ≤ m := by omega
      have hm3 : (v : Int) ≤ 9223372036854775807 := by omega
      have g1 : decide (m < 0) = false := decide_eq_false (by omega)
      have g2 : decide (m < (v : Int)) = false := decide_eq_false (by omega)
      clear ho
      go_enter Tryd.func49, Tryd.ntmps49
      go_wp2_with fail
      refine D.out.mono ?_; rintro e' w1 ⟨rfl, hr, hg⟩
      obtain ⟨k0, k1, k2, k3, f1⟩ := rr_cells hr
      have HR := Lib.hid hr
      have HG := Lib.hid hg
      clear hr hg cw
      go_wp2
      go_ret
      obtain ⟨t1, t2, t3, t4⟩ := HT.out
      rw [t1, t2, t3, t4]
      exact ⟨rfl, HR.out, HG.out⟩
  · have HT := Lib.hid (ri_bad (m := m) (fa := fa) hF)
    obtain ⟨v, hv2⟩ : ∃ v, rdV none s p fe = v := ⟨_, rfl⟩
    obtain ⟨p1, hp1⟩ : ∃ p1, rdP none s p fe = p1 := ⟨_, rfl⟩
    obtain ⟨a1, ha1⟩ : ∃ a, rdA none s p fa fe = a := ⟨_, rfl⟩
    obtain ⟨f1, hf1⟩ : ∃ a, rdF none s p fe = a := ⟨_, rfl⟩
    rw [hv2] at D
    rw [hp1, ha1] at D HT
    rw [hf1] at D HT hF
    have e1 : (f1 == 0) = false := by simpa using hF
    have e2 : (f1 != 0) = true := by simpa using hF
    clear hv2 hp1 ha1 hf1 hF
    go_enter Tryd.func49, Tryd.ntmps49
    go_wp2_with fail
    refine D.out.mono ?_; rintro e' w1 ⟨rfl, hr, hg⟩
    obtain ⟨k0, k1, k2, k3, _⟩ := rr_cells hr
    have HR := Lib.hid hr
    have HG := Lib.hid hg
    clear hr hg cw
    go_wp2
    go_ret
    obtain ⟨t1, t2, t3, t4⟩ := HT.out
    rw [t1, t2, t3, t4]
    exact ⟨rfl, HR.out, HG.out⟩
set_option maxHeartbeats 1600000 in
theorem rsignr (q : Nat) (s : ByteArray) (p : Nat) (fa fe : Int) (w : World) (hs : s.size ≤ 100000) (h : RR w q s p fa fe) :
    Calls Tryd.prog 66 #[.pointer (some ⟨q, 0, none⟩)] w fun e' w' => e' = .returned (.int .i64 (unzig (rdV none s p fe))) ∧ RR w' q s (rdP none s p fe) (rdA none s p fa fe) (rdF none s p fe) ∧ w.grownBy w' (some q) := by
  have D := Lib.hid (rnumr q s p fa fe w hs h)
  have hv := rdV_lt none s p fe
  obtain ⟨v, hv2⟩ : ∃ v, rdV none s p fe = v := ⟨_, rfl⟩
  rw [hv2] at D hv ⊢
  clear h hv2
  obtain ⟨n, hn⟩ : ∃ n, v / 2 = n := ⟨_, rfl⟩
  have e2 : (v : Int) / 2 = (n : Int) := by omega
  have hn2 : (n : Int) ≤ 9223372036854775807 := by omega
  by_cases ho : v % 2 = 1
  · have HU := Lib.hid (unzig_odd ho)
    rw [hn] at HU
    have e1 : ((v : Int) % 2 == 1) = true := by simp; omega
    clear ho hn
    go_enter Tryd.func66, Tryd.ntmps66
    go_wp2_with fail
    refine D.out.mono ?_; rintro e' w1 ⟨rfl, hr, hg⟩
    go_wp2
    go_ret
    exact ⟨retU HU.out.symm, hr, hg⟩
  · have HU := Lib.hid (unzig_even ho)
    rw [hn] at HU
    have e1 : ((v : Int) % 2 == 1) = false := by simp; omega
    clear ho hn
    go_enter Tryd.func66, Tryd.ntmps66
    go_wp2_with fail
    refine D.out.mono ?_; rintro e' w1 ⟨rfl, hr, hg⟩
    go_wp2
    go_ret
    exact ⟨retU HU.out.symm, hr, hg⟩
theorem rleft (q : Nat) (s : ByteArray) (p : Nat) (fa fe : Int) (w : World) (hs : s.size ≤ 100000) (h : RR w q s p fa fe) :
    Calls Tryd.prog 51 #[.pointer (some ⟨q, 0, none⟩)] w fun e' w' => e' = .returned (.int .i64 ((s.size : Int) - p)) ∧ Below w.heap.size w w' := by
  have hp := h.1
  obtain ⟨c0, c1, _, _, _⟩ := rr_cells h
  have hp2 : (p : Int) ≤ (s.size : Int) := by omega
  have q1 : IntKind.i64.wrap ((s.size : Int) - (p : Int)) = (s.size : Int) - (p : Int) := IntWalk.i64_in _ (by omega)
  clear h
  go_enter Tryd.func51, Tryd.ntmps51
  go_wp2
  go_quiet (fail)
  go_wp2
  go_ret
  exact ⟨rfl, Joins.below_draws _ _ _⟩
set_option maxHeartbeats 3200000 in
theorem rtextr (q : Nat) (s : ByteArray) (p : Nat) (fa fe m : Int) (w : World) (hs : s.size ≤ 100000) (h : RR w q s p fa fe) (hm : m ≤ 9223372036854775807) :
    Calls Tryd.prog 50 #[.pointer (some ⟨q, 0, none⟩), .int .i64 m] w fun e' w' => e' = .returned (.string (txS m s p fe)) ∧ RR w' q s (txP m s p fe) (txA m s p fa fe) (txE m s p fe) ∧ w.grownBy w' (some q) := by
  have D := Lib.hid (rintr q s p fa fe m w hs h hm)
  have hv := rdV_in (m := m) s p fe
  have hpp := rdP_le (lim := some m) (fe := fe) h.1
  have hp := h.1
  have cw := (rr_cells h).2.1
  clear h
  by_cases hF : rdF (some m) s p fe = 0
  · by_cases hl : s.size - rdP (some m) s p fe < rdV (some m) s p fe
    · have HT := Lib.hid (tx_short (fa := fa) hF hl)
      rw [hF] at D
      obtain ⟨v, hv2⟩ : ∃ v, rdV (some m) s p fe = v := ⟨_, rfl⟩
      obtain ⟨p1, hp1⟩ : ∃ p1, rdP (some m) s p fe = p1 := ⟨_, rfl⟩
      obtain ⟨a1, ha1⟩ : ∃ a, rdA (some m) s p fa fe = a := ⟨_, rfl⟩
      rw [hv2] at D hv hl
      rw [hp1] at D hpp hl
      rw [ha1] at D
      have hl2 : (s.size : Int) - (p1 : Int) < (v : Int) := by omega
      have hl3 : decide ((s.size : Int) - (p1 : Int) < (v : Int)) = true := decide_eq_true hl2
      have hv3 : (v : Int) ≤ 9223372036854775807 := by omega
      have hpi : (p1 : Int) ≤ (s.size : Int) := by omega
      have q1 : IntKind.i64.wrap ((s.size : Int) - (p1 : Int)) = (s.size : Int) - (p1 : Int) := IntWalk.i64_in _ (by omega)
      clear hv2 hp1 ha1 hF hv hl
      go_enter Tryd.func50, Tryd.ntmps50
      go_wp2_with fail
      refine D.out.mono ?_; rintro e' w1 ⟨rfl, hr, hg⟩
      obtain ⟨k0, k1, k2, k3, f1⟩ := rr_cells hr
      have HR := Lib.hid (fun n => rr_at (p' := p) (hr.drewN n) hp)
      have HG := Lib.hid hg
      clear hr hg cw
      go_wp2
      go_quiet (fail)
      go_wp2_with fail
      refine (rfail_new q s p a1 1 _ (HR.out _).1 (by omega)).mono ?_; rintro e' w3 ⟨rfl, hr3, hg3⟩
      obtain ⟨_, _, _, d3, _⟩ := rr_cells hr3
      have HR3 := Lib.hid hr3
      have HG3 := Lib.hid hg3
      clear hr3 hg3 k0 k1 k2 k3
      go_wp2
      go_ret
      obtain ⟨t1, t2, t3, t4⟩ := HT.out
      rw [t1, t2, t3, t4]
      exact ⟨rfl, HR3.out, only_then (only_drewN HG.out _) (only_then (HR.out _).2 HG3.out)⟩
    · have HT := Lib.hid (tx_good (fa := fa) hF hl)
      rw [hF] at D
      obtain ⟨v, hv2⟩ : ∃ v, rdV (some m) s p fe = v := ⟨_, rfl⟩
      obtain ⟨p1, hp1⟩ : ∃ p1, rdP (some m) s p fe = p1 := ⟨_, rfl⟩
      obtain ⟨a1, ha1⟩ : ∃ a, rdA (some m) s p fa fe = a := ⟨_, rfl⟩
      rw [hv2] at D hl HT
      rw [hp1] at D hpp hl HT
      rw [ha1] at D HT
      have hl2 : (v : Int) ≤ (s.size : Int) - (p1 : Int) := by omega
      have hd : decide ((s.size : Int) - (p1 : Int) < (v : Int)) = false := decide_eq_false (by omega)
      have hl3 : (p1 : Int) + (v : Int) ≤ (s.size : Int) := by omega
      have hl4 : (p1 : Int) ≤ (p1 : Int) + (v : Int) := by omega
      have hl5 : (0 : Int) ≤ (p1 : Int) := by omega
      have hl6 : (p1 : Int) ≤ (s.size : Int) := by omega
      have hl7 : p1 + v ≤ s.size := by omega
      have q1 : IntKind.i64.wrap ((s.size : Int) - (p1 : Int)) = (s.size : Int) - (p1 : Int) := IntWalk.i64_in _ (by omega)
      have HG1 := Lib.hid (show IntKind.i64.wrap ((p1 : Int) + (v : Int)) = (p1 : Int) + (v : Int) from IntWalk.i64_in _ (by omega))
      have HG3 := Lib.hid (show ((p1 : Int) + (v : Int)).toNat = p1 + v by omega)
      clear hv2 hp1 ha1 hF hv hl
      go_enter Tryd.func50, Tryd.ntmps50
      go_wp2_with fail
      refine D.out.mono ?_; rintro e' w1 ⟨rfl, hr, hg⟩
      obtain ⟨k0, k1, k2, k3, f1⟩ := rr_cells hr
      have HR := Lib.hid (fun n => rr_at (p' := p1 + v) (hr.drewN n) hl7)
      have HG := Lib.hid hg
      clear hr hg cw
      go_wp2
      go_quiet (fail)
      have g1 := HG1.out
      have g2 := HG3.out
      go_wp2
      go_quiet (fail)
      go_wp2
      go_ret
      obtain ⟨t1, t2, t3, t4⟩ := HT.out
      rw [t1, t2, t3, t4]
      exact ⟨rfl, (HR.out _).1, only_then (only_drewN HG.out _) (HR.out _).2⟩
  · have HT := Lib.hid (tx_bad (fa := fa) hF)
    obtain ⟨v, hv2⟩ : ∃ v, rdV (some m) s p fe = v := ⟨_, rfl⟩
    have hp1 := rdP_bad hF
    obtain ⟨a1, ha1⟩ : ∃ a, rdA (some m) s p fa fe = a := ⟨_, rfl⟩
    obtain ⟨f1, hf1⟩ : ∃ a, rdF (some m) s p fe = a := ⟨_, rfl⟩
    rw [hv2] at D
    rw [hp1] at D
    rw [ha1] at D HT
    rw [hf1] at D HT hF
    have e1 : (f1 == 0) = false := by simpa using hF
    have e2 : (f1 != 0) = true := by simpa using hF
    clear hv2 hp1 ha1 hf1 hv hpp hF
    go_enter Tryd.func50, Tryd.ntmps50
    go_wp2_with fail
    refine D.out.mono ?_; rintro e' w1 ⟨rfl, hr, hg⟩
    obtain ⟨k0, k1, k2, k3, _⟩ := rr_cells hr
    have HR := Lib.hid (fun n => hr.drewN n)
    have HG := Lib.hid hg
    clear hr hg cw
    go_wp2
    go_quiet (fail)
    go_wp2
    go_ret
    obtain ⟨t1, t2, t3, t4⟩ := HT.out
    rw [t1, t2, t3, t4]
    exact ⟨rfl, HR.out _, only_drewN HG.out _⟩
theorem only_new {a w : World} {row : Option Nat} (h : a.grownBy w row) {b o : Nat} (hb : a.heap.size ≤ b) (v : Value) : a.grownBy (w.setCell ⟨b, o, none⟩ v) row :=
  ⟨h.os, h.tape, h.output, by simpa [World.setCell] using h.size, fun i hi hne => (Below.heap_setCell w ⟨b, o, none⟩ v i (by show i ≠ b; omega)).trans (h.block i hi hne)⟩
theorem RR.far {w : World} {q : Nat} {s : ByteArray} {p : Nat} {fa fe : Int} (h : RR w q s p fa fe) {b o : Nat} (hb : q ≠ b) (v : Value) : RR (w.setCell ⟨b, o, none⟩ v) q s p fa fe := ⟨h.1, h.2.far hb v⟩
end Go.Proofs.YtofpefbnkmeokaaDoor
