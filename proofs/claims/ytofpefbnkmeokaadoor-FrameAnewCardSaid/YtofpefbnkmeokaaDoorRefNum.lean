/- Contract of the reference's reader's Num. -/
import Derived.Test.YtofpefbnkmeokaaDoorRefRead
namespace Go.Proofs.YtofpefbnkmeokaaDoor
open Go.RowKit
set_option maxHeartbeats 3200000 in
theorem rnum_great (q : Nat) (s : ByteArray) (p k : Nat) (fa : Int) (w : World) (h : RR w q s p fa 0) (hs : s.size ≤ 100000) (hp : p < s.size) (hk : (s[p]).toNat = k) (h8 : 8 < k) :
    Calls Tryd.prog 85 #[.pointer (some ⟨q, 0, none⟩)] w fun e w' => e = .returned (.int .u64 0) ∧ RR w' q s p p 3 ∧ w.grownBy w' (some q) := by
  have HR := Lib.hid h
  obtain ⟨_, h1⟩ := h
  have c0 := h1.cell 0
  have c1 := h1.cell 1
  have c3 := h1.cell 3
  simp at c0 c1 c3
  have hp0 : (0 : Int) ≤ (p : Int) := by omega
  have hp2 : (p : Int) < (s.size : Int) := by omega
  have hp3 : (s.size : Int) ≤ 100000 := by omega
  have e1 : ((p : Int) == (s.size : Int)) = false := by simp; omega
  have q1 : IntKind.i64.wrap ((s.size : Int) - (p : Int)) = (s.size : Int) - (p : Int) := IntWalk.i64_in _ (by omega)
  have q2 : IntKind.i64.wrap ((s.size : Int) - (p : Int) - 1) = (s.size : Int) - (p : Int) - 1 := IntWalk.i64_in _ (by omega)
  have g8 : (8 : Int) < (k : Int) := by omega
  have g255 : (k : Int) ≤ 255 := by have h := (s[p]).toNat_lt; have h2 : (s[p]).toNat < 256 := h; omega
  have g80 : decide ((8 : Int) < (k : Int)) = true := decide_eq_true g8
  clear h1
  go_enter Tryd.func85, Tryd.ntmps85
  go_wp2
  go_quiet (fail)
  go_wp2
  go_quiet (fail)
  go_wp2_with fail
  refine (rfail_new q s p fa 3 _ (HR.out.drewN _) (by omega)).mono ?_; rintro e w1 ⟨rfl, hr, hg⟩
  have HG := Lib.hid hg
  have HR1 := Lib.hid hr
  have d3 := hr.2.cell 3
  simp at d3
  clear hr hg c0 c1 c3
  go_wp2
  go_ret
  exact ⟨rfl, HR1.out, only_then (only_drewN (only_of (Below.refl _ _) _) _) HG.out⟩
set_option maxHeartbeats 3200000 in
theorem rnum_short (q : Nat) (s : ByteArray) (p k : Nat) (fa : Int) (w : World) (h : RR w q s p fa 0) (hs : s.size ≤ 100000) (hp : p < s.size) (hk : (s[p]).toNat = k) (h8 : ¬ 8 < k) (h9 : s.size < p + 1 + k) :
    Calls Tryd.prog 85 #[.pointer (some ⟨q, 0, none⟩)] w fun e w' => e = .returned (.int .u64 0) ∧ RR w' q s p p 1 ∧ w.grownBy w' (some q) := by
  have HR := Lib.hid h
  obtain ⟨_, h1⟩ := h
  have c0 := h1.cell 0
  have c1 := h1.cell 1
  have c3 := h1.cell 3
  simp at c0 c1 c3
  have hp0 : (0 : Int) ≤ (p : Int) := by omega
  have hp2 : (p : Int) < (s.size : Int) := by omega
  have hp3 : (s.size : Int) ≤ 100000 := by omega
  have e1 : ((p : Int) == (s.size : Int)) = false := by simp; omega
  have q1 : IntKind.i64.wrap ((s.size : Int) - (p : Int)) = (s.size : Int) - (p : Int) := IntWalk.i64_in _ (by omega)
  have q2 : IntKind.i64.wrap ((s.size : Int) - (p : Int) - 1) = (s.size : Int) - (p : Int) - 1 := IntWalk.i64_in _ (by omega)
  have g8 : (k : Int) ≤ 8 := by omega
  have g9 : (s.size : Int) - (p : Int) - 1 < (k : Int) := by omega
  have g10 : decide ((s.size : Int) - (p : Int) - 1 < (k : Int)) = true := decide_eq_true g9
  clear h1 h8 h9
  go_enter Tryd.func85, Tryd.ntmps85
  go_wp2
  go_quiet (fail)
  go_wp2
  go_quiet (fail)
  go_wp2
  go_quiet (fail)
  go_wp2_with fail
  refine (rfail_new q s p fa 1 _ (HR.out.drewN _) (by omega)).mono ?_; rintro e w1 ⟨rfl, hr, hg⟩
  have HG := Lib.hid hg
  have HR1 := Lib.hid hr
  have d3 := hr.2.cell 3
  simp at d3
  clear hr hg c0 c1 c3
  go_wp2
  go_ret
  exact ⟨rfl, HR1.out, only_then (only_drewN (only_of (Below.refl _ _) _) _) HG.out⟩
set_option maxHeartbeats 3200000 in
theorem rnum_zero (q : Nat) (s : ByteArray) (p k : Nat) (fa : Int) (w : World) (h : RR w q s p fa 0) (hs : s.size ≤ 100000) (hp : p < s.size) (hk : (s[p]).toNat = k) (h8 : ¬ 8 < k) (h9 : ¬ s.size < p + 1 + k) (h10 : p + 1 < s.size) (h11 : 0 < k) (h12 : (s[p + 1]).toNat = 0) :
    Calls Tryd.prog 85 #[.pointer (some ⟨q, 0, none⟩)] w fun e w' => e = .returned (.int .u64 0) ∧ RR w' q s p p 3 ∧ w.grownBy w' (some q) := by
  have HR := Lib.hid h
  obtain ⟨_, h1⟩ := h
  have c0 := h1.cell 0
  have c1 := h1.cell 1
  have c3 := h1.cell 3
  simp at c0 c1 c3
  have hp0 : (0 : Int) ≤ (p : Int) := by omega
  have hp2 : (p : Int) < (s.size : Int) := by omega
  have hp3 : (s.size : Int) ≤ 100000 := by omega
  have e1 : ((p : Int) == (s.size : Int)) = false := by simp; omega
  have q1 : IntKind.i64.wrap ((s.size : Int) - (p : Int)) = (s.size : Int) - (p : Int) := IntWalk.i64_in _ (by omega)
  have q2 : IntKind.i64.wrap ((s.size : Int) - (p : Int) - 1) = (s.size : Int) - (p : Int) - 1 := IntWalk.i64_in _ (by omega)
  have g8 : (k : Int) ≤ 8 := by omega
  have g9 : (k : Int) ≤ (s.size : Int) - (p : Int) - 1 := by omega
  have g10 : decide ((s.size : Int) - (p : Int) - 1 < (k : Int)) = false := decide_eq_false (by omega)
  have g11 : decide ((0 : Int) < (k : Int)) = true := decide_eq_true (by omega)
  have g110 : decide (0 < k) = true := decide_eq_true (by omega)
  have g12 : (0 : Int) < (k : Int) := by omega
  have g13 : IntKind.i64.wrap ((p : Int) + 1) = (p : Int) + 1 := IntWalk.i64_in _ (by omega)
  have g14 : (0 : Int) ≤ (p : Int) + 1 := by omega
  have g15 : (p : Int) + 1 < (s.size : Int) := by omega
  have g16 : ((p : Int) + 1).toNat = p + 1 := by omega
  have g17 : (((s[p + 1]).toNat : Int) == 0) = true := by simp [h12]
  clear h1 h8 h9 h11 h12
  go_enter Tryd.func85, Tryd.ntmps85
  go_wp2
  go_quiet (fail)
  go_wp2
  go_quiet (fail)
  go_wp2
  go_quiet (fail)
  go_wp2
  go_quiet (fail)
  go_wp2_with fail
  refine (rfail_new q s p fa 3 _ (HR.out.drewN _) (by omega)).mono ?_; rintro e w1 ⟨rfl, hr, hg⟩
  have HG := Lib.hid hg
  have HR1 := Lib.hid hr
  have d3 := hr.2.cell 3
  simp at d3
  clear hr hg c0 c1 c3
  go_wp2
  go_ret
  exact ⟨rfl, HR1.out, only_then (only_drewN (only_of (Below.refl _ _) _) _) HG.out⟩
theorem retV {a b : Nat} (h : a = b) : Ending.returned (.int .u64 (b : Int)) = .returned (.int .u64 (a : Int)) := by rw [h]
set_option maxHeartbeats 3200000 in
theorem rnum_good0 (q : Nat) (s : ByteArray) (p k : Nat) (fa : Int) (w : World) (h : RR w q s p fa 0) (hs : s.size ≤ 100000) (hp : p < s.size) (hk : (s[p]).toNat = k) (h8 : k = 0) :
    Calls Tryd.prog 85 #[.pointer (some ⟨q, 0, none⟩)] w fun e w' => e = .returned (.int .u64 (dt (s.extract p s.size) (k + 1) : Nat)) ∧ RR w' q s (p + 1 + k) fa 0 ∧ w.grownBy w' (some q) := by
  have HR := Lib.hid h
  obtain ⟨_, h1⟩ := h
  have c0 := h1.cell 0
  have c1 := h1.cell 1
  have c3 := h1.cell 3
  simp at c0 c1 c3
  have hp0 : (0 : Int) ≤ (p : Int) := by omega
  have hp2 : (p : Int) < (s.size : Int) := by omega
  have hp3 : (s.size : Int) ≤ 100000 := by omega
  have e1 : ((p : Int) == (s.size : Int)) = false := by simp; omega
  have q1 : IntKind.i64.wrap ((s.size : Int) - (p : Int)) = (s.size : Int) - (p : Int) := IntWalk.i64_in _ (by omega)
  have q2 : IntKind.i64.wrap ((s.size : Int) - (p : Int) - 1) = (s.size : Int) - (p : Int) - 1 := IntWalk.i64_in _ (by omega)
  have hpe : p + 1 + k ≤ s.size := by omega
  have g8 : (k : Int) ≤ 0 := by omega
  have g9 : (k : Int) ≤ (s.size : Int) - (p : Int) - 1 := by omega
  have g10 : decide ((s.size : Int) - (p : Int) - 1 < (k : Int)) = false := decide_eq_false (by omega)
  have g11 : decide ((0 : Int) < (k : Int)) = false := decide_eq_false (by omega)
  have g110 : decide (0 < k) = false := decide_eq_false (by omega)
  have hk0 : k ≤ 0 := by omega
  clear h1 h8
  go_enter Tryd.func85, Tryd.ntmps85
  go_wp2
  go_quiet (fail)
  go_wp2
  go_quiet (fail)
  go_wp2
  go_quiet (fail)
  go_wp2
  go_quiet (fail)
  go_wp2
  go_loopw [4, 5] (fun v i wr => ∃ (j x n : Nat), 1 ≤ j ∧ j ≤ k + 1 ∧ i = .int .i64 j ∧ v = .int .u64 x ∧ Hid (dt (s.extract p s.size) j = x) ∧ wr = w.drewN n) (fun _ i _ => k + 1 - (intOf i).toNat)
  case atStart => exact ⟨1, 0, _, by omega, by omega, rfl, rfl, by unfold dt; cases (s.extract p s.size).data.toList <;> rfl, rfl⟩
  case round =>
    obtain ⟨j, x, n, hj1, hj2, rfl, rfl, H, rfl⟩ := hrel
    by_cases hlt : j ≤ k
    · omega
    · obtain rfl : j = k + 1 := by omega
      have HA := Lib.hid (rr_at (p' := p + 1 + k) (HR.out.drewN n) hpe)
      have f1 := HR.out.2.frozen 1
      go_wp2
      go_ret
      exact ⟨retV H.out, HA.out.1, only_then (only_drewN (only_of (Below.refl _ _) _) _) HA.out.2⟩
set_option maxHeartbeats 3200000 in
theorem rnum_good1 (q : Nat) (s : ByteArray) (p k : Nat) (fa : Int) (w : World) (h : RR w q s p fa 0) (hs : s.size ≤ 100000) (hp : p < s.size) (hk : (s[p]).toNat = k) (h8 : ¬ 8 < k) (h9 : ¬ s.size < p + 1 + k) (h10 : p + 1 < s.size) (h11 : 0 < k) (h12 : ¬ (s[p + 1]).toNat = 0) :
    Calls Tryd.prog 85 #[.pointer (some ⟨q, 0, none⟩)] w fun e w' => e = .returned (.int .u64 (dt (s.extract p s.size) (k + 1) : Nat)) ∧ RR w' q s (p + 1 + k) fa 0 ∧ w.grownBy w' (some q) := by
  have HR := Lib.hid h
  obtain ⟨_, h1⟩ := h
  have c0 := h1.cell 0
  have c1 := h1.cell 1
  have c3 := h1.cell 3
  simp at c0 c1 c3
  have hp0 : (0 : Int) ≤ (p : Int) := by omega
  have hp2 : (p : Int) < (s.size : Int) := by omega
  have hp3 : (s.size : Int) ≤ 100000 := by omega
  have e1 : ((p : Int) == (s.size : Int)) = false := by simp; omega
  have q1 : IntKind.i64.wrap ((s.size : Int) - (p : Int)) = (s.size : Int) - (p : Int) := IntWalk.i64_in _ (by omega)
  have q2 : IntKind.i64.wrap ((s.size : Int) - (p : Int) - 1) = (s.size : Int) - (p : Int) - 1 := IntWalk.i64_in _ (by omega)
  have hpe : p + 1 + k ≤ s.size := by omega
  have hk8 : k ≤ 8 := by omega
  have g8 : (k : Int) ≤ 8 := by omega
  have g9 : (k : Int) ≤ (s.size : Int) - (p : Int) - 1 := by omega
  have g10 : decide ((s.size : Int) - (p : Int) - 1 < (k : Int)) = false := decide_eq_false (by omega)
  have g11 : decide ((0 : Int) < (k : Int)) = true := decide_eq_true (by omega)
  have g110 : decide (0 < k) = true := decide_eq_true (by omega)
  have g12 : (0 : Int) < (k : Int) := by omega
  have g13 : IntKind.i64.wrap ((p : Int) + 1) = (p : Int) + 1 := IntWalk.i64_in _ (by omega)
  have g14 : (0 : Int) ≤ (p : Int) + 1 := by omega
  have g15 : (p : Int) + 1 < (s.size : Int) := by omega
  have g16 : ((p : Int) + 1).toNat = p + 1 := by omega
  have g17 : (((s[p + 1]).toNat : Int) == 0) = false := by simp; omega
  clear h1 h8 h9 h11 h12
  go_enter Tryd.func85, Tryd.ntmps85
  go_wp2
  go_quiet (fail)
  go_wp2
  go_quiet (fail)
  go_wp2
  go_quiet (fail)
  go_wp2
  go_quiet (fail)
  go_wp2
  go_loopw [4, 5] (fun v i wr => ∃ (j x n : Nat), 1 ≤ j ∧ j ≤ k + 1 ∧ i = .int .i64 j ∧ v = .int .u64 x ∧ Hid (dt (s.extract p s.size) j = x) ∧ wr = w.drewN n) (fun _ i _ => k + 1 - (intOf i).toNat)
  case atStart => exact ⟨1, 0, _, by omega, by omega, rfl, rfl, by unfold dt; cases (s.extract p s.size).data.toList <;> rfl, rfl⟩
  case round =>
    obtain ⟨j, x, n, hj1, hj2, rfl, rfl, H, rfl⟩ := hrel
    by_cases hlt : j ≤ k
    · have hjs : p + j < s.size := by omega
      have hxx := dt_lt (s.extract p s.size) j 7 (by omega)
      rw [H.out] at hxx
      have hx : x ≤ 72057594037927935 := le_pow7 hxx
      have HT := Lib.hid (dx_succ s p j hj1 hjs)
      have hbb := (s[p + j]).toNat_lt
      have hbb2 : (s[p + j]).toNat < 256 := hbb
      obtain ⟨y, hy⟩ : ∃ y, x * 256 + (s[p + j]).toNat = y := ⟨_, rfl⟩
      have HY := Lib.hid hy
      have m1 : IntKind.i64.wrap ((p : Int) + (j : Int)) = (p : Int) + (j : Int) := IntWalk.i64_in _ (by omega)
      have m2 : (0 : Int) ≤ (p : Int) + (j : Int) := by omega
      have m3 : (p : Int) + (j : Int) < (s.size : Int) := by omega
      have m4 : ((p : Int) + (j : Int)).toNat = p + j := by omega
      have m5 : IntKind.u64.wrap ((x : Int) * 256) = (x : Int) * 256 := by rw [IntKind.wrap_u64]; omega
      have m6 : IntKind.u64.wrap ((x : Int) * 256 + ((s[p + j]).toNat : Int)) = (y : Int) := by rw [IntKind.wrap_u64]; omega
      clear hxx hbb hy
      go_wp2
      go_quiet (fail)
      go_wp2
      go_roundw
      case rel => exact ⟨j + 1, y, _, by omega, by omega, by go_num, rfl, by rw [HT.out, H.out]; exact HY.out, rfl⟩
      case measure => simp [intOf]; omega
    · obtain rfl : j = k + 1 := by omega
      have HA := Lib.hid (rr_at (p' := p + 1 + k) (HR.out.drewN n) hpe)
      have f1 := HR.out.2.frozen 1
      go_wp2
      go_ret
      exact ⟨retV H.out, HA.out.1, only_then (only_drewN (only_of (Below.refl _ _) _) _) HA.out.2⟩
theorem rnumr (q : Nat) (s : ByteArray) (p : Nat) (fa fe : Int) (w : World) (hs : s.size ≤ 100000) (h : RR w q s p fa fe) :
    Calls Tryd.prog 85 #[.pointer (some ⟨q, 0, none⟩)] w fun e' w' => e' = .returned (.int .u64 (rdV none s p fe : Int)) ∧ RR w' q s (rdP none s p fe) (rdA none s p fa fe) (rdF none s p fe) ∧ w.grownBy w' (some q) := by
  by_cases hf : fe = 0
  · subst hf
    have bad : ∀ e : Nat, ¬ e = 0 → numAt (rest s p) = (0, 0, e) → Calls Tryd.prog 85 #[.pointer (some ⟨q, 0, none⟩)] w (fun e' w' => e' = .returned (.int .u64 0) ∧ RR w' q s p p e ∧ w.grownBy w' (some q)) →
        Calls Tryd.prog 85 #[.pointer (some ⟨q, 0, none⟩)] w fun e' w' => e' = .returned (.int .u64 (rdV none s p 0 : Int)) ∧ RR w' q s (rdP none s p 0) (rdA none s p fa 0) (rdF none s p 0) ∧ w.grownBy w' (some q) := fun e he hq hc => by
      have hE : rdE none (rest s p) = e := by rw [rdE_field (by rw [hq]; exact he), hq]
      refine hc.mono ?_
      rintro e' w' ⟨rfl, hr, hg⟩
      obtain ⟨g1, g2, g3, g4⟩ := rd_bad (lim := none) (s := s) (p := p) (fa := fa) (by rw [hE]; exact he)
      rw [g1, g2, g3, g4, hE]
      exact ⟨rfl, hr, hg⟩
    have good : ∀ v n : Nat, numAt (rest s p) = (v, n, 0) → Calls Tryd.prog 85 #[.pointer (some ⟨q, 0, none⟩)] w (fun e' w' => e' = .returned (.int .u64 (v : Int)) ∧ RR w' q s (p + n) fa 0 ∧ w.grownBy w' (some q)) →
        Calls Tryd.prog 85 #[.pointer (some ⟨q, 0, none⟩)] w fun e' w' => e' = .returned (.int .u64 (rdV none s p 0 : Int)) ∧ RR w' q s (rdP none s p 0) (rdA none s p fa 0) (rdF none s p 0) ∧ w.grownBy w' (some q) := fun v n hq hc => by
      have hE : rdE none (rest s p) = 0 := rdE_none (by rw [hq])
      refine hc.mono ?_
      rintro e' w' ⟨rfl, hr, hg⟩
      obtain ⟨g1, g2, g3, g4⟩ := rd_good (lim := none) (s := s) (p := p) (fa := fa) hE
      rw [g1, g2, g3, g4, hq]
      exact ⟨rfl, hr, hg⟩
    rcases Nat.lt_or_ge p s.size with hp | hp
    · obtain ⟨k, hk⟩ : ∃ k, (s[p]).toNat = k := ⟨_, rfl⟩
      by_cases h8 : 8 < k
      · exact bad 3 (by omega) (rf_great hp hk h8) (rnum_great q s p k fa w h hs hp hk h8)
      by_cases h9 : s.size < p + 1 + k
      · exact bad 1 (by omega) (rf_short hp hk h8 h9) (rnum_short q s p k fa w h hs hp hk h8 h9)
      by_cases h11 : k = 0
      · refine good _ _ (rf_good hp hk h8 h9 (.inl h11)) ((rnum_good0 q s p k fa w h hs hp hk h11).mono ?_)
        rintro e' w' ⟨rfl, hr, hg⟩
        exact ⟨rfl, by rw [show p + (k + 1) = p + 1 + k by omega]; exact hr, hg⟩
      have h10 : p + 1 < s.size := by omega
      by_cases h12 : (s[p + 1]).toNat = 0
      · exact bad 3 (by omega) (rf_zero h10 hk h8 h9 (by omega) h12) (rnum_zero q s p k fa w h hs hp hk h8 h9 h10 (by omega) h12)
      · refine good _ _ (rf_good hp hk h8 h9 (.inr ⟨h10, h12⟩)) ((rnum_good1 q s p k fa w h hs hp hk h8 h9 h10 (by omega) h12).mono ?_)
        rintro e' w' ⟨rfl, hr, hg⟩
        exact ⟨rfl, by rw [show p + (k + 1) = p + 1 + k by omega]; exact hr, hg⟩
    · have hpe : p = s.size := by have := h.1; omega
      exact bad 1 (by omega) (rf_nil hpe) (rnum_nil q s p fa w h hpe)
  · exact (rnum_had q s p fa fe w h hf).mono (by
      rintro e' w' ⟨rfl, rfl⟩
      obtain ⟨g1, g2, g3, g4⟩ := rd_had (lim := none) (s := s) (p := p) (fa := fa) hf
      rw [g1, g2, g3, g4]
      exact ⟨rfl, h, only_of (Below.refl _ _) _⟩)
end Go.Proofs.YtofpefbnkmeokaaDoor
