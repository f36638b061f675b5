/- Contracts of octet's reader: next, Num and Int. -/
import Derived.Test.YtofpefbnkmeokaaDoorRead2
namespace Go.Proofs.YtofpefbnkmeokaaDoor
open Go.RowKit
theorem ev_nil {w : World} {ev : Value} {fa : Int} (h : EV w ev fa 0) : fa = 0 ∧ ev = .nilIface := by
  rcases h with h | ⟨h, _⟩
  · exact h.2
  · exact absurd rfl h
theorem ev_some {w : World} {ev : Value} {fa fe : Int} (h : EV w ev fa fe) (hf : ¬ fe = 0) : ∃ fb, ev = .iface 40 (.pointer (some ⟨fb, 0, none⟩)) := by
  rcases h with h | ⟨_, fb, e, _⟩
  · exact absurd h.1 hf
  · exact ⟨fb, e⟩
/-- A reader one number further. -/
theorem r_step {w : World} {b : Nat} {s : ByteArray} {p p' : Nat} (h : R w b s p 0 0) (hp : p' ≤ s.size) : R (w.setCell ⟨b, 1, none⟩ (.int .i64 p')) b s p' 0 0 := by
  obtain ⟨_, ev, h1, h2⟩ := h
  obtain ⟨-, rfl⟩ := ev_nil h2
  exact ⟨hp, .nilIface, h1.set_ 1 _, .inl ⟨rfl, rfl, rfl⟩⟩
theorem r_back {w : World} {b : Nat} {s : ByteArray} {p p' : Nat} {fa fe : Int} (h : R w b s p fa fe) (hp : p' ≤ s.size) : R (w.setCell ⟨b, 1, none⟩ (.int .i64 p')) b s p' fa fe := by
  obtain ⟨_, ev, h1, h2⟩ := h
  refine ⟨hp, ev, h1.set_ 1 _, ?_⟩
  rcases h2 with h2 | ⟨h2, fb, e, hk⟩
  · exact .inl h2
  · exact .inr ⟨h2, fb, e, hk.far (hk.ne_ h1 (by decide)) _⟩
theorem num_got (s : ByteArray) (p : Nat) (W : World) (hs : s.size ≤ 100000) {q : Nat × Nat × Nat} (hq : numAt (rest s p) = q) :
    Calls Tryd.prog 97 #[.string (s.extract p s.size)] W fun e w' => e = .returned (.tuple #[.int .u64 (q.1 : Int), .int .i64 (q.2.1 : Int), .int .i64 (q.2.2 : Int)]) ∧ Below W.heap.size W w' :=
  (number_any (s.extract p s.size) W (by rw [ByteArray.size_extract]; omega)).mono (by rintro e w' ⟨rfl, rfl⟩; rw [rest_data, hq]; exact ⟨rfl, Below.refl _ _⟩)
set_option maxHeartbeats 800000 in
theorem next_num_had (b : Nat) (s : ByteArray) (p : Nat) (fa fe : Int) (w : World) (h : R w b s p fa fe) (hf : ¬ fe = 0) :
    Calls Tryd.prog 77 #[.pointer (some ⟨b, 0, none⟩), .func (Fn.func 103) #[] #[]] w fun e w' => e = .returned (.int .u64 0) ∧ w = w' := by
  obtain ⟨hp, ev, h1, h2⟩ := h
  obtain ⟨fb, rfl⟩ := ev_some h2 hf
  have c2 := h1.cell 2
  simp at c2
  clear h1 h2 hf
  go_enter Tryd.func77, Tryd.ntmps77
  go_wp2
  go_ret
  exact ⟨rfl, rfl⟩
set_option maxHeartbeats 1600000 in
theorem next_num_bad (b : Nat) (s : ByteArray) (p : Nat) (w : World) (e : Nat) (hs : s.size ≤ 100000) (h : R w b s p 0 0) (hq : numAt (rest s p) = (0, 0, e)) (he : ¬ e = 0) :
    Calls Tryd.prog 77 #[.pointer (some ⟨b, 0, none⟩), .func (Fn.func 103) #[] #[]] w fun e' w' => e' = .returned (.int .u64 0) ∧ R w' b s p p e ∧ w.grownBy w' (some b) := by
  have C : ∀ W : World, Calls Tryd.prog 97 #[.string (s.extract p s.size)] W fun e' w' => e' = .returned (.tuple #[.int .u64 0, .int .i64 0, .int .i64 (e : Int)]) ∧ Below W.heap.size W w' := fun W => num_got s p W hs hq
  have D := Lib.hid C
  clear C hq
  have he1 : ((e : Int) == 0) = false := by simp; omega
  have he2 : ((e : Int) != 0) = true := by simp; omega
  have he3 : ¬ (e : Int) = 0 := by omega
  have HR := Lib.hid h
  obtain ⟨hp, ev, h1, h2⟩ := h
  obtain ⟨-, rfl⟩ := ev_nil h2
  have c0 := h1.cell 0
  have c1 := h1.cell 1
  have c2 := h1.cell 2
  simp at c0 c1 c2
  have hp2 : (p : Int) ≤ (s.size : Int) := by omega
  have hp3 : (0 : Int) ≤ (p : Int) := by omega
  have k0 := cell_regrown c0
  have k1 := cell_regrown c1
  clear h1 h2
  go_enter Tryd.func77, Tryd.ntmps77
  go_wp2
  refine wp_region_quiet_below (by kernel_rfl) (by kernel_rfl) ?_
  repeat (first | go_big_quiet_step ((exact Calls.regrown_of (D.out _))) | quiet_step ((exact Calls.regrown_of (D.out _))))
  refine wpQuiet_nil ?_
  intro _ hw'
  obtain ⟨⟨dq, osq⟩, hw''⟩ := hw'
  subst hw''
  have hb := below_regrown w dq osq
  have HR2 := Lib.hid (HR.out.keep hb)
  have HB := Lib.hid hb
  have d1 := k1 dq osq
  clear k0 k1 c0 c1 c2 hb
  generalize Sort.grow (redrawn w dq) osq = W at *
  go_wp2_with fail
  refine (fail_new b s p e _ HR2.out he3).mono ?_; rintro e' w2 ⟨rfl, hr2, hg2⟩
  go_wp2
  go_ret
  exact ⟨rfl, hr2, only_then (only_of HB.out _) hg2⟩
set_option maxHeartbeats 1600000 in
theorem next_num_good (b : Nat) (s : ByteArray) (p : Nat) (w : World) (v n : Nat) (hs : s.size ≤ 100000) (h : R w b s p 0 0) (hq : numAt (rest s p) = (v, n, 0)) (hn : p + n ≤ s.size) :
    Calls Tryd.prog 77 #[.pointer (some ⟨b, 0, none⟩), .func (Fn.func 103) #[] #[]] w fun e' w' => e' = .returned (.int .u64 (v : Int)) ∧ R w' b s (p + n) 0 0 ∧ w.grownBy w' (some b) := by
  have C : ∀ W : World, Calls Tryd.prog 97 #[.string (s.extract p s.size)] W fun e' w' => e' = .returned (.tuple #[.int .u64 (v : Int), .int .i64 (n : Int), .int .i64 0]) ∧ Below W.heap.size W w' := fun W => num_got s p W hs hq
  have D := Lib.hid C
  have E := Lib.hid (fun W => every_any (v : Int) W)
  clear C hq
  have HR := Lib.hid h
  obtain ⟨hp, ev, h1, h2⟩ := h
  obtain ⟨-, rfl⟩ := ev_nil h2
  have c0 := h1.cell 0
  have c1 := h1.cell 1
  have c2 := h1.cell 2
  simp at c0 c1 c2
  have hp2 : (p : Int) ≤ (s.size : Int) := by omega
  have hp3 : (0 : Int) ≤ (p : Int) := by omega
  have k0 := cell_regrown c0
  have k1 := cell_regrown c1
  clear h1 h2
  go_enter Tryd.func77, Tryd.ntmps77
  go_wp2
  refine wp_region_quiet_below (by kernel_rfl) (by kernel_rfl) ?_
  repeat (first | go_big_quiet_step ((exact Calls.regrown_of (D.out _))) | quiet_step ((exact Calls.regrown_of (D.out _))))
  refine wpQuiet_nil ?_
  intro _ hw'
  obtain ⟨⟨dq, osq⟩, hw''⟩ := hw'
  subst hw''
  have hb := below_regrown w dq osq
  have HR2 := Lib.hid (HR.out.keep hb)
  have HB := Lib.hid hb
  have d1 := k1 dq osq
  clear k0 k1 c0 c1 c2 hb
  generalize Sort.grow (redrawn w dq) osq = W at *
  obtain ⟨_, ev', q1, q2⟩ := HR2.out
  have f1 := q1.frozen 1
  clear q1 q2
  have HS := Lib.hid (r_step (p' := p + n) HR2.out hn)
  go_wp2_with fail
  refine (E.out _).mono ?_; rintro e' w2 ⟨rfl, rfl⟩
  go_wp2
  go_ret
  exact ⟨rfl, HS.out, only_set (only_of HB.out _) _⟩
theorem next_num (b : Nat) (s : ByteArray) (p : Nat) (fa fe : Int) (w : World) (hs : s.size ≤ 100000) (h : R w b s p fa fe) :
    Calls Tryd.prog 77 #[.pointer (some ⟨b, 0, none⟩), .func (Fn.func 103) #[] #[]] w fun e' w' => e' = .returned (.int .u64 (rdV none s p fe : Int)) ∧ R w' b s (rdP none s p fe) (rdA none s p fa fe) (rdF none s p fe) ∧ w.grownBy w' (some b) := by
  by_cases hf : fe = 0
  · subst hf
    obtain rfl : fa = 0 := by obtain ⟨_, _, _, h2⟩ := h; exact (ev_nil h2).1
    obtain ⟨v, n, e, hq⟩ : ∃ v n e, numAt (rest s p) = (v, n, e) := ⟨_, _, _, rfl⟩
    by_cases he : e = 0
    · subst he
      have h0 : (numAt (rest s p)).2.2 = 0 := by rw [hq]
      have hl := (good_lt h0).2.1
      rw [hq, rest_length] at hl
      have hl2 : p + n ≤ s.size := by have := h.1; have : n ≤ s.size - p := hl; omega
      have hE : rdE none (rest s p) = 0 := rdE_none h0
      exact (next_num_good b s p w v n hs h hq hl2).mono (by
        rintro e' w' ⟨rfl, hr, hg⟩
        obtain ⟨g1, g2, g3, g4⟩ := rd_good (lim := none) (s := s) (p := p) (fa := 0) hE
        rw [g1, g2, g3, g4, hq]
        exact ⟨rfl, hr, hg⟩)
    · have hb := numAt_bad (t := rest s p) (by rw [hq]; exact he)
      rw [hq] at hb
      obtain ⟨hv, hn, _⟩ := hb
      obtain rfl : v = 0 := hv
      obtain rfl : n = 0 := hn
      have hE : rdE none (rest s p) = e := by rw [rdE_field (by rw [hq]; exact he), hq]
      exact (next_num_bad b s p w e hs h hq he).mono (by
        rintro e' w' ⟨rfl, hr, hg⟩
        obtain ⟨g1, g2, g3, g4⟩ := rd_bad (lim := none) (s := s) (p := p) (fa := 0) (by rw [hE]; exact he)
        rw [g1, g2, g3, g4, hE]
        exact ⟨rfl, hr, hg⟩)
  · exact (next_num_had b s p fa fe w h hf).mono (by
      rintro e' w' ⟨rfl, rfl⟩
      obtain ⟨g1, g2, g3, g4⟩ := rd_had (lim := none) (s := s) (p := p) (fa := fa) hf
      rw [g1, g2, g3, g4]
      exact ⟨rfl, h, only_of (Below.refl _ _) _⟩)
theorem onumr (b : Nat) (s : ByteArray) (p : Nat) (fa fe : Int) (w : World) (hs : s.size ≤ 100000) (h : R w b s p fa fe) :
    Calls Tryd.prog 92 #[.pointer (some ⟨b, 0, none⟩)] w fun e' w' => e' = .returned (.int .u64 (rdV none s p fe : Int)) ∧ R w' b s (rdP none s p fe) (rdA none s p fa fe) (rdF none s p fe) ∧ w.grownBy w' (some b) := by
  have D := Lib.hid (next_num b s p fa fe w hs h)
  clear h
  go_enter Tryd.func92, Tryd.ntmps92
  go_wp2_with fail
  refine D.out.mono ?_; rintro e' w1 ⟨rfl, hr, hg⟩
  go_wp2
  go_ret
  exact ⟨rfl, hr, hg⟩
set_option maxHeartbeats 800000 in
theorem next_int_had (b : Nat) (s : ByteArray) (p : Nat) (fa fe : Int) (m : Int) (w : World) (h : R w b s p fa fe) (hf : ¬ fe = 0) :
    Calls Tryd.prog 77 #[.pointer (some ⟨b, 0, none⟩), .func (Fn.func 78) #[.int .i64 m] #[]] w fun e w' => e = .returned (.int .u64 0) ∧ w = w' := by
  obtain ⟨hp, ev, h1, h2⟩ := h
  obtain ⟨fb, rfl⟩ := ev_some h2 hf
  have c2 := h1.cell 2
  simp at c2
  clear h1 h2 hf
  go_enter Tryd.func77, Tryd.ntmps77
  go_wp2
  go_ret
  exact ⟨rfl, rfl⟩
set_option maxHeartbeats 1600000 in
theorem next_int_bad (b : Nat) (s : ByteArray) (p : Nat) (m : Int) (w : World) (e : Nat) (hs : s.size ≤ 100000) (h : R w b s p 0 0) (hq : numAt (rest s p) = (0, 0, e)) (he : ¬ e = 0) :
    Calls Tryd.prog 77 #[.pointer (some ⟨b, 0, none⟩), .func (Fn.func 78) #[.int .i64 m] #[]] w fun e' w' => e' = .returned (.int .u64 0) ∧ R w' b s p p e ∧ w.grownBy w' (some b) := by
  have C : ∀ W : World, Calls Tryd.prog 97 #[.string (s.extract p s.size)] W fun e' w' => e' = .returned (.tuple #[.int .u64 0, .int .i64 0, .int .i64 (e : Int)]) ∧ Below W.heap.size W w' := fun W => num_got s p W hs hq
  have D := Lib.hid C
  clear C hq
  have he1 : ((e : Int) == 0) = false := by simp; omega
  have he2 : ((e : Int) != 0) = true := by simp; omega
  have he3 : ¬ (e : Int) = 0 := by omega
  have HR := Lib.hid h
  obtain ⟨hp, ev, h1, h2⟩ := h
  obtain ⟨-, rfl⟩ := ev_nil h2
  have c0 := h1.cell 0
  have c1 := h1.cell 1
  have c2 := h1.cell 2
  simp at c0 c1 c2
  have hp2 : (p : Int) ≤ (s.size : Int) := by omega
  have hp3 : (0 : Int) ≤ (p : Int) := by omega
  have k0 := cell_regrown c0
  have k1 := cell_regrown c1
  clear h1 h2
  go_enter Tryd.func77, Tryd.ntmps77
  go_wp2
  refine wp_region_quiet_below (by kernel_rfl) (by kernel_rfl) ?_
  repeat (first | go_big_quiet_step ((exact Calls.regrown_of (D.out _))) | quiet_step ((exact Calls.regrown_of (D.out _))))
  refine wpQuiet_nil ?_
  intro _ hw'
  obtain ⟨⟨dq, osq⟩, hw''⟩ := hw'
  subst hw''
  have hb := below_regrown w dq osq
  have HR2 := Lib.hid (HR.out.keep hb)
  have HB := Lib.hid hb
  have d1 := k1 dq osq
  clear k0 k1 c0 c1 c2 hb
  generalize Sort.grow (redrawn w dq) osq = W at *
  go_wp2_with fail
  refine (fail_new b s p e _ HR2.out he3).mono ?_; rintro e' w2 ⟨rfl, hr2, hg2⟩
  go_wp2
  go_ret
  exact ⟨rfl, hr2, only_then (only_of HB.out _) hg2⟩
set_option maxHeartbeats 1600000 in
theorem next_int_over (b : Nat) (s : ByteArray) (p : Nat) (m : Int) (w : World) (v n : Nat) (hs : s.size ≤ 100000) (h : R w b s p 0 0) (hq : numAt (rest s p) = (v, n, 0)) (hm : m ≤ 9223372036854775807) (ho : m < 0 ∨ m < (v : Int)) :
    Calls Tryd.prog 77 #[.pointer (some ⟨b, 0, none⟩), .func (Fn.func 78) #[.int .i64 m] #[]] w fun e' w' => e' = .returned (.int .u64 0) ∧ R w' b s p p 2 ∧ w.grownBy w' (some b) := by
  have C : ∀ W : World, Calls Tryd.prog 97 #[.string (s.extract p s.size)] W fun e' w' => e' = .returned (.tuple #[.int .u64 (v : Int), .int .i64 (n : Int), .int .i64 0]) ∧ Below W.heap.size W w' := fun W => num_got s p W hs hq
  have D := Lib.hid C
  have E := Lib.hid (fun W => right_over m v W hm ho)
  clear C hq ho
  have HR := Lib.hid h
  obtain ⟨hp, ev, h1, h2⟩ := h
  obtain ⟨-, rfl⟩ := ev_nil h2
  have c0 := h1.cell 0
  have c1 := h1.cell 1
  have c2 := h1.cell 2
  simp at c0 c1 c2
  have hp2 : (p : Int) ≤ (s.size : Int) := by omega
  have hp3 : (0 : Int) ≤ (p : Int) := by omega
  have k0 := cell_regrown c0
  have k1 := cell_regrown c1
  clear h1 h2
  go_enter Tryd.func77, Tryd.ntmps77
  go_wp2
  refine wp_region_quiet_below (by kernel_rfl) (by kernel_rfl) ?_
  repeat (first | go_big_quiet_step ((exact Calls.regrown_of (D.out _))) | quiet_step ((exact Calls.regrown_of (D.out _))))
  refine wpQuiet_nil ?_
  intro _ hw'
  obtain ⟨⟨dq, osq⟩, hw''⟩ := hw'
  subst hw''
  have hb := below_regrown w dq osq
  have HR2 := Lib.hid (HR.out.keep hb)
  have HB := Lib.hid hb
  have d1 := k1 dq osq
  clear k0 k1 c0 c1 c2 hb
  generalize Sort.grow (redrawn w dq) osq = W at *
  go_wp2_with fail
  refine (E.out _).mono ?_; rintro e' w2 ⟨rfl, rfl⟩
  go_wp2_with fail
  refine (fail_new b s p 2 _ HR2.out (by omega)).mono ?_; rintro e' w2 ⟨rfl, hr2, hg2⟩
  go_wp2
  go_ret
  exact ⟨rfl, hr2, only_then (only_of HB.out _) hg2⟩
set_option maxHeartbeats 1600000 in
theorem next_int_good (b : Nat) (s : ByteArray) (p : Nat) (m : Int) (w : World) (v n : Nat) (hs : s.size ≤ 100000) (h : R w b s p 0 0) (hq : numAt (rest s p) = (v, n, 0)) (hn : p + n ≤ s.size) (hm : m ≤ 9223372036854775807) (ho : ¬ (m < 0 ∨ m < (v : Int))) :
    Calls Tryd.prog 77 #[.pointer (some ⟨b, 0, none⟩), .func (Fn.func 78) #[.int .i64 m] #[]] w fun e' w' => e' = .returned (.int .u64 (v : Int)) ∧ R w' b s (p + n) 0 0 ∧ w.grownBy w' (some b) := by
  have C : ∀ W : World, Calls Tryd.prog 97 #[.string (s.extract p s.size)] W fun e' w' => e' = .returned (.tuple #[.int .u64 (v : Int), .int .i64 (n : Int), .int .i64 0]) ∧ Below W.heap.size W w' := fun W => num_got s p W hs hq
  have D := Lib.hid C
  have E := Lib.hid (fun W => right_in m v W hm ho)
  clear C hq ho
  have HR := Lib.hid h
  obtain ⟨hp, ev, h1, h2⟩ := h
  obtain ⟨-, rfl⟩ := ev_nil h2
  have c0 := h1.cell 0
  have c1 := h1.cell 1
  have c2 := h1.cell 2
  simp at c0 c1 c2
  have hp2 : (p : Int) ≤ (s.size : Int) := by omega
  have hp3 : (0 : Int) ≤ (p : Int) := by omega
  have k0 := cell_regrown c0
  have k1 := cell_regrown c1
  clear h1 h2
  go_enter Tryd.func77, Tryd.ntmps77
  go_wp2
  refine wp_region_quiet_below (by kernel_rfl) (by kernel_rfl) ?_
  repeat (first | go_big_quiet_step ((exact Calls.regrown_of (D.out _))) | quiet_step ((exact Calls.regrown_of (D.out _))))
  refine wpQuiet_nil ?_
  intro _ hw'
  obtain ⟨⟨dq, osq⟩, hw''⟩ := hw'
  subst hw''
  have hb := below_regrown w dq osq
  have HR2 := Lib.hid (HR.out.keep hb)
  have HB := Lib.hid hb
  have d1 := k1 dq osq
  clear k0 k1 c0 c1 c2 hb
  generalize Sort.grow (redrawn w dq) osq = W at *
  obtain ⟨_, ev', q1, q2⟩ := HR2.out
  have f1 := q1.frozen 1
  clear q1 q2
  have HS := Lib.hid (r_step (p' := p + n) HR2.out hn)
  go_wp2_with fail
  refine (E.out _).mono ?_; rintro e' w2 ⟨rfl, rfl⟩
  go_wp2
  go_ret
  exact ⟨rfl, HS.out, only_set (only_of HB.out _) _⟩
theorem next_int (b : Nat) (s : ByteArray) (p : Nat) (fa fe : Int) (m : Int) (w : World) (hs : s.size ≤ 100000) (h : R w b s p fa fe) (hm : m ≤ 9223372036854775807) :
    Calls Tryd.prog 77 #[.pointer (some ⟨b, 0, none⟩), .func (Fn.func 78) #[.int .i64 m] #[]] w fun e' w' => e' = .returned (.int .u64 (rdV (some m) s p fe : Int)) ∧ R w' b s (rdP (some m) s p fe) (rdA (some m) s p fa fe) (rdF (some m) s p fe) ∧ w.grownBy w' (some b) := by
  by_cases hf : fe = 0
  · subst hf
    obtain rfl : fa = 0 := by obtain ⟨_, _, _, h2⟩ := h; exact (ev_nil h2).1
    obtain ⟨v, n, e, hq⟩ : ∃ v n e, numAt (rest s p) = (v, n, e) := ⟨_, _, _, rfl⟩
    by_cases he : e = 0
    · subst he
      have h0 : (numAt (rest s p)).2.2 = 0 := by rw [hq]
      have hl := (good_lt h0).2.1
      rw [hq, rest_length] at hl
      have hl2 : p + n ≤ s.size := by have := h.1; have : n ≤ s.size - p := hl; omega
      by_cases ho : m < 0 ∨ m < (v : Int)
      · have hE : rdE (some m) (rest s p) = 2 := rdE_over h0 (by rw [hq]; exact ho)
        exact (next_int_over b s p m w v n hs h hq hm ho).mono (by
          rintro e' w' ⟨rfl, hr, hg⟩
          obtain ⟨g1, g2, g3, g4⟩ := rd_bad (lim := (some m)) (s := s) (p := p) (fa := 0) (by rw [hE]; omega)
          rw [g1, g2, g3, g4, hE]
          exact ⟨rfl, hr, hg⟩)
      · have hE : rdE (some m) (rest s p) = 0 := rdE_in h0 (by rw [hq]; exact ho)
        exact (next_int_good b s p m w v n hs h hq hl2 hm ho).mono (by
          rintro e' w' ⟨rfl, hr, hg⟩
          obtain ⟨g1, g2, g3, g4⟩ := rd_good (lim := (some m)) (s := s) (p := p) (fa := 0) hE
          rw [g1, g2, g3, g4, hq]
          exact ⟨rfl, hr, hg⟩)
    · have hb := numAt_bad (t := rest s p) (by rw [hq]; exact he)
      rw [hq] at hb
      obtain ⟨hv, hn, _⟩ := hb
      obtain rfl : v = 0 := hv
      obtain rfl : n = 0 := hn
      have hE : rdE (some m) (rest s p) = e := by rw [rdE_field (by rw [hq]; exact he), hq]
      exact (next_int_bad b s p m w e hs h hq he).mono (by
        rintro e' w' ⟨rfl, hr, hg⟩
        obtain ⟨g1, g2, g3, g4⟩ := rd_bad (lim := (some m)) (s := s) (p := p) (fa := 0) (by rw [hE]; exact he)
        rw [g1, g2, g3, g4, hE]
        exact ⟨rfl, hr, hg⟩)
  · exact (next_int_had b s p fa fe m w h hf).mono (by
      rintro e' w' ⟨rfl, rfl⟩
      obtain ⟨g1, g2, g3, g4⟩ := rd_had (lim := (some m)) (s := s) (p := p) (fa := fa) hf
      rw [g1, g2, g3, g4]
      exact ⟨rfl, h, only_of (Below.refl _ _) _⟩)
theorem ointr (b : Nat) (s : ByteArray) (p : Nat) (fa fe m : Int) (w : World) (hs : s.size ≤ 100000) (h : R w b s p fa fe) (hm : m ≤ 9223372036854775807) :
    Calls Tryd.prog 42 #[.pointer (some ⟨b, 0, none⟩), .int .i64 m] w fun e' w' => e' = .returned (.int .i64 (rdV (some m) s p fe : Int)) ∧ R w' b s (rdP (some m) s p fe) (rdA (some m) s p fa fe) (rdF (some m) s p fe) ∧ w.grownBy w' (some b) := by
  have hmf : ∀ (fn : Fn) (first cap : Array Value) (w : World), (Instr.makeFunc fn first cap).run Tryd.prog w = .ok (.func fn first cap) w := fun _ _ _ _ => rfl
  have D := Lib.hid (next_int b s p fa fe m w hs h hm)
  have hv := rdV_in (m := m) s p fe
  obtain ⟨v, hv2⟩ : ∃ v, rdV (some m) s p fe = v := ⟨_, rfl⟩
  rw [hv2] at D hv ⊢
  have hv3 : (v : Int) ≤ 9223372036854775807 := by omega
  clear h hv hv2
  go_enter Tryd.func42, Tryd.ntmps42
  go_wp2_with fail
  refine D.out.mono ?_; rintro e' w1 ⟨rfl, hr, hg⟩
  go_wp2
  go_ret
  exact ⟨rfl, hr, hg⟩
end Go.Proofs.YtofpefbnkmeokaaDoor
