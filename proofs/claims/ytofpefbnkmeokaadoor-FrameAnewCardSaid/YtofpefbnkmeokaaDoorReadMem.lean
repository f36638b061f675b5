/- A reader in memory, of the program and of the reference; what keeps it. -/
import Derived.Test.YtofpefbnkmeokaaDoorRead1
import Derived.Test.YtofpefbnkmeokaaDoorBlk
import Derived.Below
import Derived.Laws.OwnMore
import Derived.Deep.Draws
import Derived.Laws.Rows
namespace Go.Proofs.YtofpefbnkmeokaaDoor
open Go.RowKit
theorem only_below {a w w' : World} {row : Option Nat} (h : a.grownBy w row) (hb : Below w.heap.size w w') : a.grownBy w' row :=
  ⟨hb.os.trans h.os, hb.tape.trans h.tape, hb.output.trans h.output, Nat.le_trans h.size hb.size, fun i hi hn => (hb.block i (Nat.lt_of_lt_of_le hi h.size)).trans (h.block i hi hn)⟩
theorem only_of {a w : World} (h : Below a.heap.size a w) (row : Option Nat) : a.grownBy w row := ⟨h.os, h.tape, h.output, h.size, fun i hi _ => h.block i hi⟩
theorem only_set {a w : World} {b : Nat} (h : a.grownBy w (some b)) {o : Nat} (v : Value) : a.grownBy (w.setCell ⟨b, o, none⟩ v) (some b) :=
  ⟨h.os, h.tape, h.output, by simpa [World.setCell] using h.size, fun i hi hne => (Below.heap_setCell w ⟨b, o, none⟩ v i (by rintro rfl; exact hne rfl)).trans (h.block i hi hne)⟩
theorem only_drew {a w : World} {row : Option Nat} (h : a.grownBy w row) : a.grownBy w.drew row := ⟨h.os, h.tape, h.output, h.size, h.block⟩
theorem only_drewN {a w : World} {row : Option Nat} (h : a.grownBy w row) (n : Nat) : a.grownBy (w.drewN n) row := ⟨h.os, h.tape, h.output, h.size, h.block⟩
theorem only_then {a w w' : World} {b : Nat} (h : a.grownBy w (some b)) (k : w.grownBy w' (some b)) : a.grownBy w' (some b) :=
  ⟨k.os.trans h.os, k.tape.trans h.tape, k.output.trans h.output, Nat.le_trans h.size k.size, fun i hi hn => (k.block i (Nat.lt_of_lt_of_le hi h.size) hn).trans (h.block i hi hn)⟩
theorem below_only {B : Nat} {a w w' : World} {b : Nat} (h : Below B a w) (hg : w.grownBy w' (some b)) (hb : B ≤ b) (hB : B ≤ w.heap.size) : Below B a w' :=
  h.grown hg hB (fun k hk => by injection hk with e; omega)
/-- An error value: nothing, or a fault at a place. -/
def EV (w : World) (ev : Value) (fa fe : Int) : Prop :=
  (fe = 0 ∧ fa = 0 ∧ ev = .nilIface) ∨ (¬ fe = 0 ∧ ∃ fb, ev = .iface 40 (.pointer (some ⟨fb, 0, none⟩)) ∧ Blk w fb 42 #[.int .i64 fa, .iface 35 (.int .i64 fe)])
theorem EV.keep {w w' : World} {ev : Value} {fa fe : Int} (h : EV w ev fa fe) (hb : Below w.heap.size w w') : EV w' ev fa fe := by
  rcases h with h | ⟨h, fb, e, hk⟩
  · exact .inl h
  · exact .inr ⟨h, fb, e, hk.keep hb⟩
theorem EV.grown {w w' : World} {ev : Value} {fa fe : Int} (h : EV w ev fa fe) {q : Nat} {t : TypeId} {cs : Array Value} (hg : w.grownBy w' (some q)) (hq : Blk w q t cs) (ht : 42 ≠ t) : EV w' ev fa fe := by
  rcases h with h | ⟨h, fb, e, hk⟩
  · exact .inl h
  · exact .inr ⟨h, fb, e, hk.grown hg (fun e => hk.ne_ hq ht (Option.some.inj e))⟩
/-- Block b is a reader of s, at place p; what is wrong, where. -/
def R (w : World) (b : Nat) (s : ByteArray) (p : Nat) (fa fe : Int) : Prop :=
  p ≤ s.size ∧ ∃ ev, Blk w b 106 #[.string s, .int .i64 p, ev] ∧ EV w ev fa fe
theorem R.keep {w w' : World} {b : Nat} {s : ByteArray} {p : Nat} {fa fe : Int} (h : R w b s p fa fe) (hb : Below w.heap.size w w') : R w' b s p fa fe := by
  obtain ⟨hp, ev, h1, h2⟩ := h
  exact ⟨hp, ev, h1.keep hb, h2.keep hb⟩
theorem R.drew {w : World} {b : Nat} {s : ByteArray} {p : Nat} {fa fe : Int} (h : R w b s p fa fe) : R w.drew b s p fa fe := h
theorem R.drewN {w : World} {b : Nat} {s : ByteArray} {p : Nat} {fa fe : Int} (h : R w b s p fa fe) (n : Nat) : R (w.drewN n) b s p fa fe := h
theorem R.grown {w w' : World} {b : Nat} {s : ByteArray} {p : Nat} {fa fe : Int} (h : R w b s p fa fe) {q : Nat} {t : TypeId} {cs : Array Value} (hg : w.grownBy w' (some q)) (hq : Blk w q t cs) (h1 : 106 ≠ t) (h2 : 42 ≠ t) : R w' b s p fa fe := by
  obtain ⟨hp, ev, k1, k2⟩ := h
  exact ⟨hp, ev, k1.grown hg (fun e => k1.ne_ hq h1 (Option.some.inj e)), k2.grown hg hq h2⟩
theorem R.other {w w' : World} {b q : Nat} {s s' : ByteArray} {p p' : Nat} {fa fe fa' fe' : Int} (h : R w b s p fa fe) (hq : R w q s' p' fa' fe') (hne : b ≠ q) (hg : w.grownBy w' (some q)) : R w' b s p fa fe := by
  obtain ⟨hp, ev, k1, k2⟩ := h
  obtain ⟨_, _, m1, _⟩ := hq
  exact ⟨hp, ev, k1.grown hg (fun e => hne (Option.some.inj e)), k2.grown hg m1 (by decide)⟩
theorem R.lt {w : World} {b : Nat} {s : ByteArray} {p : Nat} {fa fe : Int} (h : R w b s p fa fe) : b < w.heap.size := by obtain ⟨_, _, h1, _⟩ := h; exact h1.lt
theorem R.blk {w : World} {b : Nat} {s : ByteArray} {p : Nat} {fa fe : Int} (h : R w b s p fa fe) : ∃ cs, Blk w b 106 cs := by obtain ⟨_, _, h1, _⟩ := h; exact ⟨_, h1⟩
/-- Block q is a reader of the reference. -/
def RR (w : World) (q : Nat) (s : ByteArray) (p : Nat) (fa fe : Int) : Prop :=
  p ≤ s.size ∧ Blk w q 77 #[.string s, .int .i64 p, .int .i64 fa, .int .i64 fe]
theorem RR.keep {w w' : World} {b : Nat} {s : ByteArray} {p : Nat} {fa fe : Int} (h : RR w b s p fa fe) (hb : Below w.heap.size w w') : RR w' b s p fa fe := ⟨h.1, h.2.keep hb⟩
theorem RR.grown {w w' : World} {b : Nat} {s : ByteArray} {p : Nat} {fa fe : Int} (h : RR w b s p fa fe) {q : Nat} {t : TypeId} {cs : Array Value} (hg : w.grownBy w' (some q)) (hq : Blk w q t cs) (h1 : 77 ≠ t) : RR w' b s p fa fe :=
  ⟨h.1, h.2.grown hg (fun e => h.2.ne_ hq h1 (Option.some.inj e))⟩
theorem RR.lt {w : World} {b : Nat} {s : ByteArray} {p : Nat} {fa fe : Int} (h : RR w b s p fa fe) : b < w.heap.size := h.2.lt
/-- A step of the one keeps the other. -/
theorem R.by_ref {w w' : World} {b q : Nat} {s s' : ByteArray} {p p' : Nat} {fa fe fa' fe' : Int} (h : R w b s p fa fe) (hq : RR w q s' p' fa' fe') (hg : w.grownBy w' (some q)) : R w' b s p fa fe := h.grown hg hq.2 (by decide) (by decide)
theorem RR.by_prog {w w' : World} {b q : Nat} {s s' : ByteArray} {p p' : Nat} {fa fe fa' fe' : Int} (hq : RR w q s' p' fa' fe') (h : R w b s p fa fe) (hg : w.grownBy w' (some b)) : RR w' q s' p' fa' fe' := by
  obtain ⟨cs, hb⟩ := h.blk
  exact hq.grown hg hb (by decide)
/-! ### What a reading comes to. -/
def rest (s : ByteArray) (p : Nat) : List UInt8 := s.data.toList.drop p
def rdE (lim : Option Int) (t : List UInt8) : Nat :=
  if (numAt t).2.2 = 0 then (match lim with | none => 0 | some m => if m < 0 ∨ m < ((numAt t).1 : Int) then 2 else 0) else (numAt t).2.2
def rdV (lim : Option Int) (s : ByteArray) (p : Nat) (fe : Int) : Nat := if fe = 0 ∧ rdE lim (rest s p) = 0 then (numAt (rest s p)).1 else 0
def rdP (lim : Option Int) (s : ByteArray) (p : Nat) (fe : Int) : Nat := if fe = 0 ∧ rdE lim (rest s p) = 0 then p + (numAt (rest s p)).2.1 else p
def rdA (lim : Option Int) (s : ByteArray) (p : Nat) (fa fe : Int) : Int := if fe = 0 ∧ rdE lim (rest s p) ≠ 0 then p else fa
def rdF (lim : Option Int) (s : ByteArray) (p : Nat) (fe : Int) : Int := if fe = 0 then rdE lim (rest s p) else fe
theorem rd_had {lim : Option Int} {s : ByteArray} {p : Nat} {fa fe : Int} (h : ¬ fe = 0) : rdV lim s p fe = 0 ∧ rdP lim s p fe = p ∧ rdA lim s p fa fe = fa ∧ rdF lim s p fe = fe :=
  ⟨if_neg (fun e => h e.1), if_neg (fun e => h e.1), if_neg (fun e => h e.1), if_neg h⟩
theorem rd_bad {lim : Option Int} {s : ByteArray} {p : Nat} {fa : Int} (h : ¬ rdE lim (rest s p) = 0) : rdV lim s p 0 = 0 ∧ rdP lim s p 0 = p ∧ rdA lim s p fa 0 = p ∧ rdF lim s p 0 = rdE lim (rest s p) :=
  ⟨if_neg (fun e => h e.2), if_neg (fun e => h e.2), if_pos ⟨rfl, h⟩, if_pos rfl⟩
theorem rd_good {lim : Option Int} {s : ByteArray} {p : Nat} {fa : Int} (h : rdE lim (rest s p) = 0) : rdV lim s p 0 = (numAt (rest s p)).1 ∧ rdP lim s p 0 = p + (numAt (rest s p)).2.1 ∧ rdA lim s p fa 0 = fa ∧ rdF lim s p 0 = 0 :=
  ⟨if_pos ⟨rfl, h⟩, if_pos ⟨rfl, h⟩, if_neg (fun e => e.2 h), by unfold rdF; rw [if_pos rfl, h]; rfl⟩
theorem rdE_field {lim : Option Int} {t : List UInt8} (h : ¬ (numAt t).2.2 = 0) : rdE lim t = (numAt t).2.2 := if_neg h
theorem rdE_none {t : List UInt8} (h : (numAt t).2.2 = 0) : rdE none t = 0 := if_pos h
theorem rdE_over {m : Int} {t : List UInt8} (h : (numAt t).2.2 = 0) (h2 : m < 0 ∨ m < ((numAt t).1 : Int)) : rdE (some m) t = 2 := by unfold rdE; rw [if_pos h]; exact if_pos h2
theorem rdE_in {m : Int} {t : List UInt8} (h : (numAt t).2.2 = 0) (h2 : ¬ (m < 0 ∨ m < ((numAt t).1 : Int))) : rdE (some m) t = 0 := by unfold rdE; rw [if_pos h]; exact if_neg h2
theorem rest_length (s : ByteArray) (p : Nat) : (rest s p).length = s.size - p := by simp [rest]
theorem rest_data (s : ByteArray) (p : Nat) : (s.extract p s.size).data.toList = rest s p := by
  unfold rest
  rw [ByteArray.data_extract, Array.toList_extract]
  simp [List.extract_eq_take_drop]
  exact List.take_of_length_le (by simp)
theorem good_lt {t : List UInt8} (h : (numAt t).2.2 = 0) : (numAt t).1 < 256 ^ 8 ∧ (numAt t).2.1 ≤ t.length ∧ (numAt t).2.1 ≤ 9 := by
  obtain ⟨k, r, rfl, h1, h2, _, e⟩ := numAt_ok h
  rw [e]
  refine ⟨?_, by simp; omega, by show k.toNat + 1 ≤ 9; omega⟩
  have := deN_lt (r.take k.toNat) 0
  rw [Nat.zero_add, Nat.one_mul] at this
  exact Nat.lt_of_lt_of_le this (Nat.pow_le_pow_right (by omega) (by simp; omega))
theorem rdE_zero {lim : Option Int} {t : List UInt8} (h : rdE lim t = 0) : (numAt t).2.2 = 0 := by
  rcases Nat.eq_zero_or_pos (numAt t).2.2 with h0 | h0
  · exact h0
  · rw [rdE_field (by omega)] at h; exact h
theorem rdP_le {lim : Option Int} {s : ByteArray} {p : Nat} {fe : Int} (h : p ≤ s.size) : rdP lim s p fe ≤ s.size := by
  unfold rdP
  split
  · rename_i h2
    have := (good_lt (rdE_zero h2.2)).2.1
    rw [rest_length] at this
    omega
  · exact h
theorem rdV_lt (lim : Option Int) (s : ByteArray) (p : Nat) (fe : Int) : rdV lim s p fe ≤ 18446744073709551615 := by
  unfold rdV
  split
  · rename_i h2
    have := (good_lt (rdE_zero h2.2)).1
    have e : (256 : Nat) ^ 8 = 18446744073709551616 := by decide
    rw [e] at this
    omega
  · omega
theorem rdV_in {m : Int} (s : ByteArray) (p : Nat) (fe : Int) : rdV (some m) s p fe = 0 ∨ (rdV (some m) s p fe : Int) ≤ m := by
  unfold rdV
  split
  · rename_i h2
    by_cases h3 : m < 0 ∨ m < ((numAt (rest s p)).1 : Int)
    · have := rdE_over (rdE_zero h2.2) h3; rw [this] at h2; omega
    · right; omega
  · exact .inl rfl
end Go.Proofs.YtofpefbnkmeokaaDoor
