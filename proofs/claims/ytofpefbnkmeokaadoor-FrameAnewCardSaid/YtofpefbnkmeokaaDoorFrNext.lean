/- Contracts of frame.Next and of the reference's. -/
import Derived.Test.YtofpefbnkmeokaaDoorFrameW
import Derived.Test.YtofpefbnkmeokaaDoorFail
import Derived.Test.YtofpefbnkmeokaaDoorSum2
import Derived.Test.YtofpefbnkmeokaaDoorSeen
namespace Go.Proofs.YtofpefbnkmeokaaDoor
open Go.RowKit
set_option linter.unusedVariables false
/-! ### What Next comes to, in letters: the kind read (v, f1), the load read (p2, a2, f2). -/
def fnE (s : ByteArray) (v : Nat) (f1 : Int) (p2 : Nat) (f2 : Int) : Int :=
  if f1 = 0 ∧ v = 0 then 5 else if ¬ f2 = 0 then f2 else if s.size < p2 + 4 then 1 else if endsB (s.extract 0 (p2 + 4)) = true then 0 else 13
def fnA (s : ByteArray) (v : Nat) (f1 : Int) (p2 : Nat) (a2 f2 : Int) : Int :=
  if f1 = 0 ∧ v = 0 then 0 else if ¬ f2 = 0 then a2 else if fnE s v f1 p2 f2 = 0 then 0 else (p2 : Int)
def fnN (s : ByteArray) (v : Nat) (f1 : Int) (p2 : Nat) (f2 : Int) : Nat := if fnE s v f1 p2 f2 = 0 then p2 + 4 else 0
def fnK (s : ByteArray) (v : Nat) (f1 : Int) (p2 : Nat) (f2 : Int) : Nat := if fnE s v f1 p2 f2 = 0 then v else 0
def fnL (s : ByteArray) (v : Nat) (f1 : Int) (l : ByteArray) (p2 : Nat) (f2 : Int) : ByteArray := if fnE s v f1 p2 f2 = 0 then l else ⟨#[]⟩
section
variable {s l : ByteArray} {v p2 : Nat} {f1 a2 f2 : Int}
def FnAll (s l : ByteArray) (v p2 : Nat) (f1 a2 f2 : Int) (e a : Int) (n k : Nat) (x : ByteArray) : Prop :=
  fnE s v f1 p2 f2 = e ∧ fnA s v f1 p2 a2 f2 = a ∧ fnN s v f1 p2 f2 = n ∧ fnK s v f1 p2 f2 = k ∧ fnL s v f1 l p2 f2 = x
theorem fn_kind : FnAll s l 0 p2 0 a2 f2 5 0 0 0 ⟨#[]⟩ := by
  have e : fnE s 0 0 p2 f2 = 5 := if_pos ⟨rfl, rfl⟩
  exact ⟨e, if_pos ⟨rfl, rfl⟩, by unfold fnN; rw [e]; rfl, by unfold fnK; rw [e]; rfl, by unfold fnL; rw [e]; rfl⟩
theorem fn_bad (h1 : ¬ (f1 = 0 ∧ v = 0)) (h2 : ¬ f2 = 0) : FnAll s l v p2 f1 a2 f2 f2 a2 0 0 ⟨#[]⟩ := by
  have e : fnE s v f1 p2 f2 = f2 := by unfold fnE; rw [if_neg h1, if_pos h2]
  exact ⟨e, by unfold fnA; rw [if_neg h1, if_pos h2], by unfold fnN; rw [e, if_neg h2], by unfold fnK; rw [e, if_neg h2], by unfold fnL; rw [e, if_neg h2]⟩
theorem fn_short (h1 : ¬ (f1 = 0 ∧ v = 0)) (h3 : s.size < p2 + 4) : FnAll s l v p2 f1 a2 0 1 p2 0 0 ⟨#[]⟩ := by
  have e : fnE s v f1 p2 0 = 1 := by unfold fnE; rw [if_neg h1, if_neg (by omega), if_pos h3]
  exact ⟨e, by unfold fnA; rw [if_neg h1, if_neg (by omega), e]; rfl, by unfold fnN; rw [e]; rfl, by unfold fnK; rw [e]; rfl, by unfold fnL; rw [e]; rfl⟩
theorem fn_sum (h1 : ¬ (f1 = 0 ∧ v = 0)) (h3 : ¬ s.size < p2 + 4) (h4 : endsB (s.extract 0 (p2 + 4)) = false) : FnAll s l v p2 f1 a2 0 13 p2 0 0 ⟨#[]⟩ := by
  have e : fnE s v f1 p2 0 = 13 := by unfold fnE; rw [if_neg h1, if_neg (by omega), if_neg h3, if_neg (by rw [h4]; decide)]
  exact ⟨e, by unfold fnA; rw [if_neg h1, if_neg (by omega), e]; rfl, by unfold fnN; rw [e]; rfl, by unfold fnK; rw [e]; rfl, by unfold fnL; rw [e]; rfl⟩
theorem fn_ok (h1 : ¬ (f1 = 0 ∧ v = 0)) (h3 : ¬ s.size < p2 + 4) (h4 : endsB (s.extract 0 (p2 + 4)) = true) : FnAll s l v p2 f1 a2 0 0 0 (p2 + 4) v l := by
  have e : fnE s v f1 p2 0 = 0 := by unfold fnE; rw [if_neg h1, if_neg (by omega), if_neg h3, if_pos h4]
  exact ⟨e, by unfold fnA; rw [if_neg h1, if_neg (by omega), e]; rfl, by unfold fnN; rw [e]; rfl, by unfold fnK; rw [e]; rfl, by unfold fnL; rw [e]; rfl⟩
end
/-- What the call leaves. -/
def NxP (s l : ByteArray) (v p2 : Nat) (f1 a2 f2 : Int) (w : World) (e : Ending) (w' : World) : Prop :=
  ∃ ev, e = .returned (.tuple #[.agg #[.int .i64 (fnK s v f1 p2 f2 : Int), .string (fnL s v f1 l p2 f2)], .int .i64 (fnN s v f1 p2 f2 : Int), ev]) ∧ EV w' ev (fnA s v f1 p2 a2 f2) (fnE s v f1 p2 f2) ∧ Below w.heap.size w w'
theorem nxp {s l : ByteArray} {v p2 : Nat} {f1 a2 f2 : Int} {w w' : World} {E A : Int} {n k : Nat} {x : ByteArray} (h : FnAll s l v p2 f1 a2 f2 E A n k x) {ev : Value} {K N : Int} (hk : (k : Int) = K) (hn : (n : Int) = N) (hev : EV w' ev A E) (hb : Below w.heap.size w w') :
    NxP s l v p2 f1 a2 f2 w (.returned (.tuple #[.agg #[.int .i64 K, .string x], .int .i64 N, ev])) w' := by
  obtain ⟨h1, h2, h3, h4, h5⟩ := h
  exact ⟨ev, by rw [h3, h4, h5, hk, hn], by rw [h1, h2]; exact hev, hb⟩
theorem ev_set2 {w : World} {ev : Value} {fa fe : Int} (h : EV w ev fa fe) {x : Nat} {t : TypeId} {cs : Array Value} (hx : Blk w x t cs) (ht : 42 ≠ t) (u0 u1 : Value) : EV ((w.setCell ⟨x, 0, none⟩ u0).setCell ⟨x, 1, none⟩ u1) ev fa fe := by
  rcases h with h | ⟨h, fb, e, hk⟩
  · exact .inl h
  · exact .inr ⟨h, fb, e, (hk.far (p := ⟨x, 0, none⟩) (hk.ne_ hx ht) u0).far (p := ⟨x, 1, none⟩) (hk.ne_ hx ht) u1⟩
set_option maxRecDepth 100000 in
set_option maxHeartbeats 3200000 in
theorem nx_kind (s l : ByteArray) (w : World) (p1 p2 : Nat) (a2 f2 : Int) (hs : s.size ≤ 100000)
    (D1 : ∀ b W, R W b s 0 0 0 → Calls Tryd.prog 42 #[.pointer (some ⟨b, 0, none⟩), .int .i64 99] W fun e w' => e = .returned (.int .i64 0) ∧ R w' b s p1 0 0 ∧ W.grownBy w' (some b))
    (D2 : ∀ b W, R W b s p1 0 0 → Calls Tryd.prog 43 #[.pointer (some ⟨b, 0, none⟩), .int .i64 4096] W fun e w' => e = .returned (.string l) ∧ R w' b s p2 a2 f2 ∧ W.grownBy w' (some b)) :
    Calls Tryd.prog 11 #[.string s] w (NxP s l 0 p2 0 a2 f2 w) := by
  have HT := Lib.hid (show FnAll s l 0 p2 0 a2 f2 _ _ _ _ _ from fn_kind)
  have HD1 := Lib.hid D1
  have HD2 := Lib.hid D2
  clear D1 D2
  have HRes0 := Lib.hid (Blk.new w 29 #[.int .i64 0, .string ⟨#[]⟩])
  have hz0 : (w.alloc (.cells #[.int .i64 0, .string ⟨#[]⟩] 29)).heap.size = w.heap.size + 1 := by simp
  have HB0 := Lib.hid (Joins.below_alloc1 w (.cells #[.int .i64 0, .string ⟨#[]⟩] 29))
  go_enter Tryd.func11, Tryd.ntmps11
  go_wp2_with fail
  refine (new_any s (w.alloc (.cells #[.int .i64 0, .string ⟨#[]⟩] 29))).mono ?_; rintro e w1 ⟨rfl, hr1, b1⟩
  rw [hz0] at hr1 ⊢
  have HR1 := Lib.hid hr1
  have HRes1 := Lib.hid (HRes0.out.keep b1)
  have HB1 := Lib.hid (HB0.out.trans (b1.mono HB0.out.size))
  clear hr1 b1 HRes0 HB0
  go_wp2_with fail
  refine (HD1.out _ _ HR1.out).mono ?_; rintro e w2 ⟨rfl, hr2, g2⟩
  have hl0 : w.heap.size + 1 < w2.heap.size := hr2.lt
  have hne1 : ¬ w2.heap.size = w.heap.size := by omega
  have hne2 : ¬ w2.heap.size = w.heap.size + 1 := by omega
  have hne3 : ¬ w.heap.size = w2.heap.size := by omega
  have hne4 : ¬ w.heap.size + 1 = w2.heap.size := by omega
  have HRes2 := Lib.hid ((HRes1.out.grown g2 (by intro e; injection e with e; omega)).alloc (.cells #[.int .i64 0, .string ⟨#[]⟩] 29))
  have HB2 := Lib.hid ((below_only HB1.out g2 (by omega) HB1.out.size).alloc (by omega) (.cells #[.int .i64 0, .string ⟨#[]⟩] 29))
  have HR2 := Lib.hid (hr2.keep (Joins.below_alloc1 w2 (.cells #[.int .i64 0, .string ⟨#[]⟩] 29)))
  have HFr2 := Lib.hid (Blk.new w2 29 #[.int .i64 0, .string ⟨#[]⟩])
  clear hr2 g2 HR1 HRes1 HB1
  go_wp2_with fail
  obtain ⟨ev, hev, hec⟩ := oerr _ _ _ _ _ _ HR2.out
  obtain ⟨-, rfl⟩ := ev_nil hev
  refine hec.mono ?_; rintro e w9 ⟨rfl, rfl⟩
  clear hev hec
  have hsz : (w2.alloc (.cells #[.int .i64 0, .string ⟨#[]⟩] 29)).heap.size = w2.heap.size + 1 := by simp
  clear HFr2
  generalize (w2.alloc (.cells #[.int .i64 0, .string ⟨#[]⟩] 29)) = W at *
  have r0 := HRes2.out.cell 0
  have r1 := HRes2.out.cell 1
  have f0 := HRes2.out.frozen 0
  have f9 := HRes2.out.frozen 1
  have hne7 : ¬ W.heap.size = w.heap.size := by omega
  have hne8 : ¬ w.heap.size = W.heap.size := by omega
  have hlt7 : w.heap.size < W.heap.size := by omega
  have hF := HRes2.out.alloc (.cells #[.int .i64 0, .iface 35 (.int .i64 5)] 42)
  have i0 := hF.frozen 0
  have i1 := hF.frozen 1
  have x0 := hF.cell 0
  have x1 := hF.cell 1
  simp at r0 r1
  rw [show (#[Value.int .i64 0, Value.string ⟨#[]⟩] : Array Value)[0]? = some (.int .i64 0) from rfl] at x0
  rw [show (#[Value.int .i64 0, Value.string ⟨#[]⟩] : Array Value)[1]? = some (.string ⟨#[]⟩) from rfl] at x1
  clear hF
  go_wp2
  have HEV2 : Hid (EV (((W.alloc (.cells #[.int .i64 0, .iface 35 (.int .i64 5)] 42)).setCell ⟨w.heap.size, 0, none⟩ (.int .i64 0)).setCell ⟨w.heap.size, 1, none⟩ (.string ⟨#[]⟩)) (.iface 40 (.pointer (some ⟨w2.heap.size + 1, 0, none⟩))) 0 5) := Lib.hid (ev_set2 (.inr ⟨by omega, _, rfl, by have h := Blk.new W 42 #[.int .i64 0, .iface 35 (.int .i64 5)]; rwa [hsz] at h⟩) (HRes2.out.alloc _) (by decide) _ _)
  exact bodyPost_ret (v := .tuple #[.agg #[.int .i64 0, .string ⟨#[]⟩], .int .i64 0, .iface 40 (.pointer (some ⟨w2.heap.size + 1, 0, none⟩))]) (by simp [results, Tryd.results11, go_sem, x0, x1]) rfl (nxp HT.out (by omega) (by omega) HEV2.out (((HB2.out.alloc (by omega) _).setCell (p := ⟨w.heap.size, 0, none⟩) (Nat.le_refl _) _).setCell (p := ⟨w.heap.size, 1, none⟩) (Nat.le_refl _) _))
set_option maxRecDepth 100000 in
set_option maxHeartbeats 3200000 in
theorem nx_a0 (s l : ByteArray) (w : World) (p1 p2 : Nat) (a1 f1 : Int) (a2 f2 : Int) (hs : s.size ≤ 100000)
    (D1 : ∀ b W, R W b s 0 0 0 → Calls Tryd.prog 42 #[.pointer (some ⟨b, 0, none⟩), .int .i64 99] W fun e w' => e = .returned (.int .i64 0) ∧ R w' b s p1 a1 f1 ∧ W.grownBy w' (some b))
    (D2 : ∀ b W, R W b s p1 a1 f1 → Calls Tryd.prog 43 #[.pointer (some ⟨b, 0, none⟩), .int .i64 4096] W fun e w' => e = .returned (.string l) ∧ R w' b s p2 a2 f2 ∧ W.grownBy w' (some b))
    (hf1 : ¬ f1 = 0)
    (hf2 : ¬ f2 = 0)
    (hsh : ¬ s.size < p2 + 4)
    (hp2 : p2 ≤ s.size) :
    Calls Tryd.prog 11 #[.string s] w (NxP s l 0 p2 f1 a2 f2 w) := by
  have HT := Lib.hid (show FnAll s l 0 p2 f1 a2 f2 _ _ _ _ _ from fn_bad (by omega) hf2)
  have HD1 := Lib.hid D1
  have HD2 := Lib.hid D2
  have HSZ := Lib.hid hsh
  have HP2 := Lib.hid hp2
  have HF2 := Lib.hid hf2
  have d1 : decide ((s.size : Int) - (p2 : Int) < 4) = false := decide_eq_false (by omega)
  have q1 : IntKind.i64.wrap ((p2 : Int) + 4) = (p2 : Int) + 4 := IntWalk.i64_in _ (by omega)
  have HF1 := Lib.hid hf1
  clear D1 D2 hsh hp2 hf2 hf1
  have HRes0 := Lib.hid (Blk.new w 29 #[.int .i64 0, .string ⟨#[]⟩])
  have hz0 : (w.alloc (.cells #[.int .i64 0, .string ⟨#[]⟩] 29)).heap.size = w.heap.size + 1 := by simp
  have HB0 := Lib.hid (Joins.below_alloc1 w (.cells #[.int .i64 0, .string ⟨#[]⟩] 29))
  go_enter Tryd.func11, Tryd.ntmps11
  go_wp2_with fail
  refine (new_any s (w.alloc (.cells #[.int .i64 0, .string ⟨#[]⟩] 29))).mono ?_; rintro e w1 ⟨rfl, hr1, b1⟩
  rw [hz0] at hr1 ⊢
  have HR1 := Lib.hid hr1
  have HRes1 := Lib.hid (HRes0.out.keep b1)
  have HB1 := Lib.hid (HB0.out.trans (b1.mono HB0.out.size))
  clear hr1 b1 HRes0 HB0
  go_wp2_with fail
  refine (HD1.out _ _ HR1.out).mono ?_; rintro e w2 ⟨rfl, hr2, g2⟩
  have hl0 : w.heap.size + 1 < w2.heap.size := hr2.lt
  have hne1 : ¬ w2.heap.size = w.heap.size := by omega
  have hne2 : ¬ w2.heap.size = w.heap.size + 1 := by omega
  have hne3 : ¬ w.heap.size = w2.heap.size := by omega
  have hne4 : ¬ w.heap.size + 1 = w2.heap.size := by omega
  have HRes2 := Lib.hid ((HRes1.out.grown g2 (by intro e; injection e with e; omega)).alloc (.cells #[.int .i64 0, .string ⟨#[]⟩] 29))
  have HB2 := Lib.hid ((below_only HB1.out g2 (by omega) HB1.out.size).alloc (by omega) (.cells #[.int .i64 0, .string ⟨#[]⟩] 29))
  have HR2 := Lib.hid (hr2.keep (Joins.below_alloc1 w2 (.cells #[.int .i64 0, .string ⟨#[]⟩] 29)))
  have HFr2 := Lib.hid (Blk.new w2 29 #[.int .i64 0, .string ⟨#[]⟩])
  clear hr2 g2 HR1 HRes1 HB1
  go_wp2_with fail
  obtain ⟨ev, hev, hec⟩ := oerr _ _ _ _ _ _ HR2.out
  obtain ⟨fb, rfl⟩ := ev_some hev HF1.out
  refine hec.mono ?_; rintro e w9 ⟨rfl, rfl⟩
  clear hev hec
  go_wp2_with fail
  refine (HD2.out _ _ HR2.out).mono ?_; rintro e w3 ⟨rfl, hr3, g3⟩
  have hz3 : w2.heap.size < w3.heap.size := by have := g3.size; simp at this; omega
  have HFr3 : Hid (Blk w3 w2.heap.size 29 #[.int .i64 0, .string ⟨#[]⟩]) := Lib.hid (HFr2.out.grown g3 (by intro e; injection e with e; omega))
  have HFr4 : Hid (Blk (w3.setCell ⟨w2.heap.size, 1, none⟩ (.string l)) w2.heap.size 29 #[.int .i64 0, .string l]) := Lib.hid (by simpa using HFr3.out.set_ 1 (.string l))
  have HR4 : Hid (R (w3.setCell ⟨w2.heap.size, 1, none⟩ (.string l)) (w.heap.size + 1) s p2 a2 f2) := Lib.hid (r_far hr3 HFr3.out (by decide) (by decide) _)
  have HRes4 : Hid (Blk (w3.setCell ⟨w2.heap.size, 1, none⟩ (.string l)) w.heap.size 29 #[.int .i64 0, .string ⟨#[]⟩]) := Lib.hid ((HRes2.out.grown g3 (by intro e; injection e with e; omega)).far (p := ⟨w2.heap.size, 1, none⟩) (by show w.heap.size ≠ w2.heap.size; omega) _)
  have HB4 : Hid (Below w.heap.size w (w3.setCell ⟨w2.heap.size, 1, none⟩ (.string l))) := Lib.hid ((below_only HB2.out g3 (by omega) HB2.out.size).setCell (p := ⟨w2.heap.size, 1, none⟩) (by show w.heap.size ≤ w2.heap.size; omega) _)
  have f3 := HFr3.out.frozen 1
  have k3 := HFr3.out.cell 1
  simp at k3
  clear hr3 g3 HR2 HRes2 HB2 HFr2 HFr3
  go_wp2_with fail
  refine (oleft _ s p2 a2 f2 _ hs HR4.out).mono ?_; rintro e w5 ⟨rfl, b5⟩
  have HR5 := Lib.hid (HR4.out.keep b5)
  have HRes5 := Lib.hid (HRes4.out.keep b5)
  have HFr5 := Lib.hid (HFr4.out.keep b5)
  have HB5 := Lib.hid (HB4.out.trans (b5.mono HB4.out.size))
  clear b5 HR4 HRes4 HB4 HFr4 k3 f3
  have hz5 : w2.heap.size < w5.heap.size := HFr5.out.lt
  go_wp2_with fail
  refine (oat _ s p2 a2 f2 w5 HR5.out).mono ?_; rintro e w9 ⟨rfl, rfl⟩
  go_wp2_with fail
  obtain ⟨ev, hev, hec⟩ := oerr _ _ _ _ _ _ HR5.out
  obtain ⟨fb, rfl⟩ := ev_some hev HF2.out
  refine hec.mono ?_; rintro e w9 ⟨rfl, rfl⟩
  clear hev hec
  go_wp2_with fail
  obtain ⟨ev, hev, hec⟩ := oerr _ _ _ _ _ _ HR5.out
  have HEV := Lib.hid hev
  obtain ⟨fb, rfl⟩ := ev_some hev HF2.out
  refine hec.mono ?_; rintro e w9 ⟨rfl, rfl⟩
  clear hev hec
  have r0 := HRes5.out.cell 0
  have r1 := HRes5.out.cell 1
  have f0 := HRes5.out.frozen 0
  have f9 := HRes5.out.frozen 1
  simp at r0 r1
  have HEV2 := Lib.hid (ev_set2 HEV.out HRes5.out (by decide) (.int .i64 0) (.string ⟨#[]⟩))
  go_wp2
  exact bodyPost_ret (v := .tuple #[.agg #[.int .i64 0, .string ⟨#[]⟩], .int .i64 0, .iface 40 (.pointer (some ⟨fb, 0, none⟩))]) (by simp [results, Tryd.results11, go_sem, r0, r1]) rfl (nxp HT.out (by omega) (by omega) HEV2.out ((HB5.out.setCell (p := ⟨w.heap.size, 0, none⟩) (Nat.le_refl _) _).setCell (p := ⟨w.heap.size, 1, none⟩) (Nat.le_refl _) _))
set_option maxRecDepth 100000 in
set_option maxHeartbeats 3200000 in
theorem nx_a1 (s l : ByteArray) (w : World) (p1 p2 : Nat) (a1 f1 : Int) (a2 f2 : Int) (hs : s.size ≤ 100000)
    (D1 : ∀ b W, R W b s 0 0 0 → Calls Tryd.prog 42 #[.pointer (some ⟨b, 0, none⟩), .int .i64 99] W fun e w' => e = .returned (.int .i64 0) ∧ R w' b s p1 a1 f1 ∧ W.grownBy w' (some b))
    (D2 : ∀ b W, R W b s p1 a1 f1 → Calls Tryd.prog 43 #[.pointer (some ⟨b, 0, none⟩), .int .i64 4096] W fun e w' => e = .returned (.string l) ∧ R w' b s p2 a2 f2 ∧ W.grownBy w' (some b))
    (hf1 : ¬ f1 = 0)
    (hf2 : ¬ f2 = 0)
    (hsh : s.size < p2 + 4)
    (hp2 : p2 ≤ s.size) :
    Calls Tryd.prog 11 #[.string s] w (NxP s l 0 p2 f1 a2 f2 w) := by
  have HT := Lib.hid (show FnAll s l 0 p2 f1 a2 f2 _ _ _ _ _ from fn_bad (by omega) hf2)
  have HD1 := Lib.hid D1
  have HD2 := Lib.hid D2
  have HSZ := Lib.hid hsh
  have HP2 := Lib.hid hp2
  have HF2 := Lib.hid hf2
  have d1 : decide ((s.size : Int) - (p2 : Int) < 4) = true := decide_eq_true (by omega)
  have q1 : IntKind.i64.wrap ((p2 : Int) + 4) = (p2 : Int) + 4 := IntWalk.i64_in _ (by omega)
  have HF1 := Lib.hid hf1
  clear D1 D2 hsh hp2 hf2 hf1
  have HRes0 := Lib.hid (Blk.new w 29 #[.int .i64 0, .string ⟨#[]⟩])
  have hz0 : (w.alloc (.cells #[.int .i64 0, .string ⟨#[]⟩] 29)).heap.size = w.heap.size + 1 := by simp
  have HB0 := Lib.hid (Joins.below_alloc1 w (.cells #[.int .i64 0, .string ⟨#[]⟩] 29))
  go_enter Tryd.func11, Tryd.ntmps11
  go_wp2_with fail
  refine (new_any s (w.alloc (.cells #[.int .i64 0, .string ⟨#[]⟩] 29))).mono ?_; rintro e w1 ⟨rfl, hr1, b1⟩
  rw [hz0] at hr1 ⊢
  have HR1 := Lib.hid hr1
  have HRes1 := Lib.hid (HRes0.out.keep b1)
  have HB1 := Lib.hid (HB0.out.trans (b1.mono HB0.out.size))
  clear hr1 b1 HRes0 HB0
  go_wp2_with fail
  refine (HD1.out _ _ HR1.out).mono ?_; rintro e w2 ⟨rfl, hr2, g2⟩
  have hl0 : w.heap.size + 1 < w2.heap.size := hr2.lt
  have hne1 : ¬ w2.heap.size = w.heap.size := by omega
  have hne2 : ¬ w2.heap.size = w.heap.size + 1 := by omega
  have hne3 : ¬ w.heap.size = w2.heap.size := by omega
  have hne4 : ¬ w.heap.size + 1 = w2.heap.size := by omega
  have HRes2 := Lib.hid ((HRes1.out.grown g2 (by intro e; injection e with e; omega)).alloc (.cells #[.int .i64 0, .string ⟨#[]⟩] 29))
  have HB2 := Lib.hid ((below_only HB1.out g2 (by omega) HB1.out.size).alloc (by omega) (.cells #[.int .i64 0, .string ⟨#[]⟩] 29))
  have HR2 := Lib.hid (hr2.keep (Joins.below_alloc1 w2 (.cells #[.int .i64 0, .string ⟨#[]⟩] 29)))
  have HFr2 := Lib.hid (Blk.new w2 29 #[.int .i64 0, .string ⟨#[]⟩])
  clear hr2 g2 HR1 HRes1 HB1
  go_wp2_with fail
  obtain ⟨ev, hev, hec⟩ := oerr _ _ _ _ _ _ HR2.out
  obtain ⟨fb, rfl⟩ := ev_some hev HF1.out
  refine hec.mono ?_; rintro e w9 ⟨rfl, rfl⟩
  clear hev hec
  go_wp2_with fail
  refine (HD2.out _ _ HR2.out).mono ?_; rintro e w3 ⟨rfl, hr3, g3⟩
  have hz3 : w2.heap.size < w3.heap.size := by have := g3.size; simp at this; omega
  have HFr3 : Hid (Blk w3 w2.heap.size 29 #[.int .i64 0, .string ⟨#[]⟩]) := Lib.hid (HFr2.out.grown g3 (by intro e; injection e with e; omega))
  have HFr4 : Hid (Blk (w3.setCell ⟨w2.heap.size, 1, none⟩ (.string l)) w2.heap.size 29 #[.int .i64 0, .string l]) := Lib.hid (by simpa using HFr3.out.set_ 1 (.string l))
  have HR4 : Hid (R (w3.setCell ⟨w2.heap.size, 1, none⟩ (.string l)) (w.heap.size + 1) s p2 a2 f2) := Lib.hid (r_far hr3 HFr3.out (by decide) (by decide) _)
  have HRes4 : Hid (Blk (w3.setCell ⟨w2.heap.size, 1, none⟩ (.string l)) w.heap.size 29 #[.int .i64 0, .string ⟨#[]⟩]) := Lib.hid ((HRes2.out.grown g3 (by intro e; injection e with e; omega)).far (p := ⟨w2.heap.size, 1, none⟩) (by show w.heap.size ≠ w2.heap.size; omega) _)
  have HB4 : Hid (Below w.heap.size w (w3.setCell ⟨w2.heap.size, 1, none⟩ (.string l))) := Lib.hid ((below_only HB2.out g3 (by omega) HB2.out.size).setCell (p := ⟨w2.heap.size, 1, none⟩) (by show w.heap.size ≤ w2.heap.size; omega) _)
  have f3 := HFr3.out.frozen 1
  have k3 := HFr3.out.cell 1
  simp at k3
  clear hr3 g3 HR2 HRes2 HB2 HFr2 HFr3
  go_wp2_with fail
  refine (oleft _ s p2 a2 f2 _ hs HR4.out).mono ?_; rintro e w5 ⟨rfl, b5⟩
  have HR5 := Lib.hid (HR4.out.keep b5)
  have HRes5 := Lib.hid (HRes4.out.keep b5)
  have HFr5 := Lib.hid (HFr4.out.keep b5)
  have HB5 := Lib.hid (HB4.out.trans (b5.mono HB4.out.size))
  clear b5 HR4 HRes4 HB4 HFr4 k3 f3
  have hz5 : w2.heap.size < w5.heap.size := HFr5.out.lt
  go_wp2_with fail
  refine (fail_had _ s p2 a2 f2 1 w5 HR5.out HF2.out).mono ?_; rintro e w9 ⟨rfl, rfl⟩
  go_wp2_with fail
  refine (oat _ s p2 a2 f2 w5 HR5.out).mono ?_; rintro e w9 ⟨rfl, rfl⟩
  go_wp2_with fail
  obtain ⟨ev, hev, hec⟩ := oerr _ _ _ _ _ _ HR5.out
  obtain ⟨fb, rfl⟩ := ev_some hev HF2.out
  refine hec.mono ?_; rintro e w9 ⟨rfl, rfl⟩
  clear hev hec
  go_wp2_with fail
  obtain ⟨ev, hev, hec⟩ := oerr _ _ _ _ _ _ HR5.out
  have HEV := Lib.hid hev
  obtain ⟨fb, rfl⟩ := ev_some hev HF2.out
  refine hec.mono ?_; rintro e w9 ⟨rfl, rfl⟩
  clear hev hec
  have r0 := HRes5.out.cell 0
  have r1 := HRes5.out.cell 1
  have f0 := HRes5.out.frozen 0
  have f9 := HRes5.out.frozen 1
  simp at r0 r1
  have HEV2 := Lib.hid (ev_set2 HEV.out HRes5.out (by decide) (.int .i64 0) (.string ⟨#[]⟩))
  go_wp2
  exact bodyPost_ret (v := .tuple #[.agg #[.int .i64 0, .string ⟨#[]⟩], .int .i64 0, .iface 40 (.pointer (some ⟨fb, 0, none⟩))]) (by simp [results, Tryd.results11, go_sem, r0, r1]) rfl (nxp HT.out (by omega) (by omega) HEV2.out ((HB5.out.setCell (p := ⟨w.heap.size, 0, none⟩) (Nat.le_refl _) _).setCell (p := ⟨w.heap.size, 1, none⟩) (Nat.le_refl _) _))
set_option maxRecDepth 100000 in
set_option maxHeartbeats 3200000 in
theorem nx_b0 (s l : ByteArray) (w : World) (p1 p2 : Nat) (v : Nat) (a2 f2 : Int) (hs : s.size ≤ 100000)
    (D1 : ∀ b W, R W b s 0 0 0 → Calls Tryd.prog 42 #[.pointer (some ⟨b, 0, none⟩), .int .i64 99] W fun e w' => e = .returned (.int .i64 (v : Int)) ∧ R w' b s p1 0 0 ∧ W.grownBy w' (some b))
    (D2 : ∀ b W, R W b s p1 0 0 → Calls Tryd.prog 43 #[.pointer (some ⟨b, 0, none⟩), .int .i64 4096] W fun e w' => e = .returned (.string l) ∧ R w' b s p2 a2 f2 ∧ W.grownBy w' (some b))
    (hv : ¬ v = 0)
    (hf2 : ¬ f2 = 0)
    (hsh : ¬ s.size < p2 + 4)
    (hp2 : p2 ≤ s.size) :
    Calls Tryd.prog 11 #[.string s] w (NxP s l v p2 0 a2 f2 w) := by
  have HT := Lib.hid (show FnAll s l v p2 0 a2 f2 _ _ _ _ _ from fn_bad (by omega) hf2)
  have HD1 := Lib.hid D1
  have HD2 := Lib.hid D2
  have g1 : ((v : Int) == 0) = false := by simpa using hv
  have g1b : (v == 0) = false := by simpa using hv
  have HSZ := Lib.hid hsh
  have HP2 := Lib.hid hp2
  have HF2 := Lib.hid hf2
  have d1 : decide ((s.size : Int) - (p2 : Int) < 4) = false := decide_eq_false (by omega)
  have q1 : IntKind.i64.wrap ((p2 : Int) + 4) = (p2 : Int) + 4 := IntWalk.i64_in _ (by omega)
  clear D1 D2 hv hsh hp2 hf2
  have HRes0 := Lib.hid (Blk.new w 29 #[.int .i64 0, .string ⟨#[]⟩])
  have hz0 : (w.alloc (.cells #[.int .i64 0, .string ⟨#[]⟩] 29)).heap.size = w.heap.size + 1 := by simp
  have HB0 := Lib.hid (Joins.below_alloc1 w (.cells #[.int .i64 0, .string ⟨#[]⟩] 29))
  go_enter Tryd.func11, Tryd.ntmps11
  go_wp2_with fail
  refine (new_any s (w.alloc (.cells #[.int .i64 0, .string ⟨#[]⟩] 29))).mono ?_; rintro e w1 ⟨rfl, hr1, b1⟩
  rw [hz0] at hr1 ⊢
  have HR1 := Lib.hid hr1
  have HRes1 := Lib.hid (HRes0.out.keep b1)
  have HB1 := Lib.hid (HB0.out.trans (b1.mono HB0.out.size))
  clear hr1 b1 HRes0 HB0
  go_wp2_with fail
  refine (HD1.out _ _ HR1.out).mono ?_; rintro e w2 ⟨rfl, hr2, g2⟩
  have hl0 : w.heap.size + 1 < w2.heap.size := hr2.lt
  have hne1 : ¬ w2.heap.size = w.heap.size := by omega
  have hne2 : ¬ w2.heap.size = w.heap.size + 1 := by omega
  have hne3 : ¬ w.heap.size = w2.heap.size := by omega
  have hne4 : ¬ w.heap.size + 1 = w2.heap.size := by omega
  have HRes2 := Lib.hid ((HRes1.out.grown g2 (by intro e; injection e with e; omega)).alloc (.cells #[.int .i64 (v : Int), .string ⟨#[]⟩] 29))
  have HB2 := Lib.hid ((below_only HB1.out g2 (by omega) HB1.out.size).alloc (by omega) (.cells #[.int .i64 (v : Int), .string ⟨#[]⟩] 29))
  have HR2 := Lib.hid (hr2.keep (Joins.below_alloc1 w2 (.cells #[.int .i64 (v : Int), .string ⟨#[]⟩] 29)))
  have HFr2 := Lib.hid (Blk.new w2 29 #[.int .i64 (v : Int), .string ⟨#[]⟩])
  clear hr2 g2 HR1 HRes1 HB1
  go_wp2_with fail
  refine (HD2.out _ _ HR2.out).mono ?_; rintro e w3 ⟨rfl, hr3, g3⟩
  have hz3 : w2.heap.size < w3.heap.size := by have := g3.size; simp at this; omega
  have HFr3 : Hid (Blk w3 w2.heap.size 29 #[.int .i64 (v : Int), .string ⟨#[]⟩]) := Lib.hid (HFr2.out.grown g3 (by intro e; injection e with e; omega))
  have HFr4 : Hid (Blk (w3.setCell ⟨w2.heap.size, 1, none⟩ (.string l)) w2.heap.size 29 #[.int .i64 (v : Int), .string l]) := Lib.hid (by simpa using HFr3.out.set_ 1 (.string l))
  have HR4 : Hid (R (w3.setCell ⟨w2.heap.size, 1, none⟩ (.string l)) (w.heap.size + 1) s p2 a2 f2) := Lib.hid (r_far hr3 HFr3.out (by decide) (by decide) _)
  have HRes4 : Hid (Blk (w3.setCell ⟨w2.heap.size, 1, none⟩ (.string l)) w.heap.size 29 #[.int .i64 0, .string ⟨#[]⟩]) := Lib.hid ((HRes2.out.grown g3 (by intro e; injection e with e; omega)).far (p := ⟨w2.heap.size, 1, none⟩) (by show w.heap.size ≠ w2.heap.size; omega) _)
  have HB4 : Hid (Below w.heap.size w (w3.setCell ⟨w2.heap.size, 1, none⟩ (.string l))) := Lib.hid ((below_only HB2.out g3 (by omega) HB2.out.size).setCell (p := ⟨w2.heap.size, 1, none⟩) (by show w.heap.size ≤ w2.heap.size; omega) _)
  have f3 := HFr3.out.frozen 1
  have k3 := HFr3.out.cell 1
  simp at k3
  clear hr3 g3 HR2 HRes2 HB2 HFr2 HFr3
  go_wp2_with fail
  refine (oleft _ s p2 a2 f2 _ hs HR4.out).mono ?_; rintro e w5 ⟨rfl, b5⟩
  have HR5 := Lib.hid (HR4.out.keep b5)
  have HRes5 := Lib.hid (HRes4.out.keep b5)
  have HFr5 := Lib.hid (HFr4.out.keep b5)
  have HB5 := Lib.hid (HB4.out.trans (b5.mono HB4.out.size))
  clear b5 HR4 HRes4 HB4 HFr4 k3 f3
  have hz5 : w2.heap.size < w5.heap.size := HFr5.out.lt
  go_wp2_with fail
  refine (oat _ s p2 a2 f2 w5 HR5.out).mono ?_; rintro e w9 ⟨rfl, rfl⟩
  go_wp2_with fail
  obtain ⟨ev, hev, hec⟩ := oerr _ _ _ _ _ _ HR5.out
  obtain ⟨fb, rfl⟩ := ev_some hev HF2.out
  refine hec.mono ?_; rintro e w9 ⟨rfl, rfl⟩
  clear hev hec
  go_wp2_with fail
  obtain ⟨ev, hev, hec⟩ := oerr _ _ _ _ _ _ HR5.out
  have HEV := Lib.hid hev
  obtain ⟨fb, rfl⟩ := ev_some hev HF2.out
  refine hec.mono ?_; rintro e w9 ⟨rfl, rfl⟩
  clear hev hec
  have r0 := HRes5.out.cell 0
  have r1 := HRes5.out.cell 1
  have f0 := HRes5.out.frozen 0
  have f9 := HRes5.out.frozen 1
  simp at r0 r1
  have HEV2 := Lib.hid (ev_set2 HEV.out HRes5.out (by decide) (.int .i64 0) (.string ⟨#[]⟩))
  go_wp2
  exact bodyPost_ret (v := .tuple #[.agg #[.int .i64 0, .string ⟨#[]⟩], .int .i64 0, .iface 40 (.pointer (some ⟨fb, 0, none⟩))]) (by simp [results, Tryd.results11, go_sem, r0, r1]) rfl (nxp HT.out (by omega) (by omega) HEV2.out ((HB5.out.setCell (p := ⟨w.heap.size, 0, none⟩) (Nat.le_refl _) _).setCell (p := ⟨w.heap.size, 1, none⟩) (Nat.le_refl _) _))
set_option maxRecDepth 100000 in
set_option maxHeartbeats 3200000 in
theorem nx_b1 (s l : ByteArray) (w : World) (p1 p2 : Nat) (v : Nat) (a2 f2 : Int) (hs : s.size ≤ 100000)
    (D1 : ∀ b W, R W b s 0 0 0 → Calls Tryd.prog 42 #[.pointer (some ⟨b, 0, none⟩), .int .i64 99] W fun e w' => e = .returned (.int .i64 (v : Int)) ∧ R w' b s p1 0 0 ∧ W.grownBy w' (some b))
    (D2 : ∀ b W, R W b s p1 0 0 → Calls Tryd.prog 43 #[.pointer (some ⟨b, 0, none⟩), .int .i64 4096] W fun e w' => e = .returned (.string l) ∧ R w' b s p2 a2 f2 ∧ W.grownBy w' (some b))
    (hv : ¬ v = 0)
    (hf2 : ¬ f2 = 0)
    (hsh : s.size < p2 + 4)
    (hp2 : p2 ≤ s.size) :
    Calls Tryd.prog 11 #[.string s] w (NxP s l v p2 0 a2 f2 w) := by
  have HT := Lib.hid (show FnAll s l v p2 0 a2 f2 _ _ _ _ _ from fn_bad (by omega) hf2)
  have HD1 := Lib.hid D1
  have HD2 := Lib.hid D2
  have g1 : ((v : Int) == 0) = false := by simpa using hv
  have g1b : (v == 0) = false := by simpa using hv
  have HSZ := Lib.hid hsh
  have HP2 := Lib.hid hp2
  have HF2 := Lib.hid hf2
  have d1 : decide ((s.size : Int) - (p2 : Int) < 4) = true := decide_eq_true (by omega)
  have q1 : IntKind.i64.wrap ((p2 : Int) + 4) = (p2 : Int) + 4 := IntWalk.i64_in _ (by omega)
  clear D1 D2 hv hsh hp2 hf2
  have HRes0 := Lib.hid (Blk.new w 29 #[.int .i64 0, .string ⟨#[]⟩])
  have hz0 : (w.alloc (.cells #[.int .i64 0, .string ⟨#[]⟩] 29)).heap.size = w.heap.size + 1 := by simp
  have HB0 := Lib.hid (Joins.below_alloc1 w (.cells #[.int .i64 0, .string ⟨#[]⟩] 29))
  go_enter Tryd.func11, Tryd.ntmps11
  go_wp2_with fail
  refine (new_any s (w.alloc (.cells #[.int .i64 0, .string ⟨#[]⟩] 29))).mono ?_; rintro e w1 ⟨rfl, hr1, b1⟩
  rw [hz0] at hr1 ⊢
  have HR1 := Lib.hid hr1
  have HRes1 := Lib.hid (HRes0.out.keep b1)
  have HB1 := Lib.hid (HB0.out.trans (b1.mono HB0.out.size))
  clear hr1 b1 HRes0 HB0
  go_wp2_with fail
  refine (HD1.out _ _ HR1.out).mono ?_; rintro e w2 ⟨rfl, hr2, g2⟩
  have hl0 : w.heap.size + 1 < w2.heap.size := hr2.lt
  have hne1 : ¬ w2.heap.size = w.heap.size := by omega
  have hne2 : ¬ w2.heap.size = w.heap.size + 1 := by omega
  have hne3 : ¬ w.heap.size = w2.heap.size := by omega
  have hne4 : ¬ w.heap.size + 1 = w2.heap.size := by omega
  have HRes2 := Lib.hid ((HRes1.out.grown g2 (by intro e; injection e with e; omega)).alloc (.cells #[.int .i64 (v : Int), .string ⟨#[]⟩] 29))
  have HB2 := Lib.hid ((below_only HB1.out g2 (by omega) HB1.out.size).alloc (by omega) (.cells #[.int .i64 (v : Int), .string ⟨#[]⟩] 29))
  have HR2 := Lib.hid (hr2.keep (Joins.below_alloc1 w2 (.cells #[.int .i64 (v : Int), .string ⟨#[]⟩] 29)))
  have HFr2 := Lib.hid (Blk.new w2 29 #[.int .i64 (v : Int), .string ⟨#[]⟩])
  clear hr2 g2 HR1 HRes1 HB1
  go_wp2_with fail
  refine (HD2.out _ _ HR2.out).mono ?_; rintro e w3 ⟨rfl, hr3, g3⟩
  have hz3 : w2.heap.size < w3.heap.size := by have := g3.size; simp at this; omega
  have HFr3 : Hid (Blk w3 w2.heap.size 29 #[.int .i64 (v : Int), .string ⟨#[]⟩]) := Lib.hid (HFr2.out.grown g3 (by intro e; injection e with e; omega))
  have HFr4 : Hid (Blk (w3.setCell ⟨w2.heap.size, 1, none⟩ (.string l)) w2.heap.size 29 #[.int .i64 (v : Int), .string l]) := Lib.hid (by simpa using HFr3.out.set_ 1 (.string l))
  have HR4 : Hid (R (w3.setCell ⟨w2.heap.size, 1, none⟩ (.string l)) (w.heap.size + 1) s p2 a2 f2) := Lib.hid (r_far hr3 HFr3.out (by decide) (by decide) _)
  have HRes4 : Hid (Blk (w3.setCell ⟨w2.heap.size, 1, none⟩ (.string l)) w.heap.size 29 #[.int .i64 0, .string ⟨#[]⟩]) := Lib.hid ((HRes2.out.grown g3 (by intro e; injection e with e; omega)).far (p := ⟨w2.heap.size, 1, none⟩) (by show w.heap.size ≠ w2.heap.size; omega) _)
  have HB4 : Hid (Below w.heap.size w (w3.setCell ⟨w2.heap.size, 1, none⟩ (.string l))) := Lib.hid ((below_only HB2.out g3 (by omega) HB2.out.size).setCell (p := ⟨w2.heap.size, 1, none⟩) (by show w.heap.size ≤ w2.heap.size; omega) _)
  have f3 := HFr3.out.frozen 1
  have k3 := HFr3.out.cell 1
  simp at k3
  clear hr3 g3 HR2 HRes2 HB2 HFr2 HFr3
  go_wp2_with fail
  refine (oleft _ s p2 a2 f2 _ hs HR4.out).mono ?_; rintro e w5 ⟨rfl, b5⟩
  have HR5 := Lib.hid (HR4.out.keep b5)
  have HRes5 := Lib.hid (HRes4.out.keep b5)
  have HFr5 := Lib.hid (HFr4.out.keep b5)
  have HB5 := Lib.hid (HB4.out.trans (b5.mono HB4.out.size))
  clear b5 HR4 HRes4 HB4 HFr4 k3 f3
  have hz5 : w2.heap.size < w5.heap.size := HFr5.out.lt
  go_wp2_with fail
  refine (fail_had _ s p2 a2 f2 1 w5 HR5.out HF2.out).mono ?_; rintro e w9 ⟨rfl, rfl⟩
  go_wp2_with fail
  refine (oat _ s p2 a2 f2 w5 HR5.out).mono ?_; rintro e w9 ⟨rfl, rfl⟩
  go_wp2_with fail
  obtain ⟨ev, hev, hec⟩ := oerr _ _ _ _ _ _ HR5.out
  obtain ⟨fb, rfl⟩ := ev_some hev HF2.out
  refine hec.mono ?_; rintro e w9 ⟨rfl, rfl⟩
  clear hev hec
  go_wp2_with fail
  obtain ⟨ev, hev, hec⟩ := oerr _ _ _ _ _ _ HR5.out
  have HEV := Lib.hid hev
  obtain ⟨fb, rfl⟩ := ev_some hev HF2.out
  refine hec.mono ?_; rintro e w9 ⟨rfl, rfl⟩
  clear hev hec
  have r0 := HRes5.out.cell 0
  have r1 := HRes5.out.cell 1
  have f0 := HRes5.out.frozen 0
  have f9 := HRes5.out.frozen 1
  simp at r0 r1
  have HEV2 := Lib.hid (ev_set2 HEV.out HRes5.out (by decide) (.int .i64 0) (.string ⟨#[]⟩))
  go_wp2
  exact bodyPost_ret (v := .tuple #[.agg #[.int .i64 0, .string ⟨#[]⟩], .int .i64 0, .iface 40 (.pointer (some ⟨fb, 0, none⟩))]) (by simp [results, Tryd.results11, go_sem, r0, r1]) rfl (nxp HT.out (by omega) (by omega) HEV2.out ((HB5.out.setCell (p := ⟨w.heap.size, 0, none⟩) (Nat.le_refl _) _).setCell (p := ⟨w.heap.size, 1, none⟩) (Nat.le_refl _) _))
set_option maxRecDepth 100000 in
set_option maxHeartbeats 3200000 in
theorem nx_short (s l : ByteArray) (w : World) (p1 p2 : Nat) (v : Nat) (hs : s.size ≤ 100000)
    (D1 : ∀ b W, R W b s 0 0 0 → Calls Tryd.prog 42 #[.pointer (some ⟨b, 0, none⟩), .int .i64 99] W fun e w' => e = .returned (.int .i64 (v : Int)) ∧ R w' b s p1 0 0 ∧ W.grownBy w' (some b))
    (D2 : ∀ b W, R W b s p1 0 0 → Calls Tryd.prog 43 #[.pointer (some ⟨b, 0, none⟩), .int .i64 4096] W fun e w' => e = .returned (.string l) ∧ R w' b s p2 0 0 ∧ W.grownBy w' (some b))
    (hv : ¬ v = 0)
    (hsh : s.size < p2 + 4)
    (hp2 : p2 ≤ s.size) :
    Calls Tryd.prog 11 #[.string s] w (NxP s l v p2 0 0 0 w) := by
  have HT := Lib.hid (show FnAll s l v p2 0 0 0 _ _ _ _ _ from fn_short (by omega) hsh)
  have HD1 := Lib.hid D1
  have HD2 := Lib.hid D2
  have g1 : ((v : Int) == 0) = false := by simpa using hv
  have g1b : (v == 0) = false := by simpa using hv
  have HSZ := Lib.hid hsh
  have HP2 := Lib.hid hp2
  have d1 : decide ((s.size : Int) - (p2 : Int) < 4) = true := decide_eq_true (by omega)
  have q1 : IntKind.i64.wrap ((p2 : Int) + 4) = (p2 : Int) + 4 := IntWalk.i64_in _ (by omega)
  clear D1 D2 hv hsh hp2
  have HRes0 := Lib.hid (Blk.new w 29 #[.int .i64 0, .string ⟨#[]⟩])
  have hz0 : (w.alloc (.cells #[.int .i64 0, .string ⟨#[]⟩] 29)).heap.size = w.heap.size + 1 := by simp
  have HB0 := Lib.hid (Joins.below_alloc1 w (.cells #[.int .i64 0, .string ⟨#[]⟩] 29))
  go_enter Tryd.func11, Tryd.ntmps11
  go_wp2_with fail
  refine (new_any s (w.alloc (.cells #[.int .i64 0, .string ⟨#[]⟩] 29))).mono ?_; rintro e w1 ⟨rfl, hr1, b1⟩
  rw [hz0] at hr1 ⊢
  have HR1 := Lib.hid hr1
  have HRes1 := Lib.hid (HRes0.out.keep b1)
  have HB1 := Lib.hid (HB0.out.trans (b1.mono HB0.out.size))
  clear hr1 b1 HRes0 HB0
  go_wp2_with fail
  refine (HD1.out _ _ HR1.out).mono ?_; rintro e w2 ⟨rfl, hr2, g2⟩
  have hl0 : w.heap.size + 1 < w2.heap.size := hr2.lt
  have hne1 : ¬ w2.heap.size = w.heap.size := by omega
  have hne2 : ¬ w2.heap.size = w.heap.size + 1 := by omega
  have hne3 : ¬ w.heap.size = w2.heap.size := by omega
  have hne4 : ¬ w.heap.size + 1 = w2.heap.size := by omega
  have HRes2 := Lib.hid ((HRes1.out.grown g2 (by intro e; injection e with e; omega)).alloc (.cells #[.int .i64 (v : Int), .string ⟨#[]⟩] 29))
  have HB2 := Lib.hid ((below_only HB1.out g2 (by omega) HB1.out.size).alloc (by omega) (.cells #[.int .i64 (v : Int), .string ⟨#[]⟩] 29))
  have HR2 := Lib.hid (hr2.keep (Joins.below_alloc1 w2 (.cells #[.int .i64 (v : Int), .string ⟨#[]⟩] 29)))
  have HFr2 := Lib.hid (Blk.new w2 29 #[.int .i64 (v : Int), .string ⟨#[]⟩])
  clear hr2 g2 HR1 HRes1 HB1
  go_wp2_with fail
  refine (HD2.out _ _ HR2.out).mono ?_; rintro e w3 ⟨rfl, hr3, g3⟩
  have hz3 : w2.heap.size < w3.heap.size := by have := g3.size; simp at this; omega
  have HFr3 : Hid (Blk w3 w2.heap.size 29 #[.int .i64 (v : Int), .string ⟨#[]⟩]) := Lib.hid (HFr2.out.grown g3 (by intro e; injection e with e; omega))
  have HFr4 : Hid (Blk (w3.setCell ⟨w2.heap.size, 1, none⟩ (.string l)) w2.heap.size 29 #[.int .i64 (v : Int), .string l]) := Lib.hid (by simpa using HFr3.out.set_ 1 (.string l))
  have HR4 : Hid (R (w3.setCell ⟨w2.heap.size, 1, none⟩ (.string l)) (w.heap.size + 1) s p2 0 0) := Lib.hid (r_far hr3 HFr3.out (by decide) (by decide) _)
  have HRes4 : Hid (Blk (w3.setCell ⟨w2.heap.size, 1, none⟩ (.string l)) w.heap.size 29 #[.int .i64 0, .string ⟨#[]⟩]) := Lib.hid ((HRes2.out.grown g3 (by intro e; injection e with e; omega)).far (p := ⟨w2.heap.size, 1, none⟩) (by show w.heap.size ≠ w2.heap.size; omega) _)
  have HB4 : Hid (Below w.heap.size w (w3.setCell ⟨w2.heap.size, 1, none⟩ (.string l))) := Lib.hid ((below_only HB2.out g3 (by omega) HB2.out.size).setCell (p := ⟨w2.heap.size, 1, none⟩) (by show w.heap.size ≤ w2.heap.size; omega) _)
  have f3 := HFr3.out.frozen 1
  have k3 := HFr3.out.cell 1
  simp at k3
  clear hr3 g3 HR2 HRes2 HB2 HFr2 HFr3
  go_wp2_with fail
  refine (oleft _ s p2 0 0 _ hs HR4.out).mono ?_; rintro e w5 ⟨rfl, b5⟩
  have HR5 := Lib.hid (HR4.out.keep b5)
  have HRes5 := Lib.hid (HRes4.out.keep b5)
  have HFr5 := Lib.hid (HFr4.out.keep b5)
  have HB5 := Lib.hid (HB4.out.trans (b5.mono HB4.out.size))
  clear b5 HR4 HRes4 HB4 HFr4 k3 f3
  have hz5 : w2.heap.size < w5.heap.size := HFr5.out.lt
  go_wp2_with fail
  refine (fail_new _ s p2 1 w5 HR5.out (by omega)).mono ?_; rintro e w6 ⟨rfl, hr6, g6⟩
  have HR6 := Lib.hid hr6
  have HRes6 := Lib.hid (HRes5.out.grown g6 (by intro e; injection e with e; omega))
  have HB6 := Lib.hid (below_only HB5.out g6 (by omega) HB5.out.size)
  clear hr6 g6 HR5 HRes5 HB5 HFr5
  go_wp2_with fail
  refine (oat _ s p2 p2 1 w6 HR6.out).mono ?_; rintro e w9 ⟨rfl, rfl⟩
  go_wp2_with fail
  obtain ⟨ev, hev, hec⟩ := oerr _ _ _ _ _ _ HR6.out
  obtain ⟨fb, rfl⟩ := ev_some hev (by omega)
  refine hec.mono ?_; rintro e w9 ⟨rfl, rfl⟩
  clear hev hec
  go_wp2_with fail
  obtain ⟨ev, hev, hec⟩ := oerr _ _ _ _ _ _ HR6.out
  have HEV := Lib.hid hev
  obtain ⟨fb, rfl⟩ := ev_some hev (by omega)
  refine hec.mono ?_; rintro e w9 ⟨rfl, rfl⟩
  clear hev hec
  have r0 := HRes6.out.cell 0
  have r1 := HRes6.out.cell 1
  have f0 := HRes6.out.frozen 0
  have f9 := HRes6.out.frozen 1
  simp at r0 r1
  have HEV2 := Lib.hid (ev_set2 HEV.out HRes6.out (by decide) (.int .i64 0) (.string ⟨#[]⟩))
  go_wp2
  exact bodyPost_ret (v := .tuple #[.agg #[.int .i64 0, .string ⟨#[]⟩], .int .i64 0, .iface 40 (.pointer (some ⟨fb, 0, none⟩))]) (by simp [results, Tryd.results11, go_sem, r0, r1]) rfl (nxp HT.out (by omega) (by omega) HEV2.out ((HB6.out.setCell (p := ⟨w.heap.size, 0, none⟩) (Nat.le_refl _) _).setCell (p := ⟨w.heap.size, 1, none⟩) (Nat.le_refl _) _))
set_option maxRecDepth 100000 in
set_option maxHeartbeats 3200000 in
theorem nx_sum (s l : ByteArray) (w : World) (p1 p2 : Nat) (v : Nat) (hs : s.size ≤ 100000)
    (D1 : ∀ b W, R W b s 0 0 0 → Calls Tryd.prog 42 #[.pointer (some ⟨b, 0, none⟩), .int .i64 99] W fun e w' => e = .returned (.int .i64 (v : Int)) ∧ R w' b s p1 0 0 ∧ W.grownBy w' (some b))
    (D2 : ∀ b W, R W b s p1 0 0 → Calls Tryd.prog 43 #[.pointer (some ⟨b, 0, none⟩), .int .i64 4096] W fun e w' => e = .returned (.string l) ∧ R w' b s p2 0 0 ∧ W.grownBy w' (some b))
    (hv : ¬ v = 0)
    (hsh : ¬ s.size < p2 + 4)
    (hp2 : p2 ≤ s.size)
    (hen : endsB (s.extract 0 (p2 + 4)) = false) :
    Calls Tryd.prog 11 #[.string s] w (NxP s l v p2 0 0 0 w) := by
  have HT := Lib.hid (show FnAll s l v p2 0 0 0 _ _ _ _ _ from fn_sum (by omega) hsh hen)
  have HD1 := Lib.hid D1
  have HD2 := Lib.hid D2
  have g1 : ((v : Int) == 0) = false := by simpa using hv
  have g1b : (v == 0) = false := by simpa using hv
  have HSZ := Lib.hid hsh
  have HP2 := Lib.hid hp2
  have d1 : decide ((s.size : Int) - (p2 : Int) < 4) = false := decide_eq_false (by omega)
  have q1 : IntKind.i64.wrap ((p2 : Int) + 4) = (p2 : Int) + 4 := IntWalk.i64_in _ (by omega)
  have q2 : (p2 : Int) + 4 ≤ (s.size : Int) := by omega
  have q3 : ((p2 : Int) + 4).toNat = p2 + 4 := by omega
  have q4 : (0 : Int) ≤ (p2 : Int) + 4 := by omega
  have D3 := Lib.hid (fun W => ends_any (s.extract 0 (p2 + 4)) W (by rw [ByteArray.size_extract]; omega))
  rw [hen] at D3
  clear D1 D2 hv hsh hp2 hen
  have HRes0 := Lib.hid (Blk.new w 29 #[.int .i64 0, .string ⟨#[]⟩])
  have hz0 : (w.alloc (.cells #[.int .i64 0, .string ⟨#[]⟩] 29)).heap.size = w.heap.size + 1 := by simp
  have HB0 := Lib.hid (Joins.below_alloc1 w (.cells #[.int .i64 0, .string ⟨#[]⟩] 29))
  go_enter Tryd.func11, Tryd.ntmps11
  go_wp2_with fail
  refine (new_any s (w.alloc (.cells #[.int .i64 0, .string ⟨#[]⟩] 29))).mono ?_; rintro e w1 ⟨rfl, hr1, b1⟩
  rw [hz0] at hr1 ⊢
  have HR1 := Lib.hid hr1
  have HRes1 := Lib.hid (HRes0.out.keep b1)
  have HB1 := Lib.hid (HB0.out.trans (b1.mono HB0.out.size))
  clear hr1 b1 HRes0 HB0
  go_wp2_with fail
  refine (HD1.out _ _ HR1.out).mono ?_; rintro e w2 ⟨rfl, hr2, g2⟩
  have hl0 : w.heap.size + 1 < w2.heap.size := hr2.lt
  have hne1 : ¬ w2.heap.size = w.heap.size := by omega
  have hne2 : ¬ w2.heap.size = w.heap.size + 1 := by omega
  have hne3 : ¬ w.heap.size = w2.heap.size := by omega
  have hne4 : ¬ w.heap.size + 1 = w2.heap.size := by omega
  have HRes2 := Lib.hid ((HRes1.out.grown g2 (by intro e; injection e with e; omega)).alloc (.cells #[.int .i64 (v : Int), .string ⟨#[]⟩] 29))
  have HB2 := Lib.hid ((below_only HB1.out g2 (by omega) HB1.out.size).alloc (by omega) (.cells #[.int .i64 (v : Int), .string ⟨#[]⟩] 29))
  have HR2 := Lib.hid (hr2.keep (Joins.below_alloc1 w2 (.cells #[.int .i64 (v : Int), .string ⟨#[]⟩] 29)))
  have HFr2 := Lib.hid (Blk.new w2 29 #[.int .i64 (v : Int), .string ⟨#[]⟩])
  clear hr2 g2 HR1 HRes1 HB1
  go_wp2_with fail
  refine (HD2.out _ _ HR2.out).mono ?_; rintro e w3 ⟨rfl, hr3, g3⟩
  have hz3 : w2.heap.size < w3.heap.size := by have := g3.size; simp at this; omega
  have HFr3 : Hid (Blk w3 w2.heap.size 29 #[.int .i64 (v : Int), .string ⟨#[]⟩]) := Lib.hid (HFr2.out.grown g3 (by intro e; injection e with e; omega))
  have HFr4 : Hid (Blk (w3.setCell ⟨w2.heap.size, 1, none⟩ (.string l)) w2.heap.size 29 #[.int .i64 (v : Int), .string l]) := Lib.hid (by simpa using HFr3.out.set_ 1 (.string l))
  have HR4 : Hid (R (w3.setCell ⟨w2.heap.size, 1, none⟩ (.string l)) (w.heap.size + 1) s p2 0 0) := Lib.hid (r_far hr3 HFr3.out (by decide) (by decide) _)
  have HRes4 : Hid (Blk (w3.setCell ⟨w2.heap.size, 1, none⟩ (.string l)) w.heap.size 29 #[.int .i64 0, .string ⟨#[]⟩]) := Lib.hid ((HRes2.out.grown g3 (by intro e; injection e with e; omega)).far (p := ⟨w2.heap.size, 1, none⟩) (by show w.heap.size ≠ w2.heap.size; omega) _)
  have HB4 : Hid (Below w.heap.size w (w3.setCell ⟨w2.heap.size, 1, none⟩ (.string l))) := Lib.hid ((below_only HB2.out g3 (by omega) HB2.out.size).setCell (p := ⟨w2.heap.size, 1, none⟩) (by show w.heap.size ≤ w2.heap.size; omega) _)
  have f3 := HFr3.out.frozen 1
  have k3 := HFr3.out.cell 1
  simp at k3
  clear hr3 g3 HR2 HRes2 HB2 HFr2 HFr3
  go_wp2_with fail
  refine (oleft _ s p2 0 0 _ hs HR4.out).mono ?_; rintro e w5 ⟨rfl, b5⟩
  have HR5 := Lib.hid (HR4.out.keep b5)
  have HRes5 := Lib.hid (HRes4.out.keep b5)
  have HFr5 := Lib.hid (HFr4.out.keep b5)
  have HB5 := Lib.hid (HB4.out.trans (b5.mono HB4.out.size))
  clear b5 HR4 HRes4 HB4 HFr4 k3 f3
  have hz5 : w2.heap.size < w5.heap.size := HFr5.out.lt
  go_wp2_with fail
  refine (oat _ s p2 0 0 w5 HR5.out).mono ?_; rintro e w9 ⟨rfl, rfl⟩
  go_wp2_with fail
  obtain ⟨ev, hev, hec⟩ := oerr _ _ _ _ _ _ HR5.out
  obtain ⟨-, rfl⟩ := ev_nil hev
  refine hec.mono ?_; rintro e w9 ⟨rfl, rfl⟩
  clear hev hec
  go_wp2_with fail
  refine (D3.out _).mono ?_; rintro e w6 ⟨rfl, b6⟩
  have HR6 := Lib.hid (HR5.out.keep b6)
  have HRes6 := Lib.hid (HRes5.out.keep b6)
  have HFr6 := Lib.hid (HFr5.out.keep b6)
  have HB6 := Lib.hid (HB5.out.trans (b6.mono HB5.out.size))
  clear b6 HR5 HRes5 HB5 HFr5
  go_wp2_with fail
  refine (fail_new _ s p2 13 w6 HR6.out (by omega)).mono ?_; rintro e w7 ⟨rfl, hr7, g7⟩
  have HR7 := Lib.hid hr7
  have HRes7 := Lib.hid (HRes6.out.grown g7 (by intro e; injection e with e; omega))
  have HB7 := Lib.hid (below_only HB6.out g7 (by omega) HB6.out.size)
  clear hr7 g7 HR6 HRes6 HB6 HFr6
  go_wp2_with fail
  obtain ⟨ev, hev, hec⟩ := oerr _ _ _ _ _ _ HR7.out
  have HEV := Lib.hid hev
  obtain ⟨fb, rfl⟩ := ev_some hev (by omega)
  refine hec.mono ?_; rintro e w9 ⟨rfl, rfl⟩
  clear hev hec
  have r0 := HRes7.out.cell 0
  have r1 := HRes7.out.cell 1
  have f0 := HRes7.out.frozen 0
  have f9 := HRes7.out.frozen 1
  simp at r0 r1
  have HEV2 := Lib.hid (ev_set2 HEV.out HRes7.out (by decide) (.int .i64 0) (.string ⟨#[]⟩))
  go_wp2
  exact bodyPost_ret (v := .tuple #[.agg #[.int .i64 0, .string ⟨#[]⟩], .int .i64 0, .iface 40 (.pointer (some ⟨fb, 0, none⟩))]) (by simp [results, Tryd.results11, go_sem, r0, r1]) rfl (nxp HT.out (by omega) (by omega) HEV2.out ((HB7.out.setCell (p := ⟨w.heap.size, 0, none⟩) (Nat.le_refl _) _).setCell (p := ⟨w.heap.size, 1, none⟩) (Nat.le_refl _) _))
set_option maxRecDepth 100000 in
set_option maxHeartbeats 3200000 in
theorem nx_ok (s l : ByteArray) (w : World) (p1 p2 : Nat) (v : Nat) (hs : s.size ≤ 100000)
    (D1 : ∀ b W, R W b s 0 0 0 → Calls Tryd.prog 42 #[.pointer (some ⟨b, 0, none⟩), .int .i64 99] W fun e w' => e = .returned (.int .i64 (v : Int)) ∧ R w' b s p1 0 0 ∧ W.grownBy w' (some b))
    (D2 : ∀ b W, R W b s p1 0 0 → Calls Tryd.prog 43 #[.pointer (some ⟨b, 0, none⟩), .int .i64 4096] W fun e w' => e = .returned (.string l) ∧ R w' b s p2 0 0 ∧ W.grownBy w' (some b))
    (hv : ¬ v = 0)
    (hsh : ¬ s.size < p2 + 4)
    (hp2 : p2 ≤ s.size)
    (hen : endsB (s.extract 0 (p2 + 4)) = true) :
    Calls Tryd.prog 11 #[.string s] w (NxP s l v p2 0 0 0 w) := by
  have HT := Lib.hid (show FnAll s l v p2 0 0 0 _ _ _ _ _ from fn_ok (by omega) hsh hen)
  have HD1 := Lib.hid D1
  have HD2 := Lib.hid D2
  have g1 : ((v : Int) == 0) = false := by simpa using hv
  have g1b : (v == 0) = false := by simpa using hv
  have HSZ := Lib.hid hsh
  have HP2 := Lib.hid hp2
  have d1 : decide ((s.size : Int) - (p2 : Int) < 4) = false := decide_eq_false (by omega)
  have q1 : IntKind.i64.wrap ((p2 : Int) + 4) = (p2 : Int) + 4 := IntWalk.i64_in _ (by omega)
  have q2 : (p2 : Int) + 4 ≤ (s.size : Int) := by omega
  have q3 : ((p2 : Int) + 4).toNat = p2 + 4 := by omega
  have q4 : (0 : Int) ≤ (p2 : Int) + 4 := by omega
  have D3 := Lib.hid (fun W => ends_any (s.extract 0 (p2 + 4)) W (by rw [ByteArray.size_extract]; omega))
  rw [hen] at D3
  clear D1 D2 hv hsh hp2 hen
  have HRes0 := Lib.hid (Blk.new w 29 #[.int .i64 0, .string ⟨#[]⟩])
  have hz0 : (w.alloc (.cells #[.int .i64 0, .string ⟨#[]⟩] 29)).heap.size = w.heap.size + 1 := by simp
  have HB0 := Lib.hid (Joins.below_alloc1 w (.cells #[.int .i64 0, .string ⟨#[]⟩] 29))
  go_enter Tryd.func11, Tryd.ntmps11
  go_wp2_with fail
  refine (new_any s (w.alloc (.cells #[.int .i64 0, .string ⟨#[]⟩] 29))).mono ?_; rintro e w1 ⟨rfl, hr1, b1⟩
  rw [hz0] at hr1 ⊢
  have HR1 := Lib.hid hr1
  have HRes1 := Lib.hid (HRes0.out.keep b1)
  have HB1 := Lib.hid (HB0.out.trans (b1.mono HB0.out.size))
  clear hr1 b1 HRes0 HB0
  go_wp2_with fail
  refine (HD1.out _ _ HR1.out).mono ?_; rintro e w2 ⟨rfl, hr2, g2⟩
  have hl0 : w.heap.size + 1 < w2.heap.size := hr2.lt
  have hne1 : ¬ w2.heap.size = w.heap.size := by omega
  have hne2 : ¬ w2.heap.size = w.heap.size + 1 := by omega
  have hne3 : ¬ w.heap.size = w2.heap.size := by omega
  have hne4 : ¬ w.heap.size + 1 = w2.heap.size := by omega
  have HRes2 := Lib.hid ((HRes1.out.grown g2 (by intro e; injection e with e; omega)).alloc (.cells #[.int .i64 (v : Int), .string ⟨#[]⟩] 29))
  have HB2 := Lib.hid ((below_only HB1.out g2 (by omega) HB1.out.size).alloc (by omega) (.cells #[.int .i64 (v : Int), .string ⟨#[]⟩] 29))
  have HR2 := Lib.hid (hr2.keep (Joins.below_alloc1 w2 (.cells #[.int .i64 (v : Int), .string ⟨#[]⟩] 29)))
  have HFr2 := Lib.hid (Blk.new w2 29 #[.int .i64 (v : Int), .string ⟨#[]⟩])
  clear hr2 g2 HR1 HRes1 HB1
  go_wp2_with fail
  refine (HD2.out _ _ HR2.out).mono ?_; rintro e w3 ⟨rfl, hr3, g3⟩
  have hz3 : w2.heap.size < w3.heap.size := by have := g3.size; simp at this; omega
  have HFr3 : Hid (Blk w3 w2.heap.size 29 #[.int .i64 (v : Int), .string ⟨#[]⟩]) := Lib.hid (HFr2.out.grown g3 (by intro e; injection e with e; omega))
  have HFr4 : Hid (Blk (w3.setCell ⟨w2.heap.size, 1, none⟩ (.string l)) w2.heap.size 29 #[.int .i64 (v : Int), .string l]) := Lib.hid (by simpa using HFr3.out.set_ 1 (.string l))
  have HR4 : Hid (R (w3.setCell ⟨w2.heap.size, 1, none⟩ (.string l)) (w.heap.size + 1) s p2 0 0) := Lib.hid (r_far hr3 HFr3.out (by decide) (by decide) _)
  have HRes4 : Hid (Blk (w3.setCell ⟨w2.heap.size, 1, none⟩ (.string l)) w.heap.size 29 #[.int .i64 0, .string ⟨#[]⟩]) := Lib.hid ((HRes2.out.grown g3 (by intro e; injection e with e; omega)).far (p := ⟨w2.heap.size, 1, none⟩) (by show w.heap.size ≠ w2.heap.size; omega) _)
  have HB4 : Hid (Below w.heap.size w (w3.setCell ⟨w2.heap.size, 1, none⟩ (.string l))) := Lib.hid ((below_only HB2.out g3 (by omega) HB2.out.size).setCell (p := ⟨w2.heap.size, 1, none⟩) (by show w.heap.size ≤ w2.heap.size; omega) _)
  have f3 := HFr3.out.frozen 1
  have k3 := HFr3.out.cell 1
  simp at k3
  clear hr3 g3 HR2 HRes2 HB2 HFr2 HFr3
  go_wp2_with fail
  refine (oleft _ s p2 0 0 _ hs HR4.out).mono ?_; rintro e w5 ⟨rfl, b5⟩
  have HR5 := Lib.hid (HR4.out.keep b5)
  have HRes5 := Lib.hid (HRes4.out.keep b5)
  have HFr5 := Lib.hid (HFr4.out.keep b5)
  have HB5 := Lib.hid (HB4.out.trans (b5.mono HB4.out.size))
  clear b5 HR4 HRes4 HB4 HFr4 k3 f3
  have hz5 : w2.heap.size < w5.heap.size := HFr5.out.lt
  go_wp2_with fail
  refine (oat _ s p2 0 0 w5 HR5.out).mono ?_; rintro e w9 ⟨rfl, rfl⟩
  go_wp2_with fail
  obtain ⟨ev, hev, hec⟩ := oerr _ _ _ _ _ _ HR5.out
  obtain ⟨-, rfl⟩ := ev_nil hev
  refine hec.mono ?_; rintro e w9 ⟨rfl, rfl⟩
  clear hev hec
  go_wp2_with fail
  refine (D3.out _).mono ?_; rintro e w6 ⟨rfl, b6⟩
  have HR6 := Lib.hid (HR5.out.keep b6)
  have HRes6 := Lib.hid (HRes5.out.keep b6)
  have HFr6 := Lib.hid (HFr5.out.keep b6)
  have HB6 := Lib.hid (HB5.out.trans (b6.mono HB5.out.size))
  clear b6 HR5 HRes5 HB5 HFr5
  go_wp2_with fail
  obtain ⟨ev, hev, hec⟩ := oerr _ _ _ _ _ _ HR6.out
  have HEV := Lib.hid hev
  obtain ⟨-, rfl⟩ := ev_nil hev
  refine hec.mono ?_; rintro e w9 ⟨rfl, rfl⟩
  clear hev hec
  have r0 := HRes6.out.cell 0
  have r1 := HRes6.out.cell 1
  have f0 := HRes6.out.frozen 0
  have f9 := HRes6.out.frozen 1
  simp at r0 r1
  have c0 := HFr6.out.cell 0
  have c1 := HFr6.out.cell 1
  simp at c0 c1
  have HEV2 := Lib.hid (ev_set2 HEV.out HRes6.out (by decide) (.int .i64 (v : Int)) (.string l))
  go_wp2
  exact bodyPost_ret (v := .tuple #[.agg #[.int .i64 (v : Int), .string l], .int .i64 ((p2 : Int) + 4), .nilIface]) (by simp [results, Tryd.results11, go_sem, r0, r1]) rfl (nxp HT.out (by omega) (by omega) HEV2.out ((HB6.out.setCell (p := ⟨w.heap.size, 0, none⟩) (Nat.le_refl _) _).setCell (p := ⟨w.heap.size, 1, none⟩) (Nat.le_refl _) _))
end Go.Proofs.YtofpefbnkmeokaaDoor
