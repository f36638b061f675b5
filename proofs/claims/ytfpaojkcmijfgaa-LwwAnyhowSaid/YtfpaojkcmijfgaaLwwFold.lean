/- Plain facts of a list of writes: from either end they come to one register. -/
import Derived.Test.YtfpaojkcmijfgaaLwwLaw
import Derived.Test.YtfpaojkcmijfgaaLwwAp
namespace Go.Proofs.Ytfpaojkcmijfgaa
open Go.RowKit
abbrev Reg := Int × Int × Int
def mgT (a b : Reg) : Reg := (mgS a.1 a.2.1 a.2.2 b.1 b.2.1 b.2.2 a.1 b.1, mgS a.1 a.2.1 a.2.2 b.1 b.2.1 b.2.2 a.2.1 b.2.1, mgS a.1 a.2.1 a.2.2 b.1 b.2.1 b.2.2 a.2.2 b.2.2)
theorem mgT_comm (a b : Reg) : mgT a b = mgT b a := by
  obtain ⟨h1, h2, h3⟩ := mg_comm a.1 a.2.1 a.2.2 b.1 b.2.1 b.2.2
  unfold mgT
  rw [h1, h2, h3]
theorem mgT_assoc (a b c : Reg) : mgT (mgT a b) c = mgT a (mgT b c) := by
  obtain ⟨h1, h2, h3⟩ := mg_assoc a.1 a.2.1 a.2.2 b.1 b.2.1 b.2.2 c.1 c.2.1 c.2.2 _ _ _ _ _ _ rfl rfl rfl rfl rfl rfl
  unfold mgT
  simp only
  rw [h1, h2, h3]
theorem mgT_lt {a b : Reg} (h : ltR a.1 a.2.1 a.2.2 b.1 b.2.1 b.2.2) : mgT a b = b := by
  unfold mgT
  simp only [mgS_lt h]
theorem mgT_ge {a b : Reg} (h : ¬ ltR a.1 a.2.1 a.2.2 b.1 b.2.1 b.2.2) : mgT a b = a := by
  unfold mgT
  simp only [mgS_ge h]
theorem mgT_or (a b : Reg) : mgT a b = b ∨ mgT a b = a := by
  by_cases h : ltR a.1 a.2.1 a.2.2 b.1 b.2.1 b.2.2
  · exact .inl (mgT_lt h)
  · exact .inr (mgT_ge h)
theorem mgT_self (a : Reg) : mgT a a = a := by
  rcases mgT_or a a with h | h <;> exact h
theorem mgT_again (a b : Reg) : mgT (mgT a b) b = mgT a b := by rw [mgT_assoc, mgT_self]
/-- A write that is taken in. -/
def okW (x : Reg) : Bool := decide (stV x.2.1 x.2.2 = 0 ∧ ¬ x.2.1 = 0)
/-- A register that writes may come to. -/
def Good (s : Reg) : Prop := stV s.2.1 s.2.2 = 0 ∧ (s = (0, 0, 0) ∨ 0 < s.2.1)
theorem good0 : Good (0, 0, 0) := ⟨by decide, .inl rfl⟩
theorem good_okW {x : Reg} (h : okW x = true) (h0 : 0 ≤ x.2.1) : Good x := by
  unfold okW at h
  have := of_decide_eq_true h
  exact ⟨this.1, .inr (by omega)⟩
theorem good_mg {a b : Reg} (ha : Good a) (hb : Good b) : Good (mgT a b) := by
  rcases mgT_or a b with h | h <;> rw [h] <;> assumption
theorem mg_zero {s : Reg} (h : Good s) : mgT s (0, 0, 0) = s := by
  rcases h.2 with rfl | h
  · exact mgT_self _
  · refine mgT_ge ?_
    unfold ltR
    simp only
    omega
def step (s x : Reg) : Reg := if okW x = true then mgT s x else s
/-- From the front. -/
def foldF : Reg → List Reg → Reg
  | s, [] => s
  | s, x :: l => foldF (step s x) l
/-- From the back. -/
def foldB : List Reg → Reg
  | [] => (0, 0, 0)
  | x :: l => step (foldB l) x
theorem good_step {s x : Reg} (hs : Good s) (h0 : 0 ≤ x.2.1) : Good (step s x) := by
  unfold step
  split
  · rename_i h; exact good_mg hs (good_okW h h0)
  · exact hs
theorem good_foldB : ∀ (l : List Reg), (∀ x ∈ l, 0 ≤ x.2.1) → Good (foldB l)
  | [], _ => good0
  | x :: l, h => good_step (good_foldB l fun y hy => h y (by simp [hy])) (h x (by simp))
theorem foldF_eq : ∀ (l : List Reg) (s : Reg), (∀ x ∈ l, 0 ≤ x.2.1) → Good s → foldF s l = mgT s (foldB l)
  | [], s, _, hs => (mg_zero hs).symm
  | x :: l, s, h, hs => by
    have hl : ∀ y ∈ l, 0 ≤ y.2.1 := fun y hy => h y (by simp [hy])
    rw [foldF, foldF_eq l _ hl (good_step hs (h x (by simp))), foldB]
    unfold step
    split
    · rw [mgT_assoc, mgT_comm x]
    · rfl
theorem fold_same (l : List Reg) (h : ∀ x ∈ l, 0 ≤ x.2.1) : foldF (0, 0, 0) l = foldB l := by
  rw [foldF_eq l _ h good0, mgT_comm, mg_zero (good_foldB l h)]
theorem foldF_snoc : ∀ (l : List Reg) (s x : Reg), foldF s (l ++ [x]) = step (foldF s l) x
  | [], _, _ => rfl
  | y :: l, s, x => foldF_snoc l (step s y) x
theorem foldF_take (l : List Reg) (k : Nat) (h : k < l.length) : foldF (0, 0, 0) (l.take (k + 1)) = step (foldF (0, 0, 0) (l.take k)) (l.getD k (0, 0, 0)) := by
  rw [List.take_succ_eq_append_getElem h, foldF_snoc, List.getD_eq_getElem?_getD, List.getElem?_eq_getElem h]; rfl
theorem foldB_drop (l : List Reg) (k : Nat) (h : k < l.length) : foldB (l.drop k) = step (foldB (l.drop (k + 1))) (l.getD k (0, 0, 0)) := by
  rw [List.drop_eq_getElem_cons h, foldB, List.getD_eq_getElem?_getD, List.getElem?_eq_getElem h]; rfl
theorem good_foldF (l : List Reg) (h : ∀ x ∈ l, 0 ≤ x.2.1) : Good (foldF (0, 0, 0) l) := by rw [fold_same l h]; exact good_foldB l h
/-- What Apply answers. -/
theorem apply_step {s x : Reg} (hs : Good s) : laE s.2.1 s.2.2 x.2.1 x.2.2 = (if okW x = true then 0 else 2) ∧
    (okW x = true → (laS s.1 s.2.1 s.2.2 x.1 x.2.1 x.2.2 s.1 x.1, laS s.1 s.2.1 s.2.2 x.1 x.2.1 x.2.2 s.2.1 x.2.1, laS s.1 s.2.1 s.2.2 x.1 x.2.1 x.2.2 s.2.2 x.2.2) = mgT s x) ∧
    (okW x = false → laS s.1 s.2.1 s.2.2 x.1 x.2.1 x.2.2 s.1 x.1 = 0 ∧ laS s.1 s.2.1 s.2.2 x.1 x.2.1 x.2.2 s.2.1 x.2.1 = 0 ∧ laS s.1 s.2.1 s.2.2 x.1 x.2.1 x.2.2 s.2.2 x.2.2 = 0) := by
  have hg : laG s.2.1 s.2.2 x.2.1 x.2.2 ↔ okW x = true := by
    unfold laG okW
    simp only [decide_eq_true_eq]
    exact ⟨fun h => h.2, fun h => ⟨hs.1, h⟩⟩
  refine ⟨?_, fun h => ?_, fun h => ?_⟩
  · unfold laE
    by_cases h : okW x = true
    · rw [if_pos h, if_pos (hg.2 h)]
    · rw [if_neg h, if_neg (fun h' => h (hg.1 h'))]
  · unfold laS mgT
    simp only [if_pos (hg.2 h)]
  · have : ¬ laG s.2.1 s.2.2 x.2.1 x.2.2 := fun h' => by rw [hg.1 h'] at h; cases h
    unfold laS
    simp only [if_neg this, and_self]
theorem apply_to {p q r u v t a b c : Int} (hs : Good (p, q, r)) (hx : okW (u, v, t) = true) (hm : mgT (p, q, r) (u, v, t) = (a, b, c)) (W : World) :
    Calls Try.prog 24 #[.agg #[.int .i64 p, .int .u32 q, .int .i64 r], .int .i64 u, .agg #[.int .u32 v, .int .i64 t]] W fun e w' => e = .returned (.tuple #[.agg #[.int .i64 a, .int .u32 b, .int .i64 c], .int .i64 0]) ∧ Below W.heap.size W w' := by
  obtain ⟨h1, h2, _⟩ := apply_step (x := (u, v, t)) hs
  have h3 := (h2 hx).trans hm
  rw [if_pos hx] at h1
  injection h3 with e1 h3
  injection h3 with e2 e3
  exact (lwapply p q r u v t W).mono (by rintro e w' ⟨rfl, h⟩; exact ⟨ret_ap ⟨e1.symm, e2.symm, e3.symm, h1.symm⟩, h⟩)
theorem apply_not {p q r u v t : Int} (hs : Good (p, q, r)) (hx : okW (u, v, t) = false) (W : World) :
    Calls Try.prog 24 #[.agg #[.int .i64 p, .int .u32 q, .int .i64 r], .int .i64 u, .agg #[.int .u32 v, .int .i64 t]] W fun e w' => e = .returned (.tuple #[.agg #[.int .i64 0, .int .u32 0, .int .i64 0], .int .i64 2]) ∧ Below W.heap.size W w' := by
  obtain ⟨h1, _, h2⟩ := apply_step (x := (u, v, t)) hs
  obtain ⟨e1, e2, e3⟩ := h2 hx
  rw [if_neg (by rw [hx]; exact Bool.false_ne_true)] at h1
  exact (lwapply p q r u v t W).mono (by rintro e w' ⟨rfl, h⟩; exact ⟨ret_ap ⟨e1.symm, e2.symm, e3.symm, h1.symm⟩, h⟩)
theorem rmerge_to {p q r u v t a b c : Int} (hm : mgT (p, q, r) (u, v, t) = (a, b, c)) (W : World) :
    Calls Try.prog 25 #[.agg #[.int .i64 p, .int .u32 q, .int .i64 r], .agg #[.int .i64 u, .int .u32 v, .int .i64 t]] W fun e w' => e = .returned (.agg #[.int .i64 a, .int .u32 b, .int .i64 c]) ∧ Below W.heap.size W w' := by
  injection hm with e1 h3
  injection h3 with e2 e3
  exact (rlwmerge p q r u v t W).mono (by rintro e w' ⟨rfl, h⟩; exact ⟨ret_st ⟨e1.symm, e2.symm, e3.symm⟩, h⟩)
theorem rlw_eq (a b c : Int) (W : World) : (binOp .eql 56 (.agg #[.int .i64 a, .int .u32 b, .int .i64 c]) (.agg #[.int .i64 a, .int .u32 b, .int .i64 c])).run Try.prog W = Result.ok (.bool true) W := by simp [go_sem]
theorem rlw_ne {a b c a' b' c' : Int} (h : (a, b, c) ≠ (a', b', c')) (W : World) : (binOp .eql 56 (.agg #[.int .i64 a, .int .u32 b, .int .i64 c]) (.agg #[.int .i64 a', .int .u32 b', .int .i64 c'])).run Try.prog W = Result.ok (.bool false) W := by
  by_cases h1 : a = a'
  · subst h1
    by_cases h2 : b = b'
    · subst h2
      have h3 : (c == c') = false := by
        simp
        rintro rfl
        exact h rfl
      simp [go_sem, h3]
    · have h3 : (b == b') = false := by simpa using h2
      simp [go_sem, h3]
  · have h3 : (a == a') = false := by simpa using h1
    simp [go_sem, h3]
end Go.Proofs.Ytfpaojkcmijfgaa
