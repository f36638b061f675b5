/- Slices of structs of integers that came in: their rows. -/
import Derived.Test.YtfpaojkcmijfgaaAgg
import Derived.Deep.Slices
namespace Go.Proofs.Ytfpaojkcmijfgaa
open Go.ChangeShapes Go.WideShapes Go.RowKit Go.Deep
/-- A slice of pairs of integers. -/
def Tab2 (w : World) (k0 k1 : IntKind) (A : Option Addr) (len : Nat) (V : Nat → Int × Int) : Prop :=
  ∀ i, i < len → (∃ b off, A = some ⟨b, off, none⟩ ∧ w.cell? ⟨b, off + i * 2, none⟩ = some (.int k0 (V i).1) ∧ w.cell? ⟨b, off + (i * 2 + 1), none⟩ = some (.int k1 (V i).2)) ∧ (Lit.int k0 (V i).1).wf = true ∧ (Lit.int k1 (V i).2).wf = true
/-- A slice of structs of three integers. -/
def Tab3 (w : World) (k0 k1 k2 : IntKind) (A : Option Addr) (len : Nat) (V : Nat → Int × Int × Int) : Prop :=
  ∀ i, i < len → (∃ b off, A = some ⟨b, off, none⟩ ∧ w.cell? ⟨b, off + i * 3, none⟩ = some (.int k0 (V i).1) ∧ w.cell? ⟨b, off + (i * 3 + 1), none⟩ = some (.int k1 (V i).2.1) ∧ w.cell? ⟨b, off + (i * 3 + 2), none⟩ = some (.int k2 (V i).2.2)) ∧
    (Lit.int k0 (V i).1).wf = true ∧ (Lit.int k1 (V i).2.1).wf = true ∧ (Lit.int k2 (V i).2.2).wf = true
theorem cell_lt {w : World} {p : Addr} {v : Value} (h : w.cell? p = some v) : p.block < w.heap.size := by
  rcases Nat.lt_or_ge p.block w.heap.size with h' | h'
  · exact h'
  · simp [World.cell?, Array.getElem?_eq_none h'] at h
theorem Tab2.keep {w w' : World} {k0 k1 : IntKind} {A : Option Addr} {len : Nat} {V : Nat → Int × Int} (h : Tab2 w k0 k1 A len V) (hb : Below w.heap.size w w') : Tab2 w' k0 k1 A len V := by
  intro i hi
  obtain ⟨⟨b, off, e, c0, c1⟩, w0⟩ := h i hi
  exact ⟨⟨b, off, e, by rw [hb.cell (p := ⟨b, off + i * 2, none⟩) (cell_lt c0)]; exact c0, by rw [hb.cell (p := ⟨b, off + (i * 2 + 1), none⟩) (cell_lt c1)]; exact c1⟩, w0⟩
theorem Tab3.keep {w w' : World} {k0 k1 k2 : IntKind} {A : Option Addr} {len : Nat} {V : Nat → Int × Int × Int} (h : Tab3 w k0 k1 k2 A len V) (hb : Below w.heap.size w w') : Tab3 w' k0 k1 k2 A len V := by
  intro i hi
  obtain ⟨⟨b, off, e, c0, c1, c2⟩, w0⟩ := h i hi
  exact ⟨⟨b, off, e, by rw [hb.cell (p := ⟨b, off + i * 3, none⟩) (cell_lt c0)]; exact c0, by rw [hb.cell (p := ⟨b, off + (i * 3 + 1), none⟩) (cell_lt c1)]; exact c1, by rw [hb.cell (p := ⟨b, off + (i * 3 + 2), none⟩) (cell_lt c2)]; exact c2⟩, w0⟩
section
variable {H : Type} {enc : TypeId × Value → H} {P : Program} {w : World} {base : Nat} {spare : Nat → Bool} {held : Bool}
theorem add_at (b off n : Nat) : (⟨b, off, none⟩ : Addr).add n = ⟨b, off + n, none⟩ := by unfold Addr.add; split <;> simp_all
/-- A slice of structs: each element's cells, as a list that is laid out by f. -/
theorem slice_rows {α : Type} [Inhabited α] {f : α → List Value} {good : α → Prop} {r : Reach} {b0 : Nat} {t e : TypeId} {C : Nat} {v : Value} {d : DataW H} {p : List MemPlace} (ht : P.underlying t = some (.slice e)) (hC : P.cellsOf e = C) (hpos : 0 < C)
    (hel : ∀ (n : Nat) (cs : List Value) (x : DataW H × List MemPlace), DataW.trod enc P w base spare held n e cs = some x → ∃ a, cs = f a ∧ good a) (hlen : ∀ a, (f a).length = C)
    (hv : Value.okWide P w r b0 t v) (h : DataW.Trod enc P w base spare held t v d p) :
    ∃ (A : Option Addr) (len cap : Nat) (V : Nat → α), v = .slice A len cap ∧ len ≤ maxLen ∧ ∀ i, i < len → (∃ b off, A = some ⟨b, off, none⟩ ∧ ∀ j, j < C → w.cell? ⟨b, off + (i * C + j), none⟩ = (f (V i))[j]?) ∧ good (V i) := by
  obtain ⟨A, len, cap, rfl⟩ := okWide_slice ht hv
  obtain ⟨fuel, hf⟩ := h
  rcases open_slice ht hf with ⟨hcs, _⟩ | ⟨a, len', cap', m, n, D, Pl, hcs, _, hl, hm, hmm, _, hx⟩
  · simp [Value.cells] at hcs
    obtain ⟨rfl, rfl, rfl⟩ := hcs
    exact ⟨none, 0, 0, fun _ => default, rfl, by simp, fun i hi => absurd hi (by omega)⟩
  · simp [Value.cells] at hcs
    obtain ⟨rfl, rfl, rfl⟩ := hcs
    have hlm : len ≤ m := by rw [hmm]; split <;> omega
    obtain ⟨V, hV⟩ := choose_lt (α := α) (n := len) (p := fun i x => (∀ j, j < C → w.cell? ((a.add (i * C)).add j) = (f x)[j]?) ∧ good x) (fun i hi => by
      obtain ⟨cs', hc, ht'⟩ := hx i (by omega)
      obtain ⟨x, rfl, hg⟩ := hel _ _ _ ht'
      rw [hC] at hc
      obtain ⟨_, _, hat⟩ := World.cells?_some hc
      exact ⟨x, hat, hg⟩)
    refine ⟨some a, len, cap, V, rfl, by omega, fun i hi => ⟨?_, (hV i hi).2⟩⟩
    obtain ⟨b, off, spot⟩ := a
    have h0 := (hV 0 (by omega)).1 0 hpos
    rw [List.getElem?_eq_getElem (by rw [hlen]; exact hpos)] at h0
    have hs : spot = none := by simpa [Addr.add] using World.cell?_spot h0
    subst hs
    refine ⟨b, off, rfl, fun j hj => ?_⟩
    have := (hV i hi).1 j hj
    rw [add_at, add_at, Nat.add_assoc] at this
    exact this
theorem tab2_open {r : Reach} {b0 : Nat} {t e : TypeId} {f0 f1 : Field} {k0 k1 : IntKind} {v : Value} {d : DataW H} {p : List MemPlace} (ht : P.underlying t = some (.slice e)) (hs : P.underlying e = some (.struct #[f0, f1])) (hC : P.cellsOf e = 2)
    (o0 : f0.offset = 0) (o1 : f1.offset = 1) (h0 : P.underlying f0.type = some (.int k0)) (c0 : P.cellsOf f0.type = 1) (h1 : P.underlying f1.type = some (.int k1)) (c1 : P.cellsOf f1.type = 1)
    (hv : Value.okWide P w r b0 t v) (h : DataW.Trod enc P w base spare held t v d p) : ∃ (A : Option Addr) (len cap : Nat) (V : Nat → Int × Int), v = .slice A len cap ∧ len ≤ maxLen ∧ Tab2 w k0 k1 A len V := by
  obtain ⟨A, len, cap, V, rfl, hl, hx⟩ := slice_rows (α := Int × Int) (f := fun x => [.int k0 x.1, .int k1 x.2]) (good := fun x => (Lit.int k0 x.1).wf = true ∧ (Lit.int k1 x.2).wf = true) ht hC (by omega) (fun n cs x hx => by
    obtain ⟨a, b, e, wa, wb⟩ := pair_cells hs hC o0 o1 h0 c0 h1 c1 hx
    exact ⟨(a, b), e, wa, wb⟩) (fun _ => rfl) hv h
  refine ⟨A, len, cap, V, rfl, hl, fun i hi => ?_⟩
  obtain ⟨⟨b, off, e, hc⟩, hg⟩ := hx i hi
  exact ⟨⟨b, off, e, hc 0 (by omega), hc 1 (by omega)⟩, hg⟩
/-- A struct of an integer and a pair: the list of cells. -/
theorem state_cells {t : TypeId} {f0 f1 g0 g1 : Field} {k0 k1 k2 : IntKind} {cs : List Value} {fuel : Nat} {x : DataW H × List MemPlace} (hs : P.underlying t = some (.struct #[f0, f1])) (hC : P.cellsOf t = 3)
    (o0 : f0.offset = 0) (o1 : f1.offset = 1) (h0 : P.underlying f0.type = some (.int k0)) (c0 : P.cellsOf f0.type = 1) (hi : P.underlying f1.type = some (.struct #[g0, g1])) (ci : P.cellsOf f1.type = 2) (q0 : g0.offset = 0) (q1 : g1.offset = 1)
    (h1 : P.underlying g0.type = some (.int k1)) (c1 : P.cellsOf g0.type = 1) (h2 : P.underlying g1.type = some (.int k2)) (c2 : P.cellsOf g1.type = 1)
    (h : DataW.trod enc P w base spare held fuel t cs = some x) : ∃ a b c, cs = [.int k0 a, .int k1 b, .int k2 c] ∧ (Lit.int k0 a).wf = true ∧ (Lit.int k1 b).wf = true ∧ (Lit.int k2 c).wf = true := by
  obtain ⟨y0, y1, n, _, hl, g0', g1'⟩ := trod_struct2 hs h
  rw [hC] at hl
  obtain ⟨a, ha, wa⟩ := leaf h0 c0 g0'
  rw [o1, ci] at g1'
  obtain ⟨b, c, e, wb, wc⟩ := pair_cells hi ci q0 q1 h1 c1 h2 c2 g1'
  rw [o0] at ha
  match cs, hl with
  | [u0, u1, u2], _ =>
    simp at ha e
    obtain ⟨rfl, rfl⟩ := e
    subst ha
    exact ⟨a, b, c, rfl, wa, wb, wc⟩
theorem tab3_open {r : Reach} {b0 : Nat} {t e : TypeId} {f0 f1 g0 g1 : Field} {k0 k1 k2 : IntKind} {v : Value} {d : DataW H} {p : List MemPlace} (ht : P.underlying t = some (.slice e)) (hs : P.underlying e = some (.struct #[f0, f1])) (hC : P.cellsOf e = 3)
    (o0 : f0.offset = 0) (o1 : f1.offset = 1) (h0 : P.underlying f0.type = some (.int k0)) (c0 : P.cellsOf f0.type = 1) (hi : P.underlying f1.type = some (.struct #[g0, g1])) (ci : P.cellsOf f1.type = 2) (q0 : g0.offset = 0) (q1 : g1.offset = 1)
    (h1 : P.underlying g0.type = some (.int k1)) (c1 : P.cellsOf g0.type = 1) (h2 : P.underlying g1.type = some (.int k2)) (c2 : P.cellsOf g1.type = 1)
    (hv : Value.okWide P w r b0 t v) (h : DataW.Trod enc P w base spare held t v d p) : ∃ (A : Option Addr) (len cap : Nat) (V : Nat → Int × Int × Int), v = .slice A len cap ∧ len ≤ maxLen ∧ Tab3 w k0 k1 k2 A len V := by
  obtain ⟨A, len, cap, V, rfl, hl, hx⟩ := slice_rows (α := Int × Int × Int) (f := fun x => [.int k0 x.1, .int k1 x.2.1, .int k2 x.2.2]) (good := fun x => (Lit.int k0 x.1).wf = true ∧ (Lit.int k1 x.2.1).wf = true ∧ (Lit.int k2 x.2.2).wf = true) ht hC (by omega) (fun n cs x hx => by
    obtain ⟨a, b, c, e, wa, wb, wc⟩ := state_cells hs hC o0 o1 h0 c0 hi ci q0 q1 h1 c1 h2 c2 hx
    exact ⟨(a, b, c), e, wa, wb, wc⟩) (fun _ => rfl) hv h
  refine ⟨A, len, cap, V, rfl, hl, fun i hi => ?_⟩
  obtain ⟨⟨b, off, e, hc⟩, hg⟩ := hx i hi
  exact ⟨⟨b, off, e, hc 0 (by omega), hc 1 (by omega), hc 2 (by omega)⟩, hg⟩
end
end Go.Proofs.Ytfpaojkcmijfgaa
