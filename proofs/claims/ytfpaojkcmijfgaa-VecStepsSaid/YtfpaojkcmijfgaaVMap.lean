/- A map from ids to Bools that the call makes, and what it says beside a vector. -/
import Derived.Test.YtfpaojkcmijfgaaTake
import Derived.Test.YtfpaojkcmijfgaaFrame
import Derived.DeepKeys4
import Derived.Maps.Own
import Derived.Maps.Views
namespace Go.Proofs.Ytfpaojkcmijfgaa
open Go.RowKit Go.Maps
set_option linter.unusedVariables false
theorem key_law : Keyed Try.prog 66 := .of_law (deep_law_laid laidOut (m := 3) (by omega) (of_decide_eq_true (by kernel_rfl)) (by kernel_rfl) (by rw [Try.underlying66]))
def klit (o s : Int) : Lit := .string (keyBytes [.int .i64 o, .int .u32 s])
theorem key_id {o s : Int} (wo : (Lit.int .i64 o).wf = true) (ws : (Lit.int .u32 s).wf = true) : keyOf Try.prog 66 (.agg #[.int .i64 o, .int .u32 s]) = some (klit o s) := by
  have hkt : Try.prog.keyType 66 = true := by kernel_rfl
  have hc : Try.prog.cellsOf 66 = 2 := by kernel_rfl
  have hc0 : Try.prog.cellsOf 3 = 1 := by kernel_rfl
  have hc1 : Try.prog.cellsOf 38 = 1 := by kernel_rfl
  obtain ⟨m, hm⟩ : ∃ m, Try.prog.types.size = m + 1 := ⟨Try.prog.types.size - 1, by kernel_rfl⟩
  unfold keyOf
  simp only [Try.underlying66]
  rw [if_pos (by simp [hkt, Value.formed, Try.underlying66, hc]), hm]
  unfold Program.keyLits
  simp only [Try.underlying66, Value.cells]
  rw [if_pos ⟨by rw [hc]; rfl, by kernel_rfl⟩]
  simp [Program.keyLits, hc0, hc1, Try.underlying3, Try.underlying38, wo, ws, klit]
theorem klit_ne {o s o' s' : Int} (wo : (Lit.int .i64 o).wf = true) (ws : (Lit.int .u32 s).wf = true) (wo' : (Lit.int .i64 o').wf = true) (ws' : (Lit.int .u32 s').wf = true) (h : ¬ (o' = o ∧ s' = s)) : klit o' s' ≠ klit o s := by
  intro e
  have h1 := key_id wo ws
  have h2 := key_id wo' ws'
  rw [e] at h2
  have := key_law.inj h2 h1
  injection this with this
  simp at this
  exact h this
abbrev Own (w : World) (b n : Nat) (D : DataW Unit) : Prop := w.ownsMap Try.prog 66 (plainElem (H := Unit) Try.prog 4) b n D
theorem Own.keep {w w' : World} {b n : Nat} {D : DataW Unit} (h : Own w b n D) (hb : Below w.heap.size w w') : Own w' b n D := by
  have hlt := World.ownsMap.lt h
  obtain ⟨es, clock, hc, r⟩ := h
  exact ⟨es, clock, (hb.block b hlt).trans hc, r⟩
theorem Own.set {w : World} {b n : Nat} {D : DataW Unit} (h : Own w b n D) {p : Addr} (hp : b ≠ p.block) (u : Value) : Own (w.setCell p u) b n D := by
  obtain ⟨es, clock, hc, r⟩ := h
  exact ⟨es, clock, (Below.heap_setCell w p u b hp).trans hc, r⟩
theorem bool_inv {v : Value} {x : Bool} {ps : List MemPlace} (h : plainElem (H := Unit) Try.prog 4 v = some (.lit (.bool x), ps)) : v = .bool x := by
  have hu := Try.underlying4
  generalize Try.prog = P at h hu
  unfold plainElem at h
  rw [hu] at h
  cases v with
  | bool y => simp at h; rw [h.1]
  | _ => cases h
theorem Own.look {w : World} {b n : Nat} {D : DataW Unit} (h : Own w b n D) {o s : Int} (wo : (Lit.int .i64 o).wf = true) (ws : (Lit.int .u32 s).wf = true) {x : Bool} (hat : D.atKey (klit o s) (.lit (.bool false)) = .lit (.bool x)) :
    (Instr.lookup 79 (.map (some b)) (.agg #[.int .i64 o, .int .u32 s]) false).run Try.prog w = .ok (.bool x) w := by
  obtain ⟨v, ps, hrun, hv⟩ := World.ownsMap.lookup h key_law Try.underlying79 (z := .bool false) (by kernel_rfl) (plainElem_bool Try.underlying4 false) (key_id wo ws)
  rw [hat] at hv
  have hv' : v = .bool x := bool_inv hv
  subst hv'
  exact hrun
/-- What the map says is what the vector says. -/
def MapI (D : DataW Unit) (x0 x1 x2 x3 x4 x5 x6 x7 : Int) : Prop := IsMap D ∧ ∀ o s : Int, (Lit.int .i64 o).wf = true → (Lit.int .u32 s).wf = true → D.atKey (klit o s) (.lit (.bool false)) = .lit (.bool (hasB x0 x1 x2 x3 x4 x5 x6 x7 o s))
theorem mapI_nil : MapI (.map []) 0 0 0 0 0 0 0 0 := by
  refine ⟨⟨_, rfl⟩, fun o s wo ws => ?_⟩
  have h : hasB 0 0 0 0 0 0 0 0 o s = false := by
    unfold hasB
    refine decide_eq_false ?_
    rintro ⟨h1, h2⟩
    obtain ⟨_, _, h3, _⟩ := idV_inv h1
    simp [pk] at h2
    omega
  rw [h]
  rfl
theorem mapI_put {D : DataW Unit} {x0 x1 x2 x3 x4 x5 x6 x7 o s : Int} (h : MapI D x0 x1 x2 x3 x4 x5 x6 x7) (wo : (Lit.int .i64 o).wf = true) (ws : (Lit.int .u32 s).wf = true) (hi : idV o s = 0) (hp : s = pk x0 x1 x2 x3 x4 x5 x6 x7 o + 1) :
    MapI (D.put (klit o s) (.lit (.bool true))) (if o = 0 then s else x0) (if o = 1 then s else x1) (if o = 2 then s else x2) (if o = 3 then s else x3) (if o = 4 then s else x4) (if o = 5 then s else x5) (if o = 6 then s else x6) (if o = 7 then s else x7) := by
  obtain ⟨h0, h7, _, _⟩ := idV_inv hi
  have hself : pk (if o = 0 then s else x0) (if o = 1 then s else x1) (if o = 2 then s else x2) (if o = 3 then s else x3) (if o = 4 then s else x4) (if o = 5 then s else x5) (if o = 6 then s else x6) (if o = 7 then s else x7) o = s := by
    obtain rfl | rfl | rfl | rfl | rfl | rfl | rfl | rfl := o_cases h0 h7 <;> simp [pk]
  have hother : ∀ o', o' ≠ o → 0 ≤ o' → o' ≤ 7 → pk (if o = 0 then s else x0) (if o = 1 then s else x1) (if o = 2 then s else x2) (if o = 3 then s else x3) (if o = 4 then s else x4) (if o = 5 then s else x5) (if o = 6 then s else x6) (if o = 7 then s else x7) o' = pk x0 x1 x2 x3 x4 x5 x6 x7 o' := by
    intro o' hne a b
    unfold pk
    obtain rfl | rfl | rfl | rfl | rfl | rfl | rfl | rfl := o_cases a b <;> simp [Ne.symm hne]
  obtain ⟨es, he⟩ := h.1
  refine ⟨by rw [he]; exact ⟨_, rfl⟩, fun o' s' wo' ws' => ?_⟩
  by_cases hk : o' = o ∧ s' = s
  · obtain ⟨rfl, rfl⟩ := hk
    rw [atKey_put_same h.1 (key_law.key (key_id wo ws))]
    unfold hasB
    rw [hself, decide_eq_true ⟨hi, Int.le_refl _⟩]
  · rw [atKey_put_other (klit_ne wo ws wo' ws' hk), h.2 o' s' wo' ws']
    congr 2
    unfold hasB
    by_cases hv : idV o' s' = 0
    · obtain ⟨a, b, _, _⟩ := idV_inv hv
      by_cases ho : o' = o
      · subst ho
        rw [hself]
        simp only [hv, true_and]
        have : s' ≠ s := fun e => hk ⟨rfl, e⟩
        exact decide_eq_decide.2 (by omega)
      · rw [hother o' ho a b]
    · simp [hv]
theorem upd_sum {x0 x1 x2 x3 x4 x5 x6 x7 o s : Int} (hi : idV o s = 0) (hp : s = pk x0 x1 x2 x3 x4 x5 x6 x7 o + 1) : (if o = 0 then s else x0) + (if o = 1 then s else x1) + (if o = 2 then s else x2) + (if o = 3 then s else x3) + (if o = 4 then s else x4) + (if o = 5 then s else x5) + (if o = 6 then s else x6) + (if o = 7 then s else x7) = x0 + x1 + x2 + x3 + x4 + x5 + x6 + x7 + 1 := by
  obtain ⟨h0, h7, _, _⟩ := idV_inv hi
  obtain rfl | rfl | rfl | rfl | rfl | rfl | rfl | rfl := o_cases h0 h7 <;> simp [pk] at hp ⊢ <;> omega
theorem upd_chk {x0 x1 x2 x3 x4 x5 x6 x7 o s : Int} (hv : vchk x0 x1 x2 x3 x4 x5 x6 x7 = 0) (hi : idV o s = 0) : vchk (if o = 0 then s else x0) (if o = 1 then s else x1) (if o = 2 then s else x2) (if o = 3 then s else x3) (if o = 4 then s else x4) (if o = 5 then s else x5) (if o = 6 then s else x6) (if o = 7 then s else x7) = 0 := by
  obtain ⟨h0, h7, h1, h2⟩ := idV_inv hi
  have := vchk_inv hv
  obtain rfl | rfl | rfl | rfl | rfl | rfl | rfl | rfl := o_cases h0 h7 <;> simp [vchk] <;> omega
theorem upd_le {x0 x1 x2 x3 x4 x5 x6 x7 o s : Int} (hi : idV o s = 0) (hp : s = pk x0 x1 x2 x3 x4 x5 x6 x7 o + 1) : leB x0 x1 x2 x3 x4 x5 x6 x7 (if o = 0 then s else x0) (if o = 1 then s else x1) (if o = 2 then s else x2) (if o = 3 then s else x3) (if o = 4 then s else x4) (if o = 5 then s else x5) (if o = 6 then s else x6) (if o = 7 then s else x7) = true := by
  obtain ⟨h0, h7, h1, h2⟩ := idV_inv hi
  obtain rfl | rfl | rfl | rfl | rfl | rfl | rfl | rfl := o_cases h0 h7 <;> simp [pk] at hp <;> simp [leB] <;> omega
end Go.Proofs.Ytfpaojkcmijfgaa
