/- Contracts of the generic function within at the three number kinds. -/
import Derived.Test.YtfpaojkcmijfgaaProg
import Derived.WalkKit
import Derived.Lib.Hide
namespace Go.Proofs.Ytfpaojkcmijfgaa
open Go.RowKit

theorem ret_bool {a b : Bool} (h : a = b) : Ending.returned (.bool a) = .returned (.bool b) := by rw [h]
/-- All numbers of a list lie within two bounds. -/
def inB (lo hi : Int) (zs : List Int) : Bool := zs.all fun z => decide (lo ≤ z) && decide (z ≤ hi)
theorem inB_drop (lo hi : Int) (zs : List Int) (k : Nat) (h : k < zs.length) : inB lo hi (zs.drop k) = ((decide (lo ≤ zs.getD k 0) && decide (zs.getD k 0 ≤ hi)) && inB lo hi (zs.drop (k + 1))) := by
  rw [List.drop_eq_getElem_cons h]
  simp only [inB, List.all_cons, List.getD_eq_getElem?_getD, List.getElem?_eq_getElem h, Option.getD_some]
theorem inB_lo (lo hi : Int) (zs : List Int) (k : Nat) (h : k < zs.length) (z : Int) (hz : zs.getD k 0 = z) (hlt : z < lo) : inB lo hi (zs.drop k) = false := by
  rw [inB_drop lo hi zs k h, hz, decide_eq_false (by omega)]; rfl
theorem inB_hi (lo hi : Int) (zs : List Int) (k : Nat) (h : k < zs.length) (z : Int) (hz : zs.getD k 0 = z) (hlt : hi < z) : inB lo hi (zs.drop k) = false := by
  rw [inB_drop lo hi zs k h, hz, decide_eq_false (p := z ≤ hi) (by omega)]; simp
theorem inB_go (lo hi : Int) (zs : List Int) (k : Nat) (h : k < zs.length) (z : Int) (hz : zs.getD k 0 = z) (h1 : lo ≤ z) (h2 : z ≤ hi) : inB lo hi (zs.drop k) = inB lo hi (zs.drop (k + 1)) := by
  rw [inB_drop lo hi zs k h, hz, decide_eq_true h1, decide_eq_true h2]; rfl

set_option maxHeartbeats 400000 in
theorem within_u32 (lo hi : Int) (b : Nat) (zs : List Int) (w : World) (hl : zs.length ≤ 1000000)
    (hc : ∀ i, i < zs.length → w.cell? ⟨b, i, none⟩ = some (.int .u32 (zs.getD i 0))) :
    Calls Try.prog 78 #[.int .u32 lo, .int .u32 hi, .slice (some ⟨b, 0, none⟩) zs.length zs.length] w fun e w' => e = .returned (.bool (inB lo hi zs)) ∧ w = w' := by
  have HC := Lib.hid hc
  clear hc
  go_enter Try.func78, Try.ntmps78
  go_wp2
  go_loop [11] (fun i => ∃ k : Nat, k ≤ zs.length ∧ i = .int .i64 k ∧ Hid (inB lo hi zs = inB lo hi (zs.drop k))) (fun i => zs.length - (intOf i).toNat)
  case atStart => exact ⟨0, Nat.zero_le _, rfl, rfl⟩
  case round =>
    obtain ⟨k, hk, rfl, H⟩ := hrel
    by_cases hlt : k < zs.length
    · obtain ⟨z, hz⟩ : ∃ z, zs.getD k 0 = z := ⟨_, rfl⟩
      have hcell := HC.out k hlt
      rw [hz] at hcell
      have HZ := Lib.hid hz
      clear hz
      by_cases h1 : z < lo
      · go_wp2
        go_ret
        exact ⟨ret_bool (by rw [H.out, inB_lo lo hi zs k hlt z HZ.out h1]), rfl⟩
      · by_cases h2 : hi < z
        · go_wp2
          go_ret
          exact ⟨ret_bool (by rw [H.out, inB_hi lo hi zs k hlt z HZ.out h2]), rfl⟩
        · go_wp2
          go_round
          case rel => exact ⟨k + 1, by omega, by go_num, H.out.trans (inB_go lo hi zs k hlt z HZ.out (by omega) (by omega))⟩
          case measure => simp [intOf]; omega
    · go_wp2
      go_ret
      exact ⟨ret_bool (by rw [H.out, List.drop_eq_nil_of_le (by omega)]; rfl), rfl⟩
theorem within1_u32 (lo hi x : Int) (r : Bool) (b : Nat) (w : World) (hr : inB lo hi [x] = r) (h0 : w.cell? ⟨b, 0, none⟩ = some (.int .u32 x)) :
    Calls Try.prog 78 #[.int .u32 lo, .int .u32 hi, .slice (some ⟨b, 0, none⟩) 1 1] w fun e w' => e = .returned (.bool r) ∧ w = w' := by
  rw [← hr]
  refine within_u32 lo hi b [x] w (by simp) ?_
  intro i hi
  match i, hi with
  | 0, _ => exact h0

theorem within2_u32 (lo hi x y : Int) (r : Bool) (b : Nat) (w : World) (hr : inB lo hi [x, y] = r) (h0 : w.cell? ⟨b, 0, none⟩ = some (.int .u32 x)) (h1 : w.cell? ⟨b, 1, none⟩ = some (.int .u32 y)) :
    Calls Try.prog 78 #[.int .u32 lo, .int .u32 hi, .slice (some ⟨b, 0, none⟩) 2 2] w fun e w' => e = .returned (.bool r) ∧ w = w' := by
  rw [← hr]
  refine within_u32 lo hi b [x, y] w (by simp) ?_
  intro i hi
  match i, hi with
  | 0, _ => exact h0
  | 1, _ => exact h1

set_option maxHeartbeats 400000 in
theorem within_i64 (lo hi : Int) (b : Nat) (zs : List Int) (w : World) (hl : zs.length ≤ 1000000)
    (hc : ∀ i, i < zs.length → w.cell? ⟨b, i, none⟩ = some (.int .i64 (zs.getD i 0))) :
    Calls Try.prog 69 #[.int .i64 lo, .int .i64 hi, .slice (some ⟨b, 0, none⟩) zs.length zs.length] w fun e w' => e = .returned (.bool (inB lo hi zs)) ∧ w = w' := by
  have HC := Lib.hid hc
  clear hc
  go_enter Try.func69, Try.ntmps69
  go_wp2
  go_loop [11] (fun i => ∃ k : Nat, k ≤ zs.length ∧ i = .int .i64 k ∧ Hid (inB lo hi zs = inB lo hi (zs.drop k))) (fun i => zs.length - (intOf i).toNat)
  case atStart => exact ⟨0, Nat.zero_le _, rfl, rfl⟩
  case round =>
    obtain ⟨k, hk, rfl, H⟩ := hrel
    by_cases hlt : k < zs.length
    · obtain ⟨z, hz⟩ : ∃ z, zs.getD k 0 = z := ⟨_, rfl⟩
      have hcell := HC.out k hlt
      rw [hz] at hcell
      have HZ := Lib.hid hz
      clear hz
      by_cases h1 : z < lo
      · go_wp2
        go_ret
        exact ⟨ret_bool (by rw [H.out, inB_lo lo hi zs k hlt z HZ.out h1]), rfl⟩
      · by_cases h2 : hi < z
        · go_wp2
          go_ret
          exact ⟨ret_bool (by rw [H.out, inB_hi lo hi zs k hlt z HZ.out h2]), rfl⟩
        · go_wp2
          go_round
          case rel => exact ⟨k + 1, by omega, by go_num, H.out.trans (inB_go lo hi zs k hlt z HZ.out (by omega) (by omega))⟩
          case measure => simp [intOf]; omega
    · go_wp2
      go_ret
      exact ⟨ret_bool (by rw [H.out, List.drop_eq_nil_of_le (by omega)]; rfl), rfl⟩
theorem within1_i64 (lo hi x : Int) (r : Bool) (b : Nat) (w : World) (hr : inB lo hi [x] = r) (h0 : w.cell? ⟨b, 0, none⟩ = some (.int .i64 x)) :
    Calls Try.prog 69 #[.int .i64 lo, .int .i64 hi, .slice (some ⟨b, 0, none⟩) 1 1] w fun e w' => e = .returned (.bool r) ∧ w = w' := by
  rw [← hr]
  refine within_i64 lo hi b [x] w (by simp) ?_
  intro i hi
  match i, hi with
  | 0, _ => exact h0

theorem within2_i64 (lo hi x y : Int) (r : Bool) (b : Nat) (w : World) (hr : inB lo hi [x, y] = r) (h0 : w.cell? ⟨b, 0, none⟩ = some (.int .i64 x)) (h1 : w.cell? ⟨b, 1, none⟩ = some (.int .i64 y)) :
    Calls Try.prog 69 #[.int .i64 lo, .int .i64 hi, .slice (some ⟨b, 0, none⟩) 2 2] w fun e w' => e = .returned (.bool r) ∧ w = w' := by
  rw [← hr]
  refine within_i64 lo hi b [x, y] w (by simp) ?_
  intro i hi
  match i, hi with
  | 0, _ => exact h0
  | 1, _ => exact h1

end Go.Proofs.Ytfpaojkcmijfgaa
