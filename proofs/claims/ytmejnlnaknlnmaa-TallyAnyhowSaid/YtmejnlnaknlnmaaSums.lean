/- Contracts of tally.Sum and of the reference's Sum: the counts of a list come together as one plain function says. -/
import Derived.Test.YtmejnlnaknlnmaaTally
namespace Go.Proofs.Ytmejnlnaknlnmaa
open Go.RowKit

/-- A slice of integers, as a value, reads as a list. -/
def Ints (k : IntKind) (w : World) (v : Value) (zs : List Int) : Prop :=
  (∃ a cap, v = .slice a 0 cap ∧ zs = [] ∧ (a = none → cap = 0)) ∨ ∃ b off cap, v = .slice (some ⟨b, off, none⟩) zs.length cap ∧ ∀ i, i < zs.length → w.cell? ⟨b, off + i, none⟩ = some (.int k (zs.getD i 0))
theorem block_lt {w : World} {p : Addr} {v : Value} (h : w.cell? p = some v) : p.block < w.heap.size := by
  rcases Nat.lt_or_ge p.block w.heap.size with h' | h'
  · exact h'
  · simp [World.cell?, Array.getElem?_eq_none h'] at h
theorem Ints.below {k : IntKind} {w w' : World} {v : Value} {zs : List Int} (h : Ints k w v zs) (hb : Below w.heap.size w w') : Ints k w' v zs := by
  rcases h with h | ⟨b, off, cap, hv, hc⟩
  · exact .inl h
  · refine .inr ⟨b, off, cap, hv, fun i hi => ?_⟩
    rw [hb.cell (p := ⟨b, off + i, none⟩) (block_lt (hc i hi))]
    exact hc i hi
def sumGo (s : Int) : List Int → Int × Int
  | [] => (s, 0)
  | z :: r => if addE s z = 0 then sumGo (addV s z) r else (0, addE s z)
def sumV (zs : List Int) : Int := if zs.length > 64 then 0 else (sumGo 0 zs).1
def sumE (zs : List Int) : Int := if zs.length > 64 then 8 else (sumGo 0 zs).2
theorem sum_long (zs : List Int) (h : 64 < zs.length) : sumV zs = 0 ∧ sumE zs = 8 := by
  unfold sumV sumE; rw [if_pos h, if_pos h]; exact ⟨rfl, rfl⟩
theorem sum_short (zs : List Int) (h : ¬ 64 < zs.length) : sumV zs = (sumGo 0 zs).1 ∧ sumE zs = (sumGo 0 zs).2 := by
  unfold sumV sumE; rw [if_neg h, if_neg h]; exact ⟨rfl, rfl⟩
theorem sumGo_drop (s : Int) (zs : List Int) (k : Nat) (h : k < zs.length) (z : Int) (hz : zs.getD k 0 = z) : sumGo s (zs.drop k) = if addE s z = 0 then sumGo (addV s z) (zs.drop (k + 1)) else (0, addE s z) := by
  have : zs[k] = z := by simpa [List.getD_eq_getElem?_getD, h] using hz
  rw [List.drop_eq_getElem_cons h, this]; rfl
theorem addV_bd (a b : Int) (ha : 0 ≤ a) (hb : 0 ≤ b) : 0 ≤ addV a b ∧ addV a b ≤ 1048576 := by
  unfold addV; split <;> omega
theorem addE_bd (a b : Int) : 0 ≤ addE a b ∧ addE a b ≤ 12 := by
  unfold addE; split <;> (try split) <;> omega

set_option maxHeartbeats 400000 in
theorem sum_any (v : Value) (zs : List Int) (w : World) (h : Ints .u32 w v zs) (hz0 : ∀ z ∈ zs, 0 ≤ z ∧ z ≤ 4294967295) (hlen : zs.length ≤ 1000000) :
    Calls Try.prog 43 #[v] w fun e w' => e = .returned (.tuple #[.int .u32 (sumV zs), .int .i64 (sumE zs)]) ∧ Below w.heap.size w w' := by
  rcases h with ⟨a, cap, rfl, rfl, _⟩ | ⟨b, off, cap, rfl, hc⟩
  · have hn : ¬ ((64 : Int) < 0) := by omega
    go_enter Try.func43, Try.ntmps43
    go_wp2
    refine wp_loop_rounds 1 ?_
    rw [rounds_succ]
    go_wp2
    go_ret2
    exact ⟨rfl, Below.refl _ _⟩
  · have HC := Lib.hid hc
    have HZ0 := Lib.hid hz0
    clear hc hz0
    by_cases h64 : 64 < zs.length
    · have HS := Lib.hid (sum_long zs h64)
      go_enter Try.func43, Try.ntmps43
      go_wp2
      go_ret2
      exact ⟨ret_two HS.out.1.symm HS.out.2.symm, Below.refl _ _⟩
    · have HS := Lib.hid (sum_short zs h64)
      go_enter Try.func43, Try.ntmps43
      go_wp2
      go_loopw [4, 13] (fun s i wr => ∃ (k : Nat) (x : Int), k ≤ zs.length ∧ i = .int .i64 k ∧ s = .int .u32 x ∧ 0 ≤ x ∧ x ≤ 1048576 ∧ Hid (sumGo 0 zs = sumGo x (zs.drop k)) ∧ Below w.heap.size w wr) (fun _ i _ => zs.length - (intOf i).toNat)
      case atStart => exact ⟨0, 0, Nat.zero_le _, rfl, rfl, by omega, by omega, rfl, Below.refl _ _⟩
      case round =>
        obtain ⟨k, x, hk, rfl, rfl, hx0, hx1, H, hbl⟩ := hrel
        by_cases hlt : k < zs.length
        · obtain ⟨z, hz⟩ : ∃ z, zs.getD k 0 = z := ⟨_, rfl⟩
          have hcell := HC.out k hlt
          have hlb := block_lt hcell
          rw [← hbl.cell (p := ⟨b, off + k, none⟩) hlb, hz] at hcell
          obtain ⟨hz1, hz2⟩ := HZ0.out z (by rw [← hz, List.getD_eq_getElem?_getD, List.getElem?_eq_getElem hlt]; exact List.getElem_mem hlt)
          have HG := Lib.hid (sumGo_drop x zs k hlt z hz)
          clear hz
          have hab := addV_bd x z hx0 hz1
          by_cases he : addE x z = 0
          · have hne : (addE x z != 0) = false := by simp [he]
            have HE := Lib.hid he
            clear he
            go_wp2_with (go_at_call 25; refine (add_any x z _ (by omega) (by omega) (by omega) (by omega)).mono ?_; rintro e w1 ⟨rfl, hb1⟩)
            go_roundw
            case rel => exact ⟨k + 1, addV x z, by omega, by go_num, rfl, hab.1, hab.2, H.out.trans (HG.out.trans (if_pos HE.out)), hbl.trans (hb1.mono hbl.size)⟩
            case measure => simp [intOf]; omega
          · have hne : (addE x z != 0) = true := by simp [he]
            have HE := Lib.hid he
            clear he
            go_wp2_with (go_at_call 25; refine (add_any x z _ (by omega) (by omega) (by omega) (by omega)).mono ?_; rintro e w1 ⟨rfl, hb1⟩)
            go_ret2
            have hfin := H.out.trans (HG.out.trans (if_neg HE.out))
            exact ⟨ret_two (by rw [HS.out.1, hfin]) (by rw [HS.out.2, hfin]), hbl.trans (hb1.mono hbl.size)⟩
        · have hfin : sumGo 0 zs = (x, 0) := by rw [H.out, List.drop_eq_nil_of_le (by omega)]; rfl
          have HF := Lib.hid hfin
          clear hfin
          go_wp2
          go_ret2
          exact ⟨ret_two (by rw [HS.out.1, HF.out]) (by rw [HS.out.2, HF.out]), hbl⟩

set_option maxHeartbeats 400000 in
theorem rsum_any (v : Value) (zs : List Int) (w : World) (h : Ints .u32 w v zs) (hz0 : ∀ z ∈ zs, 0 ≤ z ∧ z ≤ 4294967295) (hlen : zs.length ≤ 1000000) :
    Calls Try.prog 44 #[v] w fun e w' => e = .returned (.tuple #[.int .u32 (sumV zs), .int .i64 (sumE zs)]) ∧ Below w.heap.size w w' := by
  rcases h with ⟨a, cap, rfl, rfl, _⟩ | ⟨b, off, cap, rfl, hc⟩
  · go_enter Try.func44, Try.ntmps44
    go_wp2
    refine wp_loop_rounds 1 ?_
    rw [rounds_succ]
    go_wp2
    go_ret2
    exact ⟨rfl, Below.refl _ _⟩
  · have HC := Lib.hid hc
    have HZ0 := Lib.hid hz0
    clear hc hz0
    by_cases h64 : 64 < zs.length
    · have HS := Lib.hid (sum_long zs h64)
      go_enter Try.func44, Try.ntmps44
      go_wp2
      go_ret2
      exact ⟨ret_two HS.out.1.symm HS.out.2.symm, Below.refl _ _⟩
    · have HS := Lib.hid (sum_short zs h64)
      go_enter Try.func44, Try.ntmps44
      go_wp2
      go_loopw [4, 5] (fun s i wr => ∃ (k : Nat) (x : Int), k ≤ zs.length ∧ i = .int .i64 k ∧ s = .int .u32 x ∧ 0 ≤ x ∧ x ≤ 1048576 ∧ Hid (sumGo 0 zs = sumGo x (zs.drop k)) ∧ Below w.heap.size w wr) (fun _ i _ => zs.length - (intOf i).toNat)
      case atStart => exact ⟨0, 0, Nat.zero_le _, rfl, rfl, by omega, by omega, rfl, Below.refl _ _⟩
      case round =>
        obtain ⟨k, x, hk, rfl, rfl, hx0, hx1, H, hbl⟩ := hrel
        by_cases hlt : k < zs.length
        · obtain ⟨z, hz⟩ : ∃ z, zs.getD k 0 = z := ⟨_, rfl⟩
          have hcell := HC.out k hlt
          have hlb := block_lt hcell
          rw [← hbl.cell (p := ⟨b, off + k, none⟩) hlb, hz] at hcell
          obtain ⟨hz1, hz2⟩ := HZ0.out z (by rw [← hz, List.getD_eq_getElem?_getD, List.getElem?_eq_getElem hlt]; exact List.getElem_mem hlt)
          have HG := Lib.hid (sumGo_drop x zs k hlt z hz)
          clear hz
          have hab := addV_bd x z hx0 hz1
          by_cases he : addE x z = 0
          · have hne : (addE x z != 0) = false := by simp [he]
            have HE := Lib.hid he
            clear he
            go_wp2_with (go_at_call 26; refine (radd_any x z _ (by omega) (by omega) (by omega) (by omega)).mono ?_; rintro e w1 ⟨rfl, rfl⟩)
            go_roundw
            case rel => exact ⟨k + 1, addV x z, by omega, by go_num, rfl, hab.1, hab.2, H.out.trans (HG.out.trans (if_pos HE.out)), hbl⟩
            case measure => simp [intOf]; omega
          · have hne : (addE x z != 0) = true := by simp [he]
            have HE := Lib.hid he
            clear he
            go_wp2_with (go_at_call 26; refine (radd_any x z _ (by omega) (by omega) (by omega) (by omega)).mono ?_; rintro e w1 ⟨rfl, rfl⟩)
            go_ret2
            have hfin := H.out.trans (HG.out.trans (if_neg HE.out))
            exact ⟨ret_two (by rw [HS.out.1, hfin]) (by rw [HS.out.2, hfin]), hbl⟩
        · have hfin : sumGo 0 zs = (x, 0) := by rw [H.out, List.drop_eq_nil_of_le (by omega)]; rfl
          have HF := Lib.hid hfin
          clear hfin
          go_wp2
          go_ret2
          exact ⟨ret_two (by rw [HS.out.1, HF.out]) (by rw [HS.out.2, HF.out]), hbl⟩
end Go.Proofs.Ytmejnlnaknlnmaa
