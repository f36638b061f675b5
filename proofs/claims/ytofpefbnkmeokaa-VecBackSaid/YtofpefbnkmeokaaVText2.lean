/- Contract of vec.Text. -/
import Derived.Test.YtofpefbnkmeokaaVText
import Derived.Test.YtofpefbnkmeokaaShelf
import Derived.Laws.AppendOwn
import Derived.Laws.OwnMore
import Derived.OwnWalk
import Derived.Deep.AppendLies
import Derived.Deep.Heap
namespace Go.Proofs.Ytofpefbnkmeokaa
open Go.RowKit
set_option linter.unusedVariables false
theorem info_str : (Try.prog.info? 9).map (fun i => (i.zero, i.size, i.bytes)) = some (some (.string ⟨#[]⟩), 1, 16) := by kernel_rfl
/-- The words of the first k. -/
def wrd (F : Nat → Nat) (k : Nat) : List ByteArray := (List.range k).map fun i => ⟨(digL (F i)).toArray⟩
theorem wrd_length (F : Nat → Nat) (k : Nat) : (wrd F k).length = k := by simp [wrd]
theorem wrd_succ (F : Nat → Nat) (k : Nat) : wrd F (k + 1) = wrd F k ++ [⟨(digL (F k)).toArray⟩] := by simp [wrd, List.range_succ]
def textB (F : Nat → Nat) : ByteArray := if lng (fun i => (F i : Int)) 8 = 0 then ⟨#[45]⟩ else ⟨(Lib.join ((wrd F (lng (fun i => (F i : Int)) 8)).map (·.data.toList)) [44]).toArray⟩
theorem join_le (sep : List UInt8) (hs : sep.length ≤ 1) : ∀ l : List (List UInt8), (∀ x ∈ l, x.length ≤ 20) → (Lib.join l sep).length ≤ 21 * l.length
  | [], _ => by simp [Lib.join_nil]
  | x :: l, h => by
    rw [Lib.join_cons]
    have hx := h x (by simp)
    have : ∀ r : List (List UInt8), (∀ y ∈ r, y.length ≤ 20) → (Lib.joinTail sep r).length ≤ 21 * r.length := by
      intro r hr
      induction r with
      | nil => simp [Lib.joinTail]
      | cons y r ih =>
        have h1 := hr y (by simp)
        have h2 := ih (fun z hz => hr z (by simp [hz]))
        simp only [Lib.joinTail, List.map_cons, List.flatten_cons, List.length_append, List.length_cons] at h2 ⊢
        omega
    have h3 := this l (fun y hy => h y (by simp [hy]))
    simp only [List.length_append, List.length_cons]
    omega
theorem own_keep {w w' : World} {base : Nat} {e : TypeId} {size : Nat} {v : Value} {n : Nat} {xs : List Value} (h : w.ownsRow base e size v n xs) (hb : Below w.heap.size w w') : w'.ownsRow base e size v n xs :=
  h.kept (row := none) ⟨hb.os, hb.tape, hb.output, hb.size, fun i hi _ => hb.block i hi⟩ (by cases hv : v.ownBlock <;> simp)
theorem own_slice {w : World} {base : Nat} {e : TypeId} {v : Value} {n : Nat} {xs : List Value} (h : w.ownsRow base e 1 v n xs) (hn : 0 < n) : ∃ g cap, v = .slice (some ⟨g, 0, none⟩) n cap ∧ n ≤ cap ∧ g < w.heap.size := by
  rcases h.2 with ⟨rfl, h0⟩ | ⟨g, cap, cur, rfl, hb, hg, hle, _⟩
  · omega
  · exact ⟨g, cap, rfl, hle, (Array.getElem?_eq_some_iff.1 hg).1⟩
theorem text_nil {F : Nat → Nat} (h : lng (fun i => (F i : Int)) 8 = 0) : textB F = ⟨#[45]⟩ := if_pos h
theorem text_some {F : Nat → Nat} {N : Nat} (h : lng (fun i => (F i : Int)) 8 = N) (hN : 0 < N) : (⟨(Lib.join ((wrd F N).map (·.data.toList)) [44]).toArray⟩ : ByteArray) = textB F := by
  unfold textB
  rw [h, if_neg (by omega)]
def RelT (w : World) (F : Nat → Nat) (N : Nat) (v i : Value) (wr : World) : Prop :=
  ∃ k : Nat, k ≤ N ∧ i = .int .i64 k ∧ wr.ownsRow (w.heap.size + 1) 9 1 v k ((wrd F k).map Value.string) ∧ (k = 0 → v = .slice none 0 0) ∧ (∀ j, j < 8 → wr.cell? ⟨w.heap.size, j, none⟩ = some (.int .u32 (F j : Int))) ∧ Below w.heap.size w wr
set_option maxRecDepth 100000 in
set_option maxHeartbeats 1600000 in
theorem vtext (F : Nat → Nat) (w : World) (hF : ∀ i, F i ≤ 4294967295) :
    Calls Try.prog 13 #[.agg #[.int .u32 (F 0 : Int), .int .u32 (F 1 : Int), .int .u32 (F 2 : Int), .int .u32 (F 3 : Int), .int .u32 (F 4 : Int), .int .u32 (F 5 : Int), .int .u32 (F 6 : Int), .int .u32 (F 7 : Int)]] w fun e w' => e = .returned (.string (textB F)) ∧ Below w.heap.size w w' := by
  obtain ⟨i0, hi, hz0, hz1, hz2⟩ := info_parts info_str
  have hN := lng_le (fun i => (F i : Int)) 8
  obtain ⟨N, hNe⟩ : ∃ N, lng (fun i => (F i : Int)) 8 = N := ⟨_, rfl⟩
  have HN := Lib.hid hNe
  rw [hNe] at hN
  clear hNe
  go_enter Try.func13, Try.ntmps13
  go_wp2_with fail
  have hcs : ∀ j, j < 8 → (w.alloc (.cells #[.int .u32 (F 0 : Int), .int .u32 (F 1 : Int), .int .u32 (F 2 : Int), .int .u32 (F 3 : Int), .int .u32 (F 4 : Int), .int .u32 (F 5 : Int), .int .u32 (F 6 : Int), .int .u32 (F 7 : Int)] 24)).cell? ⟨w.heap.size, j, none⟩ = some (.int .u32 (F j : Int)) := by
    intro j hj
    rw [(Blk.new w 24 _).cell j]
    match j, hj with
    | 0, _ => rfl
    | 1, _ => rfl
    | 2, _ => rfl
    | 3, _ => rfl
    | 4, _ => rfl
    | 5, _ => rfl
    | 6, _ => rfl
    | 7, _ => rfl
  have HC := Lib.hid hcs
  have HB := Lib.hid (Joins.below_alloc1 w (.cells #[.int .u32 (F 0 : Int), .int .u32 (F 1 : Int), .int .u32 (F 2 : Int), .int .u32 (F 3 : Int), .int .u32 (F 4 : Int), .int .u32 (F 5 : Int), .int .u32 (F 6 : Int), .int .u32 (F 7 : Int)] 24))
  clear hcs
  refine (vlong w.heap.size (fun i => (F i : Int)) _ HC.out).mono ?_; rintro e w1 ⟨rfl, rfl⟩
  have hsz : w.heap.size + 1 ≤ (w.alloc (.cells #[.int .u32 (F 0 : Int), .int .u32 (F 1 : Int), .int .u32 (F 2 : Int), .int .u32 (F 3 : Int), .int .u32 (F 4 : Int), .int .u32 (F 5 : Int), .int .u32 (F 6 : Int), .int .u32 (F 7 : Int)] 24)).heap.size := by simp
  generalize w.alloc (.cells #[.int .u32 (F 0 : Int), .int .u32 (F 1 : Int), .int .u32 (F 2 : Int), .int .u32 (F 3 : Int), .int .u32 (F 4 : Int), .int .u32 (F 5 : Int), .int .u32 (F 6 : Int), .int .u32 (F 7 : Int)] 24) = w1 at HC HB hsz ⊢
  rw [HN.out]
  go_wp2_with fail
  go_loopw [3, 8] (fun v i wr => RelT w F N v i wr) (fun _ i _ => N - (intOf i).toNat)
  case atStart => exact ⟨0, Nat.zero_le _, rfl, World.ownsRow_nil _ _ _ _, fun _ => rfl, HC.out, HB.out⟩
  case round =>
    clear HC HB
    obtain ⟨k, hk, rfl, hown, hnil, hcs, hB⟩ := hrel
    have HC := Lib.hid hcs
    have HB := Lib.hid hB
    have hgr : w.heap.size + 1 ≤ wr.heap.size := World.block_lt_of_cell? wr ⟨w.heap.size, 0, none⟩ (hcs 0 (by omega))
    clear hcs hB
    by_cases hlt : k < N
    · have hc := HC.out k (by omega)
      have hk0 : (0 : Int) ≤ (k : Int) := by omega
      have hk1 : (k : Int) < (N : Int) := by omega
      have hk8 : (N : Int) ≤ 8 := by omega
      have HO := Lib.hid hown
      have hFk := hF k
      clear hown hnil
      go_wp2_with fail
      refine (vdigits (F k) _ hFk).mono ?_; rintro e w2 ⟨rfl, hb2⟩
      have HO2 := Lib.hid (own_keep HO.out hb2)
      have hcs2 : ∀ j, j < 8 → w2.cell? ⟨w.heap.size, j, none⟩ = some (.int .u32 (F j : Int)) := fun j hj => by
        rw [hb2.cell (p := ⟨w.heap.size, j, none⟩) (by show w.heap.size < _; omega)]; exact HC.out j hj
      have HC2 := Lib.hid hcs2
      have HB2 := Lib.hid (HB.out.trans (hb2.mono (by have := HB.out.size; omega)))
      have hgr2 : w.heap.size + 1 ≤ w2.heap.size := by have := hb2.size; omega
      have hk80 : k ≤ 8 := by omega
      clear hb2 hcs2 hc HO HC HB
      go_wp2_with (at_builtin; refine wpList_append_own _ rfl _ _ 54 rfl (w.heap.size + 1) 9 i0 (.string ⟨#[]⟩) 1 16 Try.underlying54 hi hz0 hz1 hz2 rfl (by decide) _ k _ rfl (HO2.out.alloc _) ⟨w2.heap.size, 0, none⟩ 1 1 [.string ⟨(digL (F k)).toArray⟩] rfl rfl ?c1 ?c2 ?c3 ?c4 ?c5 ?_)
      case c1 =>
        intro j u hu
        match j, hu with
        | 0, hu => simp at hu; subst hu; exact (Blk.new w2 9 #[.string ⟨(digL (F k)).toArray⟩]).cell 0
        | j + 1, hu => simp at hu
      case c2 => intro u hu; simp at hu; subst hu; rfl
      case c3 => unfold maxLen; omega
      case c4 => omega
      case c5 => simp; omega
      intro v' w3 hown3 hgrow _
      have hrow := (HO2.out.alloc (.cells #[.string ⟨(digL (F k)).toArray⟩] 9)).lt
      have hO3 := Lib.hid (show w3.ownsRow (w.heap.size + 1) 9 1 v' (k + 1) ((wrd F (k + 1)).map Value.string) from by rw [wrd_succ, List.map_append]; exact hown3)
      have hC3 : Hid (∀ j, j < 8 → w3.cell? ⟨w.heap.size, j, none⟩ = some (.int .u32 (F j : Int))) := Lib.hid (fun j hj => hgrow.cell (a := ⟨w.heap.size, j, none⟩) (by rw [(Joins.below_alloc1 w2 _).cell (p := ⟨w.heap.size, j, none⟩) (by show w.heap.size < _; omega)]; exact HC2.out j hj) (by intro e; have := (hrow _ e.symm).1; simp at this; omega))
      have hB3 := Lib.hid ((HB2.out.alloc HB2.out.size _).grown hgrow (by simp; omega) (fun j hj => by have := (hrow j hj).1; omega))
      clear hown3 hgrow hrow HO2 HC2 HB2
      go_wp2
      go_roundw
      case rel => exact ⟨k + 1, by omega, by go_num, hO3.out, fun h => by omega, hC3.out, hB3.out⟩
      case measure => simp [intOf]; omega
    · obtain rfl : k = N := by omega
      clear hlt
      by_cases h0 : k = 0
      · obtain rfl := hnil h0
        subst h0
        have HT := Lib.hid (text_nil HN.out)
        clear hown hnil
        go_wp2
        go_ret
        exact ⟨ret_str HT.out.symm, HB.out⟩
      · obtain ⟨g, cap, rfl, hcap, hg⟩ := own_slice hown (by omega)
        have HO := Lib.hid hown
        have hkz : ((k : Int) == 0) = false := by simp; omega
        have HT := Lib.hid (text_some HN.out (by omega))
        have hk8 : k ≤ 8 := by omega
        have HJ : Hid (∀ W : World, W.ownsRow (w.heap.size + 1) 9 1 (.slice (some ⟨g, 0, none⟩) k cap) k ((wrd F k).map Value.string) → Calls Try.prog 22 #[.slice (some ⟨g, 0, none⟩) k cap, .string ⟨#[44]⟩] W fun e w' => e = .returned (.string (textB F)) ∧ Below W.heap.size W w') := Lib.hid (by
          intro W hW
          obtain ⟨g', cap', e, _, hg'⟩ := own_slice hW (by omega)
          injection e with e1 e2 e3
          injection e1 with e1
          injection e1 with e1
          subst e1
          have hj := Try.strings_Join g 0 cap (wrd F k) ⟨#[44]⟩ W (by
            intro j x hx
            rw [Nat.zero_add, hW.cellAt j (by have := (List.getElem?_eq_some_iff.1 hx).1; rw [wrd_length] at this; omega), List.getElem?_map, hx]; rfl) hg' (by rw [wrd_length]; omega) (by rw [wrd_length]; exact hcap) (by
            have := join_le [44] (by decide) ((wrd F k).map (·.data.toList)) (by
              intro x hx
              obtain ⟨y, hy, rfl⟩ := List.mem_map.1 hx
              unfold wrd at hy
              obtain ⟨i, _, rfl⟩ := List.mem_map.1 hy
              have := digL_len 9 (F i) (by have := hF i; omega)
              simp; omega)
            rw [List.length_map, wrd_length] at this
            have e : (⟨#[44]⟩ : ByteArray).data.toList = [44] := rfl
            rw [e]; omega)
          rw [wrd_length] at hj
          exact hj.mono (by rintro e w' ⟨rfl, hb⟩; exact ⟨ret_str HT.out, hb⟩))
        clear hown hnil h0
        go_wp2_with fail
        refine (HJ.out _ HO.out).mono ?_; rintro e w2 ⟨rfl, hb2⟩
        go_wp2
        go_ret
        exact ⟨rfl, HB.out.trans (hb2.mono HB.out.size)⟩
end Go.Proofs.Ytofpefbnkmeokaa
