/- Contracts of frame.All and of the reference's. -/
import Derived.Test.YtofpefbnkmeokaaDoorFrSpec
import Derived.Test.YtofpefbnkmeokaaDoorInts
import Derived.Laws.AppendOwn
import Derived.Laws.OwnMore
import Derived.OwnWalk
import Derived.Deep.AppendLies
import Derived.Deep.Heap
namespace Go.Proofs.YtofpefbnkmeokaaDoor
open Go.RowKit
set_option linter.unusedVariables false
def tl (s : ByteArray) (p : Nat) : ByteArray := s.extract p s.size
theorem tl_size {s : ByteArray} {p : Nat} (h : p ≤ s.size) : (tl s p).size = s.size - p := by unfold tl; rw [ByteArray.size_extract]; omega
/-- Where the k-th frame begins. -/
def alP (s : ByteArray) : Nat → Nat
  | 0 => 0
  | k + 1 => alP s k + nxN (tl s (alP s k))
theorem alP_le (s : ByteArray) : ∀ k, alP s k ≤ s.size
  | 0 => Nat.zero_le _
  | k + 1 => by
    have h := alP_le s k
    have h2 := (nx_bounds (tl s (alP s k))).1
    rw [tl_size h] at h2
    show alP s k + nxN (tl s (alP s k)) ≤ s.size
    omega
def alStop (s : ByteArray) (k : Nat) : Prop := s.size ≤ alP s k ∨ ¬ nxE (tl s (alP s k)) = 0
instance (s : ByteArray) (k : Nat) : Decidable (alStop s k) := by unfold alStop; infer_instance
theorem alP_grows {s : ByteArray} : ∀ n, (∀ k, k < n → ¬ alStop s k) → 4 * n ≤ alP s n
  | 0, _ => Nat.zero_le _
  | n + 1, h => by
    have h1 := alP_grows n (fun k hk => h k (by omega))
    have h2 := h n (by omega)
    have h3 : nxE (tl s (alP s n)) = 0 := by
      rcases Decidable.em (nxE (tl s (alP s n)) = 0) with e | e
      · exact e
      · exact absurd (.inr e) h2
    have h4 := ((nx_bounds (tl s (alP s n))).2.2.2.1 h3).2.1
    show 4 * (n + 1) ≤ alP s n + nxN (tl s (alP s n))
    omega
theorem al_least (s : ByteArray) : ∃ n, alStop s n ∧ ∀ k, k < n → ¬ alStop s k := by
  have least : ∀ m, (∃ n, n ≤ m ∧ alStop s n ∧ ∀ k, k < n → ¬ alStop s k) ∨ ∀ k, k ≤ m → ¬ alStop s k := by
    intro m
    induction m with
    | zero =>
      by_cases h : alStop s 0
      · exact .inl ⟨0, Nat.le_refl _, h, fun k hk => absurd hk (by omega)⟩
      · exact .inr (fun k hk => by obtain rfl : k = 0 := (by omega); exact h)
    | succ m ih =>
      rcases ih with ⟨n, hn, h1, h2⟩ | ih
      · exact .inl ⟨n, by omega, h1, h2⟩
      · by_cases h : alStop s (m + 1)
        · exact .inl ⟨m + 1, Nat.le_refl _, h, fun k hk => ih k (by omega)⟩
        · refine .inr (fun k hk => ?_)
          rcases Nat.lt_or_ge k (m + 1) with h3 | h3
          · exact ih k (by omega)
          · obtain rfl : k = m + 1 := by omega
            exact h
  rcases least s.size with ⟨n, _, h1, h2⟩ | h
  · exact ⟨n, h1, h2⟩
  · exfalso
    have h1 := alP_grows (s := s) s.size (fun k hk => h k (by omega))
    have h2 := alP_le s s.size
    refine h s.size (Nat.le_refl _) (.inl ?_)
    omega
theorem al_go {s : ByteArray} {k : Nat} (h : ¬ alStop s k) : alP s k < s.size ∧ nxE (tl s (alP s k)) = 0 := by
  refine ⟨?_, ?_⟩
  · rcases Nat.lt_or_ge (alP s k) s.size with e | e
    · exact e
    · exact absurd (.inl e) h
  · rcases Decidable.em (nxE (tl s (alP s k)) = 0) with e | e
    · exact e
    · exact absurd (.inr e) h
/-- The first k frames' cells. -/
def alL (s : ByteArray) : Nat → List Value
  | 0 => []
  | k + 1 => alL s k ++ [.int .i64 (nxK (tl s (alP s k)) : Int), .string (nxL (tl s (alP s k)))]
theorem alL_length (s : ByteArray) : ∀ k, (alL s k).length = k * 2
  | 0 => rfl
  | k + 1 => by rw [alL, List.length_append, alL_length s k]; simp; omega
theorem alL_at (s : ByteArray) : ∀ n j, j < n → (alL s n)[j * 2]? = some (.int .i64 (nxK (tl s (alP s j)) : Int)) ∧ (alL s n)[j * 2 + 1]? = some (.string (nxL (tl s (alP s j))))
  | 0, j, h => absurd h (by omega)
  | n + 1, j, h => by
    rw [alL]
    rcases Nat.lt_or_ge j n with h1 | h1
    · rw [List.getElem?_append_left (by rw [alL_length]; omega), List.getElem?_append_left (by rw [alL_length]; omega)]
      exact alL_at s n j h1
    · obtain rfl : j = n := by omega
      rw [List.getElem?_append_right (by rw [alL_length]; omega), List.getElem?_append_right (by rw [alL_length]; omega), alL_length]
      constructor
      · rw [Nat.sub_self]; rfl
      · rw [show j * 2 + 1 - j * 2 = 1 by omega]; rfl
theorem fo_keep {w w' : World} {base : Nat} {e : TypeId} {size : Nat} {v : Value} {n : Nat} {xs : List Value} (h : w.ownsRow base e size v n xs) (hb : Below w.heap.size w w') : w'.ownsRow base e size v n xs :=
  h.kept (row := none) ⟨hb.os, hb.tape, hb.output, hb.size, fun i hi _ => hb.block i hi⟩ (by cases hv : v.ownBlock <;> simp)
/-- An error within an error. -/
def NE (w : World) (ev : Value) (at_ a e : Int) : Prop := ∃ fb gb, ev = .iface 40 (.pointer (some ⟨fb, 0, none⟩)) ∧ Blk w fb 42 #[.int .i64 at_, .iface 40 (.pointer (some ⟨gb, 0, none⟩))] ∧ Blk w gb 42 #[.int .i64 a, .iface 35 (.int .i64 e)]
def AlE (s : ByteArray) (n : Nat) (w : World) (ev : Value) : Prop := (s.size ≤ alP s n ∧ ev = .nilIface) ∨ (alP s n < s.size ∧ ¬ nxE (tl s (alP s n)) = 0 ∧ NE w ev (alP s n) (nxA (tl s (alP s n))) (nxE (tl s (alP s n))))
def alRE (s : ByteArray) (n : Nat) : Int := if s.size ≤ alP s n then 0 else nxE (tl s (alP s n))
def alRA (s : ByteArray) (n : Nat) : Int := if s.size ≤ alP s n then 0 else (alP s n : Int) + nxA (tl s (alP s n))
theorem one_row {w : World} {t : TypeId} {k : Int} {l : ByteArray} {b : Nat} (h : Blk w b t #[.int .i64 k, .string l]) : ∀ j u, ([.int .i64 k, .string l] : List Value)[j]? = some u → w.cell? ((⟨b, 0, none⟩ : Addr).add j) = some u := by
  intro j u hu
  match j, hu with
  | 0, hu => simp at hu; subst hu; exact h.cell 0
  | 1, hu =>
    simp at hu; subst hu
    exact h.cell 1
  | j + 2, hu => simp at hu
theorem one_cells {k : Int} {l : ByteArray} : ∀ u ∈ ([.int .i64 k, .string l] : List Value), u.oneCell' = true := by
  intro u hu
  simp at hu
  rcases hu with rfl | rfl <;> rfl
theorem fo_far2 {w : World} {base : Nat} {e : TypeId} {size : Nat} {v : Value} {n : Nat} {xs : List Value} (h : w.ownsRow base e size v n xs) {b : Nat} (hb : b < base) (u0 u1 : Value) : ((w.setCell ⟨b, 0, none⟩ u0).setCell ⟨b, 1, none⟩ u1).ownsRow base e size v n xs := by
  have step : ∀ (W : World) (o : Nat) (u : Value), W.ownsRow base e size v n xs → (W.setCell ⟨b, o, none⟩ u).ownsRow base e size v n xs := by
    intro W o u h
    refine h.kept (row := some b) (only_set (only_of (Below.refl _ _) _) _) (.inr ?_)
    intro e
    have := (h.lt b e).1
    omega
  exact step _ _ _ (step _ _ _ h)
theorem fo_drew {w : World} {base : Nat} {e : TypeId} {size : Nat} {v : Value} {n : Nat} {xs : List Value} (h : w.ownsRow base e size v n xs) : w.drew.ownsRow base e size v n xs := h
theorem info_fall : (Tryd.prog.info? 29).map (fun i => (i.zero, i.size, i.bytes)) = some (some (.agg #[.int .i64 0, .string ⟨#[]⟩]), 2, 24) := by kernel_rfl
set_option maxRecDepth 100000 in
set_option maxHeartbeats 6400000 in
theorem fall (s : ByteArray) (w : World) (n : Nat) (hs : s.size ≤ 100000) (hst : alStop s n) (hlt : ∀ k, k < n → ¬ alStop s k) :
    Calls Tryd.prog 18 #[.string s] w fun e w' => ∃ v ev, e = .returned (.tuple #[v, .int .i64 (alP s n : Int), ev]) ∧ w'.ownsRow w.heap.size 29 2 v n (alL s n) ∧ AlE s n w' ev ∧ Below w.heap.size w w' := by
  obtain ⟨i0, hi, hz0, hz1, hz2⟩ := info_parts info_fall
  have HG := Lib.hid (fun k (h : k < n) => al_go (hlt k h))
  have HGr := Lib.hid (alP_grows n hlt)
  have HLe := Lib.hid (alP_le s)
  have HST := Lib.hid hst
  clear hst hlt
  go_enter Tryd.func18, Tryd.ntmps18
  go_wp2_with fail
  go_loopw [5, 6] (fun l a wr => ∃ k : Nat, k ≤ n ∧ a = .int .i64 (alP s k : Int) ∧ wr.ownsRow w.heap.size 29 2 l k (alL s k) ∧ Below w.heap.size w wr) (fun _ a _ => s.size - (intOf a).toNat)
  case atStart => exact ⟨0, Nat.zero_le _, rfl, World.ownsRow_nil _ _ _ _, Below.refl _ _⟩
  case round =>
    obtain ⟨k, hk, rfl, hown, hB⟩ := hrel
    have HO := Lib.hid hown
    have HB := Lib.hid hB
    clear hown hB
    have hle := HLe.out k
    have q1 : (0 : Int) ≤ (alP s k : Int) := by omega
    have q2 : (alP s k : Int) ≤ (s.size : Int) := by omega
    have q3 : ((alP s k : Int)).toNat = alP s k := by omega
    have hts := tl_size hle
    by_cases hkn : k < n
    · obtain ⟨h1, h2⟩ := HG.out k hkn
      have h1i : (alP s k : Int) < (s.size : Int) := by omega
      have D := Lib.hid (fun W => fnext (tl s (alP s k)) W (by omega))
      have hAz := ((nx_bounds (tl s (alP s k))).2.2.2.1 h2).1
      have hN4 := ((nx_bounds (tl s (alP s k))).2.2.2.1 h2).2.1
      have hNl := (nx_bounds (tl s (alP s k))).1
      rw [h2, hAz] at D
      have HP : Hid (alP s (k + 1) = alP s k + nxN (tl s (alP s k))) := Lib.hid rfl
      have HL : Hid (alL s (k + 1) = alL s k ++ [.int .i64 (nxK (tl s (alP s k)) : Int), .string (nxL (tl s (alP s k)))]) := Lib.hid rfl
      have HT : Hid (tl s (alP s k) = s.extract (alP s k) s.size) := Lib.hid rfl
      rw [HT.out] at D
      rw [HT.out] at HP HL hNl hN4 hts
      obtain ⟨A, hA⟩ : ∃ x, alP s k = x := ⟨_, rfl⟩
      simp only [hA] at D HP HL hNl hN4 h1 h1i q1 q2 q3 hle hts ⊢
      obtain ⟨K, hK⟩ : ∃ x, nxK (s.extract A s.size) = x := ⟨_, rfl⟩
      obtain ⟨N, hN⟩ : ∃ x, nxN (s.extract A s.size) = x := ⟨_, rfl⟩
      obtain ⟨L, hL⟩ : ∃ x, nxL (s.extract A s.size) = x := ⟨_, rfl⟩
      simp only [hK, hN, hL] at D HP HL hNl hN4
      clear hK hN hL h2 hAz HT
      have q4 : IntKind.i64.wrap ((A : Int) + (N : Int)) = (A : Int) + (N : Int) := IntWalk.i64_in _ (by omega)
      go_wp2_with fail
      refine (D.out _).mono ?_; rintro e w1 ⟨ev, rfl, hev, b1⟩
      obtain ⟨-, rfl⟩ := ev_nil hev
      have HO1 := Lib.hid (fo_keep HO.out b1)
      have HB1 := Lib.hid (HB.out.trans (b1.mono HB.out.size))
      have hws : w.heap.size ≤ w1.heap.size := HB1.out.size
      have HO2 := Lib.hid (HO1.out.alloc (.cells #[.int .i64 (K : Int), .string L] 29))
      have hsz2 : (w1.alloc (.cells #[.int .i64 (K : Int), .string L] 29)).heap.size = w1.heap.size + 1 := by simp
      have HB2 : Hid (Below w.heap.size w (w1.alloc (.cells #[.int .i64 (K : Int), .string L] 29))) := Lib.hid (HB1.out.alloc (by omega) _)
      have HBK : Hid (Blk ((w1.alloc (.cells #[.int .i64 (K : Int), .string L] 29)).alloc (.cells #[.int .i64 (K : Int), .string L] 29)) (w1.heap.size + 1) 29 #[.int .i64 (K : Int), .string L]) := Lib.hid (by
        have h := Blk.new (w1.alloc (.cells #[.int .i64 (K : Int), .string L] 29)) 29 #[.int .i64 (K : Int), .string L]
        rwa [hsz2] at h)
      clear b1 hev HO HB HO1 HB1
      go_wp2_with (at_builtin; refine wpList_append_own _ rfl _ _ 50 rfl w.heap.size 29 i0 (.agg #[.int .i64 0, .string ⟨#[]⟩]) 2 24 Tryd.underlying50 hi hz0 hz1 hz2 rfl (by decide) _ k _ rfl (HO2.out.alloc _) ⟨w1.heap.size + 1, 0, none⟩ 1 1 [.int .i64 (K : Int), .string L] rfl rfl (one_row HBK.out) one_cells ?c3 ?c4 ?c5 ?_)
      case c3 => have := HGr.out; have := HLe.out n; unfold maxLen; omega
      case c4 => have := HGr.out; have := HLe.out n; omega
      case c5 => simp; omega
      intro v' w3 hown3 hgrow _
      have hrow := (HO2.out.alloc (.cells #[.int .i64 (K : Int), .string L] 29)).lt
      have hO3 : Hid (w3.ownsRow w.heap.size 29 2 v' (k + 1) (alL s (k + 1))) := Lib.hid (by rw [HL.out]; exact hown3)
      have hB3 : Hid (Below w.heap.size w w3) := Lib.hid ((HB2.out.alloc (by rw [hsz2]; omega) _).grown hgrow (by simp; omega) (fun j hj => by have := (hrow j hj).1; omega))
      clear hown3 hgrow hrow HO2 HB2 HBK
      go_wp2
      go_roundw
      case rel => exact ⟨k + 1, by omega, by rw [HP.out]; go_num, hO3.out, hB3.out⟩
      case measure => simp [intOf]; omega
    · obtain rfl : k = n := by omega
      clear hkn HG
      by_cases hend : s.size ≤ alP s k
      · have hd : ¬ ((alP s k : Int) < (s.size : Int)) := by omega
        have HE : Hid (∀ W, AlE s k W .nilIface) := Lib.hid (fun W => .inl ⟨hend, rfl⟩)
        clear hend hts
        go_wp2
        go_ret3
        exact ⟨_, _, rfl, HO.out, HE.out _, HB.out⟩
      · have h1i : (alP s k : Int) < (s.size : Int) := by omega
        have h2 : ¬ nxE (tl s (alP s k)) = 0 := by rcases HST.out with e | e; exact absurd e hend; exact e
        have D := Lib.hid (fun W => fnext (tl s (alP s k)) W (by omega))
        obtain ⟨b1', b2', b3', _, _⟩ := nx_bounds (tl s (alP s k))
        have HE : Hid (∀ W ev, NE W ev (alP s k) (nxA (tl s (alP s k))) (nxE (tl s (alP s k))) → AlE s k W ev) := Lib.hid (fun W ev h => .inr ⟨by omega, h2, h⟩)
        have HT : Hid (tl s (alP s k) = s.extract (alP s k) s.size) := Lib.hid rfl
        rw [HT.out] at D h2 HE hts b3'
        obtain ⟨E, hE⟩ : ∃ x, nxE (s.extract (alP s k) s.size) = x := ⟨_, rfl⟩
        obtain ⟨Q, hQ⟩ : ∃ x, nxA (s.extract (alP s k) s.size) = x := ⟨_, rfl⟩
        rw [hE, hQ] at D HE
        rw [hE] at h2
        have HH2 := Lib.hid h2
        clear hE hQ h2 hend HT b1' b2' b3' hts
        go_wp2_with fail
        refine (D.out _).mono ?_; rintro e w1 ⟨ev, rfl, hev, b1⟩
        have HNE : Hid (∀ fb W, w1.heap.size ≤ fb → Blk W fb 42 #[.int .i64 (alP s k : Int), ev] → Below w1.heap.size w1 W → NE W (.iface 40 (.pointer (some ⟨fb, 0, none⟩))) (alP s k) Q E) := Lib.hid (by
          intro fb W _ hb hbl
          rcases hev with h | ⟨_, gb, rfl, hg⟩
          · exact absurd h.1 HH2.out
          · exact ⟨fb, gb, rfl, hb, hg.keep hbl⟩)
        obtain ⟨gb, rfl⟩ := ev_some hev HH2.out
        have HO1 := Lib.hid (fo_keep HO.out b1)
        have HB1 := Lib.hid (HB.out.trans (b1.mono HB.out.size))
        have hws : w.heap.size ≤ w1.heap.size := HB1.out.size
        clear b1 hev HO HB
        go_wp2
        go_ret3
        refine ⟨_, _, rfl, (HO1.out.alloc _).alloc _, HE.out _ _ (HNE.out _ _ ?_ ?_ ?_), (HB1.out.alloc (by omega) _).alloc (by simp; omega) _⟩
        · simp
        · have h := Blk.new (w1.alloc (.cells #[.int .i64 (nxK (s.extract (alP s k) s.size) : Int), .string (nxL (s.extract (alP s k) s.size))] 29)) 42 #[.int .i64 (alP s k : Int), .iface 40 (.pointer (some ⟨gb, 0, none⟩))]
          simpa using h
        · exact (Joins.below_alloc1 w1 _).alloc (by simp) _
theorem info_rfall : (Tryd.prog.info? 23).map (fun i => (i.zero, i.size, i.bytes)) = some (some (.agg #[.int .i64 0, .string ⟨#[]⟩]), 2, 24) := by kernel_rfl
set_option maxRecDepth 100000 in
set_option maxHeartbeats 6400000 in
theorem rfall (s : ByteArray) (w : World) (n : Nat) (hs : s.size ≤ 100000) (hst : alStop s n) (hlt : ∀ k, k < n → ¬ alStop s k) :
    Calls Tryd.prog 19 #[.string s] w fun e w' => ∃ v, e = .returned (.tuple #[v, .int .i64 (alP s n : Int), .agg #[.int .i64 (alRA s n), .int .i64 (alRE s n)]]) ∧ w'.ownsRow (w.heap.size + 1) 23 2 v n (alL s n) ∧ Below w.heap.size w w' := by
  obtain ⟨i0, hi, hz0, hz1, hz2⟩ := info_parts info_rfall
  have HG := Lib.hid (fun k (h : k < n) => al_go (hlt k h))
  have HGr := Lib.hid (alP_grows n hlt)
  have HLe := Lib.hid (alP_le s)
  have HST := Lib.hid hst
  clear hst hlt
  have HB0 := Lib.hid (Joins.below_alloc1 w (.cells #[.int .i64 0, .int .i64 0] 37))
  have HU0 := Lib.hid (Blk.new w 37 #[.int .i64 0, .int .i64 0])
  have hz : (w.alloc (.cells #[.int .i64 0, .int .i64 0] 37)).heap.size = w.heap.size + 1 := by simp
  go_enter Tryd.func19, Tryd.ntmps19
  go_wp2_with fail
  generalize w.alloc (.cells #[.int .i64 0, .int .i64 0] 37) = wa at *
  go_loopw [5, 6] (fun l a wr => ∃ k : Nat, k ≤ n ∧ a = .int .i64 (alP s k : Int) ∧ wr.ownsRow (w.heap.size + 1) 23 2 l k (alL s k) ∧ Below w.heap.size w wr ∧ Blk wr w.heap.size 37 #[.int .i64 0, .int .i64 0]) (fun _ a _ => s.size - (intOf a).toNat)
  case atStart => exact ⟨0, Nat.zero_le _, rfl, World.ownsRow_nil _ _ _ _, HB0.out, HU0.out⟩
  case round =>
    clear HB0 HU0
    obtain ⟨k, hk, rfl, hown, hB, hu⟩ := hrel
    have HO := Lib.hid hown
    have HB := Lib.hid hB
    have HU := Lib.hid hu
    clear hown hB hu
    have hle := HLe.out k
    have q1 : (0 : Int) ≤ (alP s k : Int) := by omega
    have q2 : (alP s k : Int) ≤ (s.size : Int) := by omega
    have q3 : ((alP s k : Int)).toNat = alP s k := by omega
    have hts := tl_size hle
    by_cases hkn : k < n
    · obtain ⟨h1, h2⟩ := HG.out k hkn
      have h1i : (alP s k : Int) < (s.size : Int) := by omega
      have D := Lib.hid (fun W => rfnext (tl s (alP s k)) W (by omega))
      have hAz := ((nx_bounds (tl s (alP s k))).2.2.2.1 h2).1
      have hN4 := ((nx_bounds (tl s (alP s k))).2.2.2.1 h2).2.1
      have hNl := (nx_bounds (tl s (alP s k))).1
      rw [h2, hAz] at D
      have HP : Hid (alP s (k + 1) = alP s k + nxN (tl s (alP s k))) := Lib.hid rfl
      have HL : Hid (alL s (k + 1) = alL s k ++ [.int .i64 (nxK (tl s (alP s k)) : Int), .string (nxL (tl s (alP s k)))]) := Lib.hid rfl
      have HT : Hid (tl s (alP s k) = s.extract (alP s k) s.size) := Lib.hid rfl
      rw [HT.out] at D
      rw [HT.out] at HP HL hNl hN4 hts
      obtain ⟨A, hA⟩ : ∃ x, alP s k = x := ⟨_, rfl⟩
      simp only [hA] at D HP HL hNl hN4 h1 h1i q1 q2 q3 hle hts ⊢
      obtain ⟨K, hK⟩ : ∃ x, nxK (s.extract A s.size) = x := ⟨_, rfl⟩
      obtain ⟨N, hN⟩ : ∃ x, nxN (s.extract A s.size) = x := ⟨_, rfl⟩
      obtain ⟨L, hL⟩ : ∃ x, nxL (s.extract A s.size) = x := ⟨_, rfl⟩
      simp only [hK, hN, hL] at D HP HL hNl hN4
      clear hK hN hL h2 hAz HT
      have q4 : IntKind.i64.wrap ((A : Int) + (N : Int)) = (A : Int) + (N : Int) := IntWalk.i64_in _ (by omega)
      go_wp2_with fail
      refine (D.out _).mono ?_; rintro e w1 ⟨rfl, b1⟩
      have HO1 := Lib.hid (fo_keep HO.out b1)
      have HB1 := Lib.hid (HB.out.trans (b1.mono HB.out.size))
      have hws : w.heap.size ≤ w1.heap.size := HB1.out.size
      have HU1 := Lib.hid (HU.out.keep b1)
      have hws2 : w.heap.size + 1 ≤ w1.heap.size := HU1.out.lt
      have HO2 := Lib.hid ((HO1.out.alloc (.cells #[.int .i64 (K : Int), .string L] 23)).alloc (.cells #[.int .i64 0, .int .i64 0] 37))
      have hsz2 : ((w1.alloc (.cells #[.int .i64 (K : Int), .string L] 23)).alloc (.cells #[.int .i64 0, .int .i64 0] 37)).heap.size = w1.heap.size + 2 := by simp
      have HB2 : Hid (Below w.heap.size w ((w1.alloc (.cells #[.int .i64 (K : Int), .string L] 23)).alloc (.cells #[.int .i64 0, .int .i64 0] 37))) := Lib.hid ((HB1.out.alloc (by omega) _).alloc (by simp; omega) _)
      have HBK : Hid (Blk (((w1.alloc (.cells #[.int .i64 (K : Int), .string L] 23)).alloc (.cells #[.int .i64 0, .int .i64 0] 37)).alloc (.cells #[.int .i64 (K : Int), .string L] 23)) (w1.heap.size + 2) 23 #[.int .i64 (K : Int), .string L]) := Lib.hid (by
        have h := Blk.new ((w1.alloc (.cells #[.int .i64 (K : Int), .string L] 23)).alloc (.cells #[.int .i64 0, .int .i64 0] 37)) 23 #[.int .i64 (K : Int), .string L]
        rwa [hsz2] at h)
      have HU2 := Lib.hid ((HU1.out.alloc (.cells #[.int .i64 (K : Int), .string L] 23)).alloc (.cells #[.int .i64 0, .int .i64 0] 37))
      clear b1 HU HU1 HO HB HO1 HB1
      go_wp2_with (at_builtin; refine wpList_append_own _ rfl _ _ 53 rfl (w.heap.size + 1) 23 i0 (.agg #[.int .i64 0, .string ⟨#[]⟩]) 2 24 Tryd.underlying53 hi hz0 hz1 hz2 rfl (by decide) _ k _ rfl (HO2.out.alloc _) ⟨w1.heap.size + 2, 0, none⟩ 1 1 [.int .i64 (K : Int), .string L] rfl rfl (one_row HBK.out) one_cells ?c3 ?c4 ?c5 ?_)
      case c3 => have := HGr.out; have := HLe.out n; unfold maxLen; omega
      case c4 => have := HGr.out; have := HLe.out n; omega
      case c5 => simp; omega
      intro v' w3 hown3 hgrow _
      have hrow := (HO2.out.alloc (.cells #[.int .i64 (K : Int), .string L] 23)).lt
      have hO3 : Hid (w3.ownsRow (w.heap.size + 1) 23 2 v' (k + 1) (alL s (k + 1))) := Lib.hid (by rw [HL.out]; exact hown3)
      have hB3 : Hid (Below w.heap.size w w3) := Lib.hid ((HB2.out.alloc (by rw [hsz2]; omega) _).grown hgrow (by simp; omega) (fun j hj => by have := (hrow j hj).1; omega))
      have hU3 : Hid (Blk w3 w.heap.size 37 #[.int .i64 0, .int .i64 0]) := Lib.hid ((HU2.out.alloc _).grown hgrow (by intro e; have := (hrow _ e.symm).1; omega))
      clear hown3 hgrow hrow HO2 HB2 HBK HU2
      go_wp2
      go_roundw
      case rel => exact ⟨k + 1, by omega, by rw [HP.out]; go_num, hO3.out, hB3.out, hU3.out⟩
      case measure => simp [intOf]; omega
    · obtain rfl : k = n := by omega
      clear hkn HG
      by_cases hend : s.size ≤ alP s k
      · have hd : ¬ ((alP s k : Int) < (s.size : Int)) := by omega
        have HA : Hid (0 = alRA s k) := Lib.hid (if_pos hend).symm
        have HE : Hid (0 = alRE s k) := Lib.hid (if_pos hend).symm
        have u0 := HU.out.cell 0
        have u1 := HU.out.cell 1
        have j0 := HU.out.frozen 0
        have j1 := HU.out.frozen 1
        simp at u0 u1
        clear hend hts
        go_wp2
        exact bodyPost_ret (by simp [results, Tryd.results19, go_sem, u0, u1]; rfl) rfl ⟨_, by rw [← HA.out, ← HE.out], fo_far2 HO.out (by omega) _ _, (HB.out.setCell (p := ⟨w.heap.size, 0, none⟩) (Nat.le_refl _) _).setCell (p := ⟨w.heap.size, 1, none⟩) (Nat.le_refl _) _⟩
      · have h1i : (alP s k : Int) < (s.size : Int) := by omega
        have h2 : ¬ nxE (tl s (alP s k)) = 0 := by rcases HST.out with e | e; exact absurd e hend; exact e
        have D := Lib.hid (fun W => rfnext (tl s (alP s k)) W (by omega))
        obtain ⟨b1', b2', b3', _, _⟩ := nx_bounds (tl s (alP s k))
        have HA : Hid ((alP s k : Int) + nxA (tl s (alP s k)) = alRA s k) := Lib.hid (if_neg hend).symm
        have HE : Hid (nxE (tl s (alP s k)) = alRE s k) := Lib.hid (if_neg hend).symm
        have HT : Hid (tl s (alP s k) = s.extract (alP s k) s.size) := Lib.hid rfl
        rw [HT.out] at D h2 HE HA hts b3' b2'
        obtain ⟨E, hE⟩ : ∃ x, nxE (s.extract (alP s k) s.size) = x := ⟨_, rfl⟩
        obtain ⟨Q, hQ⟩ : ∃ x, nxA (s.extract (alP s k) s.size) = x := ⟨_, rfl⟩
        obtain ⟨K, hK⟩ : ∃ x, nxK (s.extract (alP s k) s.size) = x := ⟨_, rfl⟩
        obtain ⟨N, hN⟩ : ∃ x, nxN (s.extract (alP s k) s.size) = x := ⟨_, rfl⟩
        obtain ⟨L, hL⟩ : ∃ x, nxL (s.extract (alP s k) s.size) = x := ⟨_, rfl⟩
        rw [hE, hQ, hK, hN, hL] at D
        rw [hE] at HE h2
        rw [hQ] at HA b2' b3'
        have g3 : (E == 0) = false := by simpa using h2
        have g3b : (E != 0) = true := by simpa using h2
        have q4 : IntKind.i64.wrap ((alP s k : Int) + Q) = (alP s k : Int) + Q := IntWalk.i64_in _ (by omega)
        clear hE hQ hK hN hL h2 hend HT b1' hts
        go_wp2_with fail
        refine (D.out _).mono ?_; rintro e w1 ⟨rfl, b1⟩
        have HO1 := Lib.hid (fo_keep HO.out b1)
        have HB1 := Lib.hid (HB.out.trans (b1.mono HB.out.size))
        have HU1 := Lib.hid (HU.out.keep b1)
        have hws : w.heap.size < w1.heap.size := HU1.out.lt
        have hne1 : ¬ w1.heap.size = w.heap.size := by omega
        have hne3 : ¬ w1.heap.size + 1 = w.heap.size := by omega
        have HB2 := Lib.hid ((HB1.out.alloc (by omega) (.cells #[.int .i64 (K : Int), .string L] 23)).alloc (by simp; omega) (.cells #[.int .i64 Q, .int .i64 E] 37))
        have HO2 := Lib.hid ((HO1.out.alloc (.cells #[.int .i64 (K : Int), .string L] 23)).alloc (.cells #[.int .i64 Q, .int .i64 E] 37))
        have HU2 := Lib.hid ((HU1.out.alloc (.cells #[.int .i64 (K : Int), .string L] 23)).alloc (.cells #[.int .i64 Q, .int .i64 E] 37))
        have y0 := HU2.out.cell 0
        have y1 := HU2.out.cell 1
        have n0 := HU2.out.frozen 0
        have n1 := HU2.out.frozen 1
        rw [show (#[Value.int .i64 0, Value.int .i64 0] : Array Value)[0]? = some (.int .i64 0) from rfl] at y0
        rw [show (#[Value.int .i64 0, Value.int .i64 0] : Array Value)[1]? = some (.int .i64 0) from rfl] at y1
        have u0 := HU1.out.cell 0
        have u1 := HU1.out.cell 1
        have j0 := HU1.out.frozen 0
        have j1 := HU1.out.frozen 1
        simp at u0 u1
        have hBF := ((((HU1.out.set_ 0 (.int .i64 ((alP s k : Int) + Q))).set_ 1 (.int .i64 E)).alloc (.cells #[.int .i64 (K : Int), .string L] 23)).alloc (.cells #[.int .i64 Q, .int .i64 E] 37))
        have z0 := hBF.cell 0
        have z1 := hBF.cell 1
        rw [show ((#[Value.int .i64 0, Value.int .i64 0] : Array Value).setIfInBounds 0 (.int .i64 ((alP s k : Int) + Q)) |>.setIfInBounds 1 (.int .i64 E))[0]? = some (.int .i64 ((alP s k : Int) + Q)) from rfl] at z0
        rw [show ((#[Value.int .i64 0, Value.int .i64 0] : Array Value).setIfInBounds 0 (.int .i64 ((alP s k : Int) + Q)) |>.setIfInBounds 1 (.int .i64 E))[1]? = some (.int .i64 E) from rfl] at z1
        clear b1 HO HB HU HU1 hBF
        go_wp2
        go_region
        go_wp2
        exact bodyPost_ret (by simp [results, Tryd.results19, go_sem, z0, z1]; rfl) rfl ⟨_, by rw [← HA.out, ← HE.out], fo_drew (((fo_far2 HO1.out (by omega) _ _).alloc _).alloc _), by repeat (first | exact HB1.out | apply Below.drew | refine Below.setCell ?_ (by simp) _ | refine Below.alloc ?_ (by simp; omega) _)⟩
end Go.Proofs.YtofpefbnkmeokaaDoor
