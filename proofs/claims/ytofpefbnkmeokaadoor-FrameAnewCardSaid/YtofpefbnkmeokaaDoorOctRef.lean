/- Contract of the reference's Num: the same bytes. -/
import Derived.Test.YtofpefbnkmeokaaDoorOctNum
import Derived.Test.YtofpefbnkmeokaaDoorInts
import Derived.Deep.QuietTactic
import Derived.BigQuiet
namespace Go.Proofs.YtofpefbnkmeokaaDoor
open Go.RowKit
def rG : List Int → List Int → List Int
  | [], acc => acc
  | c :: cs, acc => rG cs (if acc = [] ∧ c = 0 then acc else acc ++ [c])
theorem rG_ne : ∀ (cs acc : List Int), acc ≠ [] → rG cs acc = acc ++ cs
  | [], acc, _ => by simp [rG]
  | c :: cs, acc, h => by
    rw [rG, if_neg (fun e => h e.1), rG_ne cs _ (by simp)]
    simp
theorem rG_skip (c : Int) (cs : List Int) (h : c = 0) : rG (c :: cs) [] = rG cs [] := by rw [rG, if_pos ⟨rfl, h⟩]
theorem rG_first (c : Int) (cs : List Int) (h : ¬ c = 0) : rG (c :: cs) [] = rG cs [c] := by rw [rG, if_neg (fun e => h e.2)]; rfl
theorem rG_next (c : Int) (cs acc : List Int) (h : acc ≠ []) : rG (c :: cs) acc = rG cs (acc ++ [c]) := by rw [rG, if_neg (fun e => h e.1)]
theorem rG_be (n : Nat) : ∀ j, nN n ≤ j → rG ((beN j n).map Int.ofNat) [] = (beN (nN n) n).map Int.ofNat
  | 0, h => by rw [show nN n = 0 by omega]; rfl
  | j + 1, h => by
    rcases Nat.lt_or_ge (nN n) (j + 1) with h1 | h1
    · have h2 : n < 256 ^ j := Nat.lt_of_lt_of_le (nN_lt n) (Nat.pow_le_pow_right (by omega) (by omega))
      rw [beN, List.map_cons, rG_skip _ _ (by rw [Nat.div_eq_of_lt h2]; rfl), rG_be n j (by omega)]
    · have h2 : nN n = j + 1 := by omega
      have hp : 0 < n := by
        rcases Nat.eq_zero_or_pos n with rfl | h
        · rw [nN_zero] at h2; omega
        · exact h
      have a := nN_le hp
      have b := nN_lt n
      rw [h2] at a b ⊢
      rw [Nat.add_sub_cancel] at a
      have h4 : n / 256 ^ j < 256 := by
        rw [Nat.div_lt_iff_lt_mul (Nat.pow_pos (by omega)), Nat.mul_comm, ← Nat.pow_succ]; exact b
      have h5 : 1 ≤ n / 256 ^ j := (Nat.le_div_iff_mul_le (Nat.pow_pos (by omega))).2 (by omega)
      rw [beN, List.map_cons, rG_first _ _ (by rw [Nat.mod_eq_of_lt h4]; show ¬ ((n / 256 ^ j : Nat) : Int) = 0; omega), rG_ne _ _ (by simp)]
      rfl
def bs8 (v : Int) : List Int := [v / 72057594037927936 % 256, v / 281474976710656 % 256, v / 1099511627776 % 256, v / 4294967296 % 256, v / 16777216 % 256, v / 65536 % 256, v / 256 % 256, v % 256]
theorem bs8_eq (v : Int) (h : 0 ≤ v) : bs8 v = (beN 8 v.toNat).map Int.ofNat := by
  obtain ⟨n, rfl⟩ := Int.eq_ofNat_of_zero_le h
  simp only [bs8, beN, List.map_cons, List.map_nil, Int.toNat_natCast, Nat.pow_zero, Nat.div_one]
  rfl
theorem fin_eq (v : Int) (h : 0 ≤ v) (h2 : v ≤ 18446744073709551615) (acc : List Int) (e : rG (bs8 v) [] = acc) : acc.length ≤ 8 ∧ strOfNums ((acc.length : Int) :: acc) = numN v.toNat := by
  have hm : nN v.toNat ≤ 8 := nN_max (by show v.toNat < 18446744073709551616; omega)
  rw [bs8_eq v h, rG_be _ _ hm] at e
  subst e
  simp only [List.length_map, beN_length]
  refine ⟨hm, strOfNums_num ?_⟩
  simp [List.map_map]
  exact List.map_id'' (fun _ => rfl) _
theorem info_u8 : (Tryd.prog.info? 5).map (fun i => (i.zero, i.size, i.bytes)) = some (some (.int .u8 0), 1, 1) := by kernel_rfl
theorem one_new (W : World) (c : Value) (t : TypeId) (j : Nat) (u : Value) (hu : [c][j]? = some u) : (W.alloc (.cells #[c] t)).cell? ((⟨W.heap.size, 0, none⟩ : Addr).add j) = some u := by
  cases j with
  | zero => simp at hu; subst hu; simp [Addr.add]
  | succ j => simp at hu
theorem one_cell (c : Int) (u : Value) (hu : u ∈ [Value.int .u8 c]) : u.oneCell' = true := by simp at hu; subst hu; rfl
/-- What holds at the head of a round: the place, what was gathered, and what the rest comes to. -/
def RNum (w : World) (v : Int) (fin : List Int) (b i : Value) (wr : World) : Prop :=
  ∃ (m : Int) (acc : List Int) (A : Option Addr) (n cap : Nat), -1 ≤ m ∧ m ≤ 7 ∧ i = .int .i64 m ∧ (acc.length : Int) ≤ 7 - m ∧ b = .slice A n cap ∧ acc.length = n ∧ (acc = [] → A = none ∧ cap = 0) ∧ wr.ownsRow w.heap.size 5 1 b n (acc.map (Value.int .u8)) ∧ Below w.heap.size w wr ∧
    rG ((bs8 v).drop (7 - m).toNat) acc = fin
set_option maxRecDepth 100000 in
set_option maxHeartbeats 6400000 in
theorem rnum (v : Int) (w : World) (h0 : 0 ≤ v) (h1 : v ≤ 18446744073709551615) :
    Calls Tryd.prog 73 #[.int .u64 v] w fun e w' => e = .returned (.string (numN v.toNat)) ∧ Below w.heap.size w w' := by
  obtain ⟨fin, hfin⟩ : ∃ f, rG (bs8 v) [] = f := ⟨_, rfl⟩
  obtain ⟨hl8, hs⟩ := fin_eq v h0 h1 fin hfin
  have HF := Lib.hid hfin
  have HS := Lib.hid hs
  clear hfin hs h1
  obtain ⟨i0, hi, hz0, hz1, hz2⟩ := info_parts info_u8
  have HI := Lib.hid hi
  go_enter Tryd.func73, Tryd.ntmps73
  go_wp2
  go_loopw [3, 4] (fun b i wr => RNum w v fin b i wr) (fun _ i _ => (intOf i + 1).toNat)
  case atStart => exact ⟨7, [], none, 0, 0, by omega, by omega, rfl, by simp, rfl, rfl, fun _ => ⟨rfl, rfl⟩, ⟨by simp, .inl ⟨rfl, rfl⟩⟩, Below.refl _ _, HF.out⟩
  case round =>
    obtain ⟨m, acc, A, n, cap, hm1, hm2, rfl, hal, rfl, hn, hnil, hown, hbl, hr⟩ := hrel
    have HR := Lib.hid hr
    have HO := Lib.hid hown
    rw [hn] at hal
    have HN := Lib.hid hn
    clear hr hown hn
    by_cases hm : 0 ≤ m
    · have hm' : m = 0 ∨ m = 1 ∨ m = 2 ∨ m = 3 ∨ m = 4 ∨ m = 5 ∨ m = 6 ∨ m = 7 := by omega
      clear hm hm1 hm2
      rcases hm' with rfl | rfl | rfl | rfl | rfl | rfl | rfl | rfl
      · obtain ⟨c, hcd⟩ : ∃ c, v % 256 = c := ⟨_, rfl⟩
        have hc0 : 0 ≤ c := by omega
        have hc1 : c < 256 := by omega
        have HC := Lib.hid hcd
        cases acc with
        | nil =>
          obtain ⟨rfl, rfl⟩ := hnil rfl
          obtain rfl : n = 0 := HN.out.symm
          by_cases hz : c = 0
          · subst hz
            clear hnil hc0 hc1
            go_wp2
            go_roundw
            case rel => exact ⟨-1, [], none, 0, 0, by omega, by omega, rfl, by simp, rfl, rfl, fun _ => ⟨rfl, rfl⟩, HO.out, hbl, (rG_skip (v % 256) ((bs8 v).drop 8) HC.out).symm.trans HR.out⟩
            case measure => simp [intOf]
          · have hq : (c == 0) = false := by simpa using hz
            have hq2 : (c != 0) = true := by simpa using hz
            have HR2 := Lib.hid ((rG_first (v % 256) ((bs8 v).drop 8) (by rw [HC.out]; exact hz)).symm.trans HR.out)
            clear hnil hz
            go_wp2_with (at_builtin; refine wpList_append_own _ rfl (.tmp 23) (.tmp 25) 120 rfl w.heap.size 5 i0 (.int .u8 0) 1 1 Tryd.underlying120 HI.out hz0 hz1 hz2 rfl (by decide) _ 0 (([] : List Int).map (Value.int .u8)) rfl (HO.out.alloc _) ⟨wr.heap.size, 0, none⟩ 1 1 [.int .u8 c] rfl rfl (one_new _ _ _) (one_cell _) (by unfold maxLen; omega) (by omega) (by have := hbl.size; simp; omega) ?_)
            intro v' w1 hown1 hg1 _
            have hb1 : Below w.heap.size w w1 := (hbl.alloc hbl.size _).grown hg1 (by have := hbl.size; simp; omega) (by simp [Value.ownBlock])
            have HO1 := Lib.hid hown1
            have hne : ([c] : List Int) ≠ [] := by simp
            obtain ⟨g, cap, rfl, _, _⟩ := hown1.form (by omega)
            clear hown1 hg1 hcd
            go_wp2
            go_roundw
            case rel => exact ⟨-1, [c], _, 1, _, by omega, by omega, rfl, by simp, rfl, rfl, fun h => absurd h hne, by simpa using HO1.out, hb1, by rw [← HC.out]; exact HR2.out⟩
            case measure => simp [intOf]
        | cons a acc =>
          have hne0 : a :: acc ≠ [] := by simp
          obtain ⟨ac, hac⟩ : ∃ ac, a :: acc = ac := ⟨_, rfl⟩
          rw [hac] at hne0 HO HR HN
          clear hac hnil
          have hnp : 0 < n := by rw [← HN.out]; exact List.length_pos_iff.2 hne0
          have hnp2 : decide ((0 : Int) < (n : Int)) = true := decide_eq_true (by omega)
          obtain ⟨g, cap', hv, hg0, hg1⟩ := HO.out.form hnp
          injection hv with hv1 _ hv2
          subst hv1
          clear hv2
          have HR2 := Lib.hid ((rG_next (v % 256) ((bs8 v).drop 8) ac hne0).symm.trans HR.out)
          go_wp2_with (at_builtin; refine wpList_append_own _ rfl (.tmp 23) (.tmp 25) 120 rfl w.heap.size 5 i0 (.int .u8 0) 1 1 Tryd.underlying120 HI.out hz0 hz1 hz2 rfl (by decide) _ n (ac.map (Value.int .u8)) rfl (HO.out.alloc _) ⟨wr.heap.size, 0, none⟩ 1 1 [.int .u8 c] rfl rfl (one_new _ _ _) (one_cell _) (by unfold maxLen; omega) (by omega) (by have := hbl.size; simp; omega) ?_)
          intro v' w1 hown1 hgr _
          have hb1 : Below w.heap.size w w1 := (hbl.alloc hbl.size _).grown hgr (by have := hbl.size; simp; omega) (by simp [Value.ownBlock]; omega)
          have HO1 := Lib.hid hown1
          have hne : ac ++ [c] ≠ [] := by simp
          obtain ⟨g2, cap2, rfl, _, _⟩ := hown1.form (by omega)
          clear hown1 hgr hcd
          go_wp2
          go_roundw
          case rel => exact ⟨-1, ac ++ [c], _, n + 1, _, by omega, by omega, rfl, by rw [List.length_append, HN.out]; simp; omega, rfl, by rw [List.length_append, HN.out]; rfl, fun h => absurd h hne, by simpa using HO1.out, hb1, by rw [← HC.out]; exact HR2.out⟩
          case measure => simp [intOf]
      · obtain ⟨c, hcd⟩ : ∃ c, v / 256 % 256 = c := ⟨_, rfl⟩
        have hc0 : 0 ≤ c := by omega
        have hc1 : c < 256 := by omega
        have HC := Lib.hid hcd
        cases acc with
        | nil =>
          obtain ⟨rfl, rfl⟩ := hnil rfl
          obtain rfl : n = 0 := HN.out.symm
          by_cases hz : c = 0
          · subst hz
            clear hnil hc0 hc1
            go_wp2
            go_roundw
            case rel => exact ⟨0, [], none, 0, 0, by omega, by omega, rfl, by simp, rfl, rfl, fun _ => ⟨rfl, rfl⟩, HO.out, hbl, (rG_skip (v / 256 % 256) ((bs8 v).drop 7) HC.out).symm.trans HR.out⟩
            case measure => simp [intOf]
          · have hq : (c == 0) = false := by simpa using hz
            have hq2 : (c != 0) = true := by simpa using hz
            have HR2 := Lib.hid ((rG_first (v / 256 % 256) ((bs8 v).drop 7) (by rw [HC.out]; exact hz)).symm.trans HR.out)
            clear hnil hz
            go_wp2_with (at_builtin; refine wpList_append_own _ rfl (.tmp 23) (.tmp 25) 120 rfl w.heap.size 5 i0 (.int .u8 0) 1 1 Tryd.underlying120 HI.out hz0 hz1 hz2 rfl (by decide) _ 0 (([] : List Int).map (Value.int .u8)) rfl (HO.out.alloc _) ⟨wr.heap.size, 0, none⟩ 1 1 [.int .u8 c] rfl rfl (one_new _ _ _) (one_cell _) (by unfold maxLen; omega) (by omega) (by have := hbl.size; simp; omega) ?_)
            intro v' w1 hown1 hg1 _
            have hb1 : Below w.heap.size w w1 := (hbl.alloc hbl.size _).grown hg1 (by have := hbl.size; simp; omega) (by simp [Value.ownBlock])
            have HO1 := Lib.hid hown1
            have hne : ([c] : List Int) ≠ [] := by simp
            obtain ⟨g, cap, rfl, _, _⟩ := hown1.form (by omega)
            clear hown1 hg1 hcd
            go_wp2
            go_roundw
            case rel => exact ⟨0, [c], _, 1, _, by omega, by omega, rfl, by simp, rfl, rfl, fun h => absurd h hne, by simpa using HO1.out, hb1, by rw [← HC.out]; exact HR2.out⟩
            case measure => simp [intOf]
        | cons a acc =>
          have hne0 : a :: acc ≠ [] := by simp
          obtain ⟨ac, hac⟩ : ∃ ac, a :: acc = ac := ⟨_, rfl⟩
          rw [hac] at hne0 HO HR HN
          clear hac hnil
          have hnp : 0 < n := by rw [← HN.out]; exact List.length_pos_iff.2 hne0
          have hnp2 : decide ((0 : Int) < (n : Int)) = true := decide_eq_true (by omega)
          obtain ⟨g, cap', hv, hg0, hg1⟩ := HO.out.form hnp
          injection hv with hv1 _ hv2
          subst hv1
          clear hv2
          have HR2 := Lib.hid ((rG_next (v / 256 % 256) ((bs8 v).drop 7) ac hne0).symm.trans HR.out)
          go_wp2_with (at_builtin; refine wpList_append_own _ rfl (.tmp 23) (.tmp 25) 120 rfl w.heap.size 5 i0 (.int .u8 0) 1 1 Tryd.underlying120 HI.out hz0 hz1 hz2 rfl (by decide) _ n (ac.map (Value.int .u8)) rfl (HO.out.alloc _) ⟨wr.heap.size, 0, none⟩ 1 1 [.int .u8 c] rfl rfl (one_new _ _ _) (one_cell _) (by unfold maxLen; omega) (by omega) (by have := hbl.size; simp; omega) ?_)
          intro v' w1 hown1 hgr _
          have hb1 : Below w.heap.size w w1 := (hbl.alloc hbl.size _).grown hgr (by have := hbl.size; simp; omega) (by simp [Value.ownBlock]; omega)
          have HO1 := Lib.hid hown1
          have hne : ac ++ [c] ≠ [] := by simp
          obtain ⟨g2, cap2, rfl, _, _⟩ := hown1.form (by omega)
          clear hown1 hgr hcd
          go_wp2
          go_roundw
          case rel => exact ⟨0, ac ++ [c], _, n + 1, _, by omega, by omega, rfl, by rw [List.length_append, HN.out]; simp; omega, rfl, by rw [List.length_append, HN.out]; rfl, fun h => absurd h hne, by simpa using HO1.out, hb1, by rw [← HC.out]; exact HR2.out⟩
          case measure => simp [intOf]
      · obtain ⟨c, hcd⟩ : ∃ c, v / 65536 % 256 = c := ⟨_, rfl⟩
        have hc0 : 0 ≤ c := by omega
        have hc1 : c < 256 := by omega
        have HC := Lib.hid hcd
        cases acc with
        | nil =>
          obtain ⟨rfl, rfl⟩ := hnil rfl
          obtain rfl : n = 0 := HN.out.symm
          by_cases hz : c = 0
          · subst hz
            clear hnil hc0 hc1
            go_wp2
            go_roundw
            case rel => exact ⟨1, [], none, 0, 0, by omega, by omega, rfl, by simp, rfl, rfl, fun _ => ⟨rfl, rfl⟩, HO.out, hbl, (rG_skip (v / 65536 % 256) ((bs8 v).drop 6) HC.out).symm.trans HR.out⟩
            case measure => simp [intOf]
          · have hq : (c == 0) = false := by simpa using hz
            have hq2 : (c != 0) = true := by simpa using hz
            have HR2 := Lib.hid ((rG_first (v / 65536 % 256) ((bs8 v).drop 6) (by rw [HC.out]; exact hz)).symm.trans HR.out)
            clear hnil hz
            go_wp2_with (at_builtin; refine wpList_append_own _ rfl (.tmp 23) (.tmp 25) 120 rfl w.heap.size 5 i0 (.int .u8 0) 1 1 Tryd.underlying120 HI.out hz0 hz1 hz2 rfl (by decide) _ 0 (([] : List Int).map (Value.int .u8)) rfl (HO.out.alloc _) ⟨wr.heap.size, 0, none⟩ 1 1 [.int .u8 c] rfl rfl (one_new _ _ _) (one_cell _) (by unfold maxLen; omega) (by omega) (by have := hbl.size; simp; omega) ?_)
            intro v' w1 hown1 hg1 _
            have hb1 : Below w.heap.size w w1 := (hbl.alloc hbl.size _).grown hg1 (by have := hbl.size; simp; omega) (by simp [Value.ownBlock])
            have HO1 := Lib.hid hown1
            have hne : ([c] : List Int) ≠ [] := by simp
            obtain ⟨g, cap, rfl, _, _⟩ := hown1.form (by omega)
            clear hown1 hg1 hcd
            go_wp2
            go_roundw
            case rel => exact ⟨1, [c], _, 1, _, by omega, by omega, rfl, by simp, rfl, rfl, fun h => absurd h hne, by simpa using HO1.out, hb1, by rw [← HC.out]; exact HR2.out⟩
            case measure => simp [intOf]
        | cons a acc =>
          have hne0 : a :: acc ≠ [] := by simp
          obtain ⟨ac, hac⟩ : ∃ ac, a :: acc = ac := ⟨_, rfl⟩
          rw [hac] at hne0 HO HR HN
          clear hac hnil
          have hnp : 0 < n := by rw [← HN.out]; exact List.length_pos_iff.2 hne0
          have hnp2 : decide ((0 : Int) < (n : Int)) = true := decide_eq_true (by omega)
          obtain ⟨g, cap', hv, hg0, hg1⟩ := HO.out.form hnp
          injection hv with hv1 _ hv2
          subst hv1
          clear hv2
          have HR2 := Lib.hid ((rG_next (v / 65536 % 256) ((bs8 v).drop 6) ac hne0).symm.trans HR.out)
          go_wp2_with (at_builtin; refine wpList_append_own _ rfl (.tmp 23) (.tmp 25) 120 rfl w.heap.size 5 i0 (.int .u8 0) 1 1 Tryd.underlying120 HI.out hz0 hz1 hz2 rfl (by decide) _ n (ac.map (Value.int .u8)) rfl (HO.out.alloc _) ⟨wr.heap.size, 0, none⟩ 1 1 [.int .u8 c] rfl rfl (one_new _ _ _) (one_cell _) (by unfold maxLen; omega) (by omega) (by have := hbl.size; simp; omega) ?_)
          intro v' w1 hown1 hgr _
          have hb1 : Below w.heap.size w w1 := (hbl.alloc hbl.size _).grown hgr (by have := hbl.size; simp; omega) (by simp [Value.ownBlock]; omega)
          have HO1 := Lib.hid hown1
          have hne : ac ++ [c] ≠ [] := by simp
          obtain ⟨g2, cap2, rfl, _, _⟩ := hown1.form (by omega)
          clear hown1 hgr hcd
          go_wp2
          go_roundw
          case rel => exact ⟨1, ac ++ [c], _, n + 1, _, by omega, by omega, rfl, by rw [List.length_append, HN.out]; simp; omega, rfl, by rw [List.length_append, HN.out]; rfl, fun h => absurd h hne, by simpa using HO1.out, hb1, by rw [← HC.out]; exact HR2.out⟩
          case measure => simp [intOf]
      · obtain ⟨c, hcd⟩ : ∃ c, v / 16777216 % 256 = c := ⟨_, rfl⟩
        have hc0 : 0 ≤ c := by omega
        have hc1 : c < 256 := by omega
        have HC := Lib.hid hcd
        cases acc with
        | nil =>
          obtain ⟨rfl, rfl⟩ := hnil rfl
          obtain rfl : n = 0 := HN.out.symm
          by_cases hz : c = 0
          · subst hz
            clear hnil hc0 hc1
            go_wp2
            go_roundw
            case rel => exact ⟨2, [], none, 0, 0, by omega, by omega, rfl, by simp, rfl, rfl, fun _ => ⟨rfl, rfl⟩, HO.out, hbl, (rG_skip (v / 16777216 % 256) ((bs8 v).drop 5) HC.out).symm.trans HR.out⟩
            case measure => simp [intOf]
          · have hq : (c == 0) = false := by simpa using hz
            have hq2 : (c != 0) = true := by simpa using hz
            have HR2 := Lib.hid ((rG_first (v / 16777216 % 256) ((bs8 v).drop 5) (by rw [HC.out]; exact hz)).symm.trans HR.out)
            clear hnil hz
            go_wp2_with (at_builtin; refine wpList_append_own _ rfl (.tmp 23) (.tmp 25) 120 rfl w.heap.size 5 i0 (.int .u8 0) 1 1 Tryd.underlying120 HI.out hz0 hz1 hz2 rfl (by decide) _ 0 (([] : List Int).map (Value.int .u8)) rfl (HO.out.alloc _) ⟨wr.heap.size, 0, none⟩ 1 1 [.int .u8 c] rfl rfl (one_new _ _ _) (one_cell _) (by unfold maxLen; omega) (by omega) (by have := hbl.size; simp; omega) ?_)
            intro v' w1 hown1 hg1 _
            have hb1 : Below w.heap.size w w1 := (hbl.alloc hbl.size _).grown hg1 (by have := hbl.size; simp; omega) (by simp [Value.ownBlock])
            have HO1 := Lib.hid hown1
            have hne : ([c] : List Int) ≠ [] := by simp
            obtain ⟨g, cap, rfl, _, _⟩ := hown1.form (by omega)
            clear hown1 hg1 hcd
            go_wp2
            go_roundw
            case rel => exact ⟨2, [c], _, 1, _, by omega, by omega, rfl, by simp, rfl, rfl, fun h => absurd h hne, by simpa using HO1.out, hb1, by rw [← HC.out]; exact HR2.out⟩
            case measure => simp [intOf]
        | cons a acc =>
          have hne0 : a :: acc ≠ [] := by simp
          obtain ⟨ac, hac⟩ : ∃ ac, a :: acc = ac := ⟨_, rfl⟩
          rw [hac] at hne0 HO HR HN
          clear hac hnil
          have hnp : 0 < n := by rw [← HN.out]; exact List.length_pos_iff.2 hne0
          have hnp2 : decide ((0 : Int) < (n : Int)) = true := decide_eq_true (by omega)
          obtain ⟨g, cap', hv, hg0, hg1⟩ := HO.out.form hnp
          injection hv with hv1 _ hv2
          subst hv1
          clear hv2
          have HR2 := Lib.hid ((rG_next (v / 16777216 % 256) ((bs8 v).drop 5) ac hne0).symm.trans HR.out)
          go_wp2_with (at_builtin; refine wpList_append_own _ rfl (.tmp 23) (.tmp 25) 120 rfl w.heap.size 5 i0 (.int .u8 0) 1 1 Tryd.underlying120 HI.out hz0 hz1 hz2 rfl (by decide) _ n (ac.map (Value.int .u8)) rfl (HO.out.alloc _) ⟨wr.heap.size, 0, none⟩ 1 1 [.int .u8 c] rfl rfl (one_new _ _ _) (one_cell _) (by unfold maxLen; omega) (by omega) (by have := hbl.size; simp; omega) ?_)
          intro v' w1 hown1 hgr _
          have hb1 : Below w.heap.size w w1 := (hbl.alloc hbl.size _).grown hgr (by have := hbl.size; simp; omega) (by simp [Value.ownBlock]; omega)
          have HO1 := Lib.hid hown1
          have hne : ac ++ [c] ≠ [] := by simp
          obtain ⟨g2, cap2, rfl, _, _⟩ := hown1.form (by omega)
          clear hown1 hgr hcd
          go_wp2
          go_roundw
          case rel => exact ⟨2, ac ++ [c], _, n + 1, _, by omega, by omega, rfl, by rw [List.length_append, HN.out]; simp; omega, rfl, by rw [List.length_append, HN.out]; rfl, fun h => absurd h hne, by simpa using HO1.out, hb1, by rw [← HC.out]; exact HR2.out⟩
          case measure => simp [intOf]
      · obtain ⟨c, hcd⟩ : ∃ c, v / 4294967296 % 256 = c := ⟨_, rfl⟩
        have hc0 : 0 ≤ c := by omega
        have hc1 : c < 256 := by omega
        have HC := Lib.hid hcd
        cases acc with
        | nil =>
          obtain ⟨rfl, rfl⟩ := hnil rfl
          obtain rfl : n = 0 := HN.out.symm
          by_cases hz : c = 0
          · subst hz
            clear hnil hc0 hc1
            go_wp2
            go_roundw
            case rel => exact ⟨3, [], none, 0, 0, by omega, by omega, rfl, by simp, rfl, rfl, fun _ => ⟨rfl, rfl⟩, HO.out, hbl, (rG_skip (v / 4294967296 % 256) ((bs8 v).drop 4) HC.out).symm.trans HR.out⟩
            case measure => simp [intOf]
          · have hq : (c == 0) = false := by simpa using hz
            have hq2 : (c != 0) = true := by simpa using hz
            have HR2 := Lib.hid ((rG_first (v / 4294967296 % 256) ((bs8 v).drop 4) (by rw [HC.out]; exact hz)).symm.trans HR.out)
            clear hnil hz
            go_wp2_with (at_builtin; refine wpList_append_own _ rfl (.tmp 23) (.tmp 25) 120 rfl w.heap.size 5 i0 (.int .u8 0) 1 1 Tryd.underlying120 HI.out hz0 hz1 hz2 rfl (by decide) _ 0 (([] : List Int).map (Value.int .u8)) rfl (HO.out.alloc _) ⟨wr.heap.size, 0, none⟩ 1 1 [.int .u8 c] rfl rfl (one_new _ _ _) (one_cell _) (by unfold maxLen; omega) (by omega) (by have := hbl.size; simp; omega) ?_)
            intro v' w1 hown1 hg1 _
            have hb1 : Below w.heap.size w w1 := (hbl.alloc hbl.size _).grown hg1 (by have := hbl.size; simp; omega) (by simp [Value.ownBlock])
            have HO1 := Lib.hid hown1
            have hne : ([c] : List Int) ≠ [] := by simp
            obtain ⟨g, cap, rfl, _, _⟩ := hown1.form (by omega)
            clear hown1 hg1 hcd
            go_wp2
            go_roundw
            case rel => exact ⟨3, [c], _, 1, _, by omega, by omega, rfl, by simp, rfl, rfl, fun h => absurd h hne, by simpa using HO1.out, hb1, by rw [← HC.out]; exact HR2.out⟩
            case measure => simp [intOf]
        | cons a acc =>
          have hne0 : a :: acc ≠ [] := by simp
          obtain ⟨ac, hac⟩ : ∃ ac, a :: acc = ac := ⟨_, rfl⟩
          rw [hac] at hne0 HO HR HN
          clear hac hnil
          have hnp : 0 < n := by rw [← HN.out]; exact List.length_pos_iff.2 hne0
          have hnp2 : decide ((0 : Int) < (n : Int)) = true := decide_eq_true (by omega)
          obtain ⟨g, cap', hv, hg0, hg1⟩ := HO.out.form hnp
          injection hv with hv1 _ hv2
          subst hv1
          clear hv2
          have HR2 := Lib.hid ((rG_next (v / 4294967296 % 256) ((bs8 v).drop 4) ac hne0).symm.trans HR.out)
          go_wp2_with (at_builtin; refine wpList_append_own _ rfl (.tmp 23) (.tmp 25) 120 rfl w.heap.size 5 i0 (.int .u8 0) 1 1 Tryd.underlying120 HI.out hz0 hz1 hz2 rfl (by decide) _ n (ac.map (Value.int .u8)) rfl (HO.out.alloc _) ⟨wr.heap.size, 0, none⟩ 1 1 [.int .u8 c] rfl rfl (one_new _ _ _) (one_cell _) (by unfold maxLen; omega) (by omega) (by have := hbl.size; simp; omega) ?_)
          intro v' w1 hown1 hgr _
          have hb1 : Below w.heap.size w w1 := (hbl.alloc hbl.size _).grown hgr (by have := hbl.size; simp; omega) (by simp [Value.ownBlock]; omega)
          have HO1 := Lib.hid hown1
          have hne : ac ++ [c] ≠ [] := by simp
          obtain ⟨g2, cap2, rfl, _, _⟩ := hown1.form (by omega)
          clear hown1 hgr hcd
          go_wp2
          go_roundw
          case rel => exact ⟨3, ac ++ [c], _, n + 1, _, by omega, by omega, rfl, by rw [List.length_append, HN.out]; simp; omega, rfl, by rw [List.length_append, HN.out]; rfl, fun h => absurd h hne, by simpa using HO1.out, hb1, by rw [← HC.out]; exact HR2.out⟩
          case measure => simp [intOf]
      · obtain ⟨c, hcd⟩ : ∃ c, v / 1099511627776 % 256 = c := ⟨_, rfl⟩
        have hc0 : 0 ≤ c := by omega
        have hc1 : c < 256 := by omega
        have HC := Lib.hid hcd
        cases acc with
        | nil =>
          obtain ⟨rfl, rfl⟩ := hnil rfl
          obtain rfl : n = 0 := HN.out.symm
          by_cases hz : c = 0
          · subst hz
            clear hnil hc0 hc1
            go_wp2
            go_roundw
            case rel => exact ⟨4, [], none, 0, 0, by omega, by omega, rfl, by simp, rfl, rfl, fun _ => ⟨rfl, rfl⟩, HO.out, hbl, (rG_skip (v / 1099511627776 % 256) ((bs8 v).drop 3) HC.out).symm.trans HR.out⟩
            case measure => simp [intOf]
          · have hq : (c == 0) = false := by simpa using hz
            have hq2 : (c != 0) = true := by simpa using hz
            have HR2 := Lib.hid ((rG_first (v / 1099511627776 % 256) ((bs8 v).drop 3) (by rw [HC.out]; exact hz)).symm.trans HR.out)
            clear hnil hz
            go_wp2_with (at_builtin; refine wpList_append_own _ rfl (.tmp 23) (.tmp 25) 120 rfl w.heap.size 5 i0 (.int .u8 0) 1 1 Tryd.underlying120 HI.out hz0 hz1 hz2 rfl (by decide) _ 0 (([] : List Int).map (Value.int .u8)) rfl (HO.out.alloc _) ⟨wr.heap.size, 0, none⟩ 1 1 [.int .u8 c] rfl rfl (one_new _ _ _) (one_cell _) (by unfold maxLen; omega) (by omega) (by have := hbl.size; simp; omega) ?_)
            intro v' w1 hown1 hg1 _
            have hb1 : Below w.heap.size w w1 := (hbl.alloc hbl.size _).grown hg1 (by have := hbl.size; simp; omega) (by simp [Value.ownBlock])
            have HO1 := Lib.hid hown1
            have hne : ([c] : List Int) ≠ [] := by simp
            obtain ⟨g, cap, rfl, _, _⟩ := hown1.form (by omega)
            clear hown1 hg1 hcd
            go_wp2
            go_roundw
            case rel => exact ⟨4, [c], _, 1, _, by omega, by omega, rfl, by simp, rfl, rfl, fun h => absurd h hne, by simpa using HO1.out, hb1, by rw [← HC.out]; exact HR2.out⟩
            case measure => simp [intOf]
        | cons a acc =>
          have hne0 : a :: acc ≠ [] := by simp
          obtain ⟨ac, hac⟩ : ∃ ac, a :: acc = ac := ⟨_, rfl⟩
          rw [hac] at hne0 HO HR HN
          clear hac hnil
          have hnp : 0 < n := by rw [← HN.out]; exact List.length_pos_iff.2 hne0
          have hnp2 : decide ((0 : Int) < (n : Int)) = true := decide_eq_true (by omega)
          obtain ⟨g, cap', hv, hg0, hg1⟩ := HO.out.form hnp
          injection hv with hv1 _ hv2
          subst hv1
          clear hv2
          have HR2 := Lib.hid ((rG_next (v / 1099511627776 % 256) ((bs8 v).drop 3) ac hne0).symm.trans HR.out)
          go_wp2_with (at_builtin; refine wpList_append_own _ rfl (.tmp 23) (.tmp 25) 120 rfl w.heap.size 5 i0 (.int .u8 0) 1 1 Tryd.underlying120 HI.out hz0 hz1 hz2 rfl (by decide) _ n (ac.map (Value.int .u8)) rfl (HO.out.alloc _) ⟨wr.heap.size, 0, none⟩ 1 1 [.int .u8 c] rfl rfl (one_new _ _ _) (one_cell _) (by unfold maxLen; omega) (by omega) (by have := hbl.size; simp; omega) ?_)
          intro v' w1 hown1 hgr _
          have hb1 : Below w.heap.size w w1 := (hbl.alloc hbl.size _).grown hgr (by have := hbl.size; simp; omega) (by simp [Value.ownBlock]; omega)
          have HO1 := Lib.hid hown1
          have hne : ac ++ [c] ≠ [] := by simp
          obtain ⟨g2, cap2, rfl, _, _⟩ := hown1.form (by omega)
          clear hown1 hgr hcd
          go_wp2
          go_roundw
          case rel => exact ⟨4, ac ++ [c], _, n + 1, _, by omega, by omega, rfl, by rw [List.length_append, HN.out]; simp; omega, rfl, by rw [List.length_append, HN.out]; rfl, fun h => absurd h hne, by simpa using HO1.out, hb1, by rw [← HC.out]; exact HR2.out⟩
          case measure => simp [intOf]
      · obtain ⟨c, hcd⟩ : ∃ c, v / 281474976710656 % 256 = c := ⟨_, rfl⟩
        have hc0 : 0 ≤ c := by omega
        have hc1 : c < 256 := by omega
        have HC := Lib.hid hcd
        cases acc with
        | nil =>
          obtain ⟨rfl, rfl⟩ := hnil rfl
          obtain rfl : n = 0 := HN.out.symm
          by_cases hz : c = 0
          · subst hz
            clear hnil hc0 hc1
            go_wp2
            go_roundw
            case rel => exact ⟨5, [], none, 0, 0, by omega, by omega, rfl, by simp, rfl, rfl, fun _ => ⟨rfl, rfl⟩, HO.out, hbl, (rG_skip (v / 281474976710656 % 256) ((bs8 v).drop 2) HC.out).symm.trans HR.out⟩
            case measure => simp [intOf]
          · have hq : (c == 0) = false := by simpa using hz
            have hq2 : (c != 0) = true := by simpa using hz
            have HR2 := Lib.hid ((rG_first (v / 281474976710656 % 256) ((bs8 v).drop 2) (by rw [HC.out]; exact hz)).symm.trans HR.out)
            clear hnil hz
            go_wp2_with (at_builtin; refine wpList_append_own _ rfl (.tmp 23) (.tmp 25) 120 rfl w.heap.size 5 i0 (.int .u8 0) 1 1 Tryd.underlying120 HI.out hz0 hz1 hz2 rfl (by decide) _ 0 (([] : List Int).map (Value.int .u8)) rfl (HO.out.alloc _) ⟨wr.heap.size, 0, none⟩ 1 1 [.int .u8 c] rfl rfl (one_new _ _ _) (one_cell _) (by unfold maxLen; omega) (by omega) (by have := hbl.size; simp; omega) ?_)
            intro v' w1 hown1 hg1 _
            have hb1 : Below w.heap.size w w1 := (hbl.alloc hbl.size _).grown hg1 (by have := hbl.size; simp; omega) (by simp [Value.ownBlock])
            have HO1 := Lib.hid hown1
            have hne : ([c] : List Int) ≠ [] := by simp
            obtain ⟨g, cap, rfl, _, _⟩ := hown1.form (by omega)
            clear hown1 hg1 hcd
            go_wp2
            go_roundw
            case rel => exact ⟨5, [c], _, 1, _, by omega, by omega, rfl, by simp, rfl, rfl, fun h => absurd h hne, by simpa using HO1.out, hb1, by rw [← HC.out]; exact HR2.out⟩
            case measure => simp [intOf]
        | cons a acc =>
          have hne0 : a :: acc ≠ [] := by simp
          obtain ⟨ac, hac⟩ : ∃ ac, a :: acc = ac := ⟨_, rfl⟩
          rw [hac] at hne0 HO HR HN
          clear hac hnil
          have hnp : 0 < n := by rw [← HN.out]; exact List.length_pos_iff.2 hne0
          have hnp2 : decide ((0 : Int) < (n : Int)) = true := decide_eq_true (by omega)
          obtain ⟨g, cap', hv, hg0, hg1⟩ := HO.out.form hnp
          injection hv with hv1 _ hv2
          subst hv1
          clear hv2
          have HR2 := Lib.hid ((rG_next (v / 281474976710656 % 256) ((bs8 v).drop 2) ac hne0).symm.trans HR.out)
          go_wp2_with (at_builtin; refine wpList_append_own _ rfl (.tmp 23) (.tmp 25) 120 rfl w.heap.size 5 i0 (.int .u8 0) 1 1 Tryd.underlying120 HI.out hz0 hz1 hz2 rfl (by decide) _ n (ac.map (Value.int .u8)) rfl (HO.out.alloc _) ⟨wr.heap.size, 0, none⟩ 1 1 [.int .u8 c] rfl rfl (one_new _ _ _) (one_cell _) (by unfold maxLen; omega) (by omega) (by have := hbl.size; simp; omega) ?_)
          intro v' w1 hown1 hgr _
          have hb1 : Below w.heap.size w w1 := (hbl.alloc hbl.size _).grown hgr (by have := hbl.size; simp; omega) (by simp [Value.ownBlock]; omega)
          have HO1 := Lib.hid hown1
          have hne : ac ++ [c] ≠ [] := by simp
          obtain ⟨g2, cap2, rfl, _, _⟩ := hown1.form (by omega)
          clear hown1 hgr hcd
          go_wp2
          go_roundw
          case rel => exact ⟨5, ac ++ [c], _, n + 1, _, by omega, by omega, rfl, by rw [List.length_append, HN.out]; simp; omega, rfl, by rw [List.length_append, HN.out]; rfl, fun h => absurd h hne, by simpa using HO1.out, hb1, by rw [← HC.out]; exact HR2.out⟩
          case measure => simp [intOf]
      · obtain ⟨c, hcd⟩ : ∃ c, v / 72057594037927936 % 256 = c := ⟨_, rfl⟩
        have hc0 : 0 ≤ c := by omega
        have hc1 : c < 256 := by omega
        have HC := Lib.hid hcd
        cases acc with
        | nil =>
          obtain ⟨rfl, rfl⟩ := hnil rfl
          obtain rfl : n = 0 := HN.out.symm
          by_cases hz : c = 0
          · subst hz
            clear hnil hc0 hc1
            go_wp2
            go_roundw
            case rel => exact ⟨6, [], none, 0, 0, by omega, by omega, rfl, by simp, rfl, rfl, fun _ => ⟨rfl, rfl⟩, HO.out, hbl, (rG_skip (v / 72057594037927936 % 256) ((bs8 v).drop 1) HC.out).symm.trans HR.out⟩
            case measure => simp [intOf]
          · have hq : (c == 0) = false := by simpa using hz
            have hq2 : (c != 0) = true := by simpa using hz
            have HR2 := Lib.hid ((rG_first (v / 72057594037927936 % 256) ((bs8 v).drop 1) (by rw [HC.out]; exact hz)).symm.trans HR.out)
            clear hnil hz
            go_wp2_with (at_builtin; refine wpList_append_own _ rfl (.tmp 23) (.tmp 25) 120 rfl w.heap.size 5 i0 (.int .u8 0) 1 1 Tryd.underlying120 HI.out hz0 hz1 hz2 rfl (by decide) _ 0 (([] : List Int).map (Value.int .u8)) rfl (HO.out.alloc _) ⟨wr.heap.size, 0, none⟩ 1 1 [.int .u8 c] rfl rfl (one_new _ _ _) (one_cell _) (by unfold maxLen; omega) (by omega) (by have := hbl.size; simp; omega) ?_)
            intro v' w1 hown1 hg1 _
            have hb1 : Below w.heap.size w w1 := (hbl.alloc hbl.size _).grown hg1 (by have := hbl.size; simp; omega) (by simp [Value.ownBlock])
            have HO1 := Lib.hid hown1
            have hne : ([c] : List Int) ≠ [] := by simp
            obtain ⟨g, cap, rfl, _, _⟩ := hown1.form (by omega)
            clear hown1 hg1 hcd
            go_wp2
            go_roundw
            case rel => exact ⟨6, [c], _, 1, _, by omega, by omega, rfl, by simp, rfl, rfl, fun h => absurd h hne, by simpa using HO1.out, hb1, by rw [← HC.out]; exact HR2.out⟩
            case measure => simp [intOf]
        | cons a acc =>
          exfalso
          have := HN.out
          simp at this
          omega
    · obtain rfl : m = -1 := by omega
      have hfin : acc = fin := HR.out
      subst hfin
      clear hm1 hm2 hm HR
      have HIn := Lib.hid (own_ints HO.out).2
      rw [HN.out] at hl8
      have hn8 : (n : Int) ≤ 8 := by omega
      clear hal
      clear hnil
      go_wp2_with (at_builtin; refine wpList_append_ints rfl (.tmp 30) (.tmp 31) 120 rfl w.heap.size 5 i0 .u8 1 Tryd.underlying120 HI.out hz0 hz1 hz2 (.slice (some ⟨wr.heap.size, 0, none⟩) 1 1) 1 [.int .u8 n] rfl ⟨rfl, .inr ⟨wr.heap.size, 1, #[.int .u8 n], rfl, hbl.size, heap_alloc_new wr _, Nat.le_refl _, by decide, rfl, by simp⟩⟩ _ acc rfl (HIn.out.below ((Below.refl _ _).alloc (Nat.le_refl _) _)) (by rw [HN.out]; unfold maxLen; omega) (by rw [HN.out]; omega) (by have := hbl.size; simp; omega) ?_)
      intro v1 w1 hown1 hg1
      rw [HN.out] at hown1
      have hb1 : Below w.heap.size w w1 := (hbl.alloc hbl.size _).grown hg1 (by have := hbl.size; simp; omega) (by simp [Value.ownBlock]; have := hbl.size; omega)
      have hI1 := (own_ints (k := .u8) (zs := (n : Int) :: acc) (by simpa using hown1)).2
      rcases hI1 with ⟨_, _, _, h, _⟩ | ⟨g, off, cap1, rfl, hc⟩
      · simp at h
      have hl1 : ((n : Int) :: acc).length = 1 + n := by rw [List.length_cons, HN.out]; omega
      have hcv := run_convert_bytes_arg (P := Tryd.prog) w1 120 5 Tryd.underlying120 Tryd.underlying5 g off ((n : Int) :: acc).length cap1 ((n : Int) :: acc) rfl hc 9 Tryd.underlying9
      have hcv2 : ∀ c : Nat, c = ((n : Int) :: acc).length → (convert 120 9 (.slice (some ⟨g, off, none⟩) c cap1)).run Tryd.prog w1 = .ok (.string (strOfNums ((n : Int) :: acc))) w1 := by rintro c rfl; exact hcv
      rw [hl1] at hcv ⊢
      clear hown1 hg1 hc hcv2 hl1
      have HSS := Lib.hid (show strOfNums ((n : Int) :: acc) = numN v.toNat by have := HS.out; rw [HN.out] at this; exact this)
      go_wp2
      go_ret
      exact ⟨ret_s HSS.out, hb1⟩
end Go.Proofs.YtofpefbnkmeokaaDoor
