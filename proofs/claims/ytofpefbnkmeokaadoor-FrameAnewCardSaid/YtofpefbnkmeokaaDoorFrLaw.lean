/- Plain laws of frames: what was written is read; cut off it is torn; what was read is what would be written. -/
import Derived.Test.YtofpefbnkmeokaaDoorFrAll
namespace Go.Proofs.YtofpefbnkmeokaaDoor
open Go.RowKit
set_option linter.unusedVariables false
theorem ba_ext {a b : ByteArray} (h : a.data.toList = b.data.toList) : a = b := by
  rw [bytes_ext h]
theorem ap_data (a b : ByteArray) : (a ++ b).data.toList = a.data.toList ++ b.data.toList := by simp
theorem ex_data (s : ByteArray) (a b : Nat) : (s.extract a b).data.toList = (s.data.toList.drop a).take (b - a) := by
  rw [Lib.extract_data]
theorem frB_data (k : Int) (t : ByteArray) : (frB k t).data.toList = numB k.toNat ++ (numB t.size ++ t.data.toList) := by
  unfold frB
  rw [ap_data, ap_data, numN_data, numN_data]
theorem frB_sz (k : Int) (t : ByteArray) : (frB k t).size = (nN k.toNat + 1) + (nN t.size + 1) + t.size := by
  unfold frB
  rw [ByteArray.size_append, ByteArray.size_append, numN_size, numN_size]; omega
theorem ends_seal (F : ByteArray) : endsB (F ++ sumStr (moreN 0 F.data.toList)) = true := by
  have hz := sumStr_size (moreN 0 F.data.toList)
  have hs : (F ++ sumStr (moreN 0 F.data.toList)).size = F.size + 4 := by rw [ByteArray.size_append, hz]
  rw [endsB_iff _ (by omega), hs, ap_data, Nat.add_sub_cancel]
  have hl : F.data.toList.length = F.size := by simp
  rw [← hl, List.take_left, List.drop_left]
theorem seal_of (u : ByteArray) (h : endsB u = true) : 4 ≤ u.size ∧ u = u.extract 0 (u.size - 4) ++ sumStr (moreN 0 (u.extract 0 (u.size - 4)).data.toList) := by
  have h4 : 4 ≤ u.size := by
    rcases Decidable.em (4 ≤ u.size) with e | e
    · exact e
    · rw [endsB_short u e] at h; exact absurd h (by decide)
  refine ⟨h4, ba_ext ?_⟩
  have h2 := (endsB_iff u h4).1 h
  have h3 : (u.extract 0 (u.size - 4)).data.toList = u.data.toList.take (u.size - 4) := by rw [ex_data]; simp
  rw [ap_data, h3, h2, List.take_append_drop]
/-! ### A good front. -/
theorem nx_front {S : ByteArray} {k : Nat} {t l : List UInt8} (hk : 1 ≤ k) (hk2 : k ≤ 99) (ht : t.length ≤ 4096) (h : rest S 0 = numB k ++ (numB t.length ++ (t ++ l))) :
    nxV S = k ∧ nxF S = 0 ∧ nxX S = ⟨t.toArray⟩ ∧ nxQ S = (nN k + 1) + (nN t.length + 1) + t.length ∧ nxG S = 0 ∧ rest S ((nN k + 1) + (nN t.length + 1) + t.length) = l := by
  have e8 : (256 : Nat) ^ 8 = 18446744073709551616 := by decide
  obtain ⟨g1, g2, g3, g4, g5⟩ := read_num (lim := some 99) (fa := 0) h (by rw [e8]; omega) (by rintro _ ⟨rfl⟩; omega)
  rw [Nat.zero_add] at g2 g5
  obtain ⟨a1, a2, a3, a4, a5⟩ := read_text (m := 4096) (fa := 0) g5 (by rw [e8]; omega) (by omega)
  have hP : nxP S = nN k + 1 := g2
  have hF : nxF S = 0 := g4
  refine ⟨g1, g4, ?_, ?_, ?_, a5⟩
  · unfold nxX; rw [hP, hF]; exact a1
  · unfold nxQ; rw [hP, hF]; exact a2
  · unfold nxG; rw [hP, hF]; exact a4
theorem nx_full {S u : ByteArray} {k : Nat} {t : ByteArray} {l : List UInt8} (hk : 1 ≤ k) (hk2 : k ≤ 99) (ht : t.size ≤ 4096) (hu : u = frB k t ++ sumStr (moreN 0 (frB k t).data.toList)) (h : S.data.toList = u.data.toList ++ l) :
    nxE S = 0 ∧ nxA S = 0 ∧ nxK S = k ∧ nxL S = t ∧ nxN S = u.size := by
  have htl : t.data.toList.length = t.size := by simp
  have hk0 : ((k : Int)).toNat = k := by omega
  have hus : u.size = (nN k + 1) + (nN t.size + 1) + t.size + 4 := by
    rw [hu, ByteArray.size_append, sumStr_size, frB_sz, hk0]
  have hud : u.data.toList = numB k ++ (numB t.size ++ (t.data.toList ++ (sumStr (moreN 0 (frB k t).data.toList)).data.toList)) := by
    rw [hu, ap_data, frB_data, hk0, List.append_assoc, List.append_assoc]
  have hr : rest S 0 = numB k ++ (numB t.data.toList.length ++ (t.data.toList ++ ((sumStr (moreN 0 (frB k t).data.toList)).data.toList ++ l))) := by
    unfold rest
    rw [List.drop_zero, h, hud, htl]; simp
  obtain ⟨a1, a2, a3, a4, a5, a6⟩ := nx_front hk hk2 (by omega) hr
  rw [htl] at a4
  have hX : nxX S = t := by rw [a3]
  have hSz : S.size = u.size + l.length := by
    have := congrArg List.length h
    rw [List.length_append] at this
    have e1 : S.data.toList.length = S.size := by simp
    have e2 : u.data.toList.length = u.size := by simp
    omega
  have hex : S.extract 0 (nxQ S + 4) = u := by
    refine ba_ext ?_
    have e2 : u.data.toList.length = u.size := by simp
    rw [ex_data, List.drop_zero, Nat.sub_zero, h, a4, ← hus, ← e2, List.take_left]
  have hen : endsB (S.extract 0 (nxQ S + 4)) = true := by rw [hex, hu]; exact ends_seal _
  have hnk : ¬ (nxF S = 0 ∧ nxV S = 0) := fun e => by omega
  obtain ⟨e1, e2, e3, e4, e5⟩ := fn_ok (s := S) (l := nxX S) (v := nxV S) (p2 := nxQ S) (f1 := nxF S) (a2 := nxB S) hnk (by rw [a4]; omega) hen
  have q : nxG S = 0 := a5
  refine ⟨?_, ?_, ?_, ?_, ?_⟩
  · unfold nxE; rw [q]; exact e1
  · unfold nxA; rw [q]; exact e2
  · unfold nxK; rw [q, e4]; exact a1
  · unfold nxL; rw [q, e5]; exact hX
  · unfold nxN; rw [q, e3, a4, hus]
/-! ### Cut off. -/
theorem num_cut (v : Nat) (hv : v < 256 ^ 8) (l : List UInt8) (n : Nat) (hn : n < nN v + 1) : numAt ((numB v ++ l).take n) = (0, 0, 1) := by
  have hm := nN_max hv
  rw [List.take_append_of_le_length (by rw [numB_length]; omega)]
  match n, hn with
  | 0, _ => rfl
  | n + 1, hn =>
    have hkb : (UInt8.ofNat (nN v)).toNat = nN v := by simp; omega
    unfold numB
    rw [List.map_cons, List.take_succ_cons, numAt_cons, hkb, if_neg (by omega), if_pos (by simp [beN_length]; omega)]
theorem rd_cut {s : ByteArray} {p : Nat} {lim : Option Int} (h : (numAt (rest s p)).2.2 = 1) : rdF lim s p 0 = 1 := by
  have hE : rdE lim (rest s p) = 1 := by rw [rdE_field (by omega)]; exact h
  unfold rdF
  rw [if_pos rfl, hE]; rfl
theorem nx_torn {S : ByteArray} {k : Nat} {t : ByteArray} {l : List UInt8} {c : Nat} (hk : 1 ≤ k) (hk2 : k ≤ 99) (ht : t.size ≤ 4096) (hl : l.length = 4) (hc : c < (nN k + 1) + (nN t.size + 1) + t.size + 4)
    (h : S.data.toList = (numB k ++ (numB t.size ++ (t.data.toList ++ l))).take c) : nxE S = 1 := by
  have e8 : (256 : Nat) ^ 8 = 18446744073709551616 := by decide
  have htl : t.data.toList.length = t.size := by simp
  have hr0 : rest S 0 = (numB k ++ (numB t.size ++ (t.data.toList ++ l))).take c := by unfold rest; rw [List.drop_zero]; exact h
  by_cases h1 : c < nN k + 1
  · have hF : nxF S = 1 := rd_cut (by rw [hr0, num_cut k (by rw [e8]; omega) _ c h1])
    have hG : nxG S = 1 := by
      unfold nxG
      have hb : rdF (some 4096) S (nxP S) (nxF S) = 1 := by rw [hF]; rfl
      rw [(tx_bad (m := 4096) (s := S) (fa := 0) (by rw [hb]; omega)).1, hb]
    unfold nxE fnE
    rw [if_neg (by omega), if_pos (by omega), hG]
  · obtain ⟨d, hd⟩ : ∃ d, c = (nN k + 1) + d := ⟨c - (nN k + 1), by omega⟩
    have hr : rest S 0 = numB k ++ (numB t.size ++ (t.data.toList ++ l)).take d := by
      rw [hr0, hd, List.take_append, numB_length, List.take_of_length_le (by rw [numB_length]; omega)]
      congr 2; omega
    obtain ⟨g1, g2, g3, g4, g5⟩ := read_num (lim := some 99) (fa := 0) hr (by rw [e8]; omega) (by rintro _ ⟨rfl⟩; omega)
    rw [Nat.zero_add] at g2 g5
    have hP : nxP S = nN k + 1 := g2
    have hF : nxF S = 0 := g4
    have hV : nxV S = k := g1
    by_cases h2 : d < nN t.size + 1
    · have hb : rdF (some 4096) S (nxP S) (nxF S) = 1 := by
        rw [hP, hF]
        exact rd_cut (by rw [g5, num_cut t.size (by rw [e8]; omega) _ d h2])
      have hG : nxG S = 1 := by
        unfold nxG
        rw [(tx_bad (m := 4096) (s := S) (fa := 0) (by rw [hb]; omega)).1, hb]
      unfold nxE fnE
      rw [if_neg (by omega), if_pos (by omega), hG]
    · obtain ⟨d2, hd2⟩ : ∃ d2, d = (nN t.size + 1) + d2 := ⟨d - (nN t.size + 1), by omega⟩
      have hr2 : rest S (nN k + 1) = numB t.size ++ (t.data.toList ++ l).take d2 := by
        rw [g5, hd2, List.take_append, numB_length, List.take_of_length_le (by rw [numB_length]; omega)]
        congr 2; omega
      obtain ⟨b1, b2, b3, b4, b5⟩ := read_num (lim := some 4096) (fa := 0) hr2 (by rw [e8]; omega) (by rintro _ ⟨rfl⟩; omega)
      have hSz : S.size = c := by
        have e1 : S.data.toList.length = S.size := by simp
        rw [← e1, h, List.length_take]
        simp only [List.length_append, numB_length, htl, hl]
        omega
      by_cases h3 : d2 < t.size
      · have hb : rdF (some 4096) S (nxP S) (nxF S) = 0 := by rw [hP, hF]; exact b4
        have hsh : S.size - rdP (some 4096) S (nxP S) (nxF S) < rdV (some 4096) S (nxP S) (nxF S) := by
          rw [hP, hF, b1, b2]; omega
        have hG : nxG S = 1 := (tx_short (fa := 0) hb hsh).1
        unfold nxE fnE
        rw [if_neg (by omega), if_pos (by omega), hG]
      · have hb : rdF (some 4096) S (nxP S) (nxF S) = 0 := by rw [hP, hF]; exact b4
        have hsh : ¬ S.size - rdP (some 4096) S (nxP S) (nxF S) < rdV (some 4096) S (nxP S) (nxF S) := by
          rw [hP, hF, b1, b2]; omega
        obtain ⟨k1, _, k3, _⟩ := tx_good (fa := 0) hb hsh
        have hG : nxG S = 0 := k1
        have hQ : nxQ S = (nN k + 1) + (nN t.size + 1) + t.size := by
          unfold nxQ
          rw [k3, hP, hF, b1, b2]
        unfold nxE fnE
        rw [if_neg (by omega), if_neg (by omega), if_pos (by omega)]
/-! ### Back. -/
theorem nx_inv {s : ByteArray} (h : nxE s = 0) : s.extract 0 (nxN s) = frB (nxK s : Int) (nxL s) ++ sumStr (moreN 0 (frB (nxK s : Int) (nxL s)).data.toList) := by
  obtain ⟨g1, g2, g3, g4⟩ := nx_facts s
  have hk0 : ((nxK s : Int)).toNat = nxK s := by omega
  have hnk : ¬ (nxF s = 0 ∧ nxV s = 0) := by
    intro e
    have : nxE s = 5 := if_pos e
    omega
  have hG : nxG s = 0 := by
    rcases Decidable.em (nxG s = 0) with e | e
    · exact e
    · have : nxE s = nxG s := by unfold nxE fnE; rw [if_neg hnk, if_pos e]
      omega
  have hsh : ¬ s.size < nxQ s + 4 := by
    intro e
    have : nxE s = 1 := by unfold nxE fnE; rw [if_neg hnk, if_neg (by omega), if_pos e]
    omega
  have hen : endsB (s.extract 0 (nxQ s + 4)) = true := by
    cases e : endsB (s.extract 0 (nxQ s + 4)) with
    | true => rfl
    | false =>
      have : nxE s = 13 := by unfold nxE fnE; rw [if_neg hnk, if_neg (by omega), if_neg hsh, if_neg (by rw [e]; decide)]
      omega
  have hF : nxF s = 0 := by
    rcases Decidable.em (nxF s = 0) with e | e
    · exact e
    · exact absurd hG (g1 e).2
  have hN : nxN s = nxQ s + 4 := if_pos h
  have hK : nxK s = nxV s := if_pos h
  have hL : nxL s = nxX s := if_pos h
  have hz1 := (rdF_zero hF).2
  obtain ⟨a1, a2, _, _⟩ := rd_good (fa := 0) hz1
  have n1 := num_of_at (rdE_zero hz1)
  have hV2 : nxV s = (numAt (rest s 0)).1 := a1
  have hP2 : nxP s = (numAt (rest s 0)).2.1 := by have e : nxP s = 0 + (numAt (rest s 0)).2.1 := a2; omega
  rw [← hV2, ← hP2] at n1
  have hPle : nxP s ≤ s.size := rdP_le (Nat.zero_le _)
  unfold nxG at hG
  have hb : rdF (some 4096) s (nxP s) (nxF s) = 0 := by
    rcases Decidable.em (rdF (some 4096) s (nxP s) (nxF s) = 0) with e | e
    · exact e
    · exact absurd (by rw [← (tx_bad (m := 4096) (s := s) (fa := 0) e).1]; exact hG) e
  have hls : ¬ s.size - rdP (some 4096) s (nxP s) (nxF s) < rdV (some 4096) s (nxP s) (nxF s) := by
    intro e
    rw [(tx_short (fa := 0) hb e).1] at hG
    omega
  obtain ⟨_, _, k3, k4⟩ := tx_good (fa := 0) hb hls
  rw [hF] at hb hls k3 k4
  have hz2 := (rdF_zero hb).2
  obtain ⟨c1, c2, _, _⟩ := rd_good (fa := 0) hz2
  have n2 := num_of_at (rdE_zero hz2)
  obtain ⟨v2, hv2⟩ : ∃ x, rdV (some 4096) s (nxP s) 0 = x := ⟨_, rfl⟩
  obtain ⟨p2, hp2⟩ : ∃ x, rdP (some 4096) s (nxP s) 0 = x := ⟨_, rfl⟩
  have hp2le : p2 ≤ s.size := by rw [← hp2]; exact rdP_le hPle
  rw [hv2, hp2] at hls k3 k4
  have hq : p2 - nxP s = (numAt (rest s (nxP s))).2.1 := by rw [← hp2, c2]; omega
  have hpp : nxP s ≤ p2 := by rw [← hp2, c2]; omega
  rw [← c1, hv2, ← hq] at n2
  have hQ : nxQ s = p2 + v2 := by unfold nxQ; rw [hF]; exact k3
  have hX : nxX s = s.extract p2 (p2 + v2) := by unfold nxX; rw [hF]; exact k4
  have hXs : (nxX s).size = v2 := by rw [hX, ByteArray.size_extract]; omega
  obtain ⟨h4, hseal⟩ := seal_of _ hen
  have hus : (s.extract 0 (nxQ s + 4)).size = nxQ s + 4 := by rw [ByteArray.size_extract]; omega
  have hfront : (s.extract 0 (nxQ s + 4)).extract 0 ((s.extract 0 (nxQ s + 4)).size - 4) = frB (nxK s : Int) (nxL s) := by
    rw [hus]
    refine ba_ext ?_
    rw [frB_data, hk0, hK, hL, hXs, n1, n2, hX, ex_data, ex_data, ex_data]
    unfold rest
    rw [List.drop_zero, List.drop_zero]
    rw [show nxQ s + 4 - 4 - 0 = nxP s + ((p2 - nxP s) + v2) by omega, List.take_take, Nat.min_eq_left (by omega), List.take_add, List.take_add, List.drop_drop]
    rw [show nxP s + (p2 - nxP s) = p2 by omega, show p2 + v2 - p2 = v2 by omega]
  rw [hN]
  refine hseal.trans ?_
  rw [hfront]
end Go.Proofs.YtofpefbnkmeokaaDoor
