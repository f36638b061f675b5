/- The law SumBursts returns true for every input: four bytes that follow one another, laid over with others, change the check sum.
   Conditions: none beyond the row's own. -/
import Derived.Test.YtmejnlnaknlnmaaBurst
import Derived.Test.YtmejnlnaknlnmaaFrame
import Derived.Lib.ConvBytes
namespace Go.Proofs.Ytmejnlnaknlnmaa.lawSumBursts
open Go.ChangeShapes Go.WideShapes Go.ChangeAt Go.RowKit
open Go.ChangeMaps (open_string shut_string)
set_option linter.unusedVariables false
theorem wrap_u64_id (p : Int) (h0 : 0 ≤ p) (h1 : p ≤ 100000) : IntKind.u64.wrap p = p := by rw [IntKind.wrap_u64]; omega
theorem wrap_i64_id (p : Int) (h0 : 0 ≤ p) (h1 : p ≤ 100000) : IntKind.i64.wrap p = p := by rw [IntKind.wrap_i64]; omega
/-- The byte at place j behind i rounds. -/
def ov (l : List UInt8) (k o i j : Nat) : Nat := if k ≤ j ∧ j < k + i then (l.getD j 0).toNat ^^^ (o / 256 ^ (j - k) % 256) else (l.getD j 0).toNat
theorem ov_here (l : List UInt8) (k o i : Nat) : ov l k o i (k + i) = (l.getD (k + i) 0).toNat := if_neg (by omega)
theorem ov_next (l : List UInt8) (k o i : Nat) : ov l k o (i + 1) (k + i) = (l.getD (k + i) 0).toNat ^^^ (o / 256 ^ i % 256) := by
  unfold ov; rw [if_pos (by omega), show k + i - k = i by omega]
theorem ov_other (l : List UInt8) (k o i j : Nat) (h : j ≠ k + i) : ov l k o (i + 1) j = ov l k o i j := by
  unfold ov
  by_cases h1 : k ≤ j ∧ j < k + i
  · rw [if_pos h1, if_pos (by omega)]
  · rw [if_neg h1, if_neg (by omega)]
theorem ov_zero (l : List UInt8) (k o j : Nat) : ov l k o 0 j = (l.getD j 0).toNat := if_neg (by omega)
theorem below_bytes (w : World) (e : TypeId) (s : ByteArray) : Below w.heap.size w (Lib.bytesWorld w e s) :=
  ⟨rfl, rfl, rfl, by rw [Lib.bytesWorld_size]; omega, fun k hk => Lib.bytesWorld_at_old w e s k hk⟩
theorem bytes_free (w : World) (e : TypeId) (s : ByteArray) (j : Nat) (hj : j < s.size) : (Lib.bytesWorld w e s).frozen? ⟨w.heap.size, j, none⟩ = false := by
  have h1 : s.size ≤ (Lib.bytesCells w e s).size := by simp [Lib.bytesCells]
  simp [World.frozen?, Lib.bytesWorld_at_new]
  omega
/-- The bytes behind four rounds. -/
def ovL (l : List UInt8) (k o : Nat) : List Int := (List.range l.length).map fun j => ((ov l k o 4 j : Nat) : Int)
theorem ovL_at (l : List UInt8) (k o j : Nat) (h : j < l.length) : (ovL l k o).getD j 0 = ((ov l k o 4 j : Nat) : Int) := by
  simp [ovL, List.getD_eq_getElem?_getD, h]
theorem split4 (l : List UInt8) (k : Nat) (h : k + 4 ≤ l.length) : l = l.take k ++ [l.getD k 0, l.getD (k + 1) 0, l.getD (k + 2) 0, l.getD (k + 3) 0] ++ l.drop (k + 4) := by
  have g : ∀ j, j < l.length → l.drop j = l.getD j 0 :: l.drop (j + 1) := fun j hj => by
    rw [List.drop_eq_getElem_cons hj]; simp [List.getD_eq_getElem?_getD, hj]
  rw [List.append_assoc]
  show l = l.take k ++ (l.getD k 0 :: l.getD (k + 1) 0 :: l.getD (k + 2) 0 :: l.getD (k + 3) 0 :: l.drop (k + 4))
  rw [← g (k + 3) (by omega), ← g (k + 2) (by omega), ← g (k + 1) (by omega), ← g k (by omega), List.take_append_drop]
theorem ov_lt (l : List UInt8) (k o i j : Nat) : ov l k o i j < 256 := by
  unfold ov
  split
  · exact Nat.xor_lt_two_pow (n := 8) (UInt8.toNat_lt _) (Nat.mod_lt _ (by omega))
  · exact UInt8.toNat_lt _
theorem ovL_get (l : List UInt8) (k o j : Nat) (h : j < l.length) : (strOfNums (ovL l k o)).data.toList[j]? = some (UInt8.ofNat (ov l k o 4 j)) := by
  rw [strOfNums_data]; simp [ovL, h]
theorem ovL_getD (l : List UInt8) (k o j : Nat) (h : j < l.length) : ((strOfNums (ovL l k o)).data.toList.getD j 0).toNat = ov l k o 4 j := by
  rw [List.getD_eq_getElem?_getD, ovL_get l k o j h]
  simp [Nat.mod_eq_of_lt (ov_lt l k o 4 j)]
theorem ovL_length (l : List UInt8) (k o : Nat) : (strOfNums (ovL l k o)).data.toList.length = l.length := by rw [strOfNums_data]; simp [ovL]
theorem ovL_same (l : List UInt8) (k o j : Nat) (h : j < l.length) (hj : j < k ∨ k + 4 ≤ j) : (strOfNums (ovL l k o)).data.toList[j]? = l[j]? := by
  rw [ovL_get l k o j h, List.getElem?_eq_getElem h]
  unfold ov
  rw [if_neg (by omega)]
  simp [List.getD_eq_getElem?_getD, h]
theorem ov_burst (l : List UInt8) (k o : Nat) (h : k + 4 ≤ l.length) (ho : o < 4294967296) (hz : o ≠ 0) : moreN 0 (strOfNums (ovL l k o)).data.toList ≠ moreN 0 l := by
  have hl := ovL_length l k o
  have e1 := split4 (strOfNums (ovL l k o)).data.toList k (by omega)
  have e2 := split4 l k h
  have hA : (strOfNums (ovL l k o)).data.toList.take k = l.take k := by
    apply List.ext_getElem?
    intro j
    rw [List.getElem?_take, List.getElem?_take]
    by_cases hj : j < k
    · rw [if_pos hj, if_pos hj]; exact ovL_same l k o j (by omega) (.inl hj)
    · rw [if_neg hj, if_neg hj]
  have hC : (strOfNums (ovL l k o)).data.toList.drop (k + 4) = l.drop (k + 4) := by
    apply List.ext_getElem?
    intro j
    rw [List.getElem?_drop, List.getElem?_drop]
    by_cases hj : k + 4 + j < l.length
    · exact ovL_same l k o _ hj (.inr (by omega))
    · rw [List.getElem?_eq_none (by omega), List.getElem?_eq_none (by omega)]
  rw [hA, hC] at e1
  have hb : ∀ i, i < 4 → ((strOfNums (ovL l k o)).data.toList.getD (k + i) 0).toNat = (l.getD (k + i) 0).toNat ^^^ (o / 256 ^ i % 256) := fun i hi => by
    rw [ovL_getD l k o _ (by omega)]
    unfold ov
    rw [if_pos (by omega), show k + i - k = i by omega]
  rw [e1, e2]
  have key := burst (l.take k) (l.drop (k + 4)) (l.getD k 0) (l.getD (k + 1) 0) (l.getD (k + 2) 0) (l.getD (k + 3) 0) _ _ _ _ (o / 256 ^ 0 % 256) (o / 256 ^ 1 % 256) (o / 256 ^ 2 % 256) (o / 256 ^ 3 % 256)
    (Nat.mod_lt _ (by omega)) (Nat.mod_lt _ (by omega)) (Nat.mod_lt _ (by omega)) (Nat.mod_lt _ (by omega)) (hb 0 (by omega)) (hb 1 (by omega)) (hb 2 (by omega)) (hb 3 (by omega)) (by omega)
  rw [← e2]
  rw [← e2] at key
  exact key
theorem byte_inj {a b : Int} (ha : 0 ≤ a) (ha2 : a < 256) (hb : 0 ≤ b) (hb2 : b < 256) (h : UInt8.ofNat a.toNat = UInt8.ofNat b.toNat) : a = b := by
  have := congrArg UInt8.toNat h
  simp at this
  omega
theorem sumStr_inj {x y : Nat} (hx : x < 4294967296) (hy : y < 4294967296) (h : (sumStr x).data.toList = (sumStr y).data.toList) : x = y := by
  unfold sumStr at h
  rw [strOfNums_data, strOfNums_data] at h
  simp only [List.map_cons, List.map_nil, List.cons.injEq, and_true] at h
  obtain ⟨h0, h1, h2, h3⟩ := h
  have g0 := byte_inj (by omega) (by omega) (by omega) (by omega) h0
  have g1 := byte_inj (by omega) (by omega) (by omega) (by omega) h1
  have g2 := byte_inj (by omega) (by omega) (by omega) (by omega) h2
  have g3 := byte_inj (by omega) (by omega) (by omega) (by omega) h3
  omega
/-- What the row holds behind r rounds. -/
def OvAt (B : Nat) (s : ByteArray) (k o r : Nat) (wr : World) : Prop := ∀ j, j < s.size → wr.cell? ⟨B, j, none⟩ = some (.int .u8 (ov s.data.toList k o r j : Nat)) ∧ wr.frozen? ⟨B, j, none⟩ = false
theorem ovAt_zero (w : World) (e : TypeId) (s : ByteArray) (k o : Nat) : OvAt w.heap.size s k o 0 (Lib.bytesWorld w e s) := fun j hj => by
  rw [ov_zero]; exact ⟨Lib.bytesWorld_cell w e s j hj, bytes_free w e s j hj⟩
theorem ovAt_next {B : Nat} {s : ByteArray} {k o r z x : Nat} {w : World} (h : OvAt B s k o r w) (hc : w.cell? ⟨B, k + r, none⟩ = some (.int .u8 (x : Nat))) (hz : ov s.data.toList k o (r + 1) (k + r) = z) : OvAt B s k o (r + 1) (w.setCell ⟨B, k + r, none⟩ (.int .u8 (z : Nat))) := fun j hj => by
  refine ⟨?_, by rw [World.frozen?_setCell]; exact (h j hj).2⟩
  by_cases he : j = k + r
  · subst he
    rw [World.cell?_setCell_same' _ _ _ (by rw [hc]; rfl), hz]
  · rw [World.cell?_setCell_other _ _ _ _ (by intro e; injection e with _ e2; exact he e2.symm), (h j hj).1, ov_other _ _ _ _ _ he]
set_option maxHeartbeats 1600000 in
theorem walk (s : ByteArray) (n v : Int) (w : World) (w0 : s.size ≤ maxLen) (w1 : (Lit.int .i64 n).wf = true) (w2 : (Lit.int .u32 v).wf = true) :
    Calls Try.prog 9 #[.string s, .int .i64 n, .int .u32 v] w fun e w' => e = .returned (.bool true) ∧ Below w.heap.size w w' := by
  clear w1
  unfold maxLen at w0
  obtain ⟨v0, v1⟩ := wf_u32 w2
  clear w2
  obtain ⟨o, rfl⟩ := Int.eq_ofNat_of_zero_le v0
  clear v0
  by_cases hs : s.size ≤ 3000
  · by_cases hs4 : 4 ≤ s.size
    · by_cases ho : o = 0
      · subst ho
        have q1 : ¬ (3000 < (s.size : Int)) := by omega
        have q2 : ¬ ((s.size : Int) < 4) := by omega
        go_enter Try.func9, Try.ntmps9
        go_wp2_with fail
        refine (sworks _).mono ?_; rintro e w1 ⟨rfl, b1⟩
        go_wp2
        go_ret
        exact ⟨rfl, b1⟩
      · have q1 : ¬ (3000 < (s.size : Int)) := by omega
        have q2 : ¬ ((s.size : Int) < 4) := by omega
        have q3 : ((o : Int) == 0) = false := by simp; omega
        obtain ⟨un, hun⟩ : ∃ u, IntKind.u64.wrap n = u := ⟨_, rfl⟩
        have gn : 0 ≤ un := by rw [← hun, IntKind.wrap_u64]; omega
        have hm0 : 0 ≤ un % ((s.size : Int) - 3) := Int.emod_nonneg _ (by omega)
        have hm1 : un % ((s.size : Int) - 3) < (s.size : Int) - 3 := Int.emod_lt_of_pos _ (by omega)
        obtain ⟨k, hk⟩ := Int.eq_ofNat_of_zero_le hm0
        have hk1 : (k : Int) < (s.size : Int) - 3 := by omega
        have hk2 : (0 : Int) ≤ (k : Int) := by omega
        clear hm0 hm1
        have e1 := wrap_u64_id ((s.size : Int) - 3) (by omega) (by omega)
        have e2 := wrap_i64_id (k : Int) (by omega) (by omega)
        have hcv := fun (W : World) => Lib.run_convert_string_bytes (P := Try.prog) W 9 45 5 s Try.underlying9 Try.underlying45 Try.underlying5
        clear ho
        go_enter Try.func9, Try.ntmps9
        go_wp2_with fail
        refine (sworks _).mono ?_; rintro e w1 ⟨rfl, b1⟩
        go_wp2
        have hB : w.heap.size ≤ w1.heap.size := b1.size
        go_loopw [9] (fun i wr => ∃ r : Nat, r ≤ 4 ∧ i = .int .i64 r ∧ Below w.heap.size w wr ∧ OvAt w1.heap.size s k o r wr) (fun i _ => 4 - (intOf i).toNat)
        case atStart => exact ⟨0, by omega, rfl, b1.trans ((below_bytes w1 5 s).mono hB), ovAt_zero w1 5 s k o⟩
        case round =>
          obtain ⟨r, hr, rfl, hbr, H⟩ := hrel
          by_cases hlt : r < 4
          · obtain ⟨x, hx⟩ : ∃ x : Nat, (s.data.toList.getD (k + r) 0).toNat = x := ⟨_, rfl⟩
            obtain ⟨z, hz⟩ : ∃ z : Nat, x ^^^ (o / 256 ^ r % 256) = z := ⟨_, rfl⟩
            have hxl : x < 256 := by rw [← hx]; exact UInt8.toNat_lt _
            have hcf := H (k + r) (by omega)
            rw [ov_here, hx] at hcf
            obtain ⟨hcell, hfr⟩ := hcf
            have e3 : bits .xor .u8 (x : Int) ((o : Int) / 256 ^ r % 256) = (z : Int) := by
              have h1 : ((o : Int) / 256 ^ r % 256) = ((o / 256 ^ r % 256 : Nat) : Int) := by simp
              rw [h1, u8_xor_nat _ _ hxl (Nat.mod_lt _ (by omega)), hz]
            have HN := Lib.hid (ovAt_next (w := wr) (z := z) H hcell (by rw [ov_next, hx, hz]))
            have HZ := Lib.hid hz
            clear hz hx H
            obtain ⟨ri, hri⟩ : ∃ ri : Int, (r : Int) = ri := ⟨_, rfl⟩
            simp only [hri]
            have hr4 : (r = 0 ∧ ri = 0) ∨ (r = 1 ∧ ri = 1) ∨ (r = 2 ∧ ri = 2) ∨ (r = 3 ∧ ri = 3) := by omega
            clear hri hr hlt
            rcases hr4 with ⟨rfl, rfl⟩ | ⟨rfl, rfl⟩ | ⟨rfl, rfl⟩ | ⟨rfl, rfl⟩
            all_goals
              simp at e3
              try simp only [Nat.add_zero] at hcell hfr
              try (rw [show (o : Int) / 16777216 % 256 = (o : Int) / 16777216 by omega] at e3)
              go_wp2
              refine ⟨⟨_, ?_, ?_, hbr.setCell (by simp; omega) _, HN.out⟩, by simp [intOf]⟩
              · decide
              · rfl
          · obtain rfl : r = 4 := by omega
            obtain ⟨t, ht⟩ : ∃ t : ByteArray, strOfNums (ovL s.data.toList k o) = t := ⟨_, rfl⟩
            have hcv2 : (convert 45 9 (.slice (some ⟨w1.heap.size, 0, none⟩) s.size (grownCap w1 s.size 0 5))).run Try.prog wr = .ok (.string t) wr := by
              rw [← ht]
              exact run_convert_bytes_arg wr 45 5 Try.underlying45 Try.underlying5 w1.heap.size 0 s.size _ _ (by simp [ovL]) (fun j hj => by
                rw [Nat.zero_add, (H j hj).1, ovL_at _ _ _ _ (by simpa using hj)]) 9 Try.underlying9
            have htz : t.size ≤ 100000 := by rw [← ht, strOfNums_size]; simp [ovL]; omega
            obtain ⟨x, hx⟩ : ∃ x : Nat, moreN 0 t.data.toList = x := ⟨_, rfl⟩
            obtain ⟨y, hy⟩ : ∃ y : Nat, moreN 0 s.data.toList = y := ⟨_, rfl⟩
            have hxl : x < 4294967296 := by rw [← hx]; exact moreN_lt (by omega) _
            have hyl : y < 4294967296 := by rw [← hy]; exact moreN_lt (by omega) _
            have hne : x ≠ y := by rw [← hx, ← hy, ← ht]; exact ov_burst s.data.toList k o (by simp; omega) (by omega) (by simpa using q3)
            have hxy : ((x : Int) != (y : Int)) = true := by simp; omega
            obtain ⟨u, hu⟩ : ∃ u : ByteArray, t ++ sumStr y = u := ⟨_, rfl⟩
            have hus : (sumStr y).size = 4 := sumStr_size y
            have hue : endsB u = false := by
              rw [← hu, Bool.eq_false_iff]
              intro he
              rw [endsB_other t _ hus, hx] at he
              exact hne (sumStr_inj hxl hyl he)
            have C1 : ∀ W : World, Calls Try.prog 32 #[.string t] W fun e w' => e = .returned (.int .u32 (x : Int)) ∧ W = w' := fun W =>
              (of_any _ W htz).mono (by rintro e w' ⟨rfl, rfl⟩; exact ⟨ret_u32 hx, rfl⟩)
            have C2 : ∀ W : World, Calls Try.prog 32 #[.string s] W fun e w' => e = .returned (.int .u32 (y : Int)) ∧ W = w' := fun W =>
              (of_any _ W (by omega)).mono (by rintro e w' ⟨rfl, rfl⟩; exact ⟨ret_u32 hy, rfl⟩)
            have C3 : ∀ W : World, Calls Try.prog 38 #[.string u] W fun e w' => e = .returned (.bool false) ∧ Below W.heap.size W w' := fun W =>
              (ends_any _ W (by rw [← hu, ByteArray.size_append, hus]; rw [← ht, strOfNums_size]; simp [ovL]; omega)).mono (by rintro e w' ⟨rfl, hb⟩; exact ⟨ret_b hue, hb⟩)
            have D1 := Lib.hid C1
            have D2 := Lib.hid C2
            have D3 := Lib.hid C3
            clear C1 C2 C3 ht hx hy hue hne H hr
            go_wp2_with fail
            refine (D1.out _).mono ?_; rintro e w2 ⟨rfl, rfl⟩
            go_wp2_with fail
            refine (D2.out _).mono ?_; rintro e w2 ⟨rfl, rfl⟩
            go_wp2_with fail
            refine (D2.out _).mono ?_; rintro e w2 ⟨rfl, rfl⟩
            go_wp2_with fail
            refine (bytes_any y _ hyl).mono ?_; rintro e w3 ⟨rfl, b3⟩
            go_wp2_with fail
            refine (D3.out _).mono ?_; rintro e w4 ⟨rfl, b4⟩
            have g3 := hbr.trans (b3.mono hbr.size)
            go_wp2
            go_ret
            exact ⟨rfl, g3.trans (b4.mono g3.size)⟩
    · have q1 : ¬ (3000 < (s.size : Int)) := by omega
      have q2 : (s.size : Int) < 4 := by omega
      go_enter Try.func9, Try.ntmps9
      go_wp2_with fail
      refine (sworks _).mono ?_; rintro e w1 ⟨rfl, b1⟩
      go_wp2
      go_ret
      exact ⟨rfl, b1⟩
  · have q1 : 3000 < (s.size : Int) := by omega
    go_enter Try.func9, Try.ntmps9
    go_wp2_with fail
    refine (sworks _).mono ?_; rintro e w1 ⟨rfl, b1⟩
    go_wp2
    go_ret
    exact ⟨rfl, b1⟩
set_option maxRecDepth 100000 in
theorem lifted (os : Os) (started : os.Started) (H : Type) (enc : TypeId × Value → H) :
    ReturnsInHanded {} Try.checked os 9 .any (Rows.sumBurstsSpec.pre6 enc Try.prog Try.f9 Rows.sumBurstsRow.domain false) (Rows.sumBurstsSpec.post enc Try.prog Try.f9 false true false false) := by
  refine returnsInHanded_of_change (C := Try.checked) own started (by kernel_rfl) Try.func9
    (ChangeSpec.witness6 (enc := enc) (C := Try.checked) false ⟨#[], #[.string ⟨#[]⟩, .int .i64 0, .int .u32 0], []⟩ 8 (by kernel_rfl) (by kernel_rfl) (by kernel_rfl) (by kernel_rfl)) ?_
  intro W base args ds gs before hval0 hW hcnd _
  have hval : ∀ (j : Nat) t v, Try.f9.params[j]? = some t → args[j]? = some v → Value.okWide Try.prog W .any base t v := hval0
  have hW' := hW
  obtain ⟨p, q, hA0, hV, rfl, hfz, hnd⟩ := hW
  have hA : DataW.TrodAll enc Try.prog W 0 (fun _ => true) true Try.f9.params.toList args.toList ds p := hA0
  rw [Try.params9] at hA hval
  obtain ⟨v0, vs0, d0, ds0, p0, q0, hargs, rfl, rfl, h0, r0⟩ := trodAll_cons hA
  obtain ⟨v1, vs1, d1, ds1, p1, q1, rfl, rfl, rfl, h1, r1⟩ := trodAll_cons r0
  obtain ⟨v2, vs2, d2, ds2, p2, q2, rfl, rfl, rfl, h2, r2⟩ := trodAll_cons r1
  obtain ⟨rfl, rfl, rfl⟩ := trodAll_nil r2
  obtain rfl : args = #[v0, v1, v2] := by cases args; simp_all
  obtain ⟨rfl, rfl⟩ := trodVars_none hV
  have k0 := h0
  have lt0 : ∀ x ∈ p0, x.block < W.heap.size := by obtain ⟨m, hm⟩ := k0; exact DataW.trod_lt m _ _ _ hm
  obtain ⟨a0, rfl, ed0, rfl, w0⟩ := open_string Try.underlying9 (hval 0 9 v0 rfl rfl) h0
  have k1 := h1
  have lt1 : ∀ x ∈ p1, x.block < W.heap.size := by obtain ⟨m, hm⟩ := k1; exact DataW.trod_lt m _ _ _ hm
  obtain ⟨a1, rfl, ed1, rfl, w1⟩ := open_int Try.underlying3 (hval 1 3 v1 rfl rfl) h1
  have k2 := h2
  have lt2 : ∀ x ∈ p2, x.block < W.heap.size := by obtain ⟨m, hm⟩ := k2; exact DataW.trod_lt m _ _ _ hm
  obtain ⟨a2, rfl, ed2, rfl, w2⟩ := open_int Try.underlying28 (hval 2 28 v2 rfl rfl) h2
  clear hA0 hval0
  refine (walk a0 a1 a2 W w0 w1 w2).mono fun e W' ⟨he, bel⟩ => ?_
  subst he
  exact ⟨_, rfl, _, _, _, [], _, [], hW', trodAll_mk1 (shut_bool Try.underlying4 _), (trodAll_cons_mk (Below.trod laidOut (by kernel_rfl) (of_decide_eq_true (by kernel_rfl)) k0 bel lt0) (trodAll_cons_mk (Below.trod laidOut (by kernel_rfl) (of_decide_eq_true (by kernel_rfl)) k1 bel lt1) (trodAll_cons_mk (Below.trod laidOut (by kernel_rfl) (of_decide_eq_true (by kernel_rfl)) k2 bel lt2) trodAll_mk0))), rfl, bel.frame _, fun h => by cases h⟩
theorem over : Rows.sumBurstsRow.holds Try.pinned (OpenSpec.ofChange Rows.sumBurstsSpec) :=
  OpenClaim.holds_of_wide 9 Try.f9 rfl rfl rfl rfl rfl rfl rfl ⟨rfl, rfl, rfl, rfl, rfl⟩ rfl rfl rfl rfl rfl (by kernel_rfl) Try.func9 (by kernel_rfl)
    (of_decide_eq_true (by kernel_rfl)) (by unfold Func.isWrapper; first | (rw [if_pos (by decide +kernel)]; kernel_rfl) | (rw [if_neg (by decide +kernel)]; exact ⟨rfl, rfl⟩))
    (fun os started H enc _ => lifted os started H enc)
theorem proved : Rows.SumBurstsSaid := over
#print axioms proved
end Go.Proofs.Ytmejnlnaknlnmaa.lawSumBursts
