/- A region that draws its order, in which calls that make memory stand beside the allocs of the variables that it declares: one walk for the values, and each variable's block by itself. -/
import Derived.Test.YtfpaojkcmijfgaaProg
import Derived.Lib.QuietBelow
import Derived.BigQuiet
import Derived.Deep.QuietTactic
namespace Go.Proofs.Ytfpaojkcmijfgaa
open Go Go.RowKit Go.Sort
set_option linter.unusedVariables false

/-- A variable that the region makes: the number of its alloc, of its store, the slot of its address, its type, its cells ahead of the store and behind it. -/
structure Box where
  ia : Nat
  st : Nat
  d : Tmp
  t : TypeId
  cs : Array Value
  cs' : Array Value

/-- An alloc or a store put aside: it leaves 'undef'. -/
def neut (o : Oper) : Oper :=
  match o.op with
  | .alloc _ => ⟨o.dst, .move (.const undef), o.type, o.pos, o.after, o.guard⟩
  | .store _ _ _ => ⟨o.dst, .move (.const undef), o.type, o.pos, o.after, o.guard⟩
  | _ => o
theorem neut_dst (o : Oper) : (neut o).dst = o.dst := by unfold neut; split <;> rfl
theorem neut_guard (o : Oper) : (neut o).guard = o.guard := by unfold neut; split <;> rfl
def asideOp (o : Oper) : Bool := match o.op with | .alloc _ => true | .store _ _ _ => true | _ => false
theorem neut_same {o : Oper} (h : asideOp o = false) : neut o = o := by unfold neut; unfold asideOp at h; split <;> simp_all

def boxB (ops : Array Oper) (bs : List Box) : Bool :=
  Region.noSelect ops && (List.range ops.size).all fun i =>
    match ops[i]? with
    | none => true
    | some o =>
      o.after.all (fun e => !Region.binds .any e || decide (e.on < i)) &&
      (o.looksAt ops).all (fun t => (List.range ops.size).all fun k =>
        match ops[k]? with
        | none => true
        | some ok => ok.dst != some t || (decide (k < i) && o.after.any (fun e => Region.binds .any e && e.on == k))) &&
      (List.range ops.size).all (fun k => k == i ||
        match ops[k]? with
        | none => true
        | some ok => ok.dst == none || ok.dst != o.dst) &&
      (if bs.any (fun b => b.ia == i) then true
       else if bs.any (fun b => b.st == i) then (o.looksAt ops).all (fun t => bs.all fun b => b.d != t || b.st == i)
       else !asideOp o && (o.looksAt ops).all (fun t => bs.all fun b => b.d != t))

structure Fed (ops : Array Oper) (bs : List Box) : Prop where
  sel : ∀ (j : Nat) (o : Oper) cs b, ops[j]? = some o → o.op ≠ .select cs b
  low : ∀ (i : Nat) (o : Oper) (e : Edge), ops[i]? = some o → e ∈ o.after → Region.binds .any e = true → e.on < i
  fed : ∀ (i : Nat) (o : Oper) (t : Tmp) (k : Nat) (ok : Oper), ops[i]? = some o → t ∈ o.looksAt ops → ops[k]? = some ok → ok.dst = some t → k < i ∧ ∃ e ∈ o.after, Region.binds .any e = true ∧ e.on = k
  one : ∀ (i : Nat) (o : Oper) (k : Nat) (ok : Oper) (t : Tmp), ops[i]? = some o → ops[k]? = some ok → o.dst = some t → ok.dst = some t → i = k
  plain : ∀ (i : Nat) (o : Oper), ops[i]? = some o → (∀ b ∈ bs, b.ia ≠ i) → (∀ b ∈ bs, b.st ≠ i) → asideOp o = false ∧ ∀ t ∈ o.looksAt ops, ∀ b ∈ bs, b.d ≠ t
  stores : ∀ (i : Nat) (o : Oper), ops[i]? = some o → (∀ b ∈ bs, b.ia ≠ i) → (∃ b ∈ bs, b.st = i) → ∀ t ∈ o.looksAt ops, ∀ b ∈ bs, b.d = t → b.st = i

theorem fed_of {ops : Array Oper} {bs : List Box} (h : boxB ops bs = true) : Fed ops bs := by
  unfold boxB at h
  rw [Bool.and_eq_true] at h
  obtain ⟨hs, h⟩ := h
  rw [List.all_eq_true] at h
  have H := fun (i : Nat) (o : Oper) (ho : ops[i]? = some o) => by
    have := h i (by rw [List.mem_range]; exact (Array.getElem?_eq_some_iff.1 ho).1)
    simp only [ho, Bool.and_eq_true] at this
    exact this
  have R : ∀ k (ok : Oper), ops[k]? = some ok → k ∈ List.range ops.size := fun k ok hk => by
    rw [List.mem_range]; exact (Array.getElem?_eq_some_iff.1 hk).1
  refine ⟨Region.noSelect_spec hs, ?_, ?_, ?_, ?_, ?_⟩
  · intro i o e ho he hbi
    have h1 := (H i o ho).1.1.1
    rw [Array.all_eq_true_iff_forall_mem] at h1
    have h2 := h1 e he
    rw [hbi] at h2
    simpa using h2
  · intro i o t k ok ho ht hk hd
    have h1 := (H i o ho).1.1.2
    rw [List.all_eq_true] at h1
    have h2 := h1 t ht
    rw [List.all_eq_true] at h2
    have h3 := h2 k (R k ok hk)
    simp only [hk, hd, bne_self_eq_false, Bool.false_or, Bool.and_eq_true, decide_eq_true_eq] at h3
    refine ⟨h3.1, ?_⟩
    obtain ⟨e, he, hb⟩ := Array.any_eq_true'.1 h3.2
    simp only [Bool.and_eq_true, beq_iff_eq] at hb
    exact ⟨e, he, hb.1, hb.2⟩
  · intro i o k ok t ho hk hd hd'
    have h1 := (H i o ho).1.2
    rw [List.all_eq_true] at h1
    have h2 := h1 k (R k ok hk)
    simp only [hk, hd, hd', bne_self_eq_false, Bool.or_false, Bool.or_eq_true, beq_iff_eq] at h2
    rcases h2 with h2 | h2
    · exact h2.symm
    · simp at h2
  · intro i o ho n1 n2
    have h1 := (H i o ho).2
    rw [if_neg (by rw [Bool.not_eq_true, List.any_eq_false]; intro b hb; simpa using n1 b hb), if_neg (by rw [Bool.not_eq_true, List.any_eq_false]; intro b hb; simpa using n2 b hb)] at h1
    rw [Bool.and_eq_true] at h1
    refine ⟨by simpa using h1.1, fun t ht b hb => ?_⟩
    have h2 := h1.2
    rw [List.all_eq_true] at h2
    have h3 := h2 t ht
    rw [List.all_eq_true] at h3
    simpa using h3 b hb
  · intro i o ho n1 ⟨b0, hb0, e0⟩ t ht b hb hd
    have h1 := (H i o ho).2
    rw [if_neg (by rw [Bool.not_eq_true, List.any_eq_false]; intro b hb; simpa using n1 b hb), if_pos (by rw [List.any_eq_true]; exact ⟨b0, hb0, by simpa using e0⟩)] at h1
    rw [List.all_eq_true] at h1
    have h3 := h1 t ht
    rw [List.all_eq_true] at h3
    have h4 := h3 b hb
    simp only [hd, bne_self_eq_false, Bool.false_or, beq_iff_eq] at h4
    exact h4

/-- What the lexical walk shows of each operation, seen from the frame at its end. -/
theorem walk_facts {P : Program} {ops : Array Oper} {C : World → Prop} {F : Act} : ∀ (l : List Oper) (a : Act), wpQuiet P ops C (fun a' => a' = F) l a →
    a.defers = F.defers ∧ a.tmps.size = F.tmps.size ∧ (∀ t, (∀ o ∈ l, o.dst ≠ some t) → a.tmps[t]? = F.tmps[t]?) ∧
    ∀ (i : Nat) (o : Oper), l[i]? = some o → ∃ (ai : Act) (v : Value), YieldsIn P ops C o v ai ∧
      (∀ t, (∀ (k : Nat) (ok : Oper), i ≤ k → l[k]? = some ok → ok.dst ≠ some t) → ai.tmps[t]? = F.tmps[t]?) ∧
      (∀ d, o.dst = some d → d < F.tmps.size → (∀ (k : Nat) (ok : Oper), i < k → l[k]? = some ok → ok.dst ≠ some d) → F.tmps[d]? = some v)
  | [], a, h => by
    have e : a = F := h
    subst e
    exact ⟨rfl, rfl, fun _ _ => rfl, fun i o h => by simp at h⟩
  | o :: rest, a, h => by
    have hy : ∃ v, YieldsIn P ops C o v a ∧ wpQuiet P ops C (fun a' => a' = F) rest (a.put o.dst v) := by
      unfold wpQuiet at h
      by_cases hw : Region.wanted o (yielded ops a.tmps) = true
      · simp only [hw, if_true] at h
        obtain ⟨v, h1, h2⟩ := h
        exact ⟨v, .inl ⟨hw, h1⟩, h2⟩
      · simp only [hw] at h
        exact ⟨undef, .inr ⟨by simpa using hw, rfl⟩, h⟩
    obtain ⟨v, hy, hr⟩ := hy
    obtain ⟨i1, i2, i3, i4⟩ := walk_facts rest _ hr
    have p1 : (a.put o.dst v).defers = a.defers := by cases o.dst <;> rfl
    have p2 : (a.put o.dst v).tmps.size = a.tmps.size := by cases o.dst <;> simp [Act.put]
    have p3 : ∀ t, o.dst ≠ some t → (a.put o.dst v).tmps[t]? = a.tmps[t]? := by
      intro t ht
      cases hd : o.dst with
      | none => rfl
      | some d =>
        have hne : d ≠ t := fun e => ht (by rw [hd, e])
        simp [Act.put, Array.getElem?_setIfInBounds_ne hne]
    refine ⟨p1 ▸ i1, p2 ▸ i2, fun t ht => ?_, fun i o' ho' => ?_⟩
    · rw [← p3 t (ht o (by simp))]
      exact i3 t (fun o' ho' => ht o' (by simp [ho']))
    · cases i with
      | zero =>
        simp at ho'
        subst ho'
        refine ⟨a, v, hy, fun t ht => ?_, fun d hd hlt hn => ?_⟩
        · rw [← p3 t (ht 0 o (Nat.le_refl _) rfl)]
          refine i3 t (fun o' ho' => ?_)
          obtain ⟨k, hk⟩ := List.getElem?_of_mem ho'
          exact ht (k + 1) o' (Nat.zero_le _) (by simpa using hk)
        · rw [← i3 d (fun o' ho' => by
            obtain ⟨k, hk⟩ := List.getElem?_of_mem ho'
            exact hn (k + 1) o' (Nat.succ_pos _) (by simpa using hk)), hd]
          have : d < a.tmps.size := by rw [← p2, i2]; exact hlt
          simp [Act.put, this]
      | succ i =>
        simp at ho'
        obtain ⟨ai, v', g1, g2, g3⟩ := i4 i o' ho'
        refine ⟨ai, v', g1, fun t ht => g2 t (fun k ok hk hok => ht (k + 1) ok (by omega) (by simpa using hok)), fun d hd hlt hn => g3 d hd hlt (fun k ok hk hok => hn (k + 1) ok (by omega) (by simpa using hok))⟩

/-- The frame at the region's end: the walk's, with the variables' addresses. -/
def fillB (β : Nat → Nat) : List Box → Act → Act
  | [], a => a
  | b :: bs, a => fillB β bs (a.put (some b.d) (.pointer (some ⟨β b.ia, 0, none⟩)))
theorem fillB_defers (β : Nat → Nat) : ∀ (bs : List Box) (a : Act), (fillB β bs a).defers = a.defers
  | [], _ => rfl
  | b :: bs, a => (fillB_defers β bs _).trans rfl
theorem fillB_size (β : Nat → Nat) : ∀ (bs : List Box) (a : Act), (fillB β bs a).tmps.size = a.tmps.size
  | [], _ => rfl
  | b :: bs, a => (fillB_size β bs _).trans (by simp [Act.put])
theorem fillB_other (β : Nat → Nat) (t : Nat) : ∀ (bs : List Box) (a : Act), (∀ b ∈ bs, b.d ≠ t) → (fillB β bs a).tmps[t]? = a.tmps[t]?
  | [], _, _ => rfl
  | b :: bs, a, h => (fillB_other β t bs _ (fun b' hb' => h b' (by simp [hb']))).trans (by
      have : b.d ≠ t := h b (by simp)
      simp [Act.put, Array.getElem?_setIfInBounds_ne this])
theorem fillB_at (β : Nat → Nat) (b : Box) : ∀ (bs : List Box) (a : Act), b ∈ bs → (∀ b' ∈ bs, b'.d = b.d → b'.ia = b.ia) → b.d < a.tmps.size → (fillB β bs a).tmps[b.d]? = some (.pointer (some ⟨β b.ia, 0, none⟩))
  | [], _, h, _, _ => by cases h
  | b0 :: bs, a, h, hd, hs => by
    by_cases hx : ∀ b' ∈ bs, b'.d ≠ b.d
    · have hb : b0 = b := by
        rcases List.mem_cons.1 h with h | h
        · exact h.symm
        · exact absurd rfl (hx b h)
      subst hb
      rw [fillB, fillB_other β b0.d bs _ hx]
      simp [Act.put, hs]
    · have ⟨b1, hb1, e1⟩ : ∃ b1 ∈ bs, b1.d = b.d := by
        simp only [Classical.not_forall] at hx
        obtain ⟨b1, hb1, e1⟩ := hx
        exact ⟨b1, hb1, by simpa using e1⟩
      have := fillB_at β b1 bs (a.put (some b0.d) (.pointer (some ⟨β b0.ia, 0, none⟩))) hb1 (fun b' hb' e => by rw [hd b' (by simp [hb']) (e.trans e1), hd b1 (by simp [hb1]) e1]) (by simpa [Act.put, e1] using hs)
      rw [e1, hd b1 (by simp [hb1]) e1] at this
      exact this

/-- What is asked of a variable's alloc and of its store. -/
structure BoxOk (P : Program) (ops : Array Oper) (F : Act) (b : Box) : Prop where
  al : ∃ o, ops[b.ia]? = some o ∧ o.dst = some b.d ∧ o.guard = none ∧ ∀ (a : Act) (W : World), (execOp a.eval o).run P W = .ok (.value (.pointer (some ⟨W.heap.size, 0, none⟩))) (W.alloc (.cells b.cs b.t))
  lt : b.d < F.tmps.size
  st : (∃ o, ops[b.st]? = some o ∧ o.dst = none ∧ o.guard = none ∧ (o.looksAt ops).contains b.d = true ∧ ∀ (W : World) (g : Nat), W.heap[g]? = some (.cells b.cs b.t (0, 0)) →
      ∃ W', (execOp (F.put (some b.d) (.pointer (some ⟨g, 0, none⟩))).eval o).run P W = .ok .skip W' ∧ W'.heap[g]? = some (.cells b.cs' b.t (0, 0)) ∧ W.grownBy W' (some g)) ∨ (ops.size ≤ b.st ∧ b.cs = b.cs')

structure Inv (ops : Array Oper) (bs : List Box) (F : Act) (w0 : World) (listed : Array Bool) (a : Act) (w : World) : Prop where
  ls : listed.size = ops.size
  B : Below w0.heap.size w0 w
  df : a.defers = F.defers
  sz : a.tmps.size = F.tmps.size
  ord : ∀ b ∈ bs, listed.getD b.st false = true → listed.getD b.ia false = true
  ex : ∃ β : Nat → Nat, (∀ b ∈ bs, listed.getD b.ia false = true → w0.heap.size ≤ β b.ia ∧ w.heap[β b.ia]? = some (.cells (if listed.getD b.st false = true then b.cs' else b.cs) b.t (0, 0))) ∧
    (∀ b ∈ bs, ∀ b' ∈ bs, listed.getD b.ia false = true → listed.getD b'.ia false = true → b.ia ≠ b'.ia → β b.ia ≠ β b'.ia) ∧
    ∀ t, (∀ (k : Nat) (ok : Oper), ops[k]? = some ok → ok.dst = some t → listed.getD k false = true) → a.tmps[t]? = (fillB β bs F).tmps[t]?

theorem getD_set {listed : Array Bool} {i k : Nat} (hi : i < listed.size) : (listed.setIfInBounds i true).getD k false = if k = i then true else listed.getD k false := by
  by_cases h : k = i
  · subst h; simp [hi]
  · rw [if_neg h, getD_set_ne false (Ne.symm h)]

theorem pairwise_inj {α : Type} {β : Type} {f : α → β} : ∀ {l : List α}, l.Pairwise (fun a b => f a ≠ f b) → ∀ a ∈ l, ∀ b ∈ l, f a = f b → a = b
  | [], _, _, h, _, _, _ => by cases h
  | x :: l, hp, a, ha, b, hb, e => by
    rw [List.pairwise_cons] at hp
    rcases List.mem_cons.1 ha with ea | ha'
    · rcases List.mem_cons.1 hb with eb | hb'
      · exact ea.trans eb.symm
      · exact absurd (ea ▸ e) (hp.1 b hb')
    · rcases List.mem_cons.1 hb with eb | hb'
      · exact absurd (eb ▸ e.symm) (hp.1 a ha')
      · exact pairwise_inj hp.2 a ha' b hb' e

theorem eval_same {a a' : Act} {x : Operand} (h : ∀ t, x = .tmp t → a.tmps[t]? = a'.tmps[t]?) : a.eval x = a'.eval x := by
  cases x with
  | tmp t =>
    have := h t rfl
    simp only [Act.eval, Array.getD_eq_getD_getElem?, this]
  | _ => rfl

theorem exec_same {ops : Array Oper} {o : Oper} (hs : ∀ cs b, o.op ≠ .select cs b) {a a' : Act} (h : ∀ t ∈ o.looksAt ops, a.tmps[t]? = a'.tmps[t]?) : execOp a.eval o = execOp a'.eval o :=
  execOp_congr o hs fun x hx => eval_same fun t e => h t (by
    subst e
    exact List.mem_append_left _ (List.mem_filterMap.2 ⟨.tmp t, by simpa using hx, rfl⟩))

theorem wanted_same {ops ops' : Array Oper} {o : Oper} (hd : ∀ g : Nat, (ops'[g]?).bind (·.dst) = (ops[g]?).bind (·.dst)) {a a' : Act} (h : ∀ t ∈ o.looksAt ops, a.tmps[t]? = a'.tmps[t]?) :
    Region.wanted o (yielded ops a.tmps) = Region.wanted o (yielded ops' a'.tmps) := by
  unfold Region.wanted
  cases hg : o.guard with
  | none => rfl
  | some gw =>
    obtain ⟨g, want⟩ := gw
    have hy : yielded ops a.tmps g = yielded ops' a'.tmps g := by
      unfold yielded
      rw [hd g]
      cases ht : (ops[g]?).bind (·.dst) with
      | none => rfl
      | some t =>
        have := h t (by simp [Oper.looksAt, hg, ht])
        simp only [Option.bind_some, this]
    simp only [hy]

section
variable {P : Program} {l : List Oper} {bs : List Box} {F : Act} {w0 : World} {Q : Exit → Act → World → Prop}

abbrev Cls (W : World) : World → Prop := fun w' => ∃ p : Regrown, w' = grow (redrawn W p.d) p.os

theorem inv_step (hF : Fed l.toArray bs) (hia : bs.Pairwise (fun b b' => b.ia ≠ b'.ia)) (hst : bs.Pairwise (fun b b' => b.st ≠ b'.st)) (hok : ∀ b ∈ bs, BoxOk P l.toArray F b) {a0 : Act}
    (hw : ∀ W, Below w0.heap.size w0 W → wpQuiet P (l.map neut).toArray (Cls W) (fun a' => a' = F) (l.map neut) a0)
    {listed : Array Bool} {a : Act} {w : World} {i : Nat} (I : Inv l.toArray bs F w0 listed a w) (hr : i ∈ Region.ready .any l.toArray listed) :
    wpOp P l.toArray Q i (Inv l.toArray bs F w0 (listed.setIfInBounds i true)) a w := by
  obtain ⟨hun, o, ho, hall⟩ := mem_ready.1 hr
  obtain ⟨hls, hB, hdf, hsz, hord, β, hb1, hb2, hb3⟩ := I
  have hi : i < listed.size := by rw [hls]; exact (Array.getElem?_eq_some_iff.1 ho).1
  have hunf : listed.getD i false = false := by simp [hi] at hun ⊢; exact hun
  have hmap : ∀ g : Nat, ((l.map neut).toArray[g]?).bind (·.dst) = (l.toArray[g]?).bind (·.dst) := by
    intro g
    simp only [List.getElem?_toArray, List.getElem?_map]
    cases l[g]? with
    | none => rfl
    | some o => simp [neut_dst]
  -- an operand's slot is settled
  have hset : ∀ t ∈ o.looksAt l.toArray, ∀ (k : Nat) (ok : Oper), l.toArray[k]? = some ok → ok.dst = some t → listed.getD k false = true := by
    intro t ht k ok hk hd
    obtain ⟨_, e, he, hbi, rfl⟩ := hF.fed i o t k ok ho ht hk hd
    exact hall e he hbi
  have hsee : ∀ t ∈ o.looksAt l.toArray, a.tmps[t]? = (fillB β bs F).tmps[t]? := fun t ht => hb3 t (hset t ht)
  have hnew : ∀ t, (∀ (k : Nat) (ok : Oper), l.toArray[k]? = some ok → ok.dst = some t → (listed.setIfInBounds i true).getD k false = true) → o.dst ≠ some t → a.tmps[t]? = (fillB β bs F).tmps[t]? := by
    intro t ht hne
    refine hb3 t fun k ok hk hd => ?_
    have := ht k ok hk hd
    rw [getD_set hi] at this
    by_cases e : k = i
    · subst e
      rw [ho] at hk
      injection hk with hk
      subst hk
      exact absurd hd hne
    · rwa [if_neg e] at this
  have hput : ∀ t v, o.dst ≠ some t → (a.put o.dst v).tmps[t]? = a.tmps[t]? := by
    intro t v ht
    cases hd : o.dst with
    | none => rfl
    | some d =>
      have hne : d ≠ t := fun e => ht (by rw [hd, e])
      simp [Act.put, Array.getElem?_setIfInBounds_ne hne]
  have hpd : ∀ v, (a.put o.dst v).defers = F.defers := fun v => by cases o.dst <;> exact hdf
  have hps : ∀ v, (a.put o.dst v).tmps.size = F.tmps.size := fun v => by cases o.dst <;> simp [Act.put, hsz]
  by_cases hia' : ∃ b ∈ bs, b.ia = i
  · -- an alloc
    obtain ⟨b0, hb0, e0⟩ := hia'
    obtain ⟨⟨o', ho', hd', hg', hrun⟩, hlt, hstore⟩ := hok b0 hb0
    rw [e0, ho] at ho'
    injection ho' with ho'
    subst ho'
    have hwant : Region.wanted o (yielded l.toArray a.tmps) = true := by simp [Region.wanted, hg']
    unfold wpOp
    simp only [ho, hwant, if_true]
    refine .inl ?_
    unfold Oper.wp
    rw [hrun a w]
    simp only [Oper.upon]
    have hstn : ∀ b ∈ bs, b.st ≠ i := by
      rintro b hb rfl
      rcases (hok b hb).st with ⟨o2, ho2, hd2, _⟩ | ⟨h, _⟩
      · rw [ho] at ho2; injection ho2 with ho2; subst ho2; rw [hd'] at hd2; cases hd2
      · rw [hls] at hi; omega
    refine ⟨by simpa using hls, hB.alloc hB.size _, hpd _, hps _, ?_, fun k => if k = i then w.heap.size else β k, ?_, ?_, ?_⟩
    · intro b hb h
      rw [getD_set hi, if_neg (hstn b hb)] at h
      rw [getD_set hi]
      split
      · rfl
      · exact hord b hb h
    · intro b hb h
      rw [getD_set hi] at h
      rw [getD_set hi, if_neg (hstn b hb)]
      by_cases e : b.ia = i
      · have : b = b0 := pairwise_inj hia b hb b0 hb0 (e.trans e0.symm)
        subst this
        have hns : listed.getD b.st false ≠ true := fun h => by have := hord b hb h; rw [e, hunf] at this; cases this
        rw [if_neg hns]
        simp only [e, if_true]
        exact ⟨hB.size, heap_alloc_new w _⟩
      · rw [if_neg e] at h
        obtain ⟨g1, g2⟩ := hb1 b hb h
        simp only [if_neg e]
        refine ⟨g1, ?_⟩
        rw [Below.heap_alloc _ _ _ (by
          rcases Nat.lt_or_ge (β b.ia) w.heap.size with hlt | hge
          · exact hlt
          · rw [Array.getElem?_eq_none hge] at g2; cases g2)]
        exact g2
    · intro b hb b' hb' h h' hne
      rw [getD_set hi] at h h'
      have low : ∀ b ∈ bs, listed.getD b.ia false = true → β b.ia < w.heap.size := fun b hb h => by
        rcases Nat.lt_or_ge (β b.ia) w.heap.size with hlt | hge
        · exact hlt
        · have := (hb1 b hb h).2; rw [Array.getElem?_eq_none hge] at this; cases this
      by_cases e : b.ia = i
      · have e' : ¬ b'.ia = i := fun e' => hne (e.trans e'.symm)
        rw [if_neg e'] at h'
        have := low b' hb' h'
        simp only [if_pos e, if_neg e']
        omega
      · rw [if_neg e] at h
        have := low b hb h
        by_cases e' : b'.ia = i
        · simp only [if_pos e', if_neg e]
          omega
        · rw [if_neg e'] at h'
          simp only [if_neg e, if_neg e']
          exact hb2 b hb b' hb' h h' hne
    · intro t ht
      have hdin : ∀ b ∈ bs, ∀ b' ∈ bs, b'.d = b.d → b'.ia = b.ia := fun b hb b' hb' e => by
        obtain ⟨o1, q1, q2, _⟩ := (hok b hb).al
        obtain ⟨o2, r1, r2, _⟩ := (hok b' hb').al
        exact hF.one b'.ia o2 b.ia o1 b.d r1 q1 (by rw [r2, e]) q2
      by_cases hx : ∃ b ∈ bs, b.d = t
      · obtain ⟨b, hb, rfl⟩ := hx
        rw [fillB_at _ b bs F hb (hdin b hb) (hok b hb).lt]
        by_cases e : b.ia = i
        · have : b = b0 := pairwise_inj hia b hb b0 hb0 (e.trans e0.symm)
          subst this
          simp only [e, if_true, hd']
          simp [Act.put, hsz, hlt]
        · have hne : o.dst ≠ some b.d := fun h => by
            obtain ⟨o1, q1, q2, _⟩ := (hok b hb).al
            exact e (hF.one b.ia o1 i o b.d q1 ho q2 h)
          rw [hput _ _ hne, hnew _ ht hne, fillB_at _ b bs F hb (hdin b hb) (hok b hb).lt]
          simp only [if_neg e]
      · have hx' : ∀ b ∈ bs, b.d ≠ t := fun b hb e => hx ⟨b, hb, e⟩
        have hne : o.dst ≠ some t := fun h => by rw [hd'] at h; injection h with h; exact hx' b0 hb0 h
        rw [hput _ _ hne, hnew _ ht hne, fillB_other _ t bs F hx', fillB_other _ t bs F hx']
  · have hia2 : ∀ b ∈ bs, b.ia ≠ i := fun b hb e => hia' ⟨b, hb, e⟩
    by_cases hst' : ∃ b ∈ bs, b.st = i
    · -- a store
      obtain ⟨b0, hb0, e0⟩ := hst'
      have hdin : ∀ b ∈ bs, ∀ b' ∈ bs, b'.d = b.d → b'.ia = b.ia := fun b hb b' hb' e => by
        obtain ⟨o1, q1, q2, _⟩ := (hok b hb).al
        obtain ⟨o2, r1, r2, _⟩ := (hok b' hb').al
        exact hF.one b'.ia o2 b.ia o1 b.d r1 q1 (by rw [r2, e]) q2
      rcases (hok b0 hb0).st with ⟨o', ho', hd', hg', hlook, hrun⟩ | ⟨h, _⟩
      case inr => rw [hls] at hi; omega
      rw [e0, ho] at ho'
      injection ho' with ho'
      subst ho'
      have hwant : Region.wanted o (yielded l.toArray a.tmps) = true := by simp [Region.wanted, hg']
      have hdl : b0.d ∈ o.looksAt l.toArray := by simpa using hlook
      obtain ⟨oa, qa1, qa2, _⟩ := (hok b0 hb0).al
      have hial : listed.getD b0.ia false = true := hset b0.d hdl b0.ia oa qa1 qa2
      obtain ⟨g1, g2⟩ := hb1 b0 hb0 hial
      have hnst : listed.getD b0.st false ≠ true := by rw [e0, hunf]; simp
      rw [if_neg hnst] at g2
      obtain ⟨W', hrunW, hW1, hW2⟩ := hrun w (β b0.ia) g2
      have hsame : execOp a.eval o = execOp (F.put (some b0.d) (.pointer (some ⟨β b0.ia, 0, none⟩))).eval o := by
        refine exec_same (ops := l.toArray) (fun cs b => hF.sel i o cs b ho) fun t ht => ?_
        rw [hsee t ht]
        by_cases e : b0.d = t
        · subst e
          rw [fillB_at _ b0 bs F hb0 (hdin b0 hb0) (hok b0 hb0).lt]
          simp [Act.put, (hok b0 hb0).lt]
        · rw [fillB_other _ t bs F fun b hb hd => ?_]
          · simp [Act.put, Array.getElem?_setIfInBounds_ne e]
          · have := hF.stores i o ho hia2 ⟨b0, hb0, e0⟩ t ht b hb hd
            have hbb : b = b0 := pairwise_inj hst b hb b0 hb0 (this.trans e0.symm)
            subst hbb
            exact e hd
      unfold wpOp
      simp only [ho, hwant, if_true]
      refine .inl ?_
      unfold Oper.wp
      rw [hsame, hrunW]
      simp only [Oper.upon, hd', Act.put]
      refine ⟨by simpa using hls, hB.grown hW2 hB.size (fun k e => by injection e with e; omega), hdf, hsz, ?_, β, ?_, ?_, ?_⟩
      · intro b hb h
        rw [getD_set hi] at h ⊢
        rw [if_neg (hia2 b hb)]
        by_cases e : b.st = i
        · have hbb : b = b0 := pairwise_inj hst b hb b0 hb0 (e.trans e0.symm)
          subst hbb
          exact hial
        · rw [if_neg e] at h
          exact hord b hb h
      · intro b hb h
        rw [getD_set hi, if_neg (hia2 b hb)] at h
        obtain ⟨q1, q2⟩ := hb1 b hb h
        refine ⟨q1, ?_⟩
        rw [getD_set hi]
        by_cases e : b.st = i
        · have hbb : b = b0 := pairwise_inj hst b hb b0 hb0 (e.trans e0.symm)
          subst hbb
          rw [if_pos e, if_pos rfl]
          exact hW1
        · rw [if_neg e]
          have hne : b.ia ≠ b0.ia := fun h => e (by rw [pairwise_inj hia b hb b0 hb0 h]; exact e0)
          have := hb2 b hb b0 hb0 h hial hne
          rw [hW2.block _ (by
            rcases Nat.lt_or_ge (β b.ia) w.heap.size with hlt | hge
            · exact hlt
            · rw [Array.getElem?_eq_none hge] at q2; cases q2) (fun e => this (by injection e))]
          exact q2
      · intro b hb b' hb' h h' hne
        rw [getD_set hi, if_neg (hia2 _ ‹_›)] at h h'
        exact hb2 b hb b' hb' h h' hne
      · intro t ht
        exact hnew t ht (by rw [hd']; simp)
    · -- any other operation
      have hst2 : ∀ b ∈ bs, b.st ≠ i := fun b hb e => hst' ⟨b, hb, e⟩
      obtain ⟨has, hno⟩ := hF.plain i o ho hia2 hst2
      obtain ⟨_, _, _, f4⟩ := walk_facts _ _ (hw w hB)
      have hli : (l.map neut)[i]? = some o := by
        rw [List.getElem?_map]
        have : l[i]? = some o := by simpa using ho
        rw [this]
        simp [neut_same has]
      obtain ⟨ai, v, hy, g2, g3⟩ := f4 i o hli
      have hback : ∀ (k : Nat) (ok : Oper), (l.map neut)[k]? = some ok → ∃ o', l.toArray[k]? = some o' ∧ o'.dst = ok.dst := by
        intro k ok hk
        rw [List.getElem?_map] at hk
        cases hlk : l[k]? with
        | none => rw [hlk] at hk; cases hk
        | some o' =>
          rw [hlk] at hk
          simp at hk
          exact ⟨o', by simpa using hlk, by rw [← hk, neut_dst]⟩
      have hag : ∀ t ∈ o.looksAt l.toArray, a.tmps[t]? = ai.tmps[t]? := by
        intro t ht
        rw [hsee t ht, fillB_other _ t bs F (fun b hb => hno t ht b hb)]
        refine (g2 t fun k ok hk hok hd => ?_).symm
        obtain ⟨o', q1, q2⟩ := hback k ok hok
        have := (hF.fed i o t k o' ho ht q1 (q2.trans hd)).1
        omega
      have hex : execOp a.eval o = execOp ai.eval o := exec_same (ops := l.toArray) (fun cs b => hF.sel i o cs b ho) hag
      have hwe : Region.wanted o (yielded l.toArray a.tmps) = Region.wanted o (yielded (l.map neut).toArray ai.tmps) := wanted_same hmap hag
      have hfin : ∀ w', Below w.heap.size w w' → Inv l.toArray bs F w0 (listed.setIfInBounds i true) (a.put o.dst v) w' := by
        intro w' hbw
        refine ⟨by simpa using hls, hB.trans (hbw.mono hB.size), hpd _, hps _, ?_, β, ?_, ?_, ?_⟩
        · intro b hb h
          rw [getD_set hi] at h ⊢
          rw [if_neg (hia2 b hb)]
          rw [if_neg (hst2 b hb)] at h
          exact hord b hb h
        · intro b hb h
          rw [getD_set hi, if_neg (hia2 b hb)] at h
          rw [getD_set hi, if_neg (hst2 b hb)]
          obtain ⟨q1, q2⟩ := hb1 b hb h
          refine ⟨q1, ?_⟩
          rw [hbw.block _ (by
            rcases Nat.lt_or_ge (β b.ia) w.heap.size with hlt | hge
            · exact hlt
            · rw [Array.getElem?_eq_none hge] at q2; cases q2)]
          exact q2
        · intro b hb b' hb' h h' hne
          rw [getD_set hi, if_neg (hia2 _ ‹_›)] at h h'
          exact hb2 b hb b' hb' h h' hne
        · intro t ht
          by_cases hd : o.dst = some t
          · have hnb : ∀ b ∈ bs, b.d ≠ t := fun b hb e => by
              obtain ⟨o1, q1, q2, _⟩ := (hok b hb).al
              exact hia2 b hb (hF.one b.ia o1 i o t q1 ho (by rw [q2, e]) hd)
            rw [fillB_other _ t bs F hnb]
            rcases Nat.lt_or_ge t F.tmps.size with hlt | hge
            · rw [g3 t hd hlt fun k ok hk hok hd' => by
                obtain ⟨o', q1, q2⟩ := hback k ok hok
                have := hF.one i o k o' t ho q1 hd (q2.trans hd')
                omega]
              simp [hd, Act.put, hsz, hlt]
            · rw [Array.getElem?_eq_none hge, Array.getElem?_eq_none (by rw [hps]; exact hge)]
          · rw [hput t v hd]
            exact hnew t ht hd
      unfold wpOp
      simp only [ho]
      rw [hwe]
      rcases hy with ⟨h1, h2⟩ | ⟨h1, rfl⟩
      · rw [if_pos h1]
        refine .inl ?_
        have hq : o.quiet P a (Cls w) (fun a' => a' = a.put o.dst v) := ⟨v, fun w' hw' => by
          have := h2 w' hw'
          unfold Oper.quietAt at this ⊢
          rw [hex]
          exact this, rfl⟩
        refine Oper.wp_of_quiet (C := Cls w) ⟨⟨w.drawn, #[]⟩, by rw [grow_empty]; rfl⟩ (fun a' w' ⟨p, hp⟩ e => ?_) hq
        subst e
        subst hp
        exact hfin _ (below_regrown w p.d p.os)
      · rw [if_neg (by rw [h1]; exact Bool.false_ne_true)]
        exact hfin w (Below.refl _ _)
end

theorem count_left {n : Nat} {listed : Array Bool} {i : Nat} (hi : i < listed.size) (hn : i < n) (hu : listed.getD i false = false) :
    ((List.range n).filter (fun k => !(listed.setIfInBounds i true).getD k false)).length < ((List.range n).filter (fun k => !listed.getD k false)).length := by
  have h1 : ((List.range n).filter (fun k => !(listed.setIfInBounds i true).getD k false)) = ((List.range n).filter (fun k => !listed.getD k false)).filter (fun k => k != i) := by
    rw [List.filter_filter]
    refine List.filter_congr fun k _ => ?_
    rw [getD_set hi]
    by_cases e : k = i
    · simp [e]
    · simp [e]
  rw [h1]
  refine List.length_filter_lt_length_iff_exists.2 ⟨i, ?_, by simp⟩
  rw [List.mem_filter]
  exact ⟨by simpa using hn, by simp [hu]⟩

theorem inv_any {P : Program} {l : List Oper} {bs : List Box} {F : Act} {w0 : World} {Q : Exit → Act → World → Prop} (hF : Fed l.toArray bs)
    (hstep : ∀ (listed : Array Bool) (a : Act) (w : World) (i : Nat), Inv l.toArray bs F w0 listed a w → i ∈ Region.ready .any l.toArray listed → wpOp P l.toArray Q i (Inv l.toArray bs F w0 (listed.setIfInBounds i true)) a w)
    (hend : ∀ (listed : Array Bool) (a : Act) (w : World), Inv l.toArray bs F w0 listed a w → (∀ k, k < l.toArray.size → listed.getD k false = true) → Q .normal a w) :
    ∀ (fuel : Nat) (listed : Array Bool) (a : Act) (w : World), ((List.range l.toArray.size).filter (fun k => !listed.getD k false)).length ≤ fuel → Inv l.toArray bs F w0 listed a w → wpAny P .any l.toArray Q fuel listed a w := by
  have hall : ∀ (listed : Array Bool), listed.size = l.toArray.size → Region.ready .any l.toArray listed = [] → ∀ k, k < l.toArray.size → listed.getD k false = true := by
    intro listed hls h0 k
    induction k using Nat.strongRecOn with
    | ind k ih =>
      intro hk
      by_cases hc : listed.getD k false = true
      · exact hc
      exfalso
      have hmem : k ∈ Region.ready .any l.toArray listed := by
        rw [mem_ready]
        refine ⟨?_, _, Array.getElem?_eq_getElem hk, fun e he hbi => ?_⟩
        · have hk' : k < listed.size := by rw [hls]; exact hk
          simp [hk'] at hc ⊢; exact hc
        · have hlt := hF.low k _ e (Array.getElem?_eq_getElem hk) he hbi
          exact ih e.on hlt (by omega)
      rw [h0] at hmem
      cases hmem
  intro fuel
  induction fuel with
  | zero =>
    intro listed a w hc I
    have hnil : ∀ k, k < l.toArray.size → listed.getD k false = true := by
      intro k hk
      have := List.eq_nil_of_length_eq_zero (Nat.le_zero.1 hc)
      rw [List.filter_eq_nil_iff] at this
      simpa using this k (by simpa using hk)
    refine ⟨?_, hend listed a w I hnil⟩
    rw [List.eq_nil_iff_forall_not_mem]
    intro i hi
    obtain ⟨h1, o, ho, _⟩ := mem_ready.1 hi
    have hlt := (Array.getElem?_eq_some_iff.1 ho).1
    have h2 := hnil i hlt
    have hk' : i < listed.size := by rw [I.ls]; exact hlt
    simp [hk'] at h1 h2
    rw [h1] at h2
    cases h2
  | succ fuel ih =>
    intro listed a w hc I
    refine ⟨fun h0 => hend listed a w I (hall listed I.ls h0), fun i hi => ?_⟩
    obtain ⟨h1, o, ho, _⟩ := mem_ready.1 hi
    have hlt := (Array.getElem?_eq_some_iff.1 ho).1
    have hk' : i < listed.size := by rw [I.ls]; exact hlt
    have hun : listed.getD i false = false := by simp [hk'] at h1 ⊢; exact h1
    refine wpOp_mono (fun a' w' I' => ih _ a' w' ?_ I') (hstep listed a w i I hi)
    have := count_left (n := l.toArray.size) hk' hlt hun
    omega

/-- THE LAW. First the walk of the values (in every world grown from the region's own), then each variable's alloc and store, then what follows. -/
theorem wp_region_box {P : Program} {id : Nat} {Q : Exit → Act → World → Prop} {a : Act} {w : World} {l : List Oper} (bs : List Box) (hm : P.follows .mixedOrders = true) (hB : boxB l.toArray bs = true)
    (hia : bs.Pairwise (fun b b' => b.ia ≠ b'.ia)) (hst : bs.Pairwise (fun b b' => b.st ≠ b'.st))
    (h : ∃ F : Act, (∀ W, Below w.heap.size w W → wpQuiet P (l.map neut).toArray (fun w' => ∃ p : Regrown, w' = grow (redrawn W p.d) p.os) (fun a' => a' = F) (l.map neut) a) ∧
      (∀ b ∈ bs, BoxOk P l.toArray F b) ∧
      ∀ (β : Nat → Nat) (w' : World), Below w.heap.size w w' → (∀ b ∈ bs, w.heap.size ≤ β b.ia ∧ w'.heap[β b.ia]? = some (.cells b.cs' b.t (0, 0))) → (∀ b ∈ bs, ∀ b' ∈ bs, b.ia ≠ b'.ia → β b.ia ≠ β b'.ia) → Q .normal (fillB β bs F) w') :
    (Code.region id l.toArray true).wp P Q a w := by
  obtain ⟨F, hw, hok, hQ⟩ := h
  have hF := fed_of hB
  refine wp_region_any hm (inv_any (w0 := w) (F := F) (bs := bs) hF (fun listed a' w' i I hi => inv_step hF hia hst hok hw I hi) ?_ _ _ _ _ ?_ ?_)
  · intro listed a' w' I hl
    obtain ⟨hls, hB', hdf, hsz, hord, β, hb1, hb2, hb3⟩ := I
    have hall : ∀ b ∈ bs, listed.getD b.ia false = true := fun b hb => by
      obtain ⟨o, ho, _⟩ := (hok b hb).al
      exact hl _ (Array.getElem?_eq_some_iff.1 ho).1
    have ea : a' = fillB β bs F := by
      have e1 : a'.tmps = (fillB β bs F).tmps := Array.ext_getElem? fun t => hb3 t fun k ok hk _ => hl k (Array.getElem?_eq_some_iff.1 hk).1
      have e2 : a'.defers = (fillB β bs F).defers := hdf.trans (fillB_defers β bs F).symm
      obtain ⟨t1, d1⟩ := a'
      simp only at e1 e2
      subst e1
      subst e2
      rfl
    rw [ea]
    refine hQ β w' hB' (fun b hb => ?_) (fun b hb b' hb' hne => hb2 b hb b' hb' (hall b hb) (hall b' hb') hne)
    obtain ⟨q1, q2⟩ := hb1 b hb (hall b hb)
    refine ⟨q1, ?_⟩
    rcases (hok b hb).st with ⟨o, ho, _⟩ | ⟨hge, hcs⟩
    · rw [if_pos (hl _ (Array.getElem?_eq_some_iff.1 ho).1)] at q2
      exact q2
    · rw [hcs] at q2
      simpa using q2
  · exact Nat.le_trans (List.length_filter_le _ _) (by simp)
  · obtain ⟨f1, f2, f3, _⟩ := walk_facts _ _ (hw w (Below.refl _ _))
    have hfalse : ∀ k, (Array.replicate l.toArray.size false).getD k false = false := fun k => by
      simp only [Array.getD_eq_getD_getElem?, Array.getElem?_replicate]; split <;> rfl
    refine ⟨by simp, Below.drew (Below.refl _ _), f1, f2, fun b hb h => (by rw [hfalse] at h; cases h), fun _ => 0, fun b hb h => (by rw [hfalse] at h; cases h), fun b hb b' hb' h => (by rw [hfalse] at h; cases h), fun t ht => ?_⟩
    have hnone : ∀ o ∈ l, o.dst ≠ some t := fun o ho hd => by
      obtain ⟨k, hk⟩ := List.getElem?_of_mem ho
      have := ht k o (by simpa using hk) hd
      rw [hfalse] at this
      cases this
    rw [fillB_other _ t bs F fun b hb hd => ?_]
    · refine f3 t fun o ho hd => ?_
      obtain ⟨o', ho', rfl⟩ := List.mem_map.1 ho
      exact hnone o' ho' (by rw [← hd, neut_dst])
    · obtain ⟨o, ho, hd', _⟩ := (hok b hb).al
      exact hnone o (List.mem_of_getElem? (by simpa using ho)) (by rw [hd', hd])
theorem grownB_refl (w : World) (row : Option Nat) : w.grownBy w row := ⟨rfl, rfl, rfl, Nat.le_refl _, fun _ _ _ => rfl⟩
theorem grownB_set {a w : World} {b : Nat} (h : a.grownBy w (some b)) {o : Nat} (v : Value) : a.grownBy (w.setCell ⟨b, o, none⟩ v) (some b) :=
  ⟨h.os, h.tape, h.output, by simpa [World.setCell] using h.size, fun i hi hne => (Below.heap_setCell w ⟨b, o, none⟩ v i (by rintro rfl; exact hne rfl)).trans (h.block i hi hne)⟩
/-- A cell of the region's world, in every world of every class of the walk. -/
theorem cellW {w W : World} {a : Addr} {v : Value} (h : w.cell? a = some v) (hW : Below w.heap.size w W) : ∀ (d : Nat) (os : Array Obj), (grow (redrawn W d) os).cell? a = some v :=
  cell_regrown (by rw [hW.cell (block_lt_of_cell h)]; exact h)
end Go.Proofs.Ytfpaojkcmijfgaa
