/- The symbolic executor: regions whose order is open. -/
import Derived.Test.YtiiabaklipmbbaaVi
import Derived.Orders
namespace Go.Proofs.Ytiiabaklipmbbaa.Vc
noncomputable section
open Go Go.RowKit
section
variable {P : Program} {Q : Exit → Act → World → Prop}
theorem wpAny_more {ops : Array Oper} : ∀ (f : Nat) (listed : Array Bool) (a : Act) (w : World), wpAny P .any ops Q f listed a w → wpAny P .any ops Q (f + 1) listed a w
  | 0, _, _, _, h => ⟨fun _ => h.2, fun i hi => by rw [h.1] at hi; cases hi⟩
  | f + 1, _, _, _, h => ⟨h.1, fun i hi => wpOp_mono (fun a w => wpAny_more f _ a w) (h.2 i hi)⟩
theorem wpAny_more' {ops : Array Oper} {f : Nat} {listed : Array Bool} {a : Act} {w : World} (h : wpAny P .any ops Q f listed a w) : ∀ g, wpAny P .any ops Q (f + g) listed a w
  | 0 => h
  | g + 1 => wpAny_more _ _ _ _ (wpAny_more' h g)
theorem mem_rd {ops : Array Oper} {listed : Array Bool} {i : Nat} : i ∈ Region.ready .any ops listed ↔ i < ops.size ∧ listed.getD i true = false ∧ ∃ o, ops[i]? = some o ∧ ∀ e ∈ o.after, Region.binds .any e = true → listed.getD e.on false = true := by
  unfold Region.ready
  simp only [List.mem_filter, List.mem_range, Bool.and_eq_true, Bool.not_eq_true']
  constructor
  · rintro ⟨h1, h2, h3⟩
    refine ⟨h1, h2, ops[i], by simp [h1], ?_⟩
    simp only [Array.getElem?_eq_getElem h1, Option.map_some, Option.getD_some, Array.all_eq_true'] at h3
    intro e he hb
    have := h3 e he
    simpa [hb] using this
  · rintro ⟨h1, h2, o, ho, h3⟩
    refine ⟨h1, h2, ?_⟩
    simp only [ho, Option.map_some, Option.getD_some, Array.all_eq_true']
    intro e he
    cases hb : Region.binds .any e
    · simp
    · simp [h3 e he hb]
structure TailOk (pre tail : List Oper) : Prop where
  guard : ∀ (i : Nat) (o : Oper), pre[i]? = some o → ∀ j b, o.guard = some (j, b) → j < i
  early : ∀ (i : Nat) (o : Oper), pre[i]? = some o → ∀ e ∈ o.after, Region.binds .any e = true → e.on < i
  waits : ∀ (k : Nat) (o : Oper), tail[k]? = some o → ∀ i, i < pre.length → ∃ e ∈ o.after, Region.binds .any e = true ∧ e.on = i
  chain : ∀ (k : Nat) (o : Oper), tail[k + 1]? = some o → ∃ e ∈ o.after, Region.binds .any e = true ∧ e.on = pre.length + k
  late : ∀ (k : Nat) (o : Oper), tail[k]? = some o → ∀ e ∈ o.after, Region.binds .any e = true → e.on < pre.length + k
theorem tailOk_of {pre tail : List Oper} (h : tailB pre tail = true) : TailOk pre tail := by
  simp only [tailB, Bool.and_eq_true, List.all_eq_true] at h
  obtain ⟨⟨h1, h2⟩, h3⟩ := h
  have z : ∀ (l : List Oper) (i : Nat) (o : Oper), l[i]? = some o → (o, i) ∈ l.zipIdx := fun l i o ho => by
    rw [List.mem_zipIdx_iff_getElem?]; simpa using ho
  refine ⟨fun i o ho j b hg => ?_, fun i o ho e he hb => ?_, fun k o ho i hi => ?_, fun k o ho => ?_, fun k o ho e he hb => ?_⟩
  · have := (h1 _ (z _ _ _ ho)).2
    simpa [hg] using this
  · have := (h1 _ (z _ _ _ ho)).1
    simp only [Array.all_eq_true'] at this
    simpa [hb] using this e he
  · have := h2 o (List.mem_of_getElem? ho) i (List.mem_range.2 hi)
    simp only [Array.any_eq_true', Bool.and_eq_true, beq_iff_eq] at this
    exact this
  · have := (h3 _ (z _ _ _ ho))
    simp only [Bool.or_eq_true] at this
    have := this.1
    rcases this with h | h
    · simp at h
    · simp only [Array.any_eq_true', Bool.and_eq_true, beq_iff_eq] at h
      simpa using h
  · have := (h3 _ (z _ _ _ ho))
    simp only [Array.all_eq_true'] at this
    simpa [hb] using this.2 e he
/-- the first n are listed, no other -/
def firstN (n m : Nat) : Array Bool := ((List.range m).map fun i => decide (i < n)).toArray
theorem firstN_getD (n m i : Nat) (d : Bool) : (firstN n m).getD i d = if i < m then decide (i < n) else d := by
  unfold firstN
  by_cases h : i < m
  · simp [h]
  · simp [h]
theorem firstN_size (n m : Nat) : (firstN n m).size = m := by simp [firstN]
theorem ext_getD (l : Array Bool) (n i : Nat) (d : Bool) : (l.extract 0 n).getD i d = if i < n then l.getD i d else d := by
  simp only [Array.getD_eq_getD_getElem?, Array.getElem?_extract, Nat.zero_add, Nat.sub_zero]
  by_cases h : i < n
  · by_cases h2 : i < l.size
    · rw [if_pos (by omega), if_pos h]
    · rw [if_neg (by omega), if_pos h, Array.getElem?_eq_none (by omega)]
  · rw [if_neg (by omega), if_neg h]; rfl
theorem getD_tf {l : Array Bool} {i : Nat} (h : i < l.size) : l.getD i true = l.getD i false := by simp [h]
theorem set_getD (l : Array Bool) (i j : Nat) (d : Bool) : (l.setIfInBounds i true).getD j d = if j = i ∧ i < l.size then true else l.getD j d := by
  simp only [Array.getD_eq_getD_getElem?, Array.getElem?_setIfInBounds]
  by_cases h : i = j
  · subst h
    by_cases h2 : i < l.size
    · simp [h2]
    · simp [h2]
  · have : ¬ (j = i ∧ i < l.size) := fun h' => h h'.1.symm
    simp [h, this]
/-- The tail, in its one order. -/
theorem wpAny_tail {pre tail : List Oper} (ok : TailOk pre tail) : ∀ (rest : List Oper) (k : Nat) (a : Act) (w : World), (∀ j, rest[j]? = tail[k + j]?) → k + rest.length = tail.length →
    wpList P (pre ++ tail).toArray Q rest a w → wpAny P .any (pre ++ tail).toArray Q rest.length (firstN (pre.length + k) (pre ++ tail).length) a w
  | [], k, a, w, _, hk, h => by
    refine ⟨?_, h⟩
    apply List.eq_nil_iff_forall_not_mem.2
    intro i hi
    obtain ⟨h1, h2, _⟩ := mem_rd.1 hi
    rw [firstN_getD] at h2
    simp at h1 hk
    simp [h1] at h2
    omega
  | o :: rest, k, a, w, hr, hk, h => by
    have hto : tail[k]? = some o := by simpa using (hr 0).symm
    have hin : pre.length + k < (pre ++ tail).length := by simp at hk ⊢; omega
    have hoo : (pre ++ tail).toArray[pre.length + k]? = some o := by
      rw [List.getElem?_toArray, List.getElem?_append_right (by omega), show pre.length + k - pre.length = k by omega]; exact hto
    refine ⟨fun h0 => ?_, fun i hi => ?_⟩
    · exfalso
      have : pre.length + k ∈ Region.ready .any (pre ++ tail).toArray (firstN (pre.length + k) (pre ++ tail).length) := by
        refine mem_rd.2 ⟨by simpa using hin, by rw [firstN_getD, if_pos hin]; simp, o, hoo, fun e he hb => ?_⟩
        have := ok.late k o hto e he hb
        rw [firstN_getD, if_pos (by omega)]
        simpa using this
      rw [h0] at this; cases this
    · obtain ⟨h1, h2, oi, hoi, h3⟩ := mem_rd.1 hi
      have hi' : i = pre.length + k := by
        rw [firstN_getD] at h2
        simp only [List.size_toArray] at h1
        rw [if_pos h1] at h2
        have hge : pre.length + k ≤ i := by simpa using h2
        rcases Nat.lt_or_ge (pre.length + k) i with hlt | hle
        · exfalso
          have hti : tail[(i - pre.length - 1) + 1]? = some oi := by
            have : (pre ++ tail)[i]? = some oi := by simpa using hoi
            rw [List.getElem?_append_right (by omega)] at this
            rw [show i - pre.length - 1 + 1 = i - pre.length by omega]; exact this
          obtain ⟨e, he, hb, hon⟩ := ok.chain _ _ hti
          have := h3 e he hb
          rw [firstN_getD, if_pos (by omega)] at this
          simp at this
          omega
        · omega
      subst hi'
      have ho : oi = o := Option.some.inj (hoi.symm.trans hoo)
      subst ho
      have hset : (firstN (pre.length + k) (pre ++ tail).length).setIfInBounds (pre.length + k) true = firstN (pre.length + (k + 1)) (pre ++ tail).length := by
        apply Array.ext
        · simp [firstN_size]
        · intro j h4 h5
          have e1 := set_getD (firstN (pre.length + k) (pre ++ tail).length) (pre.length + k) j true
          have e2 := firstN_getD (pre.length + (k + 1)) (pre ++ tail).length j true
          rw [firstN_getD, firstN_size] at e1
          simp only [Array.getD_eq_getD_getElem?, Array.getElem?_eq_getElem h4, Array.getElem?_eq_getElem h5, Option.getD_some] at e1 e2
          rw [e1, e2]
          rw [firstN_size] at h5
          by_cases hj : j = pre.length + k
          · subst hj; rw [if_pos ⟨rfl, h5⟩, if_pos h5]; simp
          · rw [if_neg (fun h => hj h.1), if_pos h5, if_pos h5, decide_eq_decide]; omega
      rw [hset]
      have ih := fun a w => wpAny_tail ok rest (k + 1) a w (fun j => by have := hr (j + 1); simpa [Nat.add_assoc, Nat.add_comm 1 j] using this) (by simp at hk ⊢; omega)
      unfold wpOp
      rw [hoo]
      simp only [wpList] at h
      simp only
      split
      · rename_i hw; rw [if_pos hw] at h; exact h.imp (Oper.wp_mono ih) id
      · rename_i hw; rw [if_neg hw] at h; exact ih _ _ h

/-- all of the head are listed and nothing of the tail: the list is known -/
theorem listed_firstN {pre tail : List Oper} (ok : TailOk pre tail) {listed : Array Bool} (hs : listed.size = (pre ++ tail).length) (ht : ∀ t, pre.length ≤ t → listed.getD t true = true → (pre ++ tail).length ≤ t)
    (h0 : Region.ready .any pre.toArray (listed.extract 0 pre.length) = []) : listed = firstN pre.length (pre ++ tail).length := by
  have hp : ∀ i, i < pre.length → listed.getD i true = true := by
    intro i
    induction i using Nat.strongRecOn with
    | _ i ih =>
      intro hi
      cases hc : listed.getD i true
      · exfalso
        have : i ∈ Region.ready .any pre.toArray (listed.extract 0 pre.length) := by
          refine mem_rd.2 ⟨by simpa using hi, by rw [ext_getD, if_pos hi]; exact hc, pre[i], by simp [hi], fun e he hb => ?_⟩
          have he2 := ok.early i pre[i] (by simp [hi]) e he hb
          have := ih e.on he2 (by omega)
          rw [ext_getD, if_pos (by omega), ← getD_tf (by simp at hs; omega)]
          exact this
        rw [h0] at this; cases this
      · rfl
  apply Array.ext
  · rw [hs, firstN_size]
  · intro i h1 h2
    have e2 := firstN_getD pre.length (pre ++ tail).length i true
    rw [firstN_size] at h2
    rw [if_pos h2] at e2
    simp only [Array.getD_eq_getD_getElem?, Array.getElem?_eq_getElem (show i < (firstN pre.length (pre ++ tail).length).size by rw [firstN_size]; exact h2), Option.getD_some] at e2
    rw [e2]
    rcases Nat.lt_or_ge i pre.length with h | h
    · have := hp i h
      simp [h1] at this
      simp [this, h]
    · have : listed[i] ≠ true := fun hc => by
        have := ht i h (by simp [h1, hc])
        omega
      simp at this
      simp [this, h]
/-- what stands behind the head in place of the post -/
def HeadPost (K : Act → World → Prop) (Q : Exit → Act → World → Prop) : Exit → Act → World → Prop
  | .normal, a, w => K a w
  | .outgrown, _, _ => False
  | e, a, w => Q e a w
theorem Oper.wp_head {o : Oper} {a : Act} {w : World} {K K' L : Act → World → Prop} (h : o.wp P a w K' (HeadPost L Q)) (hk : ∀ a w, K' a w → K a w) : o.wp P a w K Q := by
  unfold Oper.wp at *
  generalize (execOp a.eval o).run P w = r at *
  cases r with
  | ok n w' =>
    cases n <;> simp only [Oper.upon] at h ⊢ <;>
      first
        | exact hk _ _ h
        | exact Calls.mono h (fun e w'' he => by
            cases e <;> first
              | exact hk _ _ he
              | exact he
              | (obtain ⟨_, _, hh⟩ := he; exact hh.elim))
        | exact Rows.mono h (fun _ _ he => hk _ _ he)
  | halt x w' => cases x <;> simp only [Oper.upon] at h ⊢ <;> exact h
/-- From the head's walk to the whole. -/
theorem wpAny_head {pre tail : List Oper} (ok : TailOk pre tail) (g : Nat) :
    ∀ (f : Nat) (listed : Array Bool) (a : Act) (w : World), listed.size = (pre ++ tail).length → (∀ t, pre.length ≤ t → listed.getD t true = true → (pre ++ tail).length ≤ t) →
      wpAny P .any pre.toArray (HeadPost (wpAny P .any (pre ++ tail).toArray Q g (firstN pre.length (pre ++ tail).length)) Q) f (listed.extract 0 pre.length) a w →
      wpAny P .any (pre ++ tail).toArray Q (f + g) listed a w
  | 0, listed, a, w, hs, ht, h => by
    have := listed_firstN ok hs ht h.1
    rw [this, Nat.zero_add]
    exact h.2
  | f + 1, listed, a, w, hs, ht, h => by
    by_cases h0 : Region.ready .any pre.toArray (listed.extract 0 pre.length) = []
    · have h1 := h.1 h0
      have := listed_firstN ok hs ht h0
      rw [this, Nat.add_comm]
      exact wpAny_more' h1 _
    · rw [show f + 1 + g = (f + g) + 1 by omega]
      -- some operation of the head is not listed: so none of the tail may come up
      have hun : ∃ i, i < pre.length ∧ listed.getD i false = false := by
        cases hr : Region.ready .any pre.toArray (listed.extract 0 pre.length) with
        | nil => exact absurd hr h0
        | cons i l =>
          have hi : i ∈ Region.ready .any pre.toArray (listed.extract 0 pre.length) := by rw [hr]; simp
          obtain ⟨h1, h2, _⟩ := mem_rd.1 hi
          simp at h1
          rw [ext_getD, if_pos h1, getD_tf (by simp at hs; omega)] at h2
          exact ⟨i, h1, h2⟩
      obtain ⟨u, hu, hul⟩ := hun
      have hin : ∀ i ∈ Region.ready .any (pre ++ tail).toArray listed, i ∈ Region.ready .any pre.toArray (listed.extract 0 pre.length) := by
        intro i hi
        obtain ⟨h1, h2, o, ho, h3⟩ := mem_rd.1 hi
        have hip : i < pre.length := by
          rcases Nat.lt_or_ge i pre.length with h | h
          · exact h
          · exfalso
            have hto : tail[i - pre.length]? = some o := by
              rw [List.getElem?_toArray, List.getElem?_append_right h] at ho; exact ho
            obtain ⟨e, he, hb, hon⟩ := ok.waits _ _ hto u hu
            have := h3 e he hb
            rw [hon, hul] at this; cases this
        have hop : pre[i]? = some o := by
          rw [List.getElem?_toArray, List.getElem?_append_left hip] at ho; exact ho
        refine mem_rd.2 ⟨by simpa using hip, by rw [ext_getD, if_pos hip]; exact h2, o, by simpa using hop, fun e he hb => ?_⟩
        have h5 := ok.early i o hop e he hb
        rw [ext_getD, if_pos (by omega)]
        exact h3 e he hb
      refine ⟨fun hn => ?_, fun i hi => ?_⟩
      · exfalso
        apply h0
        apply List.eq_nil_iff_forall_not_mem.2
        intro i hi
        obtain ⟨h1, h2, o, ho, h3⟩ := mem_rd.1 hi
        have hip : i < pre.length := by simpa using h1
        have hop : pre[i]? = some o := by simpa using ho
        have : i ∈ Region.ready .any (pre ++ tail).toArray listed := by
          rw [ext_getD, if_pos hip] at h2
          refine mem_rd.2 ⟨by simp; omega, h2, o, by rw [List.getElem?_toArray, List.getElem?_append_left hip]; exact hop, fun e he hb => ?_⟩
          have h5 := ok.early i o hop e he hb
          have := h3 e he hb
          rwa [ext_getD, if_pos (by omega)] at this
        rw [hn] at this; cases this
      · have hip := hin i hi
        obtain ⟨h1, _, o, ho, _⟩ := mem_rd.1 hip
        have hlt : i < pre.length := by simpa using h1
        have hop : (pre ++ tail).toArray[i]? = some o := by
          rw [List.getElem?_toArray, List.getElem?_append_left hlt]; simpa using ho
        have step := h.2 i hip
        have hset : (listed.extract 0 pre.length).setIfInBounds i true = (listed.setIfInBounds i true).extract 0 pre.length := by
          apply Array.ext
          · simp
          · intro j h4 h5
            have e1 := set_getD (listed.extract 0 pre.length) i j true
            have e2 := ext_getD (listed.setIfInBounds i true) pre.length j true
            have e3 := set_getD listed i j true
            have e4 := ext_getD listed pre.length j true
            have h6 : j < pre.length := by simp at h4; omega
            have h7 : i < listed.size := by simp at hs; omega
            have h8 : i < (listed.extract 0 pre.length).size := by simp; omega
            rw [if_pos h6] at e2 e4
            simp only [Array.getD_eq_getD_getElem?, Array.getElem?_eq_getElem h4, Array.getElem?_eq_getElem h5, Option.getD_some] at e1 e2
            rw [e1, e2]
            simp only [Array.getD_eq_getD_getElem?] at e3 e4
            rw [e3, e4]
            simp only [h7, h8, and_true]
        have ih : ∀ a w, wpAny P .any pre.toArray (HeadPost (wpAny P .any (pre ++ tail).toArray Q g (firstN pre.length (pre ++ tail).length)) Q) f ((listed.extract 0 pre.length).setIfInBounds i true) a w → wpAny P .any (pre ++ tail).toArray Q (f + g) (listed.setIfInBounds i true) a w := fun a w hh => by
          rw [hset] at hh
          refine wpAny_head ok g f _ a w (by simpa using hs) (fun t h4 h5 => ?_) hh
          rw [set_getD, if_neg (by omega)] at h5
          exact ht t h4 h5
        have hwant : Region.wanted o (yielded pre.toArray a.tmps) = Region.wanted o (yielded (pre ++ tail).toArray a.tmps) := by
          unfold Region.wanted
          cases hg : o.guard with
          | none => rfl
          | some p =>
            obtain ⟨j, b⟩ := p
            have hj := ok.guard i o (by simpa using ho) j b hg
            simp only [yielded, List.getElem?_toArray]
            rw [List.getElem?_append_left (show j < pre.length by omega)]
        unfold wpOp at step ⊢
        rw [ho] at step
        rw [hop]
        simp only at step ⊢
        rw [hwant] at step
        split
        · rename_i hw
          rw [if_pos hw] at step
          rcases step with hst | ⟨_, _, _, hst⟩
          · exact .inl (Oper.wp_head hst ih)
          · exact hst.elim
        · rename_i hw
          rw [if_neg hw] at step
          exact ih _ _ step
end
end
end Go.Proofs.Ytiiabaklipmbbaa.Vc
