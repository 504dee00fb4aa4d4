/- The symbolic executor: regions whose order is open. -/
import Derived.Test.YtpbpmabnmakdoaaVC
import Derived.Orders
set_option linter.unusedVariables false
namespace Go.Proofs.Ytpbpmabnmakdoaa.Vc
noncomputable section
open Go Go.RowKit
section
variable {P : Program} {Q : Exit → Act → World → Prop}
theorem wpAny_more {ops : Array Oper} : ∀ (f : Nat) (listed : Array Bool) (a : Act) (w : World), wpAny P .any ops Q f listed a w → wpAny P .any ops Q (f + 1) listed a w
  | 0, _, _, _, h => ⟨fun _ => h.2, fun i hi => by rw [h.1] at hi; cases hi⟩
  | f + 1, _, _, _, h => ⟨h.1, fun i hi => wpOp_mono (fun a w => wpAny_more f _ a w) (h.2 i hi)⟩
theorem wpAny_more' {ops : Array Oper} {f : Nat} {listed : Array Bool} {a : Act} {w : World} (h : wpAny P .any ops Q f listed a w) : ∀ g, wpAny P .any ops Q (f + g) listed a w
  | 0 => h
  | g + 1 => wpAny_more _ _ _ _ (wpAny_more' h g)
theorem mem_rd {ops : Array Oper} {listed : Array Bool} {i : Nat} : i ∈ Region.ready .any ops listed ↔ i < ops.size ∧ listed.getD i true = false ∧ ∃ o, ops[i]? = some o ∧ ∀ e ∈ o.after, Region.binds .any e = true → listed.getD e.on false = true := by
  unfold Region.ready
  simp only [List.mem_filter, List.mem_range, Bool.and_eq_true, Bool.not_eq_true']
  constructor
  · rintro ⟨h1, h2, h3⟩
    refine ⟨h1, h2, ops[i], by simp [h1], ?_⟩
    simp only [Array.getElem?_eq_getElem h1, Option.map_some, Option.getD_some, Array.all_eq_true'] at h3
    intro e he hb
    have := h3 e he
    simpa [hb] using this
  · rintro ⟨h1, h2, o, ho, h3⟩
    refine ⟨h1, h2, ?_⟩
    simp only [ho, Option.map_some, Option.getD_some, Array.all_eq_true']
    intro e he
    cases hb : Region.binds .any e
    · simp
    · simp [h3 e he hb]
structure TailOk (pre tail : List Oper) : Prop where
  guard : ∀ (i : Nat) (o : Oper), pre[i]? = some o → ∀ j b, o.guard = some (j, b) → j < i
  early : ∀ (i : Nat) (o : Oper), pre[i]? = some o → ∀ e ∈ o.after, Region.binds .any e = true → e.on < i
  waits : ∀ (k : Nat) (o : Oper), tail[k]? = some o → ∀ i, i < pre.length → ∃ e ∈ o.after, Region.binds .any e = true ∧ e.on = i
  chain : ∀ (k : Nat) (o : Oper), tail[k + 1]? = some o → ∃ e ∈ o.after, Region.binds .any e = true ∧ e.on = pre.length + k
  late : ∀ (k : Nat) (o : Oper), tail[k]? = some o → ∀ e ∈ o.after, Region.binds .any e = true → e.on < pre.length + k
theorem tailOk_of {pre tail : List Oper} (h : tailB pre tail = true) : TailOk pre tail := by
  simp only [tailB, Bool.and_eq_true, List.all_eq_true] at h
  obtain ⟨⟨h1, h2⟩, h3⟩ := h
  have z : ∀ (l : List Oper) (i : Nat) (o : Oper), l[i]? = some o → (o, i) ∈ l.zipIdx := fun l i o ho => by
    rw [List.mem_zipIdx_iff_getElem?]; simpa using ho
  refine ⟨fun i o ho j b hg => ?_, fun i o ho e he hb => ?_, fun k o ho i hi => ?_, fun k o ho => ?_, fun k o ho e he hb => ?_⟩
  · have := (h1 _ (z _ _ _ ho)).2
    simpa [hg] using this
  · have := (h1 _ (z _ _ _ ho)).1
    simp only [Array.all_eq_true'] at this
    simpa [hb] using this e he
  · have := h2 o (List.mem_of_getElem? ho) i (List.mem_range.2 hi)
    simp only [Array.any_eq_true', Bool.and_eq_true, beq_iff_eq] at this
    exact this
  · have := (h3 _ (z _ _ _ ho))
    simp only [Bool.or_eq_true] at this
    have := this.1
    rcases this with h | h
    · simp at h
    · simp only [Array.any_eq_true', Bool.and_eq_true, beq_iff_eq] at h
      simpa using h
  · have := (h3 _ (z _ _ _ ho))
    simp only [Array.all_eq_true'] at this
    simpa [hb] using this.2 e he
/-- the first n are listed, no other -/
def firstN (n m : Nat) : Array Bool := ((List.range m).map fun i => decide (i < n)).toArray
theorem firstN_getD (n m i : Nat) (d : Bool) : (firstN n m).getD i d = if i < m then decide (i < n) else d := by
  unfold firstN
  by_cases h : i < m
  · simp [h]
  · simp [h]
theorem firstN_size (n m : Nat) : (firstN n m).size = m := by simp [firstN]
theorem ext_getD (l : Array Bool) (n i : Nat) (d : Bool) : (l.extract 0 n).getD i d = if i < n then l.getD i d else d := by
  simp only [Array.getD_eq_getD_getElem?, Array.getElem?_extract, Nat.zero_add, Nat.sub_zero]
  by_cases h : i < n
  · by_cases h2 : i < l.size
    · rw [if_pos (by omega), if_pos h]
    · rw [if_neg (by omega), if_pos h, Array.getElem?_eq_none (by omega)]
  · rw [if_neg (by omega), if_neg h]; rfl
theorem getD_tf {l : Array Bool} {i : Nat} (h : i < l.size) : l.getD i true = l.getD i false := by simp [h]
theorem set_getD (l : Array Bool) (i j : Nat) (d : Bool) : (l.setIfInBounds i true).getD j d = if j = i ∧ i < l.size then true else l.getD j d := by
  simp only [Array.getD_eq_getD_getElem?, Array.getElem?_setIfInBounds]
  by_cases h : i = j
  · subst h
    by_cases h2 : i < l.size
    · simp [h2]
    · simp [h2]
  · have : ¬ (j = i ∧ i < l.size) := fun h' => h h'.1.symm
    simp [h, this]
/-- The tail, in its one order. -/
theorem wpAny_tail {pre tail : List Oper} (ok : TailOk pre tail) : ∀ (rest : List Oper) (k : Nat) (a : Act) (w : World), (∀ j, rest[j]? = tail[k + j]?) → k + rest.length = tail.length →
    wpList P (pre ++ tail).toArray Q rest a w → wpAny P .any (pre ++ tail).toArray Q rest.length (firstN (pre.length + k) (pre ++ tail).length) a w
  | [], k, a, w, _, hk, h => by
    refine ⟨?_, h⟩
    apply List.eq_nil_iff_forall_not_mem.2
    intro i hi
    obtain ⟨h1, h2, _⟩ := mem_rd.1 hi
    rw [firstN_getD] at h2
    simp at h1 hk
    simp [h1] at h2
    omega
  | o :: rest, k, a, w, hr, hk, h => by
    have hto : tail[k]? = some o := by simpa using (hr 0).symm
    have hin : pre.length + k < (pre ++ tail).length := by simp at hk ⊢; omega
    have hoo : (pre ++ tail).toArray[pre.length + k]? = some o := by
      rw [List.getElem?_toArray, List.getElem?_append_right (by omega), show pre.length + k - pre.length = k by omega]; exact hto
    refine ⟨fun h0 => ?_, fun i hi => ?_⟩
    · exfalso
      have : pre.length + k ∈ Region.ready .any (pre ++ tail).toArray (firstN (pre.length + k) (pre ++ tail).length) := by
        refine mem_rd.2 ⟨by simpa using hin, by rw [firstN_getD, if_pos hin]; simp, o, hoo, fun e he hb => ?_⟩
        have := ok.late k o hto e he hb
        rw [firstN_getD, if_pos (by omega)]
        simpa using this
      rw [h0] at this; cases this
    · obtain ⟨h1, h2, oi, hoi, h3⟩ := mem_rd.1 hi
      have hi' : i = pre.length + k := by
        rw [firstN_getD] at h2
        simp only [List.size_toArray] at h1
        rw [if_pos h1] at h2
        have hge : pre.length + k ≤ i := by simpa using h2
        rcases Nat.lt_or_ge (pre.length + k) i with hlt | hle
        · exfalso
          have hti : tail[(i - pre.length - 1) + 1]? = some oi := by
            have : (pre ++ tail)[i]? = some oi := by simpa using hoi
            rw [List.getElem?_append_right (by omega)] at this
            rw [show i - pre.length - 1 + 1 = i - pre.length by omega]; exact this
          obtain ⟨e, he, hb, hon⟩ := ok.chain _ _ hti
          have := h3 e he hb
          rw [firstN_getD, if_pos (by omega)] at this
          simp at this
          omega
        · omega
      subst hi'
      have ho : oi = o := Option.some.inj (hoi.symm.trans hoo)
      subst ho
      have hset : (firstN (pre.length + k) (pre ++ tail).length).setIfInBounds (pre.length + k) true = firstN (pre.length + (k + 1)) (pre ++ tail).length := by
        apply Array.ext
        · simp [firstN_size]
        · intro j h4 h5
          have e1 := set_getD (firstN (pre.length + k) (pre ++ tail).length) (pre.length + k) j true
          have e2 := firstN_getD (pre.length + (k + 1)) (pre ++ tail).length j true
          rw [firstN_getD, firstN_size] at e1
          simp only [Array.getD_eq_getD_getElem?, Array.getElem?_eq_getElem h4, Array.getElem?_eq_getElem h5, Option.getD_some] at e1 e2
          rw [e1, e2]
          rw [firstN_size] at h5
          by_cases hj : j = pre.length + k
          · subst hj; rw [if_pos ⟨rfl, h5⟩, if_pos h5]; simp
          · rw [if_neg (fun h => hj h.1), if_pos h5, if_pos h5, decide_eq_decide]; omega
      rw [hset]
      have ih := fun a w => wpAny_tail ok rest (k + 1) a w (fun j => by have := hr (j + 1); simpa [Nat.add_assoc, Nat.add_comm 1 j] using this) (by simp at hk ⊢; omega)
      unfold wpOp
      rw [hoo]
      simp only [wpList] at h
      simp only
      split
      · rename_i hw; rw [if_pos hw] at h; exact h.imp (Oper.wp_mono ih) id
      · rename_i hw; rw [if_neg hw] at h; exact ih _ _ h

/-- all of the head are listed and nothing of the tail: the list is known -/
theorem listed_firstN {pre tail : List Oper} (ok : TailOk pre tail) {listed : Array Bool} (hs : listed.size = (pre ++ tail).length) (ht : ∀ t, pre.length ≤ t → listed.getD t true = true → (pre ++ tail).length ≤ t)
    (h0 : Region.ready .any pre.toArray (listed.extract 0 pre.length) = []) : listed = firstN pre.length (pre ++ tail).length := by
  have hp : ∀ i, i < pre.length → listed.getD i true = true := by
    intro i
    induction i using Nat.strongRecOn with
    | _ i ih =>
      intro hi
      cases hc : listed.getD i true
      · exfalso
        have : i ∈ Region.ready .any pre.toArray (listed.extract 0 pre.length) := by
          refine mem_rd.2 ⟨by simpa using hi, by rw [ext_getD, if_pos hi]; exact hc, pre[i], by simp [hi], fun e he hb => ?_⟩
          have he2 := ok.early i pre[i] (by simp [hi]) e he hb
          have := ih e.on he2 (by omega)
          rw [ext_getD, if_pos (by omega), ← getD_tf (by simp at hs; omega)]
          exact this
        rw [h0] at this; cases this
      · rfl
  apply Array.ext
  · rw [hs, firstN_size]
  · intro i h1 h2
    have e2 := firstN_getD pre.length (pre ++ tail).length i true
    rw [firstN_size] at h2
    rw [if_pos h2] at e2
    simp only [Array.getD_eq_getD_getElem?, Array.getElem?_eq_getElem (show i < (firstN pre.length (pre ++ tail).length).size by rw [firstN_size]; exact h2), Option.getD_some] at e2
    rw [e2]
    rcases Nat.lt_or_ge i pre.length with h | h
    · have := hp i h
      simp [h1] at this
      simp [this, h]
    · have : listed[i] ≠ true := fun hc => by
        have := ht i h (by simp [h1, hc])
        omega
      simp at this
      simp [this, h]
/-- what stands behind the head in place of the post -/
def HeadPost (K : Act → World → Prop) (Q : Exit → Act → World → Prop) : Exit → Act → World → Prop
  | .normal, a, w => K a w
  | .outgrown, _, _ => False
  | e, a, w => Q e a w
theorem Oper.wp_head {o : Oper} {a : Act} {w : World} {K K' L : Act → World → Prop} (h : o.wp P a w K' (HeadPost L Q)) (hk : ∀ a w, K' a w → K a w) : o.wp P a w K Q := by
  unfold Oper.wp at *
  generalize (execOp a.eval o).run P w = r at *
  cases r with
  | ok n w' =>
    cases n <;> simp only [Oper.upon] at h ⊢ <;>
      first
        | exact hk _ _ h
        | exact Calls.mono h (fun e w'' he => by
            cases e <;> first
              | exact hk _ _ he
              | exact he
              | (obtain ⟨_, _, hh⟩ := he; exact hh.elim))
        | exact Rows.mono h (fun _ _ he => hk _ _ he)
  | halt x w' => cases x <;> simp only [Oper.upon] at h ⊢ <;> exact h
/-- From the head's walk to the whole. -/
theorem wpAny_head {pre tail : List Oper} (ok : TailOk pre tail) (g : Nat) :
    ∀ (f : Nat) (listed : Array Bool) (a : Act) (w : World), listed.size = (pre ++ tail).length → (∀ t, pre.length ≤ t → listed.getD t true = true → (pre ++ tail).length ≤ t) →
      wpAny P .any pre.toArray (HeadPost (wpAny P .any (pre ++ tail).toArray Q g (firstN pre.length (pre ++ tail).length)) Q) f (listed.extract 0 pre.length) a w →
      wpAny P .any (pre ++ tail).toArray Q (f + g) listed a w
  | 0, listed, a, w, hs, ht, h => by
    have := listed_firstN ok hs ht h.1
    rw [this, Nat.zero_add]
    exact h.2
  | f + 1, listed, a, w, hs, ht, h => by
    by_cases h0 : Region.ready .any pre.toArray (listed.extract 0 pre.length) = []
    · have h1 := h.1 h0
      have := listed_firstN ok hs ht h0
      rw [this, Nat.add_comm]
      exact wpAny_more' h1 _
    · rw [show f + 1 + g = (f + g) + 1 by omega]
      -- some operation of the head is not listed: so none of the tail may come up
      have hun : ∃ i, i < pre.length ∧ listed.getD i false = false := by
        cases hr : Region.ready .any pre.toArray (listed.extract 0 pre.length) with
        | nil => exact absurd hr h0
        | cons i l =>
          have hi : i ∈ Region.ready .any pre.toArray (listed.extract 0 pre.length) := by rw [hr]; simp
          obtain ⟨h1, h2, _⟩ := mem_rd.1 hi
          simp at h1
          rw [ext_getD, if_pos h1, getD_tf (by simp at hs; omega)] at h2
          exact ⟨i, h1, h2⟩
      obtain ⟨u, hu, hul⟩ := hun
      have hin : ∀ i ∈ Region.ready .any (pre ++ tail).toArray listed, i ∈ Region.ready .any pre.toArray (listed.extract 0 pre.length) := by
        intro i hi
        obtain ⟨h1, h2, o, ho, h3⟩ := mem_rd.1 hi
        have hip : i < pre.length := by
          rcases Nat.lt_or_ge i pre.length with h | h
          · exact h
          · exfalso
            have hto : tail[i - pre.length]? = some o := by
              rw [List.getElem?_toArray, List.getElem?_append_right h] at ho; exact ho
            obtain ⟨e, he, hb, hon⟩ := ok.waits _ _ hto u hu
            have := h3 e he hb
            rw [hon, hul] at this; cases this
        have hop : pre[i]? = some o := by
          rw [List.getElem?_toArray, List.getElem?_append_left hip] at ho; exact ho
        refine mem_rd.2 ⟨by simpa using hip, by rw [ext_getD, if_pos hip]; exact h2, o, by simpa using hop, fun e he hb => ?_⟩
        have h5 := ok.early i o hop e he hb
        rw [ext_getD, if_pos (by omega)]
        exact h3 e he hb
      refine ⟨fun hn => ?_, fun i hi => ?_⟩
      · exfalso
        apply h0
        apply List.eq_nil_iff_forall_not_mem.2
        intro i hi
        obtain ⟨h1, h2, o, ho, h3⟩ := mem_rd.1 hi
        have hip : i < pre.length := by simpa using h1
        have hop : pre[i]? = some o := by simpa using ho
        have : i ∈ Region.ready .any (pre ++ tail).toArray listed := by
          rw [ext_getD, if_pos hip] at h2
          refine mem_rd.2 ⟨by simp; omega, h2, o, by rw [List.getElem?_toArray, List.getElem?_append_left hip]; exact hop, fun e he hb => ?_⟩
          have h5 := ok.early i o hop e he hb
          have := h3 e he hb
          rwa [ext_getD, if_pos (by omega)] at this
        rw [hn] at this; cases this
      · have hip := hin i hi
        obtain ⟨h1, _, o, ho, _⟩ := mem_rd.1 hip
        have hlt : i < pre.length := by simpa using h1
        have hop : (pre ++ tail).toArray[i]? = some o := by
          rw [List.getElem?_toArray, List.getElem?_append_left hlt]; simpa using ho
        have step := h.2 i hip
        have hset : (listed.extract 0 pre.length).setIfInBounds i true = (listed.setIfInBounds i true).extract 0 pre.length := by
          apply Array.ext
          · simp
          · intro j h4 h5
            have e1 := set_getD (listed.extract 0 pre.length) i j true
            have e2 := ext_getD (listed.setIfInBounds i true) pre.length j true
            have e3 := set_getD listed i j true
            have e4 := ext_getD listed pre.length j true
            have h6 : j < pre.length := by simp at h4; omega
            have h7 : i < listed.size := by simp at hs; omega
            have h8 : i < (listed.extract 0 pre.length).size := by simp; omega
            rw [if_pos h6] at e2 e4
            simp only [Array.getD_eq_getD_getElem?, Array.getElem?_eq_getElem h4, Array.getElem?_eq_getElem h5, Option.getD_some] at e1 e2
            rw [e1, e2]
            simp only [Array.getD_eq_getD_getElem?] at e3 e4
            rw [e3, e4]
            simp only [h7, h8, and_true]
        have ih : ∀ a w, wpAny P .any pre.toArray (HeadPost (wpAny P .any (pre ++ tail).toArray Q g (firstN pre.length (pre ++ tail).length)) Q) f ((listed.extract 0 pre.length).setIfInBounds i true) a w → wpAny P .any (pre ++ tail).toArray Q (f + g) (listed.setIfInBounds i true) a w := fun a w hh => by
          rw [hset] at hh
          refine wpAny_head ok g f _ a w (by simpa using hs) (fun t h4 h5 => ?_) hh
          rw [set_getD, if_neg (by omega)] at h5
          exact ht t h4 h5
        have hwant : Region.wanted o (yielded pre.toArray a.tmps) = Region.wanted o (yielded (pre ++ tail).toArray a.tmps) := by
          unfold Region.wanted
          cases hg : o.guard with
          | none => rfl
          | some p =>
            obtain ⟨j, b⟩ := p
            have hj := ok.guard i o (by simpa using ho) j b hg
            simp only [yielded, List.getElem?_toArray]
            rw [List.getElem?_append_left (show j < pre.length by omega)]
        unfold wpOp at step ⊢
        rw [ho] at step
        rw [hop]
        simp only at step ⊢
        rw [hwant] at step
        split
        · rename_i hw
          rw [if_pos hw] at step
          rcases step with hst | ⟨_, _, _, hst⟩
          · exact .inl (Oper.wp_head hst ih)
          · exact hst.elim
        · rename_i hw
          rw [if_neg hw] at step
          exact ih _ _ step
end
end
end Go.Proofs.Ytpbpmabnmakdoaa.Vc
/- The symbolic executor: one step of a head, in whatever order it comes. -/
namespace Go.Proofs.Ytpbpmabnmakdoaa.Vc
noncomputable section
open Go Go.RowKit
variable {ρ ρ' : List AV} {β β' : Mp} {W W' : Nat → Prop} {w w' : World} {P : Program} {C : Cfg} {B : Nat} {w0 : World}
variable {Γ : FuncId → Con} {Qd : List AV → Prop} {ctx : List (List AV → Prop)}

theorem put_tmps_eq (s s' : S) (d : Option Nat) (sl : Slot) (h : s'.tmps = s.tmps) : (s'.put d sl).tmps = (s.put d sl).tmps := by
  cases d <;> simp [S.put, h]
theorem put_facts (s : S) (d : Option Nat) (sl : Slot) : (s.put d sl).facts = s.facts := by cases d <;> rfl
structure Shape (s : S) (o : Oper) (st : St) (es : List HE) (vks : List VK) (sl : Slot) : Prop where
  heap : st.s.heap = s.heap ++ es
  ks : st.s.ks = s.ks ++ vks
  tmps : st.s.tmps = (s.put o.dst sl).tmps
  facts : ∀ x ∈ st.s.facts, x ∈ s.facts ∨ x ∈ st.needs
  lvl : st.s.lvl = s.lvl
  call : ∀ g f aks ks' xs, st.call = some (g, f, aks, ks', xs) → ks' = vks
  nocall : st.call = none → vks = []
theorem qstep_shape {s : S} {ops : Array Oper} {o : Oper} {st : St} (h : qstep C s ops o = some st) : ∃ es ks sl, Shape s o st es ks sl := by
  unfold qstep at h
  simp only [needF_eq] at h
  split at h
  · cases h
  · rename_i g hg
    split at h
    · obtain rfl := Option.some.inj h
      exact ⟨[], [], _, by simp [put_heap], by simp [put_ks], rfl, fun x hx => .inl (by rwa [put_facts] at hx), put_lvl _ _ _, fun _ _ _ _ _ h => (by cases h), fun _ => rfl⟩
    · generalize (s.normG g) = g1 at h
      split at h
      · rename_i r hr
        obtain rfl := Option.some.inj h
        cases hadd : r.add with
        | none =>
          refine ⟨[], [], ⟨g1, r.v⟩, by simp [put_heap, addE, S.with], by simp [put_ks, addE, S.with], ?_, fun x hx => ?_, by rw [put_lvl]; rfl, fun _ _ _ _ _ h => (by cases h), fun _ => rfl⟩
          · exact put_tmps_eq _ _ _ _ rfl
          · rw [put_facts] at hx
            simp only [addE, S.with, appQ_eq, forceL_eq, List.mem_append] at hx
            exact hx.symm
        | some e =>
          refine ⟨[guarded g1 e], [], ⟨g1, r.v⟩, by simp [put_heap, addE, S.with, S.add_eq], by simp [put_ks, addE, S.with, S.add_eq], ?_, fun x hx => ?_, by rw [put_lvl]; rfl, fun _ _ _ _ _ h => (by cases h), fun _ => rfl⟩
          · exact put_tmps_eq _ _ _ _ rfl
          · rw [put_facts] at hx
            simp only [addE, S.with, appQ_eq, forceL_eq, S.add_eq, List.mem_append] at hx
            exact hx.symm
      · unfold callStep at h
        split at h
        · split at h
          · split at h
            · split at h
              · simp only at h
                split at h
                · rename_i s' g' hmore hg'
                  obtain rfl := Option.some.inj h
                  obtain ⟨rfl, _⟩ := S.more_eq hmore
                  refine ⟨_, _, _, by simp only [put_heap]; rfl, by simp only [put_ks]; rfl, put_tmps_eq _ _ _ _ rfl, fun x hx => ?_, by rw [put_lvl]; rfl, fun _ _ _ _ _ h => (by cases h; rfl), fun h => (by cases h)⟩
                  rw [put_facts] at hx
                  simp only [S.with, appQ_eq, forceL_eq, List.mem_append] at hx
                  exact hx.symm
                · cases h
              · cases h
            · cases h
          · cases h
        · cases h
/-- entries k .. of a list -/
def mid (β : Mp) (k : Nat) (bs : List BI) : Mp := fun j => if k ≤ j ∧ j < k + bs.length then bs[j - k]? else β j
theorem mid_maps (β : Mp) (k : Nat) (bs : List BI) : Maps (mid β k bs) k bs := fun j b hb => by
  have hlt := (List.getElem?_eq_some_iff.1 hb).1
  simp only [mid]; rw [if_pos (by omega), ← hb]; congr 1; omega
theorem mid_ext {k : Nat} (bs : List BI) (h : ∀ j, k ≤ j → j < k + bs.length → β j = none) : Ext β (mid β k bs) := fun j b hb => by
  refine ⟨b, ?_, rfl⟩
  simp only [mid]
  rw [if_neg (fun hc => by rw [h j hc.1 hc.2] at hb; cases hb)]
  exact hb
theorem PMem.mid {H : Nat → Option HE} (m : PMem C B w0 ρ β W H w) {k : Nat} {bs : List BI} {os : List Nat} (hk : ∀ j, k ≤ j → j < k + bs.length → β j = none) (hb : Below w.heap.size w w') (hn : News w' w.heap.size bs os) (hd : os.Nodup)
    (he : ∀ (j : Nat) e b, H (k + j) = some e → bs[j]? = some b → EOk ρ (mid β k bs) (fun r => W r ∨ r ∈ os) w' b e) : PMem C B w0 ρ (Go.Proofs.Ytpbpmabnmakdoaa.Vc.mid β k bs) (fun r => W r ∨ r ∈ os) H w' := by
  have hx := mid_ext (β := β) bs hk
  refine ⟨m.below.trans (hb.mono m.size), Nat.le_trans m.size hb.size, fun r hr => ?_, fun j e b hj hb' => ?_, fun j j' b1 b2 r h1 h2 o1 o2 => ?_, fun j b r h1 o1 => ?_, fun g j hg => ?_⟩
  · rcases hr with hr | hr
    · have := m.wlo r hr; have := hb.size; omega
    · have := hn.lo r hr; have := m.size; omega
  · by_cases h : k ≤ j ∧ j < k + bs.length
    · simp only [Go.Proofs.Ytpbpmabnmakdoaa.Vc.mid, if_pos h] at hb'
      exact he (j - k) e b (by rw [show k + (j - k) = j by omega]; exact hj) hb'
    · simp only [Go.Proofs.Ytpbpmabnmakdoaa.Vc.mid, if_neg h] at hb'
      exact (m.heap j e b hj hb').below hb (fun r hr => by rcases hr with hr | hr; exact .inl hr; exact .inr (hn.lo r hr).1) hx
  · by_cases e1 : k ≤ j ∧ j < k + bs.length
    · simp only [Go.Proofs.Ytpbpmabnmakdoaa.Vc.mid, if_pos e1] at h1
      by_cases e2 : k ≤ j' ∧ j' < k + bs.length
      · simp only [Go.Proofs.Ytpbpmabnmakdoaa.Vc.mid, if_pos e2] at h2
        have := hn.dist hd _ _ _ _ _ h1 h2 o1 o2
        omega
      · simp only [Go.Proofs.Ytpbpmabnmakdoaa.Vc.mid, if_neg e2] at h2
        have := m.wlo r (m.own j' b2 r h2 o2)
        have := (hn.lo r (hn.own _ _ _ h1 o1)).1
        omega
    · simp only [Go.Proofs.Ytpbpmabnmakdoaa.Vc.mid, if_neg e1] at h1
      by_cases e2 : k ≤ j' ∧ j' < k + bs.length
      · simp only [Go.Proofs.Ytpbpmabnmakdoaa.Vc.mid, if_pos e2] at h2
        have := m.wlo r (m.own j b1 r h1 o1)
        have := (hn.lo r (hn.own _ _ _ h2 o2)).1
        omega
      · simp only [Go.Proofs.Ytpbpmabnmakdoaa.Vc.mid, if_neg e2] at h2
        exact m.dist j j' b1 b2 r h1 h2 o1 o2
  · by_cases e1 : k ≤ j ∧ j < k + bs.length
    · simp only [Go.Proofs.Ytpbpmabnmakdoaa.Vc.mid, if_pos e1] at h1
      exact .inr (hn.own _ _ _ h1 o1)
    · simp only [Go.Proofs.Ytpbpmabnmakdoaa.Vc.mid, if_neg e1] at h1
      exact .inl (m.own j b r h1 o1)
  · obtain ⟨b1, h1, h2⟩ := m.glob g j hg
    obtain ⟨b2, h3, h4⟩ := hx j b1 h1
    exact ⟨b2, h3, by rw [h4]; exact h2⟩
theorem mid_other {k j : Nat} {bs : List BI} (h : j < k ∨ k + bs.length ≤ j) : mid β k bs j = β j := by
  simp only [mid]; rw [if_neg (by omega)]
theorem mid_in {k j : Nat} {bs : List BI} (h : k ≤ j) (h' : j < k + bs.length) : ∃ b, mid β k bs j = some b := by
  simp only [mid]; rw [if_pos ⟨h, h'⟩]; exact ⟨_, List.getElem?_eq_getElem (by omega)⟩
/-- what a step leaves, as far as a partial memory tells -/
structure Left (C : Cfg) (B : Nat) (w0 : World) (ρ : List AV) (β β' : Mp) (W' : Nat → Prop) (H : Nat → Option HE) (w' : World) (n n' : Nat) : Prop extends PMem C B w0 ρ β' W' H w' where
  ext : Ext β β'
  same : ∀ k, (k < n ∨ n' ≤ k) → β' k = β k
  new : ∀ k, n ≤ k → k < n' → ∃ b, β' k = some b
section
variable {s : S} {a : Act} {ops : Array Oper} {o : Oper} {K' : Act → World → Prop} {Q : Exit → Act → World → Prop} {st : St} {H : Nat → Option HE}
theorem Left.refl (m : PMem C B w0 ρ β W H w) (n : Nat) : Left C B w0 ρ β β W H w n n := ⟨m, Ext.refl _, fun _ _ => rfl, fun k h h' => by omega⟩
theorem head_qop (hC : C.Ok P) {g : X} {r : R} (hq : qop C s g o = some r) (hnd : ∀ x ∈ (r.needs.filter fun x => !s.holds g x).map (imp g), x.B ρ = true) (m : PMem C B w0 ρ β W H w)
    (hh : ∀ k e b, s.heap[k]? = some e → β k = some b → EOk ρ β W w b e) (hadd : ∀ e, r.add = some e → H s.heap.length = some (guarded g e) ∧ β s.heap.length = none) (hf : s.factsOk ρ)
    (hop : ∀ x ∈ o.op.operands.toList, OpdOk ρ β s a x) (hw : Region.wanted o (yielded ops a.tmps) = g.B ρ)
    (hK : ∀ β' W' w' u, (Slot.mk g r.v).rel ρ β' u → Left C B w0 ρ β β' W' H w' s.heap.length (s.heap.length + r.add.toList.length) → K' (a.put o.dst u) w') :
    if Region.wanted o (yielded ops a.tmps) then o.wp P a w K' Q else K' (a.put o.dst Go.undef) w := by
  rw [hw]
  cases hg : g.B ρ
  · simp only [Bool.false_eq_true, if_false]
    cases ha : r.add with
    | none =>
      rw [ha] at hK
      exact hK β W w Go.undef ⟨fun h => (by rw [hg] at h; cases h), fun _ => rfl⟩ (Left.refl m _)
    | some e =>
      obtain ⟨h1, hn⟩ := hadd e ha
      let b : BI := ⟨⟨none, 0, 0, fun _ => none, fun _ => 0, fun _ => 0⟩, noOwn⟩
      have hp : PMem C B w0 ρ (upd β s.heap.length b) W H w := m.addNone hn rfl (fun e' he' => by
        rw [h1] at he'
        obtain rfl := Option.some.inj he'
        intro hgt
        simp only [guarded] at hgt
        rw [hg] at hgt; cases hgt)
      rw [ha] at hK
      refine hK _ W w Go.undef ⟨fun h => (by rw [hg] at h; cases h), fun _ => rfl⟩ ⟨hp, ext_upd b hn, fun k hk => upd_other _ _ (by simp at hk; omega), fun k h h' => ?_⟩
      simp at h'
      exact ⟨b, by rw [show k = s.heap.length by omega, upd_same]⟩
  · simp only [if_true]
    obtain ⟨u, w', β', W', hrun, hrel, hpost⟩ := qop_sound (W := W) (w := w) (a := a) hC hf hg m.glob hop (fun h => by
      cases ha : r.add with
      | none => rw [ha] at h; cases h
      | some e => exact (hadd e ha).2) hq (needs_guard hf hg hnd) hh
    unfold Oper.wp
    rw [hrun, Oper.upon_value]
    have hsl : (Slot.mk g r.v).rel ρ β' u := ⟨fun _ => hrel, fun h => (by rw [hg] at h; cases h)⟩
    cases ha : r.add with
    | none =>
      rw [ha] at hpost hK
      obtain ⟨rfl, rfl, rfl⟩ := hpost
      exact hK β' W' w' u hsl (Left.refl m _)
    | some e =>
      rw [ha] at hpost hK
      obtain ⟨b, hb, hsz, ho, rfl, rfl, he⟩ := hpost
      obtain ⟨h1, hn⟩ := hadd e ha
      have hp : PMem C B w0 ρ (upd β s.heap.length b) (fun r => W r ∨ r = w.heap.size) H w' := m.add hn hb hsz ho (fun e' he' => by
        rw [h1] at he'
        obtain rfl := Option.some.inj he'
        exact he g)
      refine hK _ _ w' u hsl ⟨hp, ext_upd b hn, fun k hk => upd_other _ _ (by simp at hk; omega), fun k h h' => ?_⟩
      simp at h'
      exact ⟨b, by rw [show k = s.heap.length by omega, upd_same]⟩
theorem head_call (hC : C.Ok P) (hΓ : ConsOk P C Γ B w0) {g : X} (hq : callStep C s g o = some st) (hnd : ∀ x ∈ st.needs, x.B ρ = true) (m : PMem C B w0 ρ β W H w)
    (hcall : ∀ g f aks ks xs, st.call = some (g, f, aks, ks, xs) → (g.B ρ = true → (Γ f).pre (fixL aks (xs.map (X.den ρ)))) ∧ Piece ρ s.ks.length (fixL ks ((Γ f).out (fixL aks (xs.map (X.den ρ))))))
    (hh : ∀ k e b, s.heap[k]? = some e → β k = some b → EOk ρ β W w b e) (hnew : ∀ (k : Nat) e, s.heap.length ≤ k → st.s.heap[k]? = some e → H k = some e) (hnone : ∀ k, s.heap.length ≤ k → k < st.s.heap.length → β k = none) (hf : s.factsOk ρ)
    (hop : ∀ x ∈ o.op.operands.toList, OpdOk ρ β s a x) (hw : Region.wanted o (yielded ops a.tmps) = g.B ρ)
    (hK : ∀ sl β' W' w' u, st.s.tmps = (s.put o.dst sl).tmps → sl.rel ρ β' u → Left C B w0 ρ β β' W' H w' s.heap.length st.s.heap.length → K' (a.put o.dst u) w') :
    if Region.wanted o (yielded ops a.tmps) then o.wp P a w K' Q else K' (a.put o.dst Go.undef) w := by
  unfold callStep at hq
  split at hq
  · rename_i f args ts ho
    rw [ho] at hop
    simp only [Op.operands] at hop
    split at hq
    · rename_i fid first caps vs hv hvs
      split at hq
      · rename_i sig hsig
        split at hq
        · rename_i nd0 xs hxs
          simp only at hq
          split at hq
          · rename_i s' g' hmore hg'
            obtain rfl := Option.some.inj hq
            obtain ⟨rfl, _⟩ := S.more_eq hmore
            obtain ⟨hpre, hpc⟩ := hcall _ _ _ _ _ rfl
            obtain rfl := X.sub_id hg'
            have hshape : ∀ j e, (outsL s.ks.length s.heap.length sig.outs).2.1[j]? = some e → H (s.heap.length + j) = some (guarded g' e) := fun j e he => by
              refine hnew _ _ (by omega) ?_
              simp only [put_heap]
              simp [S.with, List.getElem?_append_right, he]
            have hK1 : ∀ (bs : List BI) W' w' u, (outsL s.ks.length s.heap.length sig.outs).2.1.length = bs.length → (Slot.mk g' (retV (outsL s.ks.length s.heap.length sig.outs).1)).rel ρ (mid β s.heap.length bs) u → PMem C B w0 ρ (mid β s.heap.length bs) W' H w' → K' (a.put o.dst u) w' := by
              intro bs W' w' u hl hu hp
              refine hK _ _ W' w' u (put_tmps_eq _ _ _ _ rfl) hu ⟨hp, mid_ext _ fun j h h' => hnone j h ?_, fun k hk => mid_other ?_, fun k h h' => mid_in h ?_⟩
              · simp only [put_heap, S.with, List.length_append, List.length_map]; omega
              · simp only [put_heap, S.with, List.length_append, List.length_map] at hk; omega
              · simp only [put_heap, S.with, List.length_append, List.length_map] at h'; omega
            have hnn : ∀ bs : List BI, (outsL s.ks.length s.heap.length sig.outs).2.1.length = bs.length → ∀ j, s.heap.length ≤ j → j < s.heap.length + bs.length → β j = none := fun bs hl j h h' => hnone j h (by simp only [put_heap, S.with, List.length_append, List.length_map]; omega)
            rw [hw]
            cases hgB : g'.B ρ
            · simp only [Bool.false_eq_true, if_false]
              let bs : List BI := List.replicate (outsL s.ks.length s.heap.length sig.outs).2.1.length ⟨⟨none, 0, 0, fun _ => none, fun _ => 0, fun _ => 0⟩, noOwn⟩
              have hl : (outsL s.ks.length s.heap.length sig.outs).2.1.length = bs.length := by simp [bs]
              refine hK1 bs (fun r => W r ∨ r ∈ []) w Go.undef hl ⟨fun h => (by rw [hgB] at h; cases h), fun _ => rfl⟩ ?_
              refine m.mid (hnn bs hl) (Below.refl _ _) ⟨fun j b r hb ho => (by rw [repl_get hb] at ho; cases ho), fun _ j j' b b' r hb _ ho _ => (by rw [repl_get hb] at ho; cases ho), fun r h => (by cases h)⟩ List.nodup_nil ?_
              intro j e b he hb
              have hj := (List.getElem?_eq_some_iff.1 hb).1
              rw [← hl] at hj
              rw [hshape j _ (List.getElem?_eq_getElem hj)] at he
              obtain rfl := Option.some.inj he
              intro hgt
              simp only [guarded] at hgt
              rw [hgB] at hgt; cases hgt
            · simp only [if_true]
              have hrel := val_rel hf hgB m.glob (hop f (by simp [Call.operands])) hv
              obtain ⟨us1, us2, hfe, hr1, hr2⟩ := hrel
              have hrv := vals_rel (C := C) (s := s) (a := a) hf hgB m.glob hvs (fun x hx => hop x (by simp [Call.operands] at hx ⊢; exact .inr hx))
              have hall := ((caps_relL hr1).append hrv).append (caps_relL hr2)
              obtain ⟨hmeets, fn, hfn, hbody, hname⟩ := hΓ fid sig hsig
              have hneeds := needs_guard hf hgB hnd
              obtain ⟨hxl, hrd⟩ := argsL_sound hf hgB hh hxs hneeds hall
              have hcl := hmeets _ _ w m.below hrd (hpre hgB)
              unfold Oper.wp
              rw [run_call ho hfe hfn hbody hname, Oper.upon_enter]
              refine hcl.mono fun e w' he => ?_
              obtain ⟨v, rfl, hb, us, os, rfl, hgv, hnod⟩ := he
              have hkl : fixL (outsL s.ks.length s.heap.length sig.outs).2.2 ((Γ fid).out (fixL (insKs sig.ins) (xs.map (X.den ρ)))) = (Γ fid).out (fixL (insKs sig.ins) (xs.map (X.den ρ))) := by
                generalize (Γ fid).out (fixL (insKs sig.ins) (xs.map (X.den ρ))) = L at hgv
                have hp0 : Piece (List.replicate s.ks.length (AV.i 0) ++ L) s.ks.length L := fun i v hv => by
                  rw [List.getD_eq_getElem?_getD, List.getElem?_append_right (by simp)]
                  simp [hv]
                obtain ⟨_, _, hfx, _⟩ := outsL_sound (w := w') (N := w.heap.size) s.ks.length s.heap.length hgv hp0
                exact hfx
              rw [hkl] at hpc
              obtain ⟨bs, _, hfx, hel, hnw, hok, hrl⟩ := outsL_sound (w := w') (N := w.heap.size) s.ks.length s.heap.length hgv hpc
              refine hK1 bs (fun r => W r ∨ r ∈ os) w' _ hel ⟨fun _ => retV_rel (hrl _ (mid_maps _ _ _)) (fun _ => trivial), fun h => (by rw [hgB] at h; cases h)⟩ ?_
              refine m.mid (hnn bs hel) hb hnw hnod ?_
              intro j e b he hb'
              have hj := (List.getElem?_eq_some_iff.1 hb').1
              rw [← hel] at hj
              rw [hshape j _ (List.getElem?_eq_getElem hj)] at he
              obtain rfl := Option.some.inj he
              exact hok j _ b (List.getElem?_eq_getElem hj) hb' g' _ _ (mid_maps _ _ _)
          · cases hq
        · cases hq
      · cases hq
    · cases hq
  · cases hq
end
end
end Go.Proofs.Ytpbpmabnmakdoaa.Vc
/- The symbolic executor: an operation of a region whose order is open. -/
namespace Go.Proofs.Ytpbpmabnmakdoaa.Vc
noncomputable section
open Go Go.RowKit
variable {ρ ρ' : List AV} {β β' : Mp} {W W' : Nat → Prop} {w w' : World} {P : Program} {C : Cfg} {B : Nat} {w0 : World}
variable {Γ : FuncId → Con} {Qd : List AV → Prop} {ctx : List (List AV → Prop)}

theorem head_step (hC : C.Ok P) (hΓ : ConsOk P C Γ B w0) {s : S} {a : Act} {ops : Array Oper} {o : Oper} {K' : Act → World → Prop} {Q : Exit → Act → World → Prop} {st : St} {H : Nat → Option HE} (hq : qstep C s ops o = some st) (hnd : ∀ x ∈ st.needs, x.B ρ = true) (m : PMem C B w0 ρ β W H w)
    (hcall : ∀ g f aks ks xs, st.call = some (g, f, aks, ks, xs) → (g.B ρ = true → (Γ f).pre (fixL aks (xs.map (X.den ρ)))) ∧ Piece ρ s.ks.length (fixL ks ((Γ f).out (fixL aks (xs.map (X.den ρ))))))
    (hh : ∀ k e b, s.heap[k]? = some e → β k = some b → EOk ρ β W w b e) (hnew : ∀ (k : Nat) e, s.heap.length ≤ k → st.s.heap[k]? = some e → H k = some e) (hnone : ∀ k, s.heap.length ≤ k → k < st.s.heap.length → β k = none) (hf : s.factsOk ρ)
    (hop : ∀ x ∈ o.op.operands.toList, OpdOk ρ β s a x)
    (hgd : ∀ j b t, o.guard = some (j, b) → (ops[j]?).bind (·.dst) = some t → ∀ sl, s.tmps[t]? = some (some sl) → sl.rel ρ β (a.tmps.getD t Go.undef) ∧ t < a.tmps.size)
    (hK : ∀ sl β' W' w' u, st.s.tmps = (s.put o.dst sl).tmps → sl.rel ρ β' u → Left C B w0 ρ β β' W' H w' s.heap.length st.s.heap.length → K' (a.put o.dst u) w') :
    if Region.wanted o (yielded ops a.tmps) then o.wp P a w K' Q else K' (a.put o.dst Go.undef) w := by
  unfold qstep at hq
  simp only [needF_eq] at hq
  split at hq
  · cases hq
  · rename_i g hgo
    have hw := guard_sound hgo hgd
    split at hq
    · rename_i hno
      obtain rfl := Option.some.inj hq
      have hgf : g.B ρ = false := by
        have := S.holds_B hf (show (X.bl true).B ρ = true from rfl) (S.never_eq hno)
        rw [xnot] at this
        cases h : g.B ρ
        · rfl
        · rw [h] at this; cases this
      rw [hw, hgf]
      simp only [Bool.false_eq_true, if_false]
      exact hK ⟨.bl true, .undef⟩ β W w Go.undef rfl ⟨fun _ => rfl, fun _ => rfl⟩ (by simp only [put_heap]; exact Left.refl m _)
    · have hgs : (s.normG g).B ρ = g.B ρ := S.normG_B hf
      rw [← hgs] at hw
      generalize (s.normG g) = g1 at hq hgs hw
      split at hq
      · rename_i r hr
        obtain rfl := Option.some.inj hq
        have hh' : ∀ d sl, (S.put ((addE s g1 r.add).with ((r.needs.filter fun x => !s.holds g1 x).map (imp g1))) d sl).heap = s.heap ++ (r.add.map (guarded g1)).toList := fun d sl => by
          rw [put_heap]; cases r.add <;> simp [addE, S.with, S.add_eq]
        refine head_qop hC hr hnd m hh (fun e he => ⟨hnew _ _ (Nat.le_refl _) ?_, hnone _ (Nat.le_refl _) ?_⟩) hf hop hw fun β' W' w' u hsl hl => ?_
        · simp only [hh']
          show (s.heap ++ (r.add.map (guarded g1)).toList)[s.heap.length]? = some (guarded g1 e)
          rw [he]; simp
        · simp only [hh']
          show s.heap.length < (s.heap ++ (r.add.map (guarded g1)).toList).length
          rw [he]; simp
        · refine hK ⟨g1, r.v⟩ β' W' w' u ?_ hsl ?_
          · cases r.add <;> exact put_tmps_eq _ _ _ _ rfl
          · have e : (s.heap ++ (r.add.map (guarded g1)).toList).length = s.heap.length + r.add.toList.length := by cases r.add <;> simp
            simp only [hh', e]; exact hl
      · exact head_call hC hΓ hq hnd m hcall hh hnew hnone hf hop hw hK
/-! masked memories -/
theorem hasN_eq (k : Nat) (l : List Nat) : hasN k l = l.contains k := by
  unfold hasN
  rw [anyQ_eq, Bool.eq_iff_iff, List.any_eq_true, List.contains_iff_mem]
  constructor
  · rintro ⟨x, hx, h⟩
    rw [Nat.eq_of_beq_eq_true h]; exact hx
  · intro h
    exact ⟨k, h, Nat.beq_refl k⟩
theorem pickB {α : Type} (b : Bool) (x y : α) : @Bool.rec (fun _ => α) y x b = if b then x else y := by cases b <;> rfl
theorem maskG_get (fs : List Nat) : ∀ (l : List HE) (j k : Nat), (maskG fs l j)[k]? = (l[k]?).map fun e => if fs.contains (j + k) then e else { e with body := .gone }
  | [], j, k => by
    show ([] : List HE)[k]? = _
    simp
  | e :: l, j, k => by
    show (@Bool.rec (fun _ => HE) ⟨e.own, .gone, e.g⟩ e (hasN j fs) :: maskG fs l (j + 1))[k]? = _
    cases k with
    | zero => simp only [List.getElem?_cons_zero, Option.map_some, pickB, hasN_eq, Nat.add_zero]
    | succ k =>
      rw [List.getElem?_cons_succ, maskG_get fs l (j + 1) k, List.getElem?_cons_succ, show j + 1 + k = j + (k + 1) by omega]
theorem maskH_get (fs : List Nat) (l : List HE) (k : Nat) : (maskH fs l)[k]? = (l[k]?).map fun e => if fs.contains k then e else { e with body := .gone } := by
  show (maskG fs l 0)[k]? = _
  rw [maskG_get, Nat.zero_add]
theorem maskH_len (fs : List Nat) (l : List HE) : (maskH fs l).length = l.length :=
  len_of_get fun k => (maskH_get fs l k).symm
theorem mergeG_get (fs : List Nat) : ∀ (new old : List HE) (j k : Nat), (mergeG fs old new j)[k]? = (new[k]?).map fun n => match old[k]? with
    | some o => if fs.contains (j + k) then n else o
    | none => n
  | [], old, j, k => by
    show ([] : List HE)[k]? = _
    simp
  | n :: t, [], j, k => by
    show (n :: t)[k]? = _
    simp
  | n :: t, o :: old, j, k => by
    show (@Bool.rec (fun _ => HE) o n (hasN j fs) :: mergeG fs old t (j + 1))[k]? = _
    cases k with
    | zero => simp only [List.getElem?_cons_zero, Option.map_some, pickB, hasN_eq, Nat.add_zero]
    | succ k =>
      rw [List.getElem?_cons_succ, mergeG_get fs t old (j + 1) k, List.getElem?_cons_succ, List.getElem?_cons_succ, show j + 1 + k = j + (k + 1) by omega]
theorem mergeH_get (fs : List Nat) (old new : List HE) (k : Nat) : (mergeH fs old new)[k]? = (new[k]?).map fun n => match old[k]? with
    | some o => if fs.contains k then n else o
    | none => n := by
  show (mergeG fs old new 0)[k]? = _
  rw [mergeG_get]
  simp only [Nat.zero_add]
theorem mergeH_len (fs : List Nat) (old new : List HE) : (mergeH fs old new).length = new.length :=
  len_of_get fun k => (mergeH_get fs old new k).symm
theorem wrI_mem {k : Nat} : ∀ {new old : List HE} {j : Nat}, k ∈ wrI old new j ↔ ∃ i, k = j + i ∧ ∃ n, new[i]? = some n ∧ old[i]? ≠ some n
  | [], old, j => by cases old <;> simp [wrI]
  | n :: new, [], j => by
    simp only [wrI, List.mem_cons, wrI_mem (new := new) (old := []) (j := j + 1)]
    constructor
    · rintro (rfl | ⟨i, rfl, m, h1, h2⟩)
      · exact ⟨0, rfl, n, rfl, by simp⟩
      · exact ⟨i + 1, by omega, m, by simpa using h1, by simp⟩
    · rintro ⟨i, rfl, m, h1, h2⟩
      cases i with
      | zero => exact .inl rfl
      | succ i => exact .inr ⟨i, by omega, m, by simpa using h1, by simp⟩
  | n :: new, o :: old, j => by
    simp only [wrI]
    split
    · rename_i he
      subst he
      rw [wrI_mem (new := new) (old := old) (j := j + 1)]
      constructor
      · rintro ⟨i, rfl, m, h1, h2⟩
        exact ⟨i + 1, by omega, m, by simpa using h1, by simpa using h2⟩
      · rintro ⟨i, rfl, m, h1, h2⟩
        cases i with
        | zero => simp at h1 h2; exact absurd h1 h2
        | succ i => exact ⟨i, by omega, m, by simpa using h1, by simpa using h2⟩
    · rename_i he
      rw [List.mem_cons, wrI_mem (new := new) (old := old) (j := j + 1)]
      constructor
      · rintro (rfl | ⟨i, rfl, m, h1, h2⟩)
        · exact ⟨0, rfl, n, rfl, by simpa using he⟩
        · exact ⟨i + 1, by omega, m, by simpa using h1, by simpa using h2⟩
      · rintro ⟨i, rfl, m, h1, h2⟩
        cases i with
        | zero => exact .inl rfl
        | succ i => exact .inr ⟨i, by omega, m, by simpa using h1, by simpa using h2⟩
theorem wrG_eq (fs : List Nat) : ∀ (x old : List HE) (j : Nat), wrG fs old (mergeG fs old x j) j = wrI old (mergeG fs old x j) j
  | [], old, j => by cases old <;> rfl
  | n :: t, [], j => by
    show j :: wrG fs [] t (j + 1) = _
    have h := wrG_eq fs t [] (j + 1)
    have e : mergeG fs [] t (j + 1) = t := by cases t <;> rfl
    rw [e] at h
    rw [h]
    show _ = wrI [] (n :: t) j
    rw [wrI]
  | n :: t, o :: old, j => by
    have ih := wrG_eq fs t old (j + 1)
    show @Bool.rec (fun _ => List Nat) (wrG fs old (mergeG fs old t (j + 1)) (j + 1)) (isMem fs j o (@Bool.rec (fun _ => HE) o n (hasN j fs)) (wrG fs old (mergeG fs old t (j + 1)) (j + 1))) (hasN j fs) = wrI (o :: old) (@Bool.rec (fun _ => HE) o n (hasN j fs) :: mergeG fs old t (j + 1)) j
    rw [ih, wrI]
    unfold isMem
    cases hh : hasN j fs with
    | false => simp
    | true =>
      by_cases he : o = n
      · simp [he]
      · simp [he]
theorem wrG_merge (fs : List Nat) (old x : List HE) : wrG fs old (mergeH fs old x) 0 = wrH old (mergeH fs old x) := wrG_eq fs x old 0
theorem wrH_mem {old new : List HE} {k : Nat} : k ∈ wrH old new ↔ ∃ n, new[k]? = some n ∧ old[k]? ≠ some n := by
  unfold wrH
  rw [wrI_mem]
  constructor
  · rintro ⟨i, rfl, h⟩
    rw [Nat.zero_add]; exact h
  · intro h
    exact ⟨k, by omega, h⟩
theorem wrH_self (l : List HE) : wrH l l = [] := by
  cases h : wrH l l with
  | nil => rfl
  | cons k m =>
    have hk : k ∈ wrH l l := by rw [h]; exact List.mem_cons_self ..
    obtain ⟨n, h1, h2⟩ := wrH_mem.1 hk
    exact absurd h1 h2
theorem merge_mask (fs : List Nat) (l : List HE) : mergeH fs l (maskH fs l) = l := by
  apply List.ext_getElem?
  intro k
  rw [mergeH_get, maskH_get]
  cases h : l[k]? with
  | none => rfl
  | some e =>
    simp only [Option.map_some]
    split
    · rfl
    · rfl
/-! operations that only look make no entries -/
theorem opBin_add {op : BinOp} {t : TypeId} {x y : SV} {r : R} (h : opBin C op t x y = some r) : r.add = none := by
  unfold opBin at h
  repeat' split at h
  all_goals first
    | (cases h; done)
    | (obtain rfl := Option.some.inj h; rfl)
theorem opWrap_add {op : BinOp} {x y : SV} {r : R} (h : opWrap op x y = some r) : r.add = none := by
  unfold opWrap at h
  repeat' split at h
  all_goals first
    | (cases h; done)
    | (obtain rfl := Option.some.inj h; rfl)
theorem map_add {α : Type} {o : Option α} {f : α → R} {r : R} (h : o.map f = some r) (hf : ∀ x, (f x).add = none) : r.add = none := by
  cases o with
  | none => cases h
  | some x => obtain rfl := Option.some.inj h; exact hf x
theorem qop_add {s : S} {g : X} {o : Oper} {r : R} (hp : pureKind o = true) (h : qop C s g o = some r) : r.add = none := by
  unfold pureKind at hp
  unfold qop at h
  cases ho : o.op with
  | call c =>
    rw [ho] at hp h
    simp only at h
    unfold qCall at h
    repeat' split at h
    all_goals first
      | (cases h; done)
      | (obtain rfl := Option.some.inj h; rfl)
  | makeFunc f a b => rw [ho] at hp; cases hp
  | build t p => rw [ho] at hp; cases hp
  | alloc t => rw [ho] at hp; cases hp
  | box t x => rw [ho] at hp; cases hp
  | buildSlice t n p => rw [ho] at hp; cases hp
  | makeSlice t l c => rw [ho] at hp; cases hp
  | move x | assign x => rw [ho] at h; exact map_add h fun _ => rfl
  | binOp op t x y z =>
    rw [ho] at h
    simp only [qBin] at h
    split at h
    · split at h
      · exact opWrap_add h
      · exact opBin_add h
    · cases h
  | pick c a b =>
    rw [ho] at h
    simp only [qPick] at h
    repeat' split at h
    all_goals first
      | (cases h; done)
      | exact map_add h fun _ => rfl
      | (obtain rfl := Option.some.inj h; rfl)
  | unOp a b c =>
    rw [ho] at h
    simp only [qUn] at h
    repeat' split at h
    all_goals first
      | (cases h; done)
      | (obtain rfl := Option.some.inj h; rfl)
  | convert a b c =>
    rw [ho] at h
    simp only [qConv] at h
    repeat' split at h
    all_goals first
      | (cases h; done)
      | (obtain rfl := Option.some.inj h; rfl)
  | extract a b =>
    rw [ho] at h
    simp only [qExtract] at h
    repeat' split at h
    all_goals first
      | (cases h; done)
      | exact map_add h fun _ => rfl
  | load a b =>
    rw [ho] at h
    simp only [qLoad] at h
    repeat' split at h
    all_goals first
      | (cases h; done)
      | exact map_add h fun _ => rfl
  | field a b c =>
    rw [ho] at h
    simp only [qField] at h
    repeat' split at h
    all_goals first
      | (cases h; done)
      | exact map_add h fun _ => rfl
  | fieldAddr a b c =>
    rw [ho] at h
    simp only [qFieldAddr] at h
    repeat' split at h
    all_goals first
      | (cases h; done)
      | (obtain rfl := Option.some.inj h; rfl)
  | indexAddr a b c =>
    rw [ho] at h
    simp only [qIndexAddr] at h
    repeat' split at h
    all_goals first
      | (cases h; done)
      | (obtain rfl := Option.some.inj h; rfl)
  | index a b c =>
    rw [ho] at h
    simp only [qIndex] at h
    repeat' split at h
    all_goals first
      | (cases h; done)
      | exact map_add h fun _ => rfl
      | (obtain rfl := Option.some.inj h; rfl)
  | nilCheck a =>
    rw [ho] at h
    simp only [qNil] at h
    repeat' split at h
    all_goals first
      | (cases h; done)
      | (obtain rfl := Option.some.inj h; rfl)
  | slice a b c d e =>
    rw [ho] at h
    simp only [qSlice] at h
    repeat' split at h
    all_goals first
      | (cases h; done)
      | (obtain rfl := Option.some.inj h; rfl)
  | _ => rw [ho] at h; cases h
theorem qstep_pure {s : S} {ops : Array Oper} {o : Oper} {st : St} (hp : pureKind o = true) (h : qstep C s ops o = some st) : st.s.heap = s.heap := by
  unfold qstep at h
  simp only [needF_eq] at h
  split at h
  · cases h
  · rename_i g hg
    split at h
    · obtain rfl := Option.some.inj h
      cases o.dst <;> rfl
    · split at h
      · rename_i r hr
        obtain rfl := Option.some.inj h
        have ha := qop_add hp hr
        show (((addE s _ r.add).with _).put o.dst _).heap = _
        rw [ha]
        cases o.dst <;> rfl
      · unfold callStep at h
        unfold pureKind at hp
        split at h
        · rename_i hop
          rw [hop] at hp
          cases hp
        · cases h
theorem anyF_eq {s : S} {ops : Array Oper} {o : Oper} {fs : List Nat} : anyF C s ops o fs = match qstep C { s with heap := maskH fs s.heap } ops o with
  | some st => some (fs, { st with s := { st.s with heap := mergeH fs s.heap st.s.heap } })
  | none => match estep C { s with heap := maskH fs s.heap } o with
    | some (nd, s') => some (fs, ⟨nd.filter fun x => !s.holds (.bl true) x, none, { s'.with (nd.filter fun x => !s.holds (.bl true) x) with heap := mergeH fs s.heap s'.heap }⟩)
    | none => none := by
  unfold anyF
  simp only
  cases hq : qstep C { s with heap := maskH fs s.heap } ops o with
  | none => rfl
  | some st =>
    simp only
    by_cases hp : pureKind o = true
    · have h1 : st.s.heap = maskH fs s.heap := qstep_pure hp hq
      rw [if_pos hp, h1, merge_mask]
    · rw [if_neg hp]
theorem wrH_not {old new : List HE} {k : Nat} (hl : old.length ≤ new.length) (h : k ∉ wrH old new) : new[k]? = old[k]? := by
  cases hn : new[k]? with
  | none =>
    have := List.getElem?_eq_none_iff.1 hn
    exact (List.getElem?_eq_none (by omega)).symm
  | some n =>
    by_cases ho : old[k]? = some n
    · exact ho.symm
    · exact absurd (wrH_mem.2 ⟨n, hn, ho⟩) h
/-- what a step leaves as it is -/
structure AShape (s : S) (o : Oper) (st : St) (vks : List VK) (sl : Slot) : Prop where
  len : s.heap.length ≤ st.s.heap.length
  ks : st.s.ks = s.ks ++ vks
  tmps : st.s.tmps = (s.put o.dst sl).tmps
  facts : ∀ x ∈ st.s.facts, x ∈ s.facts ∨ x ∈ st.needs
  lvl : st.s.lvl = s.lvl
  call : ∀ g f aks ks' xs, st.call = some (g, f, aks, ks', xs) → ks' = vks
  nocall : st.call = none → vks = []
theorem spend_len (s : S) (u : Option Nat) : (s.spend u).heap.length = s.heap.length := by cases u <;> simp [S.spend, S.setBody, setF_eq]
theorem estep_op {s : S} {o : Oper} {nd : List X} {s' : S} (hq : estep C s o = some (nd, s')) : (∃ t p x, o.op = .store t p x) ∨ ∃ c, o.op = .call c := by
  unfold estep at hq
  split at hq
  · cases hq
  · split at hq
    · rename_i h; exact .inl ⟨_, _, _, h⟩
    · rename_i h; exact .inr ⟨_, h⟩
    · cases hq
theorem storeAt_eq {s s' : S} {b : SB} {sz : Nat} {i : X} {f : Nat} {vs : List Sc} {nd : List X} (h : s.storeAt b sz i f vs = some (nd, s')) : ∃ k bd, s' = s.setBody k bd := by
  unfold S.storeAt at h
  split at h
  · split at h
    · simp only [Option.map_eq_some_iff] at h
      obtain ⟨x, _, hx⟩ := h
      obtain ⟨_, rfl⟩ := Prod.mk.inj hx
      exact ⟨_, _, rfl⟩
    · cases h
  · cases h
theorem appendAt_eq {s s' : S} {t : TypeId} {x y v : Sc} {nd : List X} (h : appendAt C s t x y = some (nd, v, s')) : ∃ u e, s' = (s.spend u).add e := by
  unfold appendAt at h
  split at h
  · split at h
    · split at h
      · obtain ⟨_, h2⟩ := Prod.mk.inj (Option.some.inj h)
        obtain ⟨_, rfl⟩ := Prod.mk.inj h2
        exact ⟨_, _, rfl⟩
      · cases h
    · cases h
  · split at h
    · unfold appendC at h
      split at h
      · split at h
        · split at h
          · obtain ⟨_, h2⟩ := Prod.mk.inj (Option.some.inj h)
            obtain ⟨_, rfl⟩ := Prod.mk.inj h2
            exact ⟨none, _, rfl⟩
          · cases h
        · cases h
      · cases h
    · cases h
  · cases h
theorem estep_eq {s : S} {o : Oper} {nd : List X} {s' : S} (hq : estep C s o = some (nd, s')) : ∃ s1 sl, s' = S.put s1 o.dst sl ∧ (((∃ t p x, o.op = .store t p x) ∧ ∃ k bd, s1 = s.setBody k bd) ∨ ((∃ c, o.op = .call c) ∧ ∃ u e, s1 = (s.spend u).add e)) := by
  unfold estep at hq
  split at hq
  · cases hq
  · split at hq
    · rename_i hop
      split at hq
      · split at hq
        · split at hq
          · rename_i nd' s1 hs
            obtain ⟨_, rfl⟩ := Prod.mk.inj (Option.some.inj hq)
            exact ⟨_, _, rfl, .inl ⟨⟨_, _, _, hop⟩, storeAt_eq hs⟩⟩
          · cases hq
        · cases hq
      · cases hq
    · rename_i hop
      split at hq
      · split at hq
        · split at hq
          · split at hq
            · rename_i nd' v s1 hs
              obtain ⟨_, rfl⟩ := Prod.mk.inj (Option.some.inj hq)
              exact ⟨_, _, rfl, .inr ⟨⟨_, hop⟩, appendAt_eq hs⟩⟩
            · cases hq
          · cases hq
        · cases hq
      · cases hq
    · cases hq
theorem any_shape {s : S} {ops : Array Oper} {o : Oper} {fs : List Nat} {st : St} {fs0 : List Nat} (h : anyF C s ops o fs0 = some (fs, st)) : ∃ ks sl, AShape s o st ks sl := by
  rw [anyF_eq] at h
  simp only at h
  split at h
  · rename_i st0 hq
    obtain ⟨_, rfl⟩ := Prod.mk.inj (Option.some.inj h)
    obtain ⟨es, ks, sl, sh⟩ := qstep_shape hq
    have hl : st0.s.heap.length = s.heap.length + es.length := by rw [sh.heap]; simp [maskH_len]
    exact ⟨ks, sl, by simp [mergeH_len, hl], sh.ks, by rw [sh.tmps]; exact put_tmps_eq _ _ _ _ rfl, sh.facts, sh.lvl, sh.call, sh.nocall⟩
  · split at h
    · rename_i nd s' hq
      obtain ⟨_, rfl⟩ := Prod.mk.inj (Option.some.inj h)
      obtain ⟨s1, sl, rfl, h1⟩ := estep_eq hq
      refine ⟨[], sl, ?_, ?_, ?_, fun x hx => ?_, ?_, fun _ _ _ _ _ h => (by cases h), fun _ => rfl⟩
      · simp only [mergeH_len, put_heap]
        rcases h1 with ⟨_, k, bd, rfl⟩ | ⟨_, u, e, rfl⟩
        · simp [S.setBody, setF_eq, maskH_len]
        · simp [S.add_eq, spend_len, maskH_len]
      · simp only [S.with, put_ks, List.append_nil]
        rcases h1 with ⟨_, k, bd, rfl⟩ | ⟨_, u, e, rfl⟩
        · rfl
        · cases u <;> rfl
      · simp only [S.with]
        refine put_tmps_eq _ _ _ _ ?_
        rcases h1 with ⟨_, k, bd, rfl⟩ | ⟨_, u, e, rfl⟩
        · rfl
        · cases u <;> rfl
      · simp only [S.with, appQ_eq, forceL_eq, List.mem_append, put_facts] at hx
        rcases hx with hx | hx
        · exact .inr hx
        · left
          rcases h1 with ⟨_, k, bd, rfl⟩ | ⟨_, u, e, rfl⟩
          · exact hx
          · cases u <;> exact hx
      · simp only [S.with, put_lvl]
        rcases h1 with ⟨_, k, bd, rfl⟩ | ⟨_, u, e, rfl⟩
        · rfl
        · cases u <;> rfl
    · cases h
/-- one operation, wherever it comes -/
theorem any_step (hC : C.Ok P) (hΓ : ConsOk P C Γ B w0) {s : S} {a : Act} {ops : Array Oper} {o : Oper} {K' : Act → World → Prop} {Q : Exit → Act → World → Prop} {fs : List Nat} {st : St} {H : Nat → Option HE} (hq : anyF C s ops o fs = some (fs, st)) (hnd : ∀ x ∈ st.needs, x.B ρ = true) (m : PMem C B w0 ρ β W H w)
    (hcall : ∀ g f aks ks xs, st.call = some (g, f, aks, ks, xs) → (g.B ρ = true → (Γ f).pre (fixL aks (xs.map (X.den ρ)))) ∧ Piece ρ s.ks.length (fixL ks ((Γ f).out (fixL aks (xs.map (X.den ρ))))))
    (hfs : ∀ k, k ∈ fs → k < s.heap.length → H k = s.heap[k]?) (hnone : ∀ k, s.heap.length ≤ k → k < st.s.heap.length → β k = none) (hf : s.factsOk ρ)
    (hop : ∀ x ∈ o.op.operands.toList, OpdOk ρ β s a x)
    (hgd : ∀ j b t, o.guard = some (j, b) → (ops[j]?).bind (·.dst) = some t → ∀ sl, s.tmps[t]? = some (some sl) → sl.rel ρ β (a.tmps.getD t Go.undef) ∧ t < a.tmps.size)
    (hK : ∀ sl β' W' w' u, st.s.tmps = (s.put o.dst sl).tmps → sl.rel ρ β' u → PMem C B w0 ρ β' W' (fun k => if k ∈ wrH s.heap st.s.heap then st.s.heap[k]? else H k) w' → Ext β β' → (∀ k, (k < s.heap.length ∨ st.s.heap.length ≤ k) → β k = none → β' k = none) → (∀ k, s.heap.length ≤ k → k < st.s.heap.length → ∃ b, β' k = some b) → K' (a.put o.dst u) w') :
    if Region.wanted o (yielded ops a.tmps) then o.wp P a w K' Q else K' (a.put o.dst Go.undef) w := by
  rw [anyF_eq] at hq
  simp only at hq
  generalize hM : ({ s with heap := maskH fs s.heap } : S) = M at hq
  have hMl : M.heap.length = s.heap.length := by rw [← hM]; simp [maskH_len]
  have hMg : ∀ k e, M.heap[k]? = some e → e.body ≠ .gone → k ∈ fs ∧ s.heap[k]? = some e := fun k e hk he => by
    rw [← hM] at hk
    simp only [maskH_get, Option.map_eq_some_iff] at hk
    obtain ⟨e0, h0, rfl⟩ := hk
    by_cases hc : fs.contains k = true
    · rw [if_pos hc] at he ⊢
      exact ⟨List.contains_iff_mem.1 hc, h0⟩
    · rw [if_neg hc] at he
      exact absurd rfl he
  have hh : ∀ k e b, M.heap[k]? = some e → β k = some b → EOk ρ β W w b e := fun k e b hk hb => by
    by_cases he : e.body = .gone
    · exact EOk_gone he
    · obtain ⟨h1, h2⟩ := hMg k e hk he
      have hlt := (List.getElem?_eq_some_iff.1 h2).1
      exact m.heap k e b (by rw [hfs k h1 hlt]; exact h2) hb
  have hfM : M.factsOk ρ := by rw [← hM]; exact hf
  have hopM : ∀ x ∈ o.op.operands.toList, OpdOk ρ β M a x := by rw [← hM]; exact hop
  have hgdM : ∀ j b t, o.guard = some (j, b) → (ops[j]?).bind (·.dst) = some t → ∀ sl, M.tmps[t]? = some (some sl) → sl.rel ρ β (a.tmps.getD t Go.undef) ∧ t < a.tmps.size := by rw [← hM]; exact hgd
  split at hq
  · -- old memory stays
    rename_i st0 hq0
    obtain ⟨_, rfl⟩ := Prod.mk.inj (Option.some.inj hq)
    simp only at hnd hcall hnone hK
    obtain ⟨es, ks0, sl0, sh⟩ := qstep_shape hq0
    rw [mergeH_len] at hnone hK
    have hl : st0.s.heap.length = s.heap.length + es.length := by rw [sh.heap]; simp [hMl]
    have hmg : ∀ k, s.heap.length ≤ k → (mergeH fs s.heap st0.s.heap)[k]? = st0.s.heap[k]? := fun k hk => by
      rw [mergeH_get, List.getElem?_eq_none hk]; cases st0.s.heap[k]? <;> rfl
    have hm2 : PMem C B w0 ρ β W (fun k => if s.heap.length ≤ k ∧ k < st0.s.heap.length then st0.s.heap[k]? else H k) w := m.congr fun k b hb => if_neg fun hc => by rw [hnone k hc.1 hc.2] at hb; cases hb
    refine head_step hC hΓ hq0 hnd hm2 (by rw [show M.ks = s.ks by rw [← hM]]; exact hcall) hh (fun k e hk he => ?_) (by rw [hMl]; exact hnone) hfM hopM hgdM fun sl β' W' w' u htm hrel hl' => ?_
    · rw [hMl] at hk
      rw [if_pos ⟨hk, (List.getElem?_eq_some_iff.1 he).1⟩]; exact he
    · rw [hMl] at hl'
      refine hK sl β' W' w' u (by rw [htm]; exact put_tmps_eq _ _ _ _ (by rw [← hM])) hrel (hl'.toPMem.congr fun k b hb => ?_) hl'.ext (fun k hk h => by rw [hl'.same k hk]; exact h) hl'.new
      by_cases hk : s.heap.length ≤ k ∧ k < st0.s.heap.length
      · rw [if_pos hk, if_pos (wrH_mem.2 ⟨st0.s.heap[k], by rw [hmg k hk.1]; exact List.getElem?_eq_getElem hk.2, by rw [List.getElem?_eq_none hk.1]; simp⟩), hmg k hk.1]
      · rw [if_neg hk]
        have hnw : k ∉ wrH s.heap (mergeH fs s.heap st0.s.heap) := fun hw => by
          obtain ⟨n, h1, h2⟩ := wrH_mem.1 hw
          have hk2 : k < st0.s.heap.length := by have := (List.getElem?_eq_some_iff.1 h1).1; rwa [mergeH_len] at this
          have hk3 : k < s.heap.length := by omega
          rw [mergeH_get, sh.heap, List.getElem?_append_left (by omega), ← hM] at h1
          simp only [maskH_get, List.getElem?_eq_getElem hk3, Option.map_some] at h1
          obtain rfl := Option.some.inj h1
          apply h2
          rw [List.getElem?_eq_getElem hk3]
          by_cases hc : fs.contains k = true
          · rw [if_pos hc, if_pos hc]
          · rw [if_neg hc]
        rw [if_neg hnw]
  · split at hq
    · rename_i nd s' hq0
      obtain ⟨_, rfl⟩ := Prod.mk.inj (Option.some.inj hq)
      simp only at hnd hnone hK
      have hnd' : ∀ x ∈ nd, x.B ρ = true := fun x hx => by
        by_cases hc : s.holds (.bl true) x = true
        · exact S.holds_B hf rfl hc
        · exact hnd x (List.mem_filter.2 ⟨hx, by simpa using hc⟩)
      rw [mergeH_len] at hnone hK
      have hmo : ∀ k, k < s.heap.length → k ∉ fs → k < s'.heap.length → (mergeH fs s.heap s'.heap)[k]? = s.heap[k]? := fun k hk hkf hk2 => by
        rw [mergeH_get, List.getElem?_eq_getElem hk, List.getElem?_eq_getElem hk2, Option.map_some]
        simp only
        rw [if_neg (fun h => hkf (List.contains_iff_mem.1 h))]
      have hmf : ∀ k, (k ∈ fs ∨ s.heap.length ≤ k) → (mergeH fs s.heap s'.heap)[k]? = s'.heap[k]? := fun k hk => by
        rw [mergeH_get]
        cases hs : s'.heap[k]? with
        | none => rfl
        | some n =>
          simp only [Option.map_some]
          cases ho : s.heap[k]? with
          | none => rfl
          | some o =>
            simp only
            rcases hk with hk | hk
            · rw [if_pos (List.contains_iff_mem.2 hk)]
            · rw [List.getElem?_eq_none hk] at ho; cases ho
      -- how the memory behind the step reads in the merged heap
      have fin : ∀ k (x : Option HE), k < s.heap.length → k ∈ fs → s'.heap[k]? = x → (if k ∈ wrH s.heap (mergeH fs s.heap s'.heap) then (mergeH fs s.heap s'.heap)[k]? else H k) = x := fun k x hk hkf hx => by
        by_cases hw : k ∈ wrH s.heap (mergeH fs s.heap s'.heap)
        · rw [if_pos hw, hmf k (.inl hkf)]; exact hx
        · rw [if_neg hw, hfs k hkf hk]
          cases hs : s'.heap[k]? with
          | none =>
            rw [hs] at hx
            rw [← hx]
            exfalso
            have := List.getElem?_eq_none_iff.1 hs
            have hle : s.heap.length ≤ s'.heap.length := by
              obtain ⟨s1, sl, rfl, h1⟩ := estep_eq hq0
              rw [put_heap]
              rcases h1 with ⟨_, k, bd, rfl⟩ | ⟨_, u, e, rfl⟩
              · simp [S.setBody, setF_eq, hMl]
              · simp [S.add_eq, spend_len, hMl]
            omega
          | some n =>
            rw [hs] at hx
            rw [← hx]
            by_cases ho : s.heap[k]? = some n
            · exact ho
            · exact absurd (wrH_mem.2 ⟨n, by rw [hmf k (.inl hkf)]; exact hs, ho⟩) hw
      have fin2 : ∀ k, k < s.heap.length → (k ∉ fs ∨ s'.heap[k]? = M.heap[k]?) → k < s'.heap.length → (if k ∈ wrH s.heap (mergeH fs s.heap s'.heap) then (mergeH fs s.heap s'.heap)[k]? else H k) = H k := fun k hk hkf hk2 => by
        refine if_neg fun hw => ?_
        obtain ⟨n, h1, h2⟩ := wrH_mem.1 hw
        by_cases hkf2 : k ∈ fs
        · rcases hkf with hkf | hkf
          · exact hkf hkf2
          · rw [hmf k (.inl hkf2), hkf, ← hM] at h1
            simp only [maskH_get, List.getElem?_eq_getElem hk, Option.map_some] at h1
            rw [if_pos (List.contains_iff_mem.2 hkf2)] at h1
            rw [List.getElem?_eq_getElem hk] at h2
            exact h2 h1
        · rw [hmo k hk hkf2 hk2] at h1; exact h2 h1
      rcases estep_op hq0 with ⟨t, p, x, ho⟩ | ⟨cl, ho⟩
      · obtain ⟨hw, w', k0, bd, hrun, rfl, ⟨e0, he0, hg0⟩, hm⟩ := store_any (ops := ops) hC ho hq0 m hfM hh hopM hnd'
        rw [hw]
        simp only [if_true]
        unfold Oper.wp
        rw [hrun, Oper.upon_skip]
        obtain ⟨hk0f, hk0⟩ := hMg k0 e0 he0 hg0
        have hk0l := (List.getElem?_eq_some_iff.1 hk0).1
        simp only [put_heap] at hK fin fin2
        have hsl : (M.setBody k0 bd).heap.length = s.heap.length := by simp [S.setBody, setF_eq, hMl]
        refine hK ⟨.bl true, .undef⟩ β W w' Go.undef (put_tmps_eq _ _ _ _ (by rw [← hM]; rfl)) ⟨fun _ => rfl, fun _ => rfl⟩ (hm.congr fun k b hb => ?_) (Ext.refl _) (fun _ _ h => h) (fun k h1 h2 => by omega)
        by_cases hk : k = k0
        · subst hk
          rw [if_pos rfl]
          exact fin k _ hk0l hk0f (by simp [S.setBody, setF_eq, List.getElem?_set, hMl, hk0l])
        · rw [if_neg hk]
          rcases Nat.lt_or_ge k s.heap.length with hlt | hge
          · exact fin2 k hlt (.inr (by simp only [S.setBody, setF_eq, List.getElem?_set]; rw [if_neg (fun h => hk h.symm)])) (by omega)
          · refine if_neg fun hw => ?_
            obtain ⟨n, h1, _⟩ := wrH_mem.1 hw
            have := (List.getElem?_eq_some_iff.1 h1).1
            rw [mergeH_len] at this
            omega
      · have hMn : β M.heap.length = none := by
          obtain ⟨s1, sl, hs1, h1⟩ := estep_eq hq0
          refine hnone _ (by omega) ?_
          rcases h1 with ⟨⟨_, _, _, hst⟩, _⟩ | ⟨_, u, e, rfl⟩
          · rw [ho] at hst; cases hst
          · rw [hs1, put_heap]; simp [S.add_eq, spend_len]
        obtain ⟨hw, u, w', β', W', used, e, sl, hrun, rfl, hsl, hus, hm, hx, hnn, hb⟩ := append_any (ops := ops) hC ho hq0 m hfM hh hMn hopM hnd'
        rw [hw]
        simp only [if_true]
        unfold Oper.wp
        rw [hrun, Oper.upon_value]
        rw [hMl] at hm hnn hb
        simp only [put_heap] at hK fin fin2 hmf
        have hsl' : ((M.spend used).add e).heap.length = s.heap.length + 1 := by simp [S.add_eq, spend_len, hMl]
        have hget : ∀ k, k < s.heap.length → ((M.spend used).add e).heap[k]? = if used = some k then some (ent true .gone) else M.heap[k]? := fun k hk => by
          simp only [S.add_eq]
          rw [List.getElem?_append_left (by rw [spend_len]; omega)]
          cases used with
          | none => rw [if_neg (fun h => by cases h)]; rfl
          | some j =>
            simp only [S.spend, S.setBody, setF_eq, List.getElem?_set]
            by_cases h : j = k
            · subst h; simp [hMl, hk]
            · rw [if_neg h, if_neg (fun h' => h (Option.some.inj h'))]
        refine hK sl β' W' w' u (put_tmps_eq _ _ _ _ (by rw [← hM]; cases used <;> rfl)) hsl (hm.congr fun k b hb' => ?_) hx (fun k hk h => hnn k (fun h' => by rw [h', hsl'] at hk; omega) h) (fun k h1 h2 => by
          have : k = s.heap.length := by omega
          rw [this]; exact hb)
        rcases Nat.lt_trichotomy k s.heap.length with hlt | heq | hgt
        · by_cases hu : used = some k
          · have e1 : appH s.heap.length used e H k = some (ent true .gone) := by unfold appH; rw [if_neg (by omega), if_pos hu]
            obtain ⟨e0, he0, hg0⟩ := hus k hu
            rw [e1]
            exact fin k _ hlt (hMg k e0 he0 hg0).1 (by rw [hget k hlt, if_pos hu])
          · have e1 : appH s.heap.length used e H k = H k := by unfold appH; rw [if_neg (by omega), if_neg hu]
            rw [e1]
            exact fin2 k hlt (.inr (by rw [hget k hlt, if_neg hu])) (by omega)
        · have e1 : appH s.heap.length used e H k = some e := by unfold appH; rw [if_pos heq]
          rw [e1]
          have h1 : (mergeH fs s.heap ((M.spend used).add e).heap)[k]? = some e := by
            rw [hmf _ (.inr (by omega)), heq]
            simp [S.add_eq, spend_len, ← hMl]
          rw [if_pos (wrH_mem.2 ⟨e, h1, by rw [List.getElem?_eq_none (by omega)]; simp⟩)]
          exact h1
        · have e1 : appH s.heap.length used e H k = H k := by
            unfold appH
            rw [if_neg (by omega), if_neg (fun hu => by
              obtain ⟨e0, he0, _⟩ := hus k hu
              have := (List.getElem?_eq_some_iff.1 he0).1
              omega)]
          rw [e1]
          refine if_neg fun hw => ?_
          obtain ⟨n, h1, _⟩ := wrH_mem.1 hw
          have := (List.getElem?_eq_some_iff.1 h1).1
          rw [mergeH_len] at this
          omega
    · cases hq
theorem anyF_fs {s : S} {ops : Array Oper} {o : Oper} {fs fs' : List Nat} {st : St} (hq : anyF C s ops o fs = some (fs', st)) : fs' = fs := by
  rw [anyF_eq] at hq
  simp only at hq
  split at hq
  · exact (Prod.mk.inj (Option.some.inj hq)).1.symm
  · split at hq
    · exact (Prod.mk.inj (Option.some.inj hq)).1.symm
    · cases hq
theorem maskH_all {fs : List Nat} {l : List HE} (h : ∀ k, k < l.length → k ∈ fs) : maskH fs l = l := by
  apply List.ext_getElem?
  intro k
  rw [maskH_get]
  rcases Nat.lt_or_ge k l.length with hk | hk
  · rw [List.getElem?_eq_getElem hk, Option.map_some, if_pos (List.contains_iff_mem.2 (h k hk))]
  · rw [List.getElem?_eq_none hk]; rfl
theorem mergeH_all {fs : List Nat} {l new : List HE} (h : ∀ k, k < l.length → k ∈ fs) : mergeH fs l new = new := by
  apply List.ext_getElem?
  intro k
  rw [mergeH_get]
  cases hn : new[k]? with
  | none => rfl
  | some n =>
    rw [Option.map_some]
    split
    · rename_i o ho
      rw [if_pos (List.contains_iff_mem.2 (h k (List.getElem?_eq_some_iff.1 ho).1))]
    · rfl
/-- a step that writes, with everything in sight -/
theorem anyF_all {s s' : S} {ops : Array Oper} {o : Oper} {fs : List Nat} {nd : List X} (h : ∀ k, k < s.heap.length → k ∈ fs) (hq : qstep C s ops o = none) (he : estep C s o = some (nd, s')) :
    anyF C s ops o fs = some (fs, ⟨nd.filter fun x => !s.holds (.bl true) x, none, s'.with (nd.filter fun x => !s.holds (.bl true) x)⟩) := by
  rw [anyF_eq]
  have e : ({ s with heap := maskH fs s.heap } : S) = s := by rw [maskH_all h]
  simp only [e, hq, he, mergeH_all h]
  rfl
theorem clo_den {n : Nat} {x : X} (h : cloB n x = true) (hn : n ≤ ρ.length) (δ : List AV) : x.den (ρ ++ δ) = x.den ρ := by
  have h : x.sub n .var = some x := X.sub_ub (Nat.le_of_ble_eq_true h)
  exact X.sub_den (ρ' := ρ ++ δ) (ρ := ρ) (fun k hk => by
    have : k < ρ.length := by omega
    simp [X.den, List.getD_eq_getElem?_getD, List.getElem?_append_left this]) h
end
end Go.Proofs.Ytpbpmabnmakdoaa.Vc
/- The symbolic executor: a head in whatever order, carried through. -/
namespace Go.Proofs.Ytpbpmabnmakdoaa.Vc
noncomputable section
open Go Go.RowKit
variable {ρ ρ' : List AV} {β β' : Mp} {W W' : Nat → Prop} {w w' : World} {P : Program} {C : Cfg} {B : Nat} {w0 : World}
variable {Γ : FuncId → Con} {Qd : List AV → Prop} {ctx : List (List AV → Prop)}
def unl (l : Array Bool) : Nat → Nat
  | 0 => 0
  | n + 1 => unl l n + (if l.getD n true = true then 0 else 1)
theorem unl_zero {l : Array Bool} : ∀ {n : Nat}, unl l n = 0 → ∀ i, i < n → l.getD i true = true
  | 0, _, i, h => by omega
  | n + 1, h, i, hi => by
    simp only [unl] at h
    rcases Nat.lt_or_ge i n with h1 | h1
    · exact unl_zero (by omega) i h1
    · obtain rfl : i = n := by omega
      cases hc : l.getD i true with
      | true => rfl
      | false => rw [hc] at h; simp at h
theorem unl_set {l : Array Bool} {i : Nat} (hf : l.getD i true = false) : ∀ {n : Nat}, unl (l.setIfInBounds i true) n + (if i < n then 1 else 0) = unl l n
  | 0 => by simp [unl]
  | n + 1 => by
    have ih := unl_set hf (n := n)
    have hs : i < l.size := by
      rcases Nat.lt_or_ge i l.size with h | h
      · exact h
      · rw [Array.getD_eq_getD_getElem?, Array.getElem?_eq_none h] at hf; cases hf
    have e := set_getD l i n true
    simp only [unl]
    rw [e]
    by_cases hn : n = i
    · subst hn
      have h1 : (if n = n ∧ n < l.size then true else l.getD n true) = true := if_pos ⟨rfl, hs⟩
      rw [if_neg (Nat.lt_irrefl n)] at ih
      rw [h1, hf]
      simp
      omega
    · have h1 : (if n = i ∧ i < l.size then true else l.getD n true) = l.getD n true := if_neg (fun h => hn h.1)
      rw [h1]
      by_cases h2 : i < n
      · rw [if_pos h2] at ih; rw [if_pos (show i < n + 1 by omega)]; omega
      · rw [if_neg h2] at ih; rw [if_neg (show ¬ i < n + 1 by omega)]; omega

/-! the states between the operations, in the order of the text -/
def stAt : S → List (List Nat × St) → Nat → S
  | s, _, 0 => s
  | _, x :: L, i + 1 => stAt x.2.s L i
  | s, [], _ + 1 => s
theorem headRun_get {ops : Array Oper} : ∀ {l : List Oper} {s : S} {L : List (List Nat × St)}, headRun C ops l s = some L → L.length = l.length ∧ ∀ (i : Nat) o, l[i]? = some o → ∃ x, L[i]? = some x ∧ anyStep C (stAt s L i) ops o = some x ∧ x.2.s = stAt s L (i + 1)
  | [], s, L, h => by
    simp only [headRun] at h
    obtain rfl := Option.some.inj h
    exact ⟨rfl, fun i o h => by simp at h⟩
  | o :: l, s, L, h => by
    simp only [headRun] at h
    split at h
    · cases h
    · rename_i x hx
      split at h
      · cases h
      · rename_i L' hL
        obtain rfl := Option.some.inj h
        obtain ⟨h1, h2⟩ := headRun_get hL
        refine ⟨by simp [h1], fun i o' ho => ?_⟩
        cases i with
        | zero =>
          simp at ho; subst ho
          exact ⟨x, rfl, hx, by cases L' <;> rfl⟩
        | succ i => simpa [stAt] using h2 i o' (by simpa using ho)
theorem infos_get {ops : Array Oper} : ∀ {l : List Oper} {s : S} {L : List (List Nat × St)}, headRun C ops l s = some L → ∀ (i : Nat) o x, l[i]? = some o → L[i]? = some x → (infosOf ops l s L)[i]? = some ⟨x.1, wrH (stAt s L i).heap x.2.s.heap, usesOf ops o, o.dst⟩
  | [], s, L, _, i, o, x, h, _ => by simp at h
  | o0 :: l, s, L, hr, i, o, x, h, h' => by
    simp only [headRun] at hr
    split at hr
    · cases hr
    · rename_i x0 hx0
      split at hr
      · cases hr
      · rename_i L' hL
        obtain rfl := Option.some.inj hr
        cases i with
        | zero =>
          simp at h h'
          subst h h'
          have hw : (if pureKind o0 then [] else wrG x0.1 s.heap x0.2.s.heap 0) = wrH s.heap x0.2.s.heap := by
            unfold anyStep at hx0
            rw [anyF_eq] at hx0
            by_cases hp : pureKind o0 = true
            · rw [if_pos hp]
              split at hx0
              · rename_i st hst
                obtain rfl := Option.some.inj hx0
                show [] = wrH s.heap (mergeH _ s.heap st.s.heap)
                rw [qstep_pure hp hst, merge_mask, wrH_self]
              · split at hx0
                · rename_i nd s' he
                  have h1 := estep_op he
                  unfold pureKind at hp
                  rcases h1 with ⟨t, p, x, h1⟩ | ⟨c, h1⟩
                  · rw [h1] at hp; cases hp
                  · unfold estep at he
                    rw [h1] at he hp
                    split at he
                    · cases he
                    · split at he
                      · rename_i heq
                        cases heq
                      · rename_i heq
                        cases heq
                        cases hp
                      · cases he
                · cases hx0
            · rw [if_neg hp]
              split at hx0
              · obtain rfl := Option.some.inj hx0
                exact wrG_merge _ _ _
              · split at hx0
                · obtain rfl := Option.some.inj hx0
                  exact wrG_merge _ _ _
                · cases hx0
          show some (Info.mk x0.1 (if pureKind o0 then [] else wrG x0.1 s.heap x0.2.s.heap 0) (usesOf ops o0) o0.dst) = _
          rw [hw]
          rfl
        | succ i => simpa [infosOf, stAt] using infos_get hL i o x (by simpa using h) (by simpa using h')
/-- one operation waits for another, directly or through others -/
inductive Bef (l : List Oper) : Nat → Nat → Prop
  | one {j : Nat} {o : Oper} {e : Edge} : l[j]? = some o → e ∈ o.after → Region.binds .any e = true → Bef l e.on j
  | step {i j : Nat} {o : Oper} {e : Edge} : l[j]? = some o → e ∈ o.after → Region.binds .any e = true → Bef l i e.on → Bef l i j
theorem mem_addP {x : Nat} : ∀ {l acc : List Nat}, x ∈ addP acc l → x ∈ acc ∨ x ∈ l
  | [], _, h => .inl h
  | y :: l, acc, h => by
    unfold addP at h
    split at h
    · rcases mem_addP h with h | h
      · exact .inl h
      · exact .inr (List.mem_cons_of_mem _ h)
    · rcases mem_addP h with h | h
      · rcases List.mem_cons.1 h with rfl | h
        · exact .inr (List.mem_cons_self ..)
        · exact .inl h
      · exact .inr (List.mem_cons_of_mem _ h)
theorem mem_predsOne {x : Nat} {acc : List (List Nat)} : ∀ {l : List Edge} {p : List Nat}, x ∈ predsOne acc l p → x ∈ p ∨ ∃ e ∈ l, Region.binds .any e = true ∧ (x = e.on ∨ x ∈ (acc[e.on]?).getD [])
  | [], _, h => .inl h
  | e :: l, p, h => by
    unfold predsOne at h
    split at h
    · rename_i hb
      split at h
      · rcases mem_predsOne h with h | ⟨e', he, h⟩
        · exact .inl h
        · exact .inr ⟨e', List.mem_cons_of_mem _ he, h⟩
      · rcases mem_predsOne h with h | ⟨e', he, h⟩
        · rcases mem_addP h with h | h
          · rcases List.mem_cons.1 h with h | h
            · exact .inr ⟨e, List.mem_cons_self .., hb, .inl h⟩
            · exact .inl h
          · exact .inr ⟨e, List.mem_cons_self .., hb, .inr h⟩
        · exact .inr ⟨e', List.mem_cons_of_mem _ he, h⟩
    · rcases mem_predsOne h with h | ⟨e', he, h⟩
      · exact .inl h
      · exact .inr ⟨e', List.mem_cons_of_mem _ he, h⟩
theorem preds_bef (l0 : List Oper) : ∀ (l : List Oper) (acc : List (List Nat)), (∀ k, l[k]? = l0[acc.length + k]?) → (∀ j p, acc[j]? = some p → ∀ x ∈ p, Bef l0 x j) → ∀ j p, (predsOf acc l)[j]? = some p → ∀ x ∈ p, Bef l0 x j
  | [], acc, _, h, j, p, hp, x, hx => h j p hp x hx
  | o :: l, acc, hl, h, j, p, hp, x, hx => by
    have ho : l0[acc.length]? = some o := by simpa using (hl 0).symm
    refine preds_bef l0 l _ (fun k => ?_) (fun j p hp x hx => ?_) j p hp x hx
    · have := hl (k + 1)
      simpa [Nat.add_assoc, Nat.add_comm 1 k] using this
    · rw [List.getElem?_append] at hp
      split at hp
      · exact h j p hp x hx
      · rename_i hge
        have hj : j = acc.length := by
          have := (List.getElem?_eq_some_iff.1 hp).1
          simp at this; omega
        subst hj
        simp only [Nat.sub_self, List.getElem?_cons_zero, Option.some.injEq] at hp
        subst hp
        rcases mem_predsOne hx with hx | ⟨e, he, hb, hx⟩
        · cases hx
        · have he : e ∈ o.after := by simpa using he
          rcases hx with rfl | hx
          · exact .one ho he hb
          · cases hq : acc[e.on]? with
            | none => simp [hq] at hx
            | some q =>
              rw [hq] at hx
              exact .step ho he hb (h _ q hq x hx)
theorem order_bef {l : List Oper} {is : List Info} (h : orderB (predsOf [] l) is = true) {i j : Nat} {a b : Info} (hij : i < j) (ha : is[i]? = some a) (hb : is[j]? = some b) (hc : clash a b = true) : Bef l i j := by
  unfold orderB at h
  have z : ∀ (i : Nat) (o : Info), is[i]? = some o → (o, i) ∈ is.zipIdx := fun i o ho => by
    rw [List.mem_zipIdx_iff_getElem?]; simpa using ho
  simp only [List.all_eq_true, Bool.or_eq_true, Bool.not_eq_true', Bool.and_eq_false_iff, decide_eq_false_iff_not] at h
  have h1 := h _ (z j b hb) _ (z i a ha)
  rcases h1 with (h1 | h1) | h1
  · exact absurd hij h1
  · rw [hc] at h1; cases h1
  · simp only at h1
    cases hp : (predsOf [] l)[j]? with
    | none => rw [hp] at h1; simp at h1
    | some p =>
      rw [hp] at h1
      exact preds_bef l l [] (by simp) (fun j p h => by simp at h) j p hp i (List.contains_iff_mem.1 h1)
/-- the last operation listed that p holds of, counted from 1 -/
def lastW (p : Nat → Bool) (l : Array Bool) : Nat → Nat
  | 0 => 0
  | n + 1 => if (l.getD n true && p n) = true then n + 1 else lastW p l n
theorem lastW_spec (p : Nat → Bool) (l : Array Bool) : ∀ n, lastW p l n ≤ n ∧ (∀ j, lastW p l n ≤ j → j < n → l.getD j true = true → p j = false) ∧ (lastW p l n = 0 ∨ ∃ v, lastW p l n = v + 1 ∧ l.getD v true = true ∧ p v = true)
  | 0 => ⟨Nat.le_refl _, fun j _ h => by omega, .inl rfl⟩
  | n + 1 => by
    obtain ⟨h1, h2, h3⟩ := lastW_spec p l n
    unfold lastW
    split
    · rename_i hc
      simp only [Bool.and_eq_true] at hc
      exact ⟨Nat.le_refl _, fun j ha hb => by omega, .inr ⟨n, rfl, hc.1, hc.2⟩⟩
    · rename_i hc
      refine ⟨by omega, fun j ha hb hl => ?_, h3⟩
      by_cases hj : j = n
      · subst hj
        cases hp : p j
        · rfl
        · rw [hl, hp] at hc; exact absurd rfl hc
      · exact h2 j ha (by omega) hl
theorem lastW_eq {p : Nat → Bool} {l : Array Bool} {n v : Nat} (hv : v ≤ n) (h1 : ∀ j, v ≤ j → j < n → l.getD j true = true → p j = false) (h2 : v = 0 ∨ ∃ u, v = u + 1 ∧ l.getD u true = true ∧ p u = true) : lastW p l n = v := by
  obtain ⟨a1, a2, a3⟩ := lastW_spec p l n
  rcases Nat.lt_trichotomy (lastW p l n) v with h | h | h
  · rcases h2 with rfl | ⟨u, rfl, b1, b2⟩
    · omega
    · have := a2 u (by omega) (by omega) b1
      rw [b2] at this; cases this
  · exact h
  · rcases a3 with h0 | ⟨u, hu, b1, b2⟩
    · omega
    · have := h1 u (by omega) (by omega) b1
      rw [b2] at this; cases this
/-- a step that looks only -/
def Look (C : Cfg) (ops : Array Oper) (s : S) (o : Oper) (fs : List Nat) (st : St) : Prop := qstep C s ops o = some st ∧ st.call = none ∧ st.s.heap = s.heap ∧ ∀ k, k < s.heap.length → k ∈ fs
theorem step_shape {s : S} {ops : Array Oper} {o : Oper} {fs : List Nat} {st : St} (h : anyF C s ops o fs = some (fs, st) ∨ Look C ops s o fs st) : ∃ ks sl, AShape s o st ks sl := by
  rcases h with h | ⟨h, hc, hh, _⟩
  · exact any_shape h
  · obtain ⟨es, ks, sl, sh⟩ := qstep_shape h
    exact ⟨ks, sl, by rw [hh]; exact Nat.le_refl _, sh.ks, sh.tmps, sh.facts, sh.lvl, sh.call, sh.nocall⟩
theorem some_step (hC : C.Ok P) (hΓ : ConsOk P C Γ B w0) {s : S} {a : Act} {ops : Array Oper} {o : Oper} {K' : Act → World → Prop} {Q : Exit → Act → World → Prop} {fs : List Nat} {st : St} {H : Nat → Option HE} (hq : anyF C s ops o fs = some (fs, st) ∨ Look C ops s o fs st) (hnd : ∀ x ∈ st.needs, x.B ρ = true) (m : PMem C B w0 ρ β W H w)
    (hcall : ∀ g f aks ks xs, st.call = some (g, f, aks, ks, xs) → (g.B ρ = true → (Γ f).pre (fixL aks (xs.map (X.den ρ)))) ∧ Piece ρ s.ks.length (fixL ks ((Γ f).out (fixL aks (xs.map (X.den ρ))))))
    (hfs : ∀ k, k ∈ fs → k < s.heap.length → H k = s.heap[k]?) (hnone : ∀ k, s.heap.length ≤ k → k < st.s.heap.length → β k = none) (hf : s.factsOk ρ)
    (hop : ∀ x ∈ o.op.operands.toList, OpdOk ρ β s a x)
    (hgd : ∀ j b t, o.guard = some (j, b) → (ops[j]?).bind (·.dst) = some t → ∀ sl, s.tmps[t]? = some (some sl) → sl.rel ρ β (a.tmps.getD t Go.undef) ∧ t < a.tmps.size)
    (hK : ∀ sl β' W' w' u, st.s.tmps = (s.put o.dst sl).tmps → sl.rel ρ β' u → PMem C B w0 ρ β' W' (fun k => if k ∈ wrH s.heap st.s.heap then st.s.heap[k]? else H k) w' → Ext β β' → (∀ k, (k < s.heap.length ∨ st.s.heap.length ≤ k) → β k = none → β' k = none) → (∀ k, s.heap.length ≤ k → k < st.s.heap.length → ∃ b, β' k = some b) → K' (a.put o.dst u) w') :
    if Region.wanted o (yielded ops a.tmps) then o.wp P a w K' Q else K' (a.put o.dst Go.undef) w := by
  rcases hq with hq | ⟨hq, hc, hh, hall⟩
  · exact any_step hC hΓ hq hnd m hcall hfs hnone hf hop hgd hK
  · refine head_step hC hΓ hq hnd m hcall (fun k e b hk hb => m.heap k e b (by
      have hlt := (List.getElem?_eq_some_iff.1 hk).1
      rw [hfs k (hall k hlt) hlt]; exact hk) hb) (fun k e hk he => by
      rw [hh] at he
      have := (List.getElem?_eq_some_iff.1 he).1
      omega) hnone hf hop hgd fun sl β' W' w' u htm hrel hl => hK sl β' W' w' u htm hrel (hl.toPMem.congr fun k b _ => ?_) hl.ext (fun k hk h => by rw [hl.same k hk]; exact h) hl.new
    rw [if_neg]
    rw [hh]
    intro hw
    obtain ⟨n, h1, h2⟩ := wrH_mem.1 hw
    exact h2 h1
def HStep (C : Cfg) (ops : Array Oper) (Γ : FuncId → Con) (ρ : List AV) (s : S) (o : Oper) (s' : S) (fs : List Nat) : Prop :=
  ∃ st, (anyF C s ops o fs = some (fs, st) ∨ Look C ops s o fs st) ∧ st.s = s' ∧ (∀ x ∈ st.needs, x.B ρ = true) ∧
    ∀ g f aks ks xs, st.call = some (g, f, aks, ks, xs) → (g.B ρ = true → (Γ f).pre (fixL aks (xs.map (X.den ρ)))) ∧ Piece ρ s.ks.length (fixL ks ((Γ f).out (fixL aks (xs.map (X.den ρ)))))
theorem head_den {ops : Array Oper} : ∀ (l : List Oper) (L : List (List Nat × St)) (s : S) (ρ : List AV) (K : S → Tree), headRun C ops l s = some L → closedB s L = true → KT s.ks ρ → (emitHead K s L).den Γ Qd ρ ctx →
    ∃ δ : List AV, KT (stAt s L l.length).ks (ρ ++ δ) ∧ (∀ i o x, l[i]? = some o → L[i]? = some x → HStep C ops Γ (ρ ++ δ) (stAt s L i) o (stAt s L (i + 1)) x.1) ∧ (K (stAt s L l.length)).den Γ Qd (ρ ++ δ) ctx
  | [], L, s, ρ, K, hr, _, hk, h => by
    simp only [headRun] at hr
    obtain rfl := Option.some.inj hr
    exact ⟨[], by simpa [stAt] using hk, fun i o x h => by simp at h, by simpa [emitHead, stAt] using h⟩
  | o :: l, L, s, ρ, K, hr, hc, hk, h => by
    simp only [headRun] at hr
    split at hr
    · cases hr
    · rename_i x hx
      split at hr
      · cases hr
      · rename_i L' hL
        obtain rfl := Option.some.inj hr
        obtain ⟨fs, st⟩ := x
        simp only [closedB, Bool.and_eq_true] at hc
        obtain ⟨hcl, hc'⟩ := hc
        simp only [St.closed, Bool.and_eq_true, List.all_eq_true] at hcl
        obtain ⟨hc1, hc2⟩ := hcl
        simp only [emitHead] at h
        obtain ⟨hnd, h⟩ := needAll_den h
        obtain ⟨vks, sl, sh⟩ := any_shape hx
        have hx : anyF C s ops o fs = some (fs, st) := by
          unfold anyStep at hx
          have h2 := anyF_fs hx
          rw [← h2] at hx; exact hx
        have hle : s.ks.length ≤ ρ.length := by rw [hk.1]; exact Nat.le_refl _
        have hnd' : ∀ δ, ∀ x ∈ st.needs, x.B (ρ ++ δ) = true := fun δ x hx => by
          show (x.den _).bool = true
          rw [clo_den (hc1 x hx) hle]; exact hnd x hx
        split at h
        · rename_i hn
          have hn : st.call = none := hn
          have hks : st.s.ks = s.ks := by rw [sh.ks, sh.nocall hn]; simp
          obtain ⟨δ, h1, h2, h3⟩ := head_den l L' st.s ρ K hL hc' (by rw [hks]; exact hk) h
          refine ⟨δ, h1, fun i o' x' ho hx' => ?_, h3⟩
          cases i with
          | zero =>
            simp at ho hx'
            subst ho hx'
            exact ⟨st, .inl hx, by cases L' <;> rfl, hnd' δ, fun g f aks ks xs hc => (by rw [hn] at hc; cases hc)⟩
          | succ i => exact h2 i o' x' (by simpa using ho) (by simpa using hx')
        · rename_i g f aks ks xs hsome
          have hsome : st.call = some (g, f, aks, ks, xs) := hsome
          obtain ⟨hpre, h⟩ := h
          obtain rfl := sh.call _ _ _ _ _ hsome
          rw [hsome] at hc2
          simp only [Bool.and_eq_true, List.all_eq_true] at hc2
          generalize hF : fixL ks ((Γ f).out (fixL aks (xs.map (X.den ρ)))) = F at h
          have hkF : KT ks F := by rw [← hF]; exact fixL_KT _ _
          obtain ⟨δ, h1, h2, h3⟩ := head_den l L' st.s (ρ ++ F) K hL hc' (by rw [sh.ks]; exact hk.append hkF) h
          rw [List.append_assoc] at h1 h2 h3
          have ex : xs.map (X.den (ρ ++ (F ++ δ))) = xs.map (X.den ρ) := List.map_congr_left fun x hx => clo_den (hc2.2 x hx) hle _
          refine ⟨F ++ δ, h1, fun i o' x' ho hx' => ?_, h3⟩
          cases i with
          | zero =>
            simp at ho hx'
            subst ho hx'
            refine ⟨st, .inl hx, by cases L' <;> rfl, hnd' _, fun g' f' aks' ks' xs' hc => ?_⟩
            rw [hsome] at hc
            cases hc
            rw [ex]
            refine ⟨fun hg => hpre ?_, fun i v hv => ?_⟩
            · have : g.den (ρ ++ (F ++ δ)) = g.den ρ := clo_den hc2.1 hle _
              show (g.den ρ).bool = true
              rw [← this]; exact hg
            · rw [hF] at hv
              have hlt := (List.getElem?_eq_some_iff.1 hv).1
              simp only [stAt]
              rw [← hk.1, List.getD_eq_getElem?_getD, List.getElem?_append_right (by omega), List.getElem?_append_left (by omega), Nat.add_sub_cancel_left, hv]
              rfl
          | succ i => exact h2 i o' x' (by simpa using ho) (by simpa using hx')
/-! the states, one after the other -/
section
variable {ops : Array Oper} {l : List Oper} {T : Nat → S} {F : Nat → List Nat}
/-- the steps in the order of the text -/
def Steps (C : Cfg) (ops : Array Oper) (Γ : FuncId → Con) (ρ : List AV) (l : List Oper) (T : Nat → S) (F : Nat → List Nat) : Prop := ∀ i o, l[i]? = some o → HStep C ops Γ ρ (T i) o (T (i + 1)) (F i)
theorem T_shape (hst : Steps C ops Γ ρ l T F) (i : Nat) (hi : i < l.length) : ∃ vks sl, (T i).heap.length ≤ (T (i + 1)).heap.length ∧ (T (i + 1)).ks = (T i).ks ++ vks ∧ (T (i + 1)).tmps = ((T i).put l[i].dst sl).tmps ∧ ((T i).factsOk ρ → (T (i + 1)).factsOk ρ) ∧ (T (i + 1)).lvl = (T i).lvl := by
  obtain ⟨st, hq, he, hnd, _⟩ := hst i l[i] (List.getElem?_eq_getElem hi)
  obtain ⟨vks, sl, sh⟩ := step_shape hq
  rw [← he]
  exact ⟨vks, sl, sh.len, sh.ks, sh.tmps, fun hf x hx => by rcases sh.facts x hx with h | h; exact hf x h; exact hnd x h, sh.lvl⟩
theorem T_hlen (hst : Steps C ops Γ ρ l T F) {i : Nat} : ∀ d, i + d ≤ l.length → (T i).heap.length ≤ (T (i + d)).heap.length
  | 0, _ => Nat.le_refl _
  | d + 1, h => by
    obtain ⟨_, _, h1, _⟩ := T_shape hst (i + d) (by omega)
    have := T_hlen hst (i := i) d (by omega)
    rw [← Nat.add_assoc]; omega
theorem T_hle (hst : Steps C ops Γ ρ l T F) {i j : Nat} (h : i ≤ j) (hj : j ≤ l.length) : (T i).heap.length ≤ (T j).heap.length := by
  have := T_hlen hst (i := i) (j - i) (by omega)
  rwa [show i + (j - i) = j by omega] at this
theorem T_ks (hst : Steps C ops Γ ρ l T F) : ∀ d, d ≤ l.length → ∃ ks, (T d).ks = (T 0).ks ++ ks
  | 0, _ => ⟨[], by simp⟩
  | d + 1, h => by
    obtain ⟨es, he⟩ := T_ks hst d (by omega)
    obtain ⟨es', _, _, h1, _⟩ := T_shape hst d (by omega)
    exact ⟨es ++ es', by rw [h1, he, List.append_assoc]⟩
theorem T_facts (hst : Steps C ops Γ ρ l T F) (h0 : (T 0).factsOk ρ) : ∀ d, d ≤ l.length → (T d).factsOk ρ
  | 0, _ => h0
  | d + 1, h => by
    obtain ⟨_, _, _, _, _, h1, _⟩ := T_shape hst d (by omega)
    exact h1 (T_facts hst h0 d (by omega))
theorem T_lvl (hst : Steps C ops Γ ρ l T F) : ∀ d, d ≤ l.length → (T d).lvl = (T 0).lvl
  | 0, _ => rfl
  | d + 1, h => by
    obtain ⟨_, _, _, _, _, _, h1⟩ := T_shape hst d (by omega)
    rw [h1, T_lvl hst d (by omega)]
theorem T_len (hst : Steps C ops Γ ρ l T F) : ∀ d, d ≤ l.length → (T d).tmps.length = (T 0).tmps.length
  | 0, _ => rfl
  | d + 1, h => by
    obtain ⟨_, _, _, _, h1, _⟩ := T_shape hst d (by omega)
    rw [h1, put_len, T_len hst d (by omega)]
theorem T_slot (hst : Steps C ops Γ ρ l T F) {i t : Nat} : ∀ d, i + d ≤ l.length → (∀ j, i ≤ j → j < i + d → (l[j]?).bind (·.dst) ≠ some t) → (T (i + d)).tmps[t]? = (T i).tmps[t]?
  | 0, _, _ => rfl
  | d + 1, h, hd => by
    obtain ⟨_, _, _, _, h1, _⟩ := T_shape hst (i + d) (by omega)
    rw [← Nat.add_assoc, h1, put_tmps, if_neg (fun hc => hd (i + d) (by omega) (by omega) (by rw [List.getElem?_eq_getElem (by omega)]; exact hc.1)), T_slot hst d (by omega) (fun j h1 h2 => hd j h1 (by omega))]
theorem T_entry (hst : Steps C ops Γ ρ l T F) {i k : Nat} : ∀ d, i + d ≤ l.length → (∀ j, i ≤ j → j < i + d → k ∉ wrH (T j).heap (T (j + 1)).heap) → (T (i + d)).heap[k]? = (T i).heap[k]?
  | 0, _, _ => rfl
  | d + 1, h, hd => by
    obtain ⟨_, _, h1, _⟩ := T_shape hst (i + d) (by omega)
    rw [← Nat.add_assoc, wrH_not h1 (hd (i + d) (by omega) (by omega)), T_entry hst d (by omega) (fun j h1 h2 => hd j h1 (by omega))]
end
/-- operations that touch the same are in order -/
def Ord (ops : Array Oper) (l : List Oper) (T : Nat → S) (F : Nat → List Nat) : Prop :=
  ∀ i j oi oj, i < j → l[i]? = some oi → l[j]? = some oj → clash ⟨F i, wrH (T i).heap (T (i + 1)).heap, usesOf ops oi, oi.dst⟩ ⟨F j, wrH (T j).heap (T (j + 1)).heap, usesOf ops oj, oj.dst⟩ = true → Bef l i j
def wk (T : Nat → S) (k i : Nat) : Bool := (wrH (T i).heap (T (i + 1)).heap).contains k
def ws (l : List Oper) (t i : Nat) : Bool := decide ((l[i]?).bind (·.dst) = some t)
/-- the entries as they stand -/
def Hv (T : Nat → S) (n : Nat) (listed : Array Bool) (k : Nat) : Option HE := (T (lastW (wk T k) listed n)).heap[k]?
/-- between two operations of a head -/
structure HInv (C : Cfg) (B : Nat) (w0 : World) (ρ : List AV) (β0 : Mp) (T : Nat → S) (l : List Oper) (ds : List Deferred) (listed : Array Bool) (a : Act) (β : Mp) (W : Nat → Prop) (w : World) : Prop extends PMem C B w0 ρ β W (Hv T l.length listed) w where
  clo : ∀ j o, l[j]? = some o → listed.getD j true = true → ∀ e ∈ o.after, Region.binds .any e = true → listed.getD e.on false = true
  done : ∀ i, i < l.length → listed.getD i true = true → ∀ k, (T i).heap.length ≤ k → k < (T (i + 1)).heap.length → ∃ b, β k = some b
  undone : ∀ i, i < l.length → listed.getD i true = false → ∀ k, (T i).heap.length ≤ k → k < (T (i + 1)).heap.length → β k = none
  base : ∀ k, k < (T 0).heap.length → ∃ b, β k = some b
  top : ∀ k, (T l.length).heap.length ≤ k → β k = none
  sz : a.tmps.size = (T 0).tmps.length
  slots : ∀ (t : Nat) sl, (T (lastW (ws l t) listed l.length)).tmps[t]? = some (some sl) → sl.rel ρ β (a.tmps.getD t Go.undef)
  defers : a.defers = ds
  map : ∀ k b, k < (T 0).heap.length → β0 k = some b → ∃ b', β k = some b' ∧ b'.v = b.v
  lsz : listed.size = l.length
section
variable {ops : Array Oper} {l : List Oper} {T : Nat → S} {F : Nat → List Nat} {β0 : Mp} {ds : List Deferred} {a : Act} {listed : Array Bool}
theorem getD_lt {l : Array Bool} {i : Nat} (h : l.getD i false = true) : i < l.size := by
  rcases Nat.lt_or_ge i l.size with h1 | h1
  · exact h1
  · rw [Array.getD_eq_getD_getElem?, Array.getElem?_eq_none h1] at h; cases h
theorem bef_listed (clo : ∀ j o, l[j]? = some o → listed.getD j true = true → ∀ e ∈ o.after, Region.binds .any e = true → listed.getD e.on false = true) {i j : Nat} (h : Bef l i j) : listed.getD j true = true → listed.getD i true = true := by
  induction h with
  | one ho he hb => intro hl; have h1 := clo _ _ ho hl _ he hb; rw [getD_tf (getD_lt h1)]; exact h1
  | step ho he hb _ ih => intro hl; have h1 := clo _ _ ho hl _ he hb; exact ih (by rw [getD_tf (getD_lt h1)]; exact h1)
theorem bef_ready (clo : ∀ j o, l[j]? = some o → listed.getD j true = true → ∀ e ∈ o.after, Region.binds .any e = true → listed.getD e.on false = true) {i j : Nat} (hr : ∀ o, l[j]? = some o → ∀ e ∈ o.after, Region.binds .any e = true → listed.getD e.on false = true) (h : Bef l i j) : listed.getD i true = true := by
  cases h with
  | one ho he hb => have h1 := hr _ ho _ he hb; rw [getD_tf (getD_lt h1)]; exact h1
  | step ho he hb h2 => have h1 := hr _ ho _ he hb; exact bef_listed clo h2 (by rw [getD_tf (getD_lt h1)]; exact h1)
/-- what an operation that is due touches stands as in the order of the text -/
theorem due {p : Nat → Bool} {i : Nat} (clo : ∀ j o, l[j]? = some o → listed.getD j true = true → ∀ e ∈ o.after, Region.binds .any e = true → listed.getD e.on false = true) (hi : i < l.length) (hun : listed.getD i true = false)
    (hr : ∀ o, l[i]? = some o → ∀ e ∈ o.after, Region.binds .any e = true → listed.getD e.on false = true) (hp : ∀ j, j < l.length → p j = true → (j < i → Bef l j i) ∧ (i < j → Bef l i j)) :
    lastW p listed l.length ≤ i ∧ (∀ j, lastW p listed l.length ≤ j → j < i → p j = false) ∧ ∀ j, i < j → j < l.length → p j = true → listed.getD j true = false := by
  obtain ⟨h1, h2, h3⟩ := lastW_spec p listed l.length
  have late : ∀ j, i < j → j < l.length → p j = true → listed.getD j true = false := fun j hj hjl hpj => by
    cases hc : listed.getD j true
    · rfl
    · have := bef_listed clo ((hp j hjl hpj).2 hj) hc
      rw [hun] at this; cases this
  refine ⟨?_, fun j ha hb => ?_, late⟩
  · rcases h3 with h0 | ⟨u, hu, b1, b2⟩
    · omega
    · rcases Nat.lt_trichotomy u i with h | h | h
      · omega
      · rw [h, hun] at b1; cases b1
      · have := late u h (by omega) b2
        rw [b1] at this; cases this
  · cases hpj : p j
    · rfl
    · have hl := bef_ready clo hr ((hp j (by omega) hpj).1 hb)
      have := h2 j ha (by omega) hl
      rw [hpj] at this; cases this
theorem lastW_set_yes {p : Nat → Bool} {i n : Nat} (hi : i < n) (hsi : i < listed.size) (hp : p i = true) (late : ∀ j, i < j → j < n → p j = true → listed.getD j true = false) : lastW p (listed.setIfInBounds i true) n = i + 1 := by
  refine lastW_eq (by omega) (fun j ha hb hl => ?_) (.inr ⟨i, rfl, by rw [set_getD, if_pos ⟨rfl, hsi⟩], hp⟩)
  cases hpj : p j
  · rfl
  · rw [set_getD, if_neg (by omega)] at hl
    have := late j (by omega) hb hpj
    rw [hl] at this; cases this
theorem lastW_set_no {p : Nat → Bool} {i : Nat} (hp : p i = false) : ∀ n, lastW p (listed.setIfInBounds i true) n = lastW p listed n
  | 0 => rfl
  | n + 1 => by
    unfold lastW
    rw [lastW_set_no hp n]
    by_cases h : n = i
    · subst h; rw [hp]; simp
    · have e := set_getD listed i n true
      rw [if_neg (fun hc => h hc.1)] at e
      rw [e]
theorem clash_wf {a b : Info} {k : Nat} (h1 : k ∈ a.wr) (h2 : k ∈ b.fs ∨ k ∈ b.wr) : clash a b = true := by
  unfold clash
  have : (a.wr.any fun k => b.fs.contains k || b.wr.contains k) = true := List.any_eq_true.2 ⟨k, h1, by
    rcases h2 with h2 | h2
    · simp [h2]
    · simp [h2]⟩
  rw [this]; rfl
theorem clash_fw {a b : Info} {k : Nat} (h1 : k ∈ a.fs) (h2 : k ∈ b.wr) : clash a b = true := by
  unfold clash
  have : (a.fs.any fun k => b.wr.contains k) = true := List.any_eq_true.2 ⟨k, h1, by simp [h2]⟩
  rw [this]; simp
theorem clash_du {a b : Info} {t : Nat} (h1 : a.d = some t) (h2 : t ∈ b.us ∨ b.d = some t) : clash a b = true := by
  unfold clash
  rw [h1]
  have : (b.us.contains t || decide (b.d = some t)) = true := by
    rcases h2 with h2 | h2
    · simp [h2]
    · simp [h2]
  simp only [this]; simp
theorem clash_ud {a b : Info} {t : Nat} (h1 : t ∈ a.us) (h2 : b.d = some t) : clash a b = true := by
  unfold clash
  rw [h2]
  simp [h1]
theorem HInv.step (hC : C.Ok P) (hΓ : ConsOk P C Γ B w0) (hst : Steps C ops Γ ρ l T F) (hord : Ord ops l T F) (h0 : (T 0).factsOk ρ) (inv : HInv C B w0 ρ β0 T l ds listed a β W w)
    {i : Nat} {o : Oper} (ho : l[i]? = some o) (hun : listed.getD i true = false) (hready : ∀ e ∈ o.after, Region.binds .any e = true → listed.getD e.on false = true) (hgl : ∀ j b, o.guard = some (j, b) → j < l.length) (hops : ∀ j, j < l.length → ops[j]? = l[j]?)
    {K' : Act → World → Prop} {Q : Exit → Act → World → Prop} (hK : ∀ a' β' W' w', HInv C B w0 ρ β0 T l ds (listed.setIfInBounds i true) a' β' W' w' → K' a' w') :
    if Region.wanted o (yielded ops a.tmps) then o.wp P a w K' Q else K' (a.put o.dst Go.undef) w := by
  have hi : i < l.length := (List.getElem?_eq_some_iff.1 ho).1
  obtain ⟨st, hq, he, hnd, hcall⟩ := hst i o ho
  have hr : ∀ o', l[i]? = some o' → ∀ e ∈ o'.after, Region.binds .any e = true → listed.getD e.on false = true := fun o' ho' => by
    rw [ho] at ho'; obtain rfl := Option.some.inj ho'; exact hready
  have hget : ∀ j, j < l.length → ∃ oj, l[j]? = some oj := fun j hj => ⟨_, List.getElem?_eq_getElem hj⟩
  -- entries
  have dk : ∀ k, (k ∈ F i ∨ wk T k i = true) → _ := fun k hk => due (p := wk T k) inv.clo hi hun hr (fun j hj hpj => by
    obtain ⟨oj, hoj⟩ := hget j hj
    have hw : k ∈ wrH (T j).heap (T (j + 1)).heap := List.contains_iff_mem.1 hpj
    refine ⟨fun hlt => hord j i oj o hlt hoj ho (clash_wf hw ?_), fun hgt => hord i j o oj hgt ho hoj ?_⟩
    · rcases hk with hk | hk
      · exact .inl hk
      · exact .inr (List.contains_iff_mem.1 hk)
    · rcases hk with hk | hk
      · exact clash_fw hk hw
      · exact clash_wf (List.contains_iff_mem.1 hk) (.inr hw))
  -- slots
  have dt : ∀ t, (t ∈ usesOf ops o ∨ o.dst = some t) → _ := fun t ht => due (p := ws l t) inv.clo hi hun hr (fun j hj hpj => by
    obtain ⟨oj, hoj⟩ := hget j hj
    have hd : oj.dst = some t := by
      have := of_decide_eq_true hpj
      rw [hoj] at this; exact this
    refine ⟨fun hlt => hord j i oj o hlt hoj ho (clash_du hd ht), fun hgt => hord i j o oj hgt ho hoj ?_⟩
    rcases ht with ht | ht
    · exact clash_ud ht hd
    · exact clash_du ht (.inr hd))
  have hslot : ∀ t, t ∈ usesOf ops o → ∀ sl, (T i).tmps[t]? = some (some sl) → sl.rel ρ β (a.tmps.getD t Go.undef) := fun t ht sl hsl => by
    obtain ⟨h1, h2, _⟩ := dt t (.inl ht)
    refine inv.slots t sl ?_
    have := T_slot hst (i := lastW (ws l t) listed l.length) (t := t) (i - lastW (ws l t) listed l.length) (by omega) (fun j ha hb hd => by
      have := h2 j ha (by omega)
      unfold ws at this
      rw [hd] at this; simp at this)
    rw [show lastW (ws l t) listed l.length + (i - lastW (ws l t) listed l.length) = i by omega] at this
    rw [← this]; exact hsl
  have hent : ∀ k, (k ∈ F i ∨ wk T k i = true) → Hv T l.length listed k = (T i).heap[k]? := fun k hk => by
    obtain ⟨h1, h2, _⟩ := dk k hk
    have := T_entry hst (i := lastW (wk T k) listed l.length) (k := k) (i - lastW (wk T k) listed l.length) (by omega) (fun j ha hb hd => by
      have := h2 j ha (by omega)
      unfold wk at this
      rw [List.contains_iff_mem.2 hd] at this; cases this)
    rw [show lastW (wk T k) listed l.length + (i - lastW (wk T k) listed l.length) = i by omega] at this
    exact this.symm
  refine some_step hC hΓ hq hnd inv.toPMem hcall (fun k hk _ => hent k (.inl hk)) (fun k h1 h2 => inv.undone i hi hun k h1 (by rw [he] at h2; exact h2)) (T_facts hst h0 i (by omega)) (fun x hx t ht sl hs => ?_) (fun j b t hg ht sl hs => ⟨hslot t ?_ sl hs, ?_⟩) fun sl β' W' w' u htm hrel hm hx hnn hnew => ?_
  · subst ht
    refine hslot t (List.mem_append.2 (.inl ?_)) sl hs
    simp only [opTmps, List.mem_filterMap]
    exact ⟨_, hx, rfl⟩
  · refine List.mem_append.2 (.inr ?_)
    rw [hg]
    simp only
    rw [ht]; simp
  · rw [inv.sz, ← T_len hst i (by omega)]; exact TM.lt_of_get hs
  · rw [he] at htm hm hnn hnew
    have hsi : i < listed.size := by rw [inv.lsz]; exact hi
    have hset : ∀ j, (listed.setIfInBounds i true).getD j true = if j = i ∧ i < listed.size then true else listed.getD j true := fun j => set_getD _ _ _ _
    refine hK _ β' W' w' ⟨hm.congr fun k b hb => ?_, fun j oj hoj hlj e hee hbe => ?_, fun j hj hlj k h1 h2 => ?_, fun j hj hlj k h1 h2 => ?_, fun k hk => ?_, fun k hk => ?_, by rw [size_put]; exact inv.sz, fun t sl' ht => ?_, by rw [put_defers]; exact inv.defers, fun k b hk hb => ?_, by simpa using inv.lsz⟩
    · -- the entries' versions
      by_cases hw : k ∈ wrH (T i).heap (T (i + 1)).heap
      · rw [if_pos hw]
        have hwk : wk T k i = true := List.contains_iff_mem.2 hw
        unfold Hv
        rw [lastW_set_yes hi hsi hwk (dk k (.inr hwk)).2.2]
      · rw [if_neg hw]
        have hwk : wk T k i = false := by
          cases hc : wk T k i
          · rfl
          · exact absurd (List.contains_iff_mem.1 hc) hw
        unfold Hv
        rw [lastW_set_no hwk]
    · -- closed
      have key : listed.getD e.on false = true := by
        by_cases hji : j = i
        · subst hji
          rw [ho] at hoj
          obtain rfl := Option.some.inj hoj
          exact hready e hee hbe
        · rw [hset, if_neg (fun h => hji h.1)] at hlj
          exact inv.clo j oj hoj hlj e hee hbe
      rw [set_getD]
      split
      · rfl
      · exact key
    · by_cases hji : j = i
      · subst hji; exact hnew k h1 h2
      · rw [hset, if_neg (fun h => hji h.1)] at hlj
        obtain ⟨b, hb⟩ := inv.done j hj hlj k h1 h2
        obtain ⟨b', hb', _⟩ := hx k b hb
        exact ⟨b', hb'⟩
    · have hji : j ≠ i := fun h => by rw [hset, if_pos ⟨h, hsi⟩] at hlj; cases hlj
      rw [hset, if_neg (fun h => hji h.1)] at hlj
      refine hnn k ?_ (inv.undone j hj hlj k h1 h2)
      rcases Nat.lt_or_ge j i with h | h
      · have := T_hle hst (i := j + 1) (j := i) (by omega) (by omega); omega
      · have := T_hle hst (i := i + 1) (j := j) (by omega) (by omega); omega
    · obtain ⟨b, hb⟩ := inv.base k hk
      obtain ⟨b', hb', _⟩ := hx k b hb
      exact ⟨b', hb'⟩
    · refine hnn k ?_ (inv.top k hk)
      have := T_hle hst (i := i + 1) (j := l.length) (by omega) (by omega); omega
    · -- the slots' versions
      rw [getD_put]
      by_cases hd : o.dst = some t
      · have hws : ws l t i = true := by unfold ws; rw [ho]; simpa using hd
        rw [lastW_set_yes hi hsi hws (dt t (.inr hd)).2.2] at ht
        have hlt : t < (T i).tmps.length := by
          have := TM.lt_of_get ht
          rw [T_len hst (i + 1) (by omega), ← T_len hst i (by omega)] at this
          exact this
        rw [htm, put_tmps, if_pos ⟨hd, hlt⟩] at ht
        obtain rfl := Option.some.inj (Option.some.inj ht)
        rw [if_pos ⟨hd, by rw [inv.sz, ← T_len hst i (by omega)]; exact hlt⟩]
        exact hrel
      · have hws : ws l t i = false := by
          unfold ws; rw [ho]; simpa using hd
        rw [lastW_set_no hws] at ht
        rw [if_neg (fun h => hd h.1)]
        exact Slot.rel_ext hx (inv.slots t sl' ht)
    · obtain ⟨b1, h1, h2⟩ := inv.map k b hk hb
      obtain ⟨b2, h3, h4⟩ := hx k b1 h1
      exact ⟨b2, h3, h4.trans h2⟩
theorem all_listed {pre tail : List Oper} (ok : TailOk pre tail) {listed : Array Bool} (hs : listed.size = pre.length) (h0 : Region.ready .any pre.toArray listed = []) : ∀ i, i < pre.length → listed.getD i true = true := by
  intro i
  induction i using Nat.strongRecOn with
  | _ i ih =>
    intro hi
    cases hc : listed.getD i true
    · exfalso
      have : i ∈ Region.ready .any pre.toArray listed := by
        refine mem_rd.2 ⟨by simpa using hi, hc, pre[i], by simp [hi], fun e he hb => ?_⟩
        have he2 := ok.early i pre[i] (by simp [hi]) e he hb
        have := ih e.on he2 (by omega)
        rw [← getD_tf (by omega)]
        exact this
      rw [h0] at this; cases this
    · rfl
theorem head_any {pre tail : List Oper} {T : Nat → S} {F : Nat → List Nat} (hC : C.Ok P) (hΓ : ConsOk P C Γ B w0) (hst : Steps C (pre ++ tail).toArray Γ ρ pre T F) (hord : Ord (pre ++ tail).toArray pre T F) (tok : TailOk pre tail) (h0 : (T 0).factsOk ρ) {R : Act → World → Prop} {Q : Exit → Act → World → Prop}
    (hR : ∀ listed a β W w, HInv C B w0 ρ β0 T pre ds listed a β W w → (∀ i, i < pre.length → listed.getD i true = true) → R a w) : ∀ (f : Nat) (listed : Array Bool) (a : Act) (β : Mp) (W : Nat → Prop) (w : World), HInv C B w0 ρ β0 T pre ds listed a β W w → unl listed pre.length ≤ f → wpAny P .any pre.toArray (HeadPost R Q) f listed a w
  | 0, listed, a, β, W, w, inv, hf => by
    have hall := unl_zero (Nat.le_zero.1 hf)
    refine ⟨?_, hR listed a β W w inv hall⟩
    apply List.eq_nil_iff_forall_not_mem.2
    intro i hi
    obtain ⟨h1, h2, _⟩ := mem_rd.1 hi
    rw [hall i (by simpa using h1)] at h2; cases h2
  | f + 1, listed, a, β, W, w, inv, hf => by
    refine ⟨fun hn => hR listed a β W w inv (all_listed tok inv.lsz hn), fun i hi => ?_⟩
    obtain ⟨h1, h2, o, ho, h3⟩ := mem_rd.1 hi
    have hi' : i < pre.length := by simpa using h1
    have ho' : pre[i]? = some o := by simpa using ho
    have hgl : ∀ j b, o.guard = some (j, b) → j < pre.length := fun j b hg => by
      have := tok.guard i o ho' j b hg; omega
    have hwant : Region.wanted o (yielded pre.toArray a.tmps) = Region.wanted o (yielded (pre ++ tail).toArray a.tmps) := by
      unfold Region.wanted
      cases hg : o.guard with
      | none => rfl
      | some p =>
        obtain ⟨j, b⟩ := p
        have hj := tok.guard i o ho' j b hg
        simp only [yielded, List.getElem?_toArray]
        rw [List.getElem?_append_left (show j < pre.length by omega)]
    have step := inv.step (K' := wpAny P .any pre.toArray (HeadPost R Q) f (listed.setIfInBounds i true)) (Q := HeadPost R Q) hC hΓ hst hord h0 ho' h2 h3 hgl (fun j hj => by rw [List.getElem?_toArray, List.getElem?_append_left hj]) (fun a' β' W' w' inv' => by
      refine head_any hC hΓ hst hord tok h0 hR f _ a' β' W' w' inv' ?_
      have := unl_set (l := listed) h2 (n := pre.length)
      rw [if_pos hi'] at this
      omega)
    unfold wpOp
    rw [ho]
    simp only
    rw [hwant]
    split
    · rename_i hw; rw [if_pos hw] at step; exact .inl step
    · rename_i hw; rw [if_neg hw] at step; exact step
end
theorem T_find (T : Nat → S) (k : Nat) : ∀ d, k < (T d).heap.length → k < (T 0).heap.length ∨ ∃ i, i < d ∧ (T i).heap.length ≤ k ∧ k < (T (i + 1)).heap.length
  | 0, h => .inl h
  | d + 1, h => by
    rcases Nat.lt_or_ge k (T d).heap.length with h1 | h1
    · rcases T_find T k d h1 with h2 | ⟨i, a, b⟩
      · exact .inl h2
      · exact .inr ⟨i, by omega, b⟩
    · exact .inr ⟨d, by omega, h1, h⟩
theorem unl_le (l : Array Bool) : ∀ n, unl l n ≤ n
  | 0 => Nat.le_refl _
  | n + 1 => by have := unl_le l n; simp only [unl]; split <;> omega
/-- **the head of a region whose order is open** -/
theorem region_head (hC : C.Ok P) (hΓ : ConsOk P C Γ B w0) {pre tail : List Oper} {s : S} {a : Act} {K : S → Tree} {R : Act → World → Prop} {Q : Exit → Act → World → Prop} {L : List (List Nat × St)} (hlv : ctx.length = s.lvl) (m : Mem C B w0 ρ β W s w) (fr : Fr ρ β s a) (tok : TailOk pre tail) (hsc : (s.more []).isSome = true)
    (hrun : headRun C (pre ++ tail).toArray pre s = some L) (hcl : closedB s L = true) (hob : orderB (predsOf [] pre) (infosOf (pre ++ tail).toArray pre s L) = true)
    (hden : (emitHead K s L).den Γ Qd ρ ctx) (hR : Onw C B w0 Γ Qd ctx ρ β s a.defers K R) : wpAny P .any pre.toArray (HeadPost R Q) pre.length (Array.replicate pre.length false) a { w with drawn := w.drawn + 1 } := by
  obtain ⟨δ, hkt, hst0, hd⟩ := head_den pre L s ρ K hrun hcl m.kt hden
  obtain ⟨hLl, hLg⟩ := headRun_get hrun
  have hst : Steps C (pre ++ tail).toArray Γ (ρ ++ δ) pre (stAt s L) (fun i => ((L[i]?).getD ([], ⟨[], none, s⟩)).1) := fun i o ho => by
    obtain ⟨x, hx, _⟩ := hLg i o ho
    have := hst0 i o x ho hx
    simp only [hx, Option.getD_some]; exact this
  have hord : Ord (pre ++ tail).toArray pre (stAt s L) (fun i => ((L[i]?).getD ([], ⟨[], none, s⟩)).1) := fun i j oi oj hij hoi hoj hc => by
    obtain ⟨xi, hxi, _, ei⟩ := hLg i oi hoi
    obtain ⟨xj, hxj, _, ej⟩ := hLg j oj hoj
    simp only [hxi, hxj, Option.getD_some] at hc
    rw [← ei, ← ej] at hc
    exact order_bef hob hij (infos_get hrun i oi xi hoi hxi) (infos_get hrun j oj xj hoj hxj) hc
  obtain ⟨F, hF⟩ : ∃ F : Nat → List Nat, F = fun i => ((L[i]?).getD ([], ⟨[], none, s⟩)).1 := ⟨_, rfl⟩
  rw [← hF] at hst hord
  clear hF hst0 hLg
  have hT0 : stAt s L 0 = s := by cases L <;> rfl
  generalize hT : stAt s L = T at *
  have h0 : T 0 = s := hT0
  obtain ⟨s', hs'⟩ := Option.isSome_iff_exists.1 hsc
  obtain ⟨_, sc⟩ := S.more_eq hs'
  have hok : (idR s.ks.length s.heap.length).Ok ρ β (ρ ++ δ) β := idR_ok (by rw [m.kt.1]; exact Nat.le_refl _) fun _ _ => rfl
  have hf0 : (T 0).factsOk (ρ ++ δ) := fun x hx => by
    rw [h0] at hx
    have := X.sub_den hok.x (sc.facts x hx)
    show (x.den _).bool = true
    rw [this]; exact m.facts x hx
  have hb : Below w.heap.size w { w with drawn := w.drawn + 1 } := (Below.refl _ _).drew
  have mp := m.toPMem.later hb
  have hle0 := T_hle hst (i := 0) (j := pre.length) (by omega) (by omega)
  rw [h0] at hle0
  refine head_any (C := C) (B := B) (w0 := w0) (β0 := β) (ds := a.defers) hC hΓ hst hord tok hf0 (fun listed a' β' W' w' inv hall => ?_) pre.length _ a β W _ ?_ (unl_le _ _)
  · obtain ⟨ks, hks⟩ := T_ks hst pre.length (Nat.le_refl _)
    have hall' : ∀ j, j < pre.length → listed.getD j true = true := hall
    -- all are listed: every version is the last
    have hHv : ∀ k, Hv T pre.length listed k = (T pre.length).heap[k]? := fun k => by
      obtain ⟨h1, h2, _⟩ := lastW_spec (wk T k) listed pre.length
      have := T_entry hst (i := lastW (wk T k) listed pre.length) (k := k) (pre.length - lastW (wk T k) listed pre.length) (by omega) (fun j ha hb' hd => by
        have := h2 j ha (by omega) (hall' j (by omega))
        unfold wk at this
        rw [List.contains_iff_mem.2 hd] at this; cases this)
      rw [show lastW (wk T k) listed pre.length + (pre.length - lastW (wk T k) listed pre.length) = pre.length by omega] at this
      exact this.symm
    have hVs : ∀ t, (T (lastW (ws pre t) listed pre.length)).tmps[t]? = (T pre.length).tmps[t]? := fun t => by
      obtain ⟨h1, h2, _⟩ := lastW_spec (ws pre t) listed pre.length
      have := T_slot hst (i := lastW (ws pre t) listed pre.length) (t := t) (pre.length - lastW (ws pre t) listed pre.length) (by omega) (fun j ha hb' hd => by
        have := h2 j ha (by omega) (hall' j (by omega))
        unfold ws at this
        rw [hd] at this; simp at this)
      rw [show lastW (ws pre t) listed pre.length + (pre.length - lastW (ws pre t) listed pre.length) = pre.length by omega] at this
      exact this.symm
    refine hR (ρ ++ δ) β' W' (T pre.length) a' w' ctx ⟨[], by simp⟩ (by rw [T_lvl hst _ (Nat.le_refl _), h0]; exact hlv) ⟨inv.toPMem.congr fun k b _ => (hHv k).symm, fun k hk => ?_, inv.top, T_facts hst hf0 _ (Nat.le_refl _), hkt⟩ ⟨by rw [inv.sz, T_len hst _ (Nat.le_refl _)], fun t sl ht => inv.slots t sl (by rw [hVs]; exact ht)⟩ ⟨⟨δ, rfl⟩, ⟨ks, by rw [hks, h0]⟩, hle0, fun k b hk hb => inv.map k b (by rw [h0]; exact hk) hb⟩ inv.defers hd
    rcases T_find T k pre.length hk with h1 | ⟨i, h1, h2, h3⟩
    · exact inv.base k h1
    · exact inv.done i h1 (hall i h1) k h2 h3
  · have hrep : ∀ j, j < pre.length → (Array.replicate pre.length false).getD j true = false := fun j hj => by
      rw [Array.getD_eq_getD_getElem?, Array.getElem?_replicate, if_pos hj]; rfl
    have hz : ∀ p, lastW p (Array.replicate pre.length false) pre.length = 0 := fun p => lastW_eq (Nat.zero_le _) (fun j _ hj hl => by rw [hrep j hj] at hl; cases hl) (.inl rfl)
    refine ⟨⟨mp.below, mp.size, mp.wlo, fun k e b hk hb' => ?_, mp.dist, mp.own, mp.glob⟩, fun j o hj hl => ?_, fun i hi hl k h1 h2 => ?_, fun i hi hl k h1 h2 => ?_, fun k hk => ?_, fun k hk => ?_, by rw [h0]; exact fr.1, fun t sl ht => ?_, rfl, fun k b _ hb' => ⟨b, hb', rfl⟩, by simp⟩
    · unfold Hv at hk
      rw [hz, h0] at hk
      exact (HE.sub_ok hok (sc.heap k e hk) b).2 (mp.heap k e b hk hb')
    · rw [hrep j (List.getElem?_eq_some_iff.1 hj).1] at hl; cases hl
    · rw [hrep i hi] at hl; cases hl
    · refine m.top k ?_
      have := T_hle hst (i := 0) (j := i) (by omega) (by omega)
      rw [h0] at this
      omega
    · rw [h0] at hk; exact m.all k hk
    · exact m.top k (by omega)
    · rw [hz, h0] at ht
      exact (Slot.sub_rel hok (sc.tmps t sl ht) _).2 (fr.2 t sl ht)
/-- the states, one after the other -/
def lookAt (C : Cfg) (ops : Array Oper) : List Oper → S → Nat → S
  | [], s, _ => s
  | _ :: _, s, 0 => s
  | o :: l, s, i + 1 => match qstep C s ops o with
    | some st => lookAt C ops l st.s i
    | none => match estep C s o with
      | some (nd, s') => lookAt C ops l (s'.with (nd.filter fun x => !s.holds (.bl true) x)) i
      | none => s
theorem look_den {ops : Array Oper} {K : S → Tree} : ∀ (l : List Oper) (s : S), (lookRun C ops K l s).den Γ Qd ρ ctx → KT s.ks ρ →
    (∀ i o, l[i]? = some o → HStep C ops Γ ρ (lookAt C ops l s i) o (lookAt C ops l s (i + 1)) (List.range (lookAt C ops l s i).heap.length) ∧ (pureKind o = true → (lookAt C ops l s (i + 1)).heap = (lookAt C ops l s i).heap)) ∧ KT (lookAt C ops l s l.length).ks ρ ∧ (K (lookAt C ops l s l.length)).den Γ Qd ρ ctx
  | [], s, h, hk => ⟨fun i o h => by simp at h, hk, h⟩
  | o :: l, s, h, hk => by
    simp only [lookRun] at h
    have e0 : lookAt C ops (o :: l) s 0 = s := rfl
    split at h
    · rename_i st hq
      split at h
      · rename_i hc
        simp only [Bool.and_eq_true, Option.isNone_iff_eq_none] at hc
        obtain ⟨hp, hc⟩ := hc
        obtain ⟨hnd, h⟩ := needAll_den h
        obtain ⟨es, ks, sl, sh⟩ := qstep_shape hq
        have hh : st.s.heap = s.heap := qstep_pure hp hq
        have hst : ({ st.s with heap := s.heap } : S) = st.s := by rw [← hh]
        rw [hst] at h
        have hks : st.s.ks = s.ks := by rw [sh.ks, sh.nocall hc, List.append_nil]
        obtain ⟨h1, h2, h3⟩ := look_den l st.s h (by rw [hks]; exact hk)
        have e : ∀ i, lookAt C ops (o :: l) s (i + 1) = lookAt C ops l st.s i := fun i => by simp only [lookAt, hq]
        have e1 : lookAt C ops l st.s 0 = st.s := by cases l <;> rfl
        refine ⟨fun i o' ho => ?_, by rw [List.length_cons, e]; exact h2, by rw [List.length_cons, e]; exact h3⟩
        cases i with
        | zero =>
          simp at ho
          subst ho
          rw [e, e1, e0]
          exact ⟨⟨st, .inr ⟨hq, hc, hh, fun k hk => by simpa using hk⟩, rfl, hnd, fun g f aks ks xs h => by rw [hc] at h; cases h⟩, fun _ => hh⟩
        | succ i => rw [e, e]; exact h1 i o' (by simpa using ho)
      · exact h.elim
    · rename_i hq
      split at h
      · rename_i nd s' he
        split at h
        · exact h.elim
        · rename_i hp
          obtain ⟨hnd, h⟩ := needAll_den h
          have hany := anyF_all (ops := ops) (fs := List.range s.heap.length) (fun k hk => by simpa using hk) hq he
          obtain ⟨vks, sl, sh⟩ := any_shape hany
          have hks : (s'.with (nd.filter fun x => !s.holds (.bl true) x)).ks = s.ks := by
            have := sh.ks
            rw [sh.nocall rfl, List.append_nil] at this
            exact this
          obtain ⟨h1, h2, h3⟩ := look_den l _ h (by rw [hks]; exact hk)
          have e : ∀ i, lookAt C ops (o :: l) s (i + 1) = lookAt C ops l (s'.with (nd.filter fun x => !s.holds (.bl true) x)) i := fun i => by simp only [lookAt, hq, he]
          have e1 : lookAt C ops l (s'.with (nd.filter fun x => !s.holds (.bl true) x)) 0 = s'.with (nd.filter fun x => !s.holds (.bl true) x) := by cases l <;> rfl
          refine ⟨fun i o' ho => ?_, by rw [List.length_cons, e]; exact h2, by rw [List.length_cons, e]; exact h3⟩
          cases i with
          | zero =>
            simp at ho
            subst ho
            rw [e, e1, e0]
            exact ⟨⟨_, .inl hany, rfl, hnd, fun g f aks ks xs h => by cases h⟩, fun h => absurd h hp⟩
          | succ i => rw [e, e]; exact h1 i o' (by simpa using ho)
      · exact h.elim
/-- **the head of a region whose order is open, where all operations look only or are in order with all others** -/
theorem region_look (hC : C.Ok P) (hΓ : ConsOk P C Γ B w0) {pre tail : List Oper} {s : S} {a : Act} {K : S → Tree} {R : Act → World → Prop} {Q : Exit → Act → World → Prop} (hlv : ctx.length = s.lvl) (m : Mem C B w0 ρ β W s w) (fr : Fr ρ β s a) (tok : TailOk pre tail)
    (hob : orderB (predsOf [] pre) (pre.map (lookI (pre ++ tail).toArray)) = true)
    (hden : (lookRun C (pre ++ tail).toArray K pre s).den Γ Qd ρ ctx) (hR : Onw C B w0 Γ Qd ctx ρ β s a.defers K R) : wpAny P .any pre.toArray (HeadPost R Q) pre.length (Array.replicate pre.length false) a { w with drawn := w.drawn + 1 } := by
  obtain ⟨hg, hkt, hd⟩ := look_den pre s hden m.kt
  have hT0 : lookAt C (pre ++ tail).toArray pre s 0 = s := by cases pre <;> rfl
  generalize hT : lookAt C (pre ++ tail).toArray pre s = T at *
  have h0 : T 0 = s := hT0
  have hst : Steps C (pre ++ tail).toArray Γ ρ pre T (fun i => List.range (T i).heap.length) := fun i o ho => (hg i o ho).1
  have hwr : ∀ i o, pre[i]? = some o → pureKind o = true → wrH (T i).heap (T (i + 1)).heap = [] := fun i o ho hp => by
    rw [(hg i o ho).2 hp]
    apply List.eq_nil_iff_forall_not_mem.2
    intro k hk
    obtain ⟨n, h1, h2⟩ := wrH_mem.1 hk
    exact h2 h1
  have hord : Ord (pre ++ tail).toArray pre T (fun i => List.range (T i).heap.length) := fun i j oi oj hij hoi hoj hc => by
    refine order_bef hob hij (by rw [List.getElem?_map, hoi]; rfl) (by rw [List.getElem?_map, hoj]; rfl) ?_
    by_cases hpi : pureKind oi = true
    · by_cases hpj : pureKind oj = true
      · rw [hwr i oi hoi hpi, hwr j oj hoj hpj] at hc
        have hno : ∀ l : List Nat, (l.any fun k => [].contains k) = false := fun l => by
          rw [List.any_eq_false]; intro x _; simp
        unfold clash lookI
        simp only [clash, hno, List.any_nil, Bool.false_or, hpi, hpj, if_true] at hc ⊢
        simpa using hc
      · simp [clash, lookI, hpi, hpj]
    · simp [clash, lookI, hpi]
  have hf0 : (T 0).factsOk ρ := by rw [h0]; exact m.facts
  have hb : Below w.heap.size w { w with drawn := w.drawn + 1 } := (Below.refl _ _).drew
  have mp := m.toPMem.later hb
  have hle0 := T_hle hst (i := 0) (j := pre.length) (by omega) (by omega)
  rw [h0] at hle0
  refine head_any (C := C) (B := B) (w0 := w0) (β0 := β) (ds := a.defers) hC hΓ hst hord tok hf0 (fun listed a' β' W' w' inv hall => ?_) pre.length _ a β W _ ?_ (unl_le _ _)
  · obtain ⟨ks, hks⟩ := T_ks hst pre.length (Nat.le_refl _)
    have hall' : ∀ j, j < pre.length → listed.getD j true = true := hall
    have hHv : ∀ k, Hv T pre.length listed k = (T pre.length).heap[k]? := fun k => by
      obtain ⟨h1, h2, _⟩ := lastW_spec (wk T k) listed pre.length
      have := T_entry hst (i := lastW (wk T k) listed pre.length) (k := k) (pre.length - lastW (wk T k) listed pre.length) (by omega) (fun j ha hb' hd => by
        have := h2 j ha (by omega) (hall' j (by omega))
        unfold wk at this
        rw [List.contains_iff_mem.2 hd] at this; cases this)
      rw [show lastW (wk T k) listed pre.length + (pre.length - lastW (wk T k) listed pre.length) = pre.length by omega] at this
      exact this.symm
    have hVs : ∀ t, (T (lastW (ws pre t) listed pre.length)).tmps[t]? = (T pre.length).tmps[t]? := fun t => by
      obtain ⟨h1, h2, _⟩ := lastW_spec (ws pre t) listed pre.length
      have := T_slot hst (i := lastW (ws pre t) listed pre.length) (t := t) (pre.length - lastW (ws pre t) listed pre.length) (by omega) (fun j ha hb' hd => by
        have := h2 j ha (by omega) (hall' j (by omega))
        unfold ws at this
        rw [hd] at this; simp at this)
      rw [show lastW (ws pre t) listed pre.length + (pre.length - lastW (ws pre t) listed pre.length) = pre.length by omega] at this
      exact this.symm
    refine hR ρ β' W' (T pre.length) a' w' ctx ⟨[], by simp⟩ (by rw [T_lvl hst _ (Nat.le_refl _), h0]; exact hlv) ⟨inv.toPMem.congr fun k b _ => (hHv k).symm, fun k hk => ?_, inv.top, T_facts hst hf0 _ (Nat.le_refl _), hkt⟩ ⟨by rw [inv.sz, T_len hst _ (Nat.le_refl _)], fun t sl ht => inv.slots t sl (by rw [hVs]; exact ht)⟩ ⟨⟨[], by simp⟩, ⟨ks, by rw [hks, h0]⟩, hle0, fun k b hk hb => inv.map k b (by rw [h0]; exact hk) hb⟩ inv.defers hd
    rcases T_find T k pre.length hk with h1 | ⟨i, h1, h2, h3⟩
    · exact inv.base k h1
    · exact inv.done i h1 (hall i h1) k h2 h3
  · have hrep : ∀ j, j < pre.length → (Array.replicate pre.length false).getD j true = false := fun j hj => by
      rw [Array.getD_eq_getD_getElem?, Array.getElem?_replicate, if_pos hj]; rfl
    have hz : ∀ p, lastW p (Array.replicate pre.length false) pre.length = 0 := fun p => lastW_eq (Nat.zero_le _) (fun j _ hj hl => by rw [hrep j hj] at hl; cases hl) (.inl rfl)
    refine ⟨⟨mp.below, mp.size, mp.wlo, fun k e b hk hb' => ?_, mp.dist, mp.own, mp.glob⟩, fun j o hj hl => ?_, fun i hi hl k h1 h2 => ?_, fun i hi hl k h1 h2 => ?_, fun k hk => ?_, fun k hk => ?_, by rw [h0]; exact fr.1, fun t sl ht => ?_, rfl, fun k b _ hb' => ⟨b, hb', rfl⟩, by simp⟩
    · unfold Hv at hk
      rw [hz, h0] at hk
      exact mp.heap k e b hk hb'
    · rw [hrep j (List.getElem?_eq_some_iff.1 hj).1] at hl; cases hl
    · rw [hrep i hi] at hl; cases hl
    · refine m.top k ?_
      have := T_hle hst (i := 0) (j := i) (by omega) (by omega)
      rw [h0] at this
      omega
    · rw [h0] at hk; exact m.all k hk
    · exact m.top k (by omega)
    · rw [hz, h0] at ht
      exact fr.2 t sl ht
end
end Go.Proofs.Ytpbpmabnmakdoaa.Vc
