/- The symbolic executor: a state as an instance of a general one. -/
import Derived.Test.YtpbpmabnmakdoaaVB
import Derived.LoopN
import Derived.Deep.LoopGhost
import Derived.Laws.AppendOwn
set_option linter.unusedVariables false
namespace Go.Proofs.Ytpbpmabnmakdoaa.Vc
noncomputable section
open Go Go.RowKit
variable {ρ ρ' : List AV} {β β' : Mp} {W W' : Nat → Prop} {w w' : World} {P : Program} {C : Cfg} {B : Nat} {w0 : World}

theorem kind_fix {ks : List VK} (hk : KT ks ρ) {x : X} {k : VK} (h : x.kind ks = some k) : k.fix (x.den ρ) = x.den ρ := by
  cases x with
  | var n => simp only [X.kind] at h; exact hk.2 n k h
  | bin o a b => cases o <;> (simp only [X.kind] at h; obtain rfl := Option.some.inj h; rfl)
  | _ => simp only [X.kind] at h; obtain rfl := Option.some.inj h; rfl
theorem allAV_elim : ∀ {ks : List VK} {p : List AV → Prop}, allAV ks p → ∀ vs, KT ks vs → p vs
  | [], p, h, vs, hk => by
    obtain rfl := List.eq_nil_of_length_eq_zero hk.1
    exact h
  | k :: ks, p, h, vs, hk => by
    cases vs with
    | nil => have := hk.1; simp at this
    | cons v vs =>
      have hv : k.fix v = v := by simpa using hk.2 0 k rfl
      have hks : KT ks vs := ⟨by simpa using hk.1, fun i k' hi => by simpa using hk.2 (i + 1) k' (by simpa using hi)⟩
      cases k with
      | i => rw [← hv]; exact allAV_elim (h v.int) vs hks
      | b => rw [← hv]; exact allAV_elim (h v.bool) vs hks
      | a => rw [← hv]; exact allAV_elim (h v.fn) vs hks
      | m => rw [← hv]; exact allAV_elim (h v.mlen v.mfn) vs hks
theorem KT.take {ks : List VK} (h : KT ks ρ) (n : Nat) : KT (ks.take n) (ρ.take n) := by
  refine ⟨by simp [h.1], fun i k hi => ?_⟩
  rw [List.getElem?_take] at hi
  split at hi
  · rename_i hlt
    have := h.2 i k hi
    simp only [List.getD_eq_getElem?_getD, List.getElem?_take, if_pos hlt] at this ⊢
    exact this
  · cases hi
theorem zipIdx_all {α : Type} {l : List α} {p : α × Nat → Bool} (h : l.zipIdx.all p = true) : ∀ (i : Nat) x, l[i]? = some x → p (x, i) = true := fun i x hi => by
  rw [List.all_eq_true] at h
  exact h (x, i) (by rw [List.mem_zipIdx_iff_getElem?]; simpa using hi)
theorem fixL_get : ∀ (ks : List VK) (vs : List AV) (i : Nat) (k : VK) (v : AV), ks[i]? = some k → vs[i]? = some v → (fixL ks vs)[i]? = some (k.fix v)
  | [], _, _, _, _, h, _ => by simp at h
  | k :: ks, [], i, _, _, _, h => by simp at h
  | k :: ks, v :: vs, 0, k', v', h, h' => by simp at h h'; subst h h'; rfl
  | k :: ks, v :: vs, i + 1, k', v', h, h' => by simp at h h'; simpa [fixL] using fixL_get ks vs i k' v' h h'
def strip (b : BI) : BI := ⟨b.v, noOwn⟩
theorem RowsOk_strip {b : BI} {sh : List FK} {i len : Int} {f : Int → Nat → Int} (h : rowOk w W false b sh i len f) : rowOk w W false (strip b) sh i len f := by
  obtain ⟨h0, h1, h2, h3, h4, h5⟩ := h
  refine ⟨h0, h1, h2, h3, h4, ?_⟩
  rcases h5 with h5 | h5 | ⟨q, a1, a2, a3, a4, a5⟩
  · exact .inl h5
  · exact .inr (.inl h5)
  · exact .inr (.inr ⟨q, a1, a2, fun h => (by cases h), a4, a5⟩)
theorem EOk_strip {b : BI} {e : HE} (ho : e.own = false) (h : EOk ρ β W w b e) : EOk ρ β W w (strip b) e := by
  unfold EOk at *
  intro hg
  have h := h hg
  obtain ⟨own, body, g⟩ := e
  simp only at ho
  subst ho
  have hpl : ∀ p, place w W false b p → place w W false (strip b) p := fun p hp => ⟨hp.1, fun h => (by cases h), hp.2.2⟩
  cases body with
  | gone => trivial
  | cells l => obtain ⟨p, h1, h2, h3⟩ := h; exact ⟨p, h1, hpl p h2, h3⟩
  | arr sh a n =>
    obtain ⟨h0, h00, hs, h1⟩ := h
    refine ⟨h0, h00, hs, ?_⟩
    rcases h1 with ⟨a1, a2, _⟩ | h1 | ⟨p, h1, h2, h3⟩
    · exact .inl ⟨a1, a2, rfl⟩
    · exact .inr (.inl h1)
    · exact .inr (.inr ⟨p, h1, hpl p h2, h3⟩)
  | mat sh a n =>
    obtain ⟨h0, h00, h1⟩ := h
    refine ⟨h0, h00, ?_⟩
    rcases h1 with h1 | ⟨p, h1, h2, h3⟩
    · exact .inl h1
    · exact .inr ⟨p, h1, hpl p h2, h3⟩
  | mo sh kr n =>
    obtain ⟨h0, h00, hs, h1⟩ := h
    refine ⟨h0, h00, hs, ?_⟩
    rcases h1 with ⟨a1, a2, _⟩ | ⟨p, h1, h2, h3, h4⟩
    · exact .inl ⟨a1, a2, rfl⟩
    · exact .inr ⟨p, h1, hpl p h2, h3, h4⟩
  | rw sh a n =>
    exact ⟨fun i a1 a2 a3 => RowsOk_strip (h.1 i a1 a2 a3), fun h => (by cases h)⟩
  | rh sh a n i =>
    exact ⟨fun i a1 a2 a3 => RowsOk_strip (h.1 i a1 a2 a3), fun h => (by cases h)⟩
theorem EOk_gone {b : BI} {e : HE} (h : e.body = .gone) : EOk ρ β W w b e := by unfold EOk; intro _; rw [h]; trivial
/-- what the general state's entries stand for -/
def instM (β : Mp) (h : S) (r : Nat → Nat) : Mp := fun k => match h.heap[k]? with
  | some e => if e.mine then β (r k) else (β (r k)).map strip
  | none => none
theorem instM_v {h : S} {r : Nat → Nat} {k : Nat} (hk : k < h.heap.length) : (instM β h r k).map (·.v) = (β (r k)).map (·.v) := by
  unfold instM
  rw [List.getElem?_eq_getElem hk]
  simp only
  split
  · rfl
  · cases β (r k) <;> rfl
theorem glob_mem {g k : Nat} (h : C.glob g = some k) : k ∈ C.globL.map (·.2) := by
  unfold Cfg.glob at h
  generalize C.globL = l at h ⊢
  induction l with
  | nil => cases h
  | cons x l ih =>
    obtain ⟨x1, x2⟩ := x
    rw [List.lookup_cons] at h
    split at h
    · obtain rfl := Option.some.inj h; simp
    · simp only [List.map_cons, List.mem_cons]; exact .inr (ih h)
theorem instT_get {R : Ren} : ∀ {l m : List (Option Slot)}, instT R l m = true → ∀ (t : Nat) sl, l[t]? = some (some sl) → ∃ y, sl.sub R = some y ∧ m[t]? = some (some y)
  | [], _, _, t, sl, h => by simp at h
  | none :: l, m, hi, t, sl, h => by
    cases t with
    | zero => simp at h
    | succ t =>
      obtain ⟨y, h1, h2⟩ := instT_get (l := l) (m := m.tail) hi t sl (by simpa using h)
      refine ⟨y, h1, ?_⟩
      cases m with
      | nil => simp at h2
      | cons x m => simpa using h2
  | some _ :: _, [], hi, _, _, _ => by cases hi
  | some _ :: _, none :: _, hi, _, _, _ => by cases hi
  | some sl0 :: l, some x :: m, hi, t, sl, h => by
    simp only [instT, Bool.and_eq_true] at hi
    cases t with
    | zero =>
      simp at h
      subst h
      have h1 := hi.1
      split at h1
      · rename_i y hy
        exact ⟨y, hy, by rw [of_decide_eq_true h1]; rfl⟩
      · cases h1
    | succ t =>
      obtain ⟨y, h1, h2⟩ := instT_get hi.2 t sl (by simpa using h)
      exact ⟨y, h1, by simpa using h2⟩
theorem instC_get {R : Ren} : ∀ {l m : List C8}, instC R l m = true → ∀ (t : Nat) sl, (TM.all l)[t]? = some (some sl) → ∃ y, sl.sub R = some y ∧ (TM.all m)[t]? = some (some y)
  | [], _, _, t, sl, h => by simp [TM.all] at h
  | _ :: _, [], hi, _, _, _ => by cases hi
  | c :: l, d :: m, hi, t, sl, h => by
    simp only [instC, Bool.and_eq_true] at hi
    have e : TM.all (c :: l) = c.toL ++ TM.all l := rfl
    have e2 : TM.all (d :: m) = d.toL ++ TM.all m := rfl
    rw [e] at h
    rw [e2]
    by_cases h8 : t < 8
    · rw [List.getElem?_append_left (by rw [C8.len8]; exact h8)] at h ⊢
      exact instT_get hi.1 t sl h
    · rw [List.getElem?_append_right (by rw [C8.len8]; omega), C8.len8] at h ⊢
      exact instC_get hi.2 _ sl h
theorem TM.length_eq (t : TM) : t.length = min t.len (8 * t.cs.length) := by
  unfold TM.length TM.toL TM.all
  rw [List.length_take]
  congr 1
  induction t.cs with
  | nil => rfl
  | cons c l ih => simp [List.flatMap_cons, ih, C8.len8]; omega
theorem mineL_mem : ∀ {l : List HE} {j k : Nat} {e : HE}, l[k]? = some e → e.mine = true → j + k ∈ mineL l j
  | [], _, _, _, h, _ => by simp at h
  | e0 :: l, j, 0, e, h, hm => by
    simp at h; subst h
    simp only [mineL, hm, if_true]
    exact List.mem_cons_self ..
  | e0 :: l, j, k + 1, e, h, hm => by
    have := mineL_mem (l := l) (j := j + 1) (k := k) (by simpa using h) hm
    rw [show j + 1 + k = j + (k + 1) by omega] at this
    simp only [mineL]
    split
    · exact List.mem_cons_of_mem _ this
    · exact this
theorem apart_of {r : Nat → Nat} : ∀ {l : List Nat}, apartB r l = true → ∀ a ∈ l, ∀ b ∈ l, a ≠ b → r a ≠ r b
  | [], _, a, ha, _, _, _ => by cases ha
  | k :: l, h, a, ha, b, hb, hab => by
    simp only [apartB, Bool.and_eq_true, allQ_eq, List.all_eq_true] at h
    have key : ∀ j ∈ l, r k ≠ r j := fun j hj e => by
      have := h.1 j hj
      rw [e, Nat.beq_refl] at this
      cases this
    rcases List.mem_cons.1 ha with ea | ha2
    · rcases List.mem_cons.1 hb with eb | hb2
      · exact absurd (ea.trans eb.symm) hab
      · rw [ea]; exact key b hb2
    · rcases List.mem_cons.1 hb with eb | hb2
      · rw [eb]; exact fun e => key a ha2 e.symm
      · exact apart_of h.2 a ha2 b hb2 hab
theorem inst_sound {s h : S} {n : Nat} {args : List X} {r : List Nat} {a : Act} (hi : s.inst h n args r (C.globL.map (·.2)) = true) (m : Mem C B w0 ρ β W s w) (fr : Fr ρ β s a) :
    Mem C B w0 (ρ.take n ++ fixL (h.ks.drop n) (args.map (X.den ρ))) (instM β h fun k => (r[k]?).getD k) W h w ∧ Fr (ρ.take n ++ fixL (h.ks.drop n) (args.map (X.den ρ))) (instM β h fun k => (r[k]?).getD k) h a ∧
      (∀ k, k < h.heap.length → (instM β h (fun k => (r[k]?).getD k) k).map (·.v) = (β ((r[k]?).getD k)).map (·.v)) := by
  simp only [S.inst, getF_eq, Bool.and_eq_true, decide_eq_true_eq] at hi
  obtain ⟨⟨⟨⟨⟨⟨⟨⟨⟨⟨i1a, i1b⟩, i2⟩, i3⟩, i4⟩, i5⟩, i6⟩, i7⟩, i8⟩, i9⟩, i10⟩ := hi
  have i1 : h.tmps.length = s.tmps.length := by
    rw [TM.length_eq, TM.length_eq, Nat.eq_of_beq_eq_true i1a, Nat.eq_of_beq_eq_true i1b]
  generalize hρn : ρ.take n ++ fixL (h.ks.drop n) (args.map (X.den ρ)) = ρn
  have hnl : n ≤ ρ.length := by rw [m.kt.1]; exact i3
  have hok : Ren.Ok ⟨n + args.length, fun i => if i < n then .var i else (args[i - n]?).getD (.lit 0), h.heap.length, fun k => (r[k]?).getD k⟩ ρn (instM β h fun k => (r[k]?).getD k) ρ β := by
    refine ⟨fun j hj => ?_, fun k hk => instM_v hk⟩
    simp only at hj ⊢
    by_cases hjn : j < n
    · rw [if_pos hjn, ← hρn]
      simp only [X.den, List.getD_eq_getElem?_getD]
      rw [List.getElem?_append_left (by simp; omega), List.getElem?_take, if_pos hjn]
    · rw [if_neg hjn]
      obtain ⟨x, hx⟩ : ∃ x, args[j - n]? = some x := ⟨_, List.getElem?_eq_getElem (by omega)⟩
      have hk := zipIdx_all i5 (j - n) x hx
      simp only [decide_eq_true_eq] at hk
      rw [show n + (j - n) = j by omega] at hk
      obtain ⟨k, hk'⟩ : ∃ k, h.ks[j]? = some k := ⟨_, List.getElem?_eq_getElem (by omega)⟩
      rw [hk'] at hk
      have hfx := kind_fix m.kt hk
      rw [hx, ← hρn, List.getD_eq_getElem?_getD, List.getElem?_append_right (by simp; omega)]
      have hidx : j - (ρ.take n).length = j - n := by simp; omega
      rw [hidx, fixL_get (h.ks.drop n) (args.map (X.den ρ)) (j - n) k (x.den ρ) (by rw [List.getElem?_drop, show n + (j - n) = j by omega]; exact hk') (by simp [hx]), hfx]
      rfl
  have heap : ∀ k e, h.heap[k]? = some e → (r[k]?).getD k < s.heap.length ∧ (e.body ≠ .gone → ∃ y, e.sub ⟨n + args.length, fun i => if i < n then .var i else (args[i - n]?).getD (.lit 0), h.heap.length, fun k => (r[k]?).getD k⟩ = some y ∧ s.heap[(r[k]?).getD k]? = some y) := fun k e hk => by
    have := zipIdx_all i7 k e hk
    simp only [Bool.and_eq_true, decide_eq_true_eq] at this
    refine ⟨Nat.le_of_ble_eq_true this.1, fun hg => ?_⟩
    have h2 := this.2
    split at h2
    · rename_i hg'; exact absurd hg' hg
    · split at h2
      · rename_i y hy; exact ⟨y, hy, by simpa using h2⟩
      · cases h2
  refine ⟨⟨⟨m.below, m.size, m.wlo, fun k e b hk hb => ?_, fun k k' b b' r' hb hb' ho ho' => ?_, fun k b r' hb ho => ?_, fun g k hg => ?_⟩, fun k hk => ?_, fun k hk => ?_, fun x hx => ?_, ?_⟩, ⟨?_, fun t sl ht => ?_⟩, fun k hk => instM_v hk⟩
  · -- the entries
    have hk' : h.heap[k]? = some e := hk
    by_cases hgone : e.body = .gone
    · exact EOk_gone hgone
    · obtain ⟨y, hy, hs⟩ := (heap k e hk').2 hgone
      simp only [instM, hk'] at hb
      split at hb
      · exact (HE.sub_ok hok hy b).1 (m.heap _ y b hs hb)
      · rename_i hmine
        simp only [Option.map_eq_some_iff] at hb
        obtain ⟨b0, hb0, rfl⟩ := hb
        have hown : e.own = false := by
          obtain ⟨own, body, g⟩ := e
          simp only [HE.mine] at hmine
          cases body with
          | gone => exact absurd rfl hgone
          | _ => simpa using hmine
        exact EOk_strip hown ((HE.sub_ok hok hy b0).1 (m.heap _ y b0 hs hb0))
  · -- apart
    have hm : ∀ k b, instM β h (fun k => (r[k]?).getD k) k = some b → b.own r' → ∃ e, h.heap[k]? = some e ∧ e.mine = true ∧ β ((r[k]?).getD k) = some b := fun k b hb ho => by
      unfold instM at hb
      split at hb
      · rename_i e he
        split at hb
        · rename_i hmine; exact ⟨e, he, hmine, hb⟩
        · simp only [Option.map_eq_some_iff] at hb
          obtain ⟨b0, _, rfl⟩ := hb
          cases ho
      · cases hb
    obtain ⟨e, he, hme, h1⟩ := hm k b hb ho
    obtain ⟨e', he', hme', h2⟩ := hm k' b' hb' ho'
    have hrr := m.dist _ _ b b' r' h1 h2 ho ho'
    by_cases h3 : k = k'
    · exact h3
    · refine absurd hrr ?_
      have m1 := mineL_mem (j := 0) he hme
      have m2 := mineL_mem (j := 0) he' hme'
      rw [Nat.zero_add] at m1 m2
      exact apart_of i9 k m1 k' m2 h3
  · unfold instM at hb
    split at hb
    · split at hb
      · exact m.own _ b r' hb ho
      · simp only [Option.map_eq_some_iff] at hb
        obtain ⟨b0, _, rfl⟩ := hb
        cases ho
    · cases hb
  · have hmem := glob_mem hg
    have := List.all_eq_true.1 i10 k hmem
    simp only [Bool.and_eq_true, decide_eq_true_eq] at this
    obtain ⟨hrk, hkl⟩ := this
    obtain ⟨b, hb, ha⟩ := m.glob g k hg
    have hv := instM_v (β := β) (h := h) (r := fun k => (r[k]?).getD k) hkl
    simp only at hv
    rw [hrk, hb] at hv
    simp only [Option.map_some, Option.map_eq_some_iff] at hv
    obtain ⟨b', hb', hv'⟩ := hv
    exact ⟨b', hb', by rw [hv']; exact ha⟩
  · obtain ⟨b, hb⟩ := m.all _ (heap k _ (List.getElem?_eq_getElem hk)).1
    unfold instM
    rw [List.getElem?_eq_getElem hk]
    simp only [hb]
    split
    · exact ⟨b, rfl⟩
    · exact ⟨strip b, rfl⟩
  · unfold instM
    rw [List.getElem?_eq_none hk]
  · have := List.all_eq_true.1 i8 x hx
    split at this
    · rename_i y hy
      have h1 := S.holds_B m.facts (show (X.bl true).B ρ = true from rfl) this
      have h2 := X.sub_den hok.x hy
      show (x.den ρn).bool = true
      rw [← h2]; exact h1
    · cases this
  · have := (m.kt.take n).append (fixL_KT (h.ks.drop n) (args.map (X.den ρ)))
    rw [← i4, List.take_append_drop, hρn] at this
    exact this
  · rw [fr.1, i1]
  · rw [TM.getElem?_eq] at ht
    have htl : t < h.tmps.length := (List.getElem?_eq_some_iff.1 ht).1
    unfold TM.toL at ht
    rw [List.getElem?_take] at ht
    split at ht
    · rename_i hlt
      obtain ⟨y, hy, hs⟩ := instC_get i6 t sl ht
      have hsy : s.tmps[t]? = some (some y) := by
        rw [TM.getElem?_eq]
        unfold TM.toL
        rw [List.getElem?_take, if_pos (by rw [← Nat.eq_of_beq_eq_true i1a]; exact hlt)]
        exact hs
      exact (Slot.sub_rel hok hy _).1 (fr.2 t y hsy)
    · cases ht
end
end Go.Proofs.Ytpbpmabnmakdoaa.Vc
/- The symbolic executor: nil lists made lists of our own; the code. -/
namespace Go.Proofs.Ytpbpmabnmakdoaa.Vc
noncomputable section
open Go Go.RowKit
variable {ρ ρ' : List AV} {β β' : Mp} {W W' : Nat → Prop} {w w' : World} {P : Program} {C : Cfg} {B : Nat} {w0 : World}

/-- an entry for a nil list -/
def nilB (sz : Nat) : BI := ⟨⟨none, 0, sz, fun _ => none, fun _ => 0, fun _ => 0⟩, noOwn⟩
theorem EOk_nil (sh : List FK) (β : Mp) (W : Nat → Prop) (w : World) : EOk ρ β W w (nilB sh.length) (ent true (.arr sh .zeros (.lit 0))) :=
  fun _ => ⟨by rw [lit_I]; exact Int.le_refl _, fun _ => rfl, rfl, .inl ⟨lit_I 0, rfl, rfl⟩⟩
theorem nil_rel (n : Nat) (sh : List FK) : (Sc.c (.slc (.blk n) sh.length (.lit 0) (.lit 0) none)).rel ρ (upd β n (nilB sh.length)) (.slice none 0 0) :=
  ⟨none, 0, none, 0, by simp [SB.at, upd_same, nilB], by rw [lit_I]; rfl, by rw [lit_I]; exact Int.le_refl _, by rw [lit_I]; exact Int.le_refl _, by rw [lit_I]; simp, Nat.zero_le _, fun _ => rfl, .inl rfl, by rw [lit_I]; simp, by simp, by rw [lit_I]; simp⟩
/-- the same values, other names -/
structure Same (C : Cfg) (B : Nat) (w0 : World) (ρ : List AV) (β : Mp) (W : Nat → Prop) (s : S) (s' : S) (a : Act) (w : World) : Prop where
  out : ∃ β' W', Mem C B w0 ρ β' W' s' w ∧ Fr ρ β' s' a ∧ Later ρ β s ρ β' s' ∧ s'.lvl = s.lvl
theorem normNil_sound {s : S} {a : Act} (q : LR) (sh : List FK) (m : Mem C B w0 ρ β W s w) (fr : Fr ρ β s a) : Same C B w0 ρ β W s (normNil s q sh) a w := by
  have hn := m.top s.heap.length (Nat.le_refl _)
  have hx := ext_upd (nilB sh.length) hn
  have hp : PMem C B w0 ρ (upd β s.heap.length (nilB sh.length)) W (s.add (ent true (.arr sh .zeros (.lit 0)))).H w := (m.toPMem.grow hn).addNone hn rfl (fun e' he' => by
    rw [H_new] at he'
    obtain rfl := Option.some.inj he'
    exact EOk_nil sh _ _ _)
  have hm := m.add hp
  have fr' : Fr ρ (upd β s.heap.length (nilB sh.length)) (s.add (ent true (.arr sh .zeros (.lit 0)))) a := Fr.ext hx fr rfl
  have hl : Later ρ β s ρ (upd β s.heap.length (nilB sh.length)) (s.add (ent true (.arr sh .zeros (.lit 0)))) := Later.of_ext hx rfl (by simp [S.add_eq])
  have same : Same C B w0 ρ β W s s a w := ⟨β, W, m, fr, Later.refl _ _ _, rfl⟩
  unfold normNil
  cases q with
  | slot t =>
    simp only
    split
    · rename_i ht
      refine ⟨_, _, hm.put _ _, ⟨by rw [put_len]; exact fr'.1, fun t' sl hs => ?_⟩, hl.put _ _, put_lvl _ _ _⟩
      rw [put_tmps] at hs
      split at hs
      · rename_i hc
        obtain rfl := Option.some.inj (Option.some.inj hs)
        obtain rfl := Option.some.inj hc.1
        have : a.tmps.getD t Go.undef = .slice none 0 0 := (fr.2 t _ ht).1 rfl
        rw [this]
        exact ⟨fun _ => nil_rel _ _, fun h => by cases h⟩
      · exact fr'.2 t' sl hs
    · exact same
  | cell t j =>
    simp only
    split
    · rename_i g0 k sz i f ht
      split
      · rename_i l g hk
        split
        · rename_i hj
          have hkl : k < s.heap.length := (List.getElem?_eq_some_iff.1 hk).1
          refine ⟨_, _, ⟨⟨hm.below, hm.size, hm.wlo, fun k' e b hk' hb' => ?_, hm.dist, hm.own, hm.glob⟩, fun k' h => hm.all k' (by simpa using h), fun k' h => hm.top k' (by simpa using h), hm.facts, hm.kt⟩, ⟨fr'.1, fr'.2⟩, ⟨hl.env, hl.ks, by simpa using hl.len, hl.map⟩, rfl⟩
          simp only [S.H, List.getElem?_set] at hk'
          split at hk'
          · rename_i heq
            subst heq
            have hlen : k < (s.add (ent true (.arr sh .zeros (.lit 0)))).heap.length := by simp [S.add_eq]; omega
            rw [if_pos hlen] at hk'
            obtain rfl := Option.some.inj hk'
            have hold := hm.heap k ⟨true, .cells l, g⟩ b (by simp [S.H, S.add_eq, List.getElem?_append_left hkl, hk]) hb'
            intro hgt
            obtain ⟨p, h1, h2, h3⟩ := hold hgt
            refine ⟨p, h1, h2, fun j' c hj' => ?_⟩
            rw [List.getElem?_set] at hj'
            split at hj'
            · rename_i hjj
              subst hjj
              split at hj'
              · obtain rfl := Option.some.inj hj'
                obtain ⟨v, h4, h5⟩ := h3 j _ hj
                have hv : v = .slice none 0 0 := h5
                exact ⟨v, h4, by rw [hv]; exact nil_rel _ _⟩
              · cases hj'
            · exact h3 j' c hj'
          · exact hm.heap k' e b hk' hb'
        · exact same
      · exact same
    · exact same
/-- one entry more, of nothing -/
theorem Mem.addNone {s : S} (m : Mem C B w0 ρ β W s w) {e : HE} {b : BI} (ho : b.own = noOwn) (he : EOk ρ (upd β s.heap.length b) W w b e) : Mem C B w0 ρ (upd β s.heap.length b) W (s.add e) w :=
  have hn := m.top s.heap.length (Nat.le_refl _)
  m.add ((m.toPMem.grow hn).addNone hn ho fun e' he' => by
    rw [H_new] at he'
    obtain rfl := Option.some.inj he'
    exact he)
theorem matV_rel (n : Nat) (h : β n = some (nilB 1)) : (matV n (.lit 0)).rel ρ β (.slice none 0 0) :=
  ⟨none, 0, none, 0, by simp [SB.at, h, nilB], by rw [lit_I]; rfl, by rw [lit_I]; exact Int.le_refl _, by rw [lit_I]; exact Int.le_refl _, by rw [lit_I]; simp, Nat.zero_le _, fun _ => rfl, .inl rfl, by rw [lit_I]; simp, by simp, by rw [lit_I]; simp⟩
theorem normMo_sound {s : S} {a : Act} (q : LR) (sh : List FK) (m : Mem C B w0 ρ β W s w) (fr : Fr ρ β s a) : Same C B w0 ρ β W s (normMo s q sh) a w := by
  have hn := m.top s.heap.length (Nat.le_refl _)
  have hx1 := ext_upd (nilB 1) hn
  have m1 := m.addNone (e := ent true (.mo sh (s.heap.length + 1) (.lit 0))) (b := nilB 1) rfl (fun _ => ⟨by rw [lit_I]; exact Int.le_refl _, fun _ => rfl, rfl, .inl ⟨lit_I 0, rfl, rfl⟩⟩)
  have hl1 : (s.add (ent true (.mo sh (s.heap.length + 1) (.lit 0)))).heap.length = s.heap.length + 1 := by simp [S.add_eq]
  have hn1 := m1.top (s.heap.length + 1) (by rw [hl1]; exact Nat.le_refl _)
  have m2 := m1.addNone (e := ent true (.rw sh zerosM (.lit 0))) (b := nilB 1) rfl (fun _ => ⟨fun i a1 a2 _ => (by rw [lit_I] at a2; omega), fun _ i j a1 a2 => (by rw [lit_I] at a2; omega)⟩)
  rw [hl1] at m2
  have hx2 := ext_upd (nilB 1) hn1
  generalize hβ : upd (upd β s.heap.length (nilB 1)) (s.heap.length + 1) (nilB 1) = β2 at m2 hx2
  have hb2 : β2 s.heap.length = some (nilB 1) := by rw [← hβ, upd_other _ _ (by omega), upd_same]
  have hx : Ext β β2 := hx1.trans hx2
  generalize hs2 : ((s.add (ent true (.mo sh (s.heap.length + 1) (.lit 0)))).add (ent true (.rw sh zerosM (.lit 0)))) = s2 at m2
  have ht2 : s2.tmps = s.tmps := by rw [← hs2]; rfl
  have hk2 : s2.ks = s.ks := by rw [← hs2]; rfl
  have hlv : s2.lvl = s.lvl := by rw [← hs2]; rfl
  have hlen : s2.heap.length = s.heap.length + 2 := by rw [← hs2]; simp [S.add_eq]
  have hold : ∀ k, k < s.heap.length → s2.heap[k]? = s.heap[k]? := fun k hk => by
    rw [← hs2]
    simp only [S.add_eq]
    rw [List.getElem?_append_left (by simp; omega), List.getElem?_append_left hk]
  have fr' : Fr ρ β2 s2 a := Fr.ext hx fr ht2
  have hl : Later ρ β s ρ β2 s2 := Later.of_ext hx hk2 (by omega)
  have same : Same C B w0 ρ β W s s a w := ⟨β, W, m, fr, Later.refl _ _ _, rfl⟩
  unfold normMo
  simp only [hs2]
  cases q with
  | slot t =>
    simp only
    split
    · rename_i ht
      refine ⟨_, _, m2.put _ _, ⟨by rw [put_len]; exact fr'.1, fun t' sl hs => ?_⟩, hl.put _ _, (put_lvl _ _ _).trans hlv⟩
      rw [put_tmps] at hs
      split at hs
      · rename_i hc
        obtain rfl := Option.some.inj (Option.some.inj hs)
        obtain rfl := Option.some.inj hc.1
        have : a.tmps.getD t Go.undef = .slice none 0 0 := (fr.2 t _ ht).1 rfl
        rw [this]
        exact ⟨fun _ => matV_rel _ hb2, fun h => by cases h⟩
      · exact fr'.2 t' sl hs
    · exact same
  | cell t j =>
    simp only
    split
    · rename_i g0 k sz i f ht
      split
      · rename_i l g hk
        split
        · rename_i hj
          have hkl : k < s.heap.length := (List.getElem?_eq_some_iff.1 hk).1
          refine ⟨_, _, ⟨⟨m2.below, m2.size, m2.wlo, fun k' e b hk' hb' => ?_, m2.dist, m2.own, m2.glob⟩, fun k' h => m2.all k' (by simpa using h), fun k' h => m2.top k' (by simpa using h), m2.facts, m2.kt⟩, ⟨fr'.1, fr'.2⟩, ⟨hl.env, hl.ks, by simpa using hl.len, hl.map⟩, hlv⟩
          simp only [S.H, List.getElem?_set] at hk'
          split at hk'
          · rename_i heq
            subst heq
            rw [if_pos (by omega)] at hk'
            obtain rfl := Option.some.inj hk'
            have hold := m2.heap k ⟨true, .cells l, g⟩ b (by simp only [S.H]; rw [hold k hkl]; exact hk) hb'
            intro hgt
            obtain ⟨p, h1, h2, h3⟩ := hold hgt
            refine ⟨p, h1, h2, fun j' c hj' => ?_⟩
            rw [List.getElem?_set] at hj'
            split at hj'
            · rename_i hjj
              subst hjj
              split at hj'
              · obtain rfl := Option.some.inj hj'
                obtain ⟨v, h4, h5⟩ := h3 j _ hj
                have hv : v = .slice none 0 0 := h5
                exact ⟨v, h4, by rw [hv]; exact matV_rel _ hb2⟩
              · cases hj'
            · exact h3 j' c hj'
          · exact m2.heap k' e b hk' hb'
        · exact same
      · exact same
    · exact same
/-- a list of our own that is only read from now on -/
theorem freeze_sound {s : S} {a : Act} {k : Nat} {sh : List FK} {x n : X} (hk : s.heap[k]? = some ⟨true, .arr sh x n, .bl true⟩) (m : Mem C B w0 ρ β W s w) (fr : Fr ρ β s a) : Same C B w0 ρ β W s { s with heap := s.heap.set k ⟨false, .arr sh x n, .bl true⟩ } a w := by
  have hkl : k < s.heap.length := (List.getElem?_eq_some_iff.1 hk).1
  obtain ⟨b, hb⟩ := m.all k hkl
  have hx : Ext β (upd β k (strip b)) := fun j bj hj => by
    by_cases h : j = k
    · subst h
      obtain rfl := Option.some.inj (hj.symm.trans hb)
      exact ⟨strip bj, upd_same _ _ _, rfl⟩
    · exact ⟨bj, by rw [upd_other _ _ h]; exact hj, rfl⟩
  have hother : ∀ j bj, (upd β k (strip b)) j = some bj → ∀ r, bj.own r → j ≠ k ∧ β j = some bj := fun j bj hj r hr => by
    by_cases h : j = k
    · subst h
      rw [upd_same] at hj
      obtain rfl := Option.some.inj hj
      cases hr
    · rw [upd_other _ _ h] at hj
      exact ⟨h, hj⟩
  refine ⟨upd β k (strip b), fun r => W r ∧ ¬ b.own r, ⟨⟨m.below, m.size, fun r h => m.wlo r h.1, fun j e bj hj hbj => ?_, fun j j' c c' r hc hc' hr hr' => ?_, fun j c r hc hr => ?_, fun g j hg => by obtain ⟨b', h1, h2⟩ := m.glob g j hg; obtain ⟨b2, h3, h4⟩ := hx j b' h1; exact ⟨b2, h3, by rw [h4]; exact h2⟩⟩, fun j h => ?_, fun j h => ?_, m.facts, m.kt⟩, Fr.ext hx fr rfl, Later.of_ext hx rfl (by simp), rfl⟩
  · simp only [S.H, List.getElem?_set] at hj
    by_cases h : j = k
    · subst h
      rw [if_pos rfl, if_pos hkl] at hj
      obtain rfl := Option.some.inj hj
      rw [upd_same] at hbj
      obtain rfl := Option.some.inj hbj
      obtain ⟨h0, h00, hs, h1⟩ := m.heap j _ b hk hb rfl
      refine fun _ => ⟨h0, h00, hs, ?_⟩
      rcases h1 with h1 | h1 | ⟨p, h1, h2, h3, h4⟩
      · exact .inr (.inl ⟨h1.1, rfl⟩)
      · exact absurd h1.2 (by simp)
      · exact .inr (.inr ⟨p, h1, ⟨h2.1, fun h => (by cases h), fun _ hw => hw.2 (h2.2.1 rfl).2.1⟩, h3, fun i f k a1 a2 a3 => ⟨(h4 i f k a1 a2 a3).1, fun h => (by cases h)⟩⟩)
    · rw [if_neg (fun hh => h hh.symm)] at hj
      rw [upd_other _ _ h] at hbj
      exact EOk.below (Below.refl _ _) (fun r h => .inl h.1) hx (m.heap j e bj hj hbj)
  · obtain ⟨_, h1⟩ := hother j c hc r hr
    obtain ⟨_, h2⟩ := hother j' c' hc' r hr'
    exact m.dist j j' c c' r h1 h2 hr hr'
  · obtain ⟨h0, h1⟩ := hother j c hc r hr
    exact ⟨m.own j c r h1 hr, fun hbr => h0 (m.dist j k c b r h1 hb hr hbr)⟩
  · by_cases hj : j = k
    · subst hj; exact ⟨_, upd_same _ _ _⟩
    · rw [upd_other _ _ hj]; exact m.all j (by simpa using h)
  · have hl : s.heap.length ≤ j := by simpa using h
    rw [upd_other _ _ (by omega)]; exact m.top j hl
theorem freezeAt_sound {s : S} {a : Act} (q : LR) (sh : List FK) (m : Mem C B w0 ρ β W s w) (fr : Fr ρ β s a) : Same C B w0 ρ β W s (freezeAt s q sh) a w := by
  unfold freezeAt
  split
  · split
    · rename_i hk
      split
      · exact freeze_sound hk m fr
      · exact ⟨β, W, m, fr, Later.refl _ _ _, rfl⟩
    · exact ⟨β, W, m, fr, Later.refl _ _ _, rfl⟩
  · exact ⟨β, W, m, fr, Later.refl _ _ _, rfl⟩
theorem normOwn_sound {a : Act} : ∀ (l : List (LR × LM)) {s : S} {β : Mp} {W : Nat → Prop}, Mem C B w0 ρ β W s w → Fr ρ β s a → Same C B w0 ρ β W s (normOwn s l) a w
  | [], s, β, W, m, fr => ⟨β, W, m, fr, Later.refl _ _ _, rfl⟩
  | (q, .own sh) :: l, s, β, W, m, fr => by
    obtain ⟨β1, W1, m1, fr1, l1, e1⟩ := normNil_sound q sh m fr
    obtain ⟨β2, W2, m2, fr2, l2, e2⟩ := normOwn_sound l m1 fr1
    exact ⟨β2, W2, m2, fr2, l1.trans l2, e2.trans e1⟩
  | (q, .lst sh) :: l, s, β, W, m, fr => by
    obtain ⟨β1, W1, m1, fr1, l1, e1⟩ := normNil_sound q sh m fr
    obtain ⟨β3, W3, m3, fr3, l3, e3⟩ := freezeAt_sound q sh m1 fr1
    obtain ⟨β2, W2, m2, fr2, l2, e2⟩ := normOwn_sound l m3 fr3
    exact ⟨β2, W2, m2, fr2, l1.trans (l3.trans l2), e2.trans (e3.trans e1)⟩
  | (q, .mo sh) :: l, s, β, W, m, fr => by
    obtain ⟨β1, W1, m1, fr1, l1, e1⟩ := normMo_sound q sh m fr
    obtain ⟨β2, W2, m2, fr2, l2, e2⟩ := normOwn_sound l m1 fr1
    exact ⟨β2, W2, m2, fr2, l1.trans l2, e2.trans e1⟩
  | (q, .marr sh) :: l, s, β, W, m, fr => normOwn_sound l m fr
  | (q, .sc) :: l, s, β, W, m, fr => normOwn_sound l m fr
  | (q, .win) :: l, s, β, W, m, fr => normOwn_sound l m fr
  | (q, .arr) :: l, s, β, W, m, fr => normOwn_sound l m fr
  | (q, .keep) :: l, s, β, W, m, fr => normOwn_sound l m fr
end
end Go.Proofs.Ytpbpmabnmakdoaa.Vc
/- The symbolic executor: what append does. -/
namespace Go.Proofs.Ytpbpmabnmakdoaa.Vc
noncomputable section
open Go Go.RowKit
variable {ρ ρ' : List AV} {β β' : Mp} {W W' : Nat → Prop} {w w' : World} {P : Program} {C : Cfg} {B : Nat} {w0 : World}

theorem seqOf_argOf {s : S} {sh : List FK} {y : Sc} {b m : X} {nd : List X} (h : s.seqOf sh y = some (b, m, nd)) : argOf s (.bl true) (.slc sh) y = some (nd, [b, m]) := by
  unfold S.seqOf at h
  split at h
  · rename_i bb sz off len cp
    split at h
    · rename_i hs
      simp only [Option.map_eq_some_iff] at h
      obtain ⟨x, hx, he⟩ := h
      obtain ⟨h1, he⟩ := Prod.mk.inj he
      obtain ⟨h2, h3⟩ := Prod.mk.inj he
      subst h2 h3
      simp only [argOf, if_pos hs, hx, Option.map_some, h1]
    · cases h
  · obtain ⟨rfl, he⟩ := Prod.mk.inj (Option.some.inj h)
    obtain ⟨rfl, rfl⟩ := Prod.mk.inj he
    rfl
  · cases h
/-- the cells of n elements -/
def rowCells (sh : List FK) (f : Int → Nat → Int) (n : Nat) : List Value := (List.range (n * sh.length)).map fun j => match sh[j % sh.length]? with | some k => k.val (f ((j / sh.length : Nat) : Int) (j % sh.length)) | none => Go.undef
theorem rowCells_len (sh : List FK) (f : Int → Nat → Int) (n : Nat) : (rowCells sh f n).length = n * sh.length := by simp [rowCells]
theorem rowCells_get {sh : List FK} {f : Int → Nat → Int} {n j : Nat} {v : Value} (h : (rowCells sh f n)[j]? = some v) : ∃ k, sh[j % sh.length]? = some k ∧ j / sh.length < n ∧ v = k.val (f ((j / sh.length : Nat) : Int) (j % sh.length)) := by
  simp only [rowCells, List.getElem?_map, Option.map_eq_some_iff] at h
  obtain ⟨j', hj, rfl⟩ := h
  have hlt := (List.getElem?_eq_some_iff.1 hj).1
  simp at hlt
  rw [List.getElem?_range hlt] at hj
  obtain rfl := Option.some.inj hj
  have hs : 0 < sh.length := by
    rcases Nat.eq_zero_or_pos sh.length with h0 | h0
    · rw [h0] at hlt; simp at hlt
    · exact h0
  have hm := Nat.mod_lt j hs
  refine ⟨sh[j % sh.length], List.getElem?_eq_getElem hm, (Nat.div_lt_iff_lt_mul hs).2 hlt, ?_⟩
  rw [List.getElem?_eq_getElem hm]
theorem rowCells_at {sh : List FK} {f : Int → Nat → Int} {n i g : Nat} {k : FK} (hi : i < n) (hk : sh[g]? = some k) : (rowCells sh f n)[i * sh.length + g]? = some (k.val (f (i : Int) g)) := by
  have hg := (List.getElem?_eq_some_iff.1 hk).1
  have hlt : i * sh.length + g < n * sh.length := by
    have : (i + 1) * sh.length ≤ n * sh.length := Nat.mul_le_mul_right _ hi
    rw [Nat.add_mul] at this; omega
  have hs : 0 < sh.length := by omega
  have hd : (i * sh.length + g) / sh.length = i := by rw [Nat.add_comm, Nat.add_mul_div_right _ _ hs, Nat.div_eq_of_lt hg, Nat.zero_add]
  have hmod : (i * sh.length + g) % sh.length = g := by rw [Nat.add_comm, Nat.add_mul_mod_self_right, Nat.mod_eq_of_lt hg]
  simp only [rowCells, List.getElem?_map, List.getElem?_range hlt, Option.map_some, hd, hmod, hk]
theorem FK.one (k : FK) (z : Int) : (k.val z).oneCell' = true := by cases k <;> rfl
theorem rowCells_one {sh : List FK} {f : Int → Nat → Int} {n : Nat} : ∀ v ∈ rowCells sh f n, v.oneCell' = true := by
  intro v hv
  obtain ⟨j, hj, rfl⟩ := List.getElem_of_mem hv
  obtain ⟨k, _, _, e⟩ := rowCells_get (List.getElem?_eq_getElem hj)
  rw [e]; exact k.one _
/-- where the answer lies: r, capacity c; n + m elements of the two lists, one behind the other -/
structure AppOut (w w' : World) (r c sz : Nat) (cs : List Value) : Prop where
  there : ∀ j, j < c * sz → ∃ v, w'.cell? ⟨r, j, none⟩ = some v ∧ w'.frozen? ⟨r, j, none⟩ = false
  val : ∀ (j : Nat) v, cs[j]? = some v → w'.cell? ⟨r, j, none⟩ = some v ∧ w'.frozen? ⟨r, j, none⟩ = false
theorem add0' (r o j : Nat) : (⟨r, o, none⟩ : Addr).add j = ⟨r, o + j, none⟩ := by unfold Addr.add; split <;> simp_all
/-- append where there is room -/
theorem append_room {t e ty : TypeId} {i : TypeInfo} (ht : P.underlying t = some (.slice e)) (hi : P.info? e = some i) {r n cap m c : Nat} {q' : Option Addr} {news : List Value}
    (hq' : q' = none → m = 0) (hnl : news.length = m * i.size) (hns : ∀ p, q' = some p → ∀ j v, news[j]? = some v → w.cell? (p.add j) = some v) (h1 : ∀ v ∈ news, v.oneCell' = true)
    (hroom : n + m ≤ cap) (hex : ∀ j, j < cap * i.size → ∃ v, w.cell? ⟨r, j, none⟩ = some v ∧ w.frozen? ⟨r, j, none⟩ = false) :
    (Builtin.append_ #[t, t] ty #[.slice (some ⟨r, 0, none⟩) n cap, .slice q' m c]).run P w = .ok (.slice (some ⟨r, 0, none⟩) (n + m) cap) (w.setCells r (n * i.size) news) := by
  have hf : (Builtin.firstCells i.size m (.slice q' m c)).run P w = .ok news.toArray w := by
    cases q' with
    | none =>
      have h0 := hq' rfl
      subst h0
      have : news = [] := List.eq_nil_of_length_eq_zero (by simpa using hnl)
      subst this
      exact run_firstCells_none w i.size 0 0 c
    | some p => exact run_firstCells_some (P := P) w i.size m p m c news hnl (hns p rfl)
  have hle : (n + m) * i.size ≤ cap * i.size := Nat.mul_le_mul_right _ hroom
  rw [Nat.add_mul] at hle
  have hst := run_storeCells_cells (P := P) r (n * i.size) news 0 w (fun j hj => by
      obtain ⟨v, hv, _⟩ := hex (n * i.size + j) (by omega)
      simp [hv]) (fun j hj => by
      obtain ⟨v, _, hv⟩ := hex (n * i.size + j) (by omega)
      simpa using hv) h1
  rw [Nat.add_zero] at hst
  have hadd : (⟨r, 0, none⟩ : Addr).add (n * i.size) = ⟨r, n * i.size, none⟩ := by rw [add0', Nat.zero_add]
  simp only [Builtin.append_]
  simp [run_underlying ht, sizeOf, typeInfo, hi, Builtin.lenOf, hroom, hf, hadd, hst]
/-- nothing behind nothing -/
theorem append_nothing {t e ty : TypeId} {i : TypeInfo} (ht : P.underlying t = some (.slice e)) (hi : P.info? e = some i) {c : Nat} {q q' : Option Addr} :
    (Builtin.append_ #[t, t] ty #[.slice q 0 0, .slice q' 0 c]).run P w = .ok (.slice q 0 0) w := by
  have hf : (Builtin.firstCells i.size 0 (.slice q' 0 c)).run P w = .ok #[] w := by
    cases q' with
    | none => exact run_firstCells_none w i.size 0 0 c
    | some p => exact run_firstCells_some (P := P) w i.size 0 p 0 c [] (by simp) (fun j v h => by simp at h)
  cases q with
  | none => simp [Builtin.append_, run_underlying ht, sizeOf, typeInfo, hi, Builtin.lenOf, hf]
  | some p => simp [Builtin.append_, run_underlying ht, sizeOf, typeInfo, hi, Builtin.lenOf, hf, storeCells]
/-- append into a new block -/
theorem append_grow {t e ty : TypeId} {i : TypeInfo} {z : Value} (ht : P.underlying t = some (.slice e)) (hi : P.info? e = some i) (hz : i.zero = some z) (hzs : z.cells.size = i.size) {q : Option Addr} {n cap m c : Nat} {q' : Option Addr} {olds news : List Value}
    (hq : q = none → cap = 0) (hn : n ≤ cap) (hol : olds.length = n * i.size) (hos : ∀ p, q = some p → ∀ j v, olds[j]? = some v → w.cell? (p.add j) = some v)
    (hq' : q' = none → m = 0) (hnl : news.length = m * i.size) (hns : ∀ p, q' = some p → ∀ j v, news[j]? = some v → w.cell? (p.add j) = some v)
    (hg : cap < n + m) (h63 : n + m ≤ 2 ^ 47) (hb : (n + m) * i.bytes ≤ 2 ^ 47) :
    ∃ c' zs, n + m ≤ c' ∧ c' ≤ maxLen ∧ zs.length = (c' - (n + m)) * i.size ∧ (Builtin.append_ #[t, t] ty #[.slice q n cap, .slice q' m c]).run P w = .ok (.slice (some ⟨w.heap.size, 0, none⟩) (n + m) c') (w.drew.alloc (.cells (olds ++ news ++ zs).toArray e)) := by
  have hm : 0 < m := by omega
  obtain ⟨p', rfl⟩ : ∃ p', q' = some p' := by
    cases q' with
    | none => have := hq' rfl; omega
    | some p' => exact ⟨p', rfl⟩
  have hmax : n + m ≤ maxLen := by simp only [maxLen]; omega
  cases q with
  | none =>
    have h0 := hq rfl
    subst h0
    obtain rfl : n = 0 := by omega
    have ho : olds = [] := List.eq_nil_of_length_eq_zero (by simpa using hol)
    subst ho
    simp only [Nat.zero_add] at *
    refine ⟨grownCap w m 0 e, (Builtin.zeroCells z.cells (grownCap w m 0 e - m)).toList, grownCap_ge _ _ _ _, grownCap_le_maxLen _ _ _ _ hmax, by simp [size_zeroCells, hzs], ?_⟩
    rw [run_append_nil (P := P) w t ty e i z ht hi hz p' m c news hnl (hns p' rfl) (by omega) (by omega) (by omega)]
    refine congrArg (fun x => Result.ok _ (w.drew.alloc (.cells x e))) ?_
    apply Array.ext'
    simp
  | some p =>
    refine ⟨grownCap w (n + m) cap e, (Builtin.zeroCells z.cells (grownCap w (n + m) cap e - (n + m))).toList, grownCap_ge _ _ _ _, grownCap_le_maxLen _ _ _ _ hmax, by simp [size_zeroCells, hzs], ?_⟩
    rw [run_append_grow (P := P) w t ty e i z ht hi hz p n cap olds hol (hos p rfl) p' m c news hnl (hns p' rfl) (by omega) (by omega) (growslice_fits (by omega) hb)]
    refine congrArg (fun x => Result.ok _ (w.drew.alloc (.cells x e))) ?_
    apply Array.ext'
    simp
theorem appOut_grow {olds news zs : List Value} {c' n m sz : Nat} {e : TypeId} (hc : n + m ≤ c') (ho : olds.length = n * sz) (hn : news.length = m * sz) (hz : zs.length = (c' - (n + m)) * sz) :
    AppOut w (w.drew.alloc (.cells (olds ++ news ++ zs).toArray e)) w.heap.size c' sz (olds ++ news) := by
  have hlen : (olds ++ news ++ zs).length = c' * sz := by
    simp only [List.length_append, ho, hn, hz, ← Nat.add_mul]
    congr 1; omega
  have hcell : ∀ (j : Nat) v, (olds ++ news ++ zs)[j]? = some v → (w.drew.alloc (.cells (olds ++ news ++ zs).toArray e)).cell? ⟨w.heap.size, j, none⟩ = some v ∧ (w.drew.alloc (.cells (olds ++ news ++ zs).toArray e)).frozen? ⟨w.heap.size, j, none⟩ = false := fun j v hv => by
    have hg : (w.drew.alloc (.cells (olds ++ news ++ zs).toArray e)).heap[w.heap.size]? = some (.cells (olds ++ news ++ zs).toArray e (0, 0)) := heap_alloc_new w.drew _
    refine ⟨?_, ?_⟩
    · rw [cell_of_row _ _ j _ e (0, 0) hg]
      simpa using hv
    · simp only [World.frozen?]
      rw [hg]
      simp
  refine ⟨fun j hj => ?_, fun j v hv => hcell j v ?_⟩
  · rw [← hlen] at hj
    exact ⟨_, hcell j _ (List.getElem?_eq_getElem hj)⟩
  · rw [List.getElem?_append_left (List.getElem?_eq_some_iff.1 hv).1]; exact hv
theorem appOut_room {olds news : List Value} {r cap n m sz : Nat} (hroom : n + m ≤ cap) (ho : olds.length = n * sz) (hn : news.length = m * sz) (hex : ∀ j, j < cap * sz → ∃ v, w.cell? ⟨r, j, none⟩ = some v ∧ w.frozen? ⟨r, j, none⟩ = false)
    (hos : ∀ (j : Nat) v, olds[j]? = some v → w.cell? ⟨r, j, none⟩ = some v) : AppOut w (w.setCells r (n * sz) news) r cap sz (olds ++ news) := by
  have hle : (n + m) * sz ≤ cap * sz := Nat.mul_le_mul_right _ hroom
  rw [Nat.add_mul] at hle
  have hin := World.cell?_setCells_in r news (n * sz) w (fun j hj => by
    obtain ⟨v, hv, _⟩ := hex (n * sz + j) (by omega)
    simp [hv])
  have hfz : ∀ j, (w.setCells r (n * sz) news).frozen? ⟨r, j, none⟩ = w.frozen? ⟨r, j, none⟩ := fun j => World.frozen?_setCells _ _ _ _ _
  have hc : ∀ j, j < cap * sz → ∃ v, (w.setCells r (n * sz) news).cell? ⟨r, j, none⟩ = some v ∧ (j < n * sz → w.cell? ⟨r, j, none⟩ = some v) ∧ (∀ (h1 : n * sz ≤ j) (h2 : j - n * sz < news.length), v = news[j - n * sz]) := fun j hj => by
    by_cases h : n * sz ≤ j ∧ j < n * sz + news.length
    · have := hin (j - n * sz) (by omega)
      rw [show n * sz + (j - n * sz) = j by omega] at this
      exact ⟨_, this, fun h' => by omega, fun _ _ => rfl⟩
    · obtain ⟨v, hv, _⟩ := hex j hj
      refine ⟨v, ?_, fun _ => hv, fun h1 h2 => by omega⟩
      rw [World.cell?_setCells_out r news _ w _ (fun _ _ => by simp only; omega)]; exact hv
  refine ⟨fun j hj => ?_, fun j v hv => ?_⟩
  · obtain ⟨v, h1, _⟩ := hc j hj
    obtain ⟨_, _, hf⟩ := hex j hj
    exact ⟨v, h1, by rw [hfz]; exact hf⟩
  · have hlt := (List.getElem?_eq_some_iff.1 hv).1
    simp only [List.length_append, ho, hn] at hlt
    obtain ⟨u, h1, h2, h3⟩ := hc j (by omega)
    obtain ⟨_, _, hf⟩ := hex j (by omega)
    refine ⟨?_, by rw [hfz]; exact hf⟩
    rw [List.getElem?_append, ho] at hv
    split at hv
    · rename_i hj
      have := hos j v hv
      rw [h2 hj] at this
      rw [h1, this]
    · rename_i hj
      have hlt2 := (List.getElem?_eq_some_iff.1 hv).1
      rw [List.getElem?_eq_getElem hlt2] at hv
      rw [h1, h3 (by omega) hlt2]; exact hv
end
end Go.Proofs.Ytpbpmabnmakdoaa.Vc
/- The symbolic executor: append, carried through. -/
namespace Go.Proofs.Ytpbpmabnmakdoaa.Vc
noncomputable section
open Go Go.RowKit
variable {ρ ρ' : List AV} {β β' : Mp} {W W' : Nat → Prop} {w w' : World} {P : Program} {C : Cfg} {B : Nat} {w0 : World}

/-- what is appended to -/
structure BaseOk (ρ : List AV) (β : Mp) (w : World) (sh : List FK) (a n : X) (used : Option Nat) (v : Value) : Prop where
  out : ∃ q cap, v = .slice q (n.I ρ).toNat cap ∧ 0 ≤ n.I ρ ∧ (n.I ρ).toNat ≤ cap ∧ cap ≤ maxLen ∧ (q = none → cap = 0) ∧
    (cap = 0 ∨ ∃ k bi r, used = some k ∧ β k = some bi ∧ bi.own r ∧ r < w.heap.size ∧ q = some ⟨r, 0, none⟩ ∧
      (∀ j, j < cap * sh.length → ∃ u, w.cell? ⟨r, j, none⟩ = some u ∧ w.frozen? ⟨r, j, none⟩ = false) ∧
      ∀ (i : Int) f k, 0 ≤ i → i < n.I ρ → sh[f]? = some k → w.cell? ⟨r, i.toNat * sh.length + f, none⟩ = some (k.val ((a.den ρ).fn i f)))
  used : ∀ k, used = some k → ∃ bi, β k = some bi
theorem baseOf_sound {s : S} {sh : List FK} {x : Sc} {a n : X} {used : Option Nat} {nd : List X} (hf : s.factsOk ρ) (hh : ∀ k e b, s.heap[k]? = some e → β k = some b → EOk ρ β W w b e) (h : baseOf s sh x = some (a, n, used, nd)) {v : Value} (hv : x.rel ρ β v) : BaseOk ρ β w sh a n used v ∧ ∀ k, used = some k → ∃ e, s.heap[k]? = some e ∧ e.body ≠ .gone := by
  unfold baseOf at h
  split at h
  · obtain ⟨rfl, h1⟩ := Prod.mk.inj (Option.some.inj h)
    obtain ⟨rfl, h2⟩ := Prod.mk.inj h1
    obtain ⟨rfl, rfl⟩ := Prod.mk.inj h2
    exact ⟨⟨⟨none, 0, hv, by rw [lit_I]; exact Int.le_refl _, by rw [lit_I]; exact Nat.le_refl _, Nat.zero_le _, fun _ => rfl, .inl rfl⟩, fun k hk => by cases hk⟩, fun k hk => by cases hk⟩
  · rename_i k sz len
    split at h
    · rename_i sh' a' n' eg hk
      split at h
      · rename_i hc
        obtain ⟨rfl, rfl, rfl⟩ := hc
        obtain ⟨rfl, h1⟩ := Prod.mk.inj (Option.some.inj h)
        obtain ⟨rfl, h2⟩ := Prod.mk.inj h1
        obtain ⟨rfl, rfl⟩ := Prod.mk.inj h2
        obtain ⟨hk, hgt⟩ := body_sound hf (show (X.bl true).B ρ = true from rfl) hk
        have hv : (Sc0.slc (.blk k) sh.length (.lit 0) len none).rel ρ β v := hv
        obtain ⟨p, c, q, r, hat, rfl, ho0, hl0, hlr, hrm, hpc, hq, hrc, _, hcp⟩ := hv
        simp only [SB.at, Option.map_eq_some_iff] at hat
        obtain ⟨bi, hb, he⟩ := hat
        obtain ⟨rfl, rfl⟩ := Prod.mk.inj he
        have hrc' : r = bi.v.cap := by have := hcp rfl; rw [lit_I] at this; simpa using this
        subst hrc'
        refine ⟨⟨⟨q, bi.v.cap, rfl, hl0, hlr, hrm, ?_, ?_⟩, fun k' hk' => ?_⟩, fun k' hk' => ?_⟩
        · intro hqn
          rcases hq with hq | hq
          · exact hq
          · cases hp : bi.v.addr with
            | none => exact hpc hp
            | some p => rw [hp, hqn] at hq; simp at hq
        · by_cases hc0 : bi.v.cap = 0
          · exact .inl hc0
          · refine .inr ?_
            have hE := (hh k _ bi hk hb) hgt
            simp only at hE
            obtain ⟨_, _, hsz, hE⟩ := hE
            rcases hE with ⟨_, h2, _⟩ | ⟨_, h2⟩ | ⟨p, hp, hpl, hcap, hval⟩
            · exact absurd h2 hc0
            · cases h2
            · obtain ⟨hp1, hp2, _⟩ := hpl
              obtain ⟨a1, a2, a3⟩ := hp2 rfl
              have hqp : q = some ⟨p.block, 0, none⟩ := by
                rcases hq with h | h
                · exact absurd h hc0
                · rw [h, hp, lit_I, ← a1]; simp [Addr.add]
              refine ⟨k, bi, p.block, rfl, hb, a2, hp1, hqp, fun j hj => a3 j (by rw [hsz]; exact hj), fun i f kk i0 i1 hk => ?_⟩
              have := (hval i f kk i0 i1 hk).1
              rw [a1, add0] at this
              exact this
        · cases hk'; exact ⟨bi, hb⟩
        · cases hk'; exact ⟨_, hk, fun h => by cases h⟩
      · cases h
    · cases h
  · rename_i b sz off
    obtain ⟨rfl, h1⟩ := Prod.mk.inj (Option.some.inj h)
    obtain ⟨rfl, h2⟩ := Prod.mk.inj h1
    obtain ⟨rfl, rfl⟩ := Prod.mk.inj h2
    have hv : (Sc0.slc b sz off (.lit 0) (some (.lit 0))).rel ρ β v := hv
    obtain ⟨p, c, q, r, hat, rfl, ho0, hl0, hlr, hrm, hpc, hq, hrc, hcp, _⟩ := hv
    have hr0 : r = 0 := by have := hcp _ rfl; rw [lit_I] at this; omega
    subst hr0
    exact ⟨⟨⟨q, 0, rfl, hl0, hlr, Nat.zero_le _, fun _ => rfl, .inl rfl⟩, fun k hk => by cases hk⟩, fun k hk => by cases hk⟩
  · rename_i k sz n n' _
    split at h
    · rename_i l eg hk
      split at h
      · rename_i hc
        obtain ⟨rfl, rfl, hpos, hn0, hll⟩ := hc
        simp only [Option.map_eq_some_iff] at h
        obtain ⟨a', ha, h2⟩ := h
        obtain ⟨rfl, h1⟩ := Prod.mk.inj h2
        obtain ⟨rfl, h3⟩ := Prod.mk.inj h1
        obtain ⟨rfl, rfl⟩ := Prod.mk.inj h3
        obtain ⟨hk, hgt⟩ := body_sound hf (show (X.bl true).B ρ = true from rfl) hk
        have hv : (Sc0.slc (.blk k) sh.length (.lit 0) (.lit n) (some (.lit n))).rel ρ β v := hv
        obtain ⟨p0, c, q, r, hat, rfl, ho0, hl0, hlr, hrm, hpc, hq, hrc, hcp, _⟩ := hv
        simp only [SB.at, Option.map_eq_some_iff] at hat
        obtain ⟨bi, hb, he⟩ := hat
        obtain ⟨rfl, rfl⟩ := Prod.mk.inj he
        have hrn : (r : Int) = n := by have := hcp _ rfl; rw [lit_I] at this; exact this
        obtain ⟨p, hp, ⟨hp1, hp2, hp3⟩, hval⟩ := (hh k _ bi hk hb) hgt
        obtain ⟨a1, a2, a3⟩ := hp2 rfl
        have hnr : n.toNat = r := by omega
        have hqn : q = none → r = 0 := fun hqn => by
          rcases hq with h | h
          · exact h
          · rw [h, hp] at hqn; simp at hqn
        refine ⟨⟨⟨q, r, rfl, hl0, hlr, hrm, hqn, ?_⟩, fun k' hk' => by cases hk'; exact ⟨bi, hb⟩⟩, fun k' hk' => by cases hk'; exact ⟨_, hk, fun h => by cases h⟩⟩
        by_cases hr0 : r = 0
        · exact .inl hr0
        · have hqp : q = some ⟨p.block, 0, none⟩ := by
            rcases hq with h | h
            · exact absurd h hr0
            · rw [h, hp, lit_I, ← a1]; simp [Addr.add]
          obtain ⟨_, hget⟩ := rowsOf_sound (ρ := ρ) (β := β) hpos n.toNat ha (by omega)
          refine .inr ⟨k, bi, p.block, rfl, hb, a2, hp1, hqp, fun j hj => ?_, fun i f kk i0 i1 hkk => ?_⟩
          · have hjl : j < l.length := by rw [hll, hnr]; exact hj
            obtain ⟨v, h4, _⟩ := hval j _ (List.getElem?_eq_getElem hjl)
            rw [a1, add0] at h4
            exact ⟨v, h4.1, h4.2 rfl⟩
          · rw [lit_I] at i1
            have hfl : f < sh.length := (List.getElem?_eq_some_iff.1 hkk).1
            have hidx : i.toNat * sh.length + f < l.length := by
              rw [hll, hnr]
              have : i.toNat + 1 ≤ r := by omega
              have := Nat.mul_le_mul_right sh.length this
              rw [Nat.add_mul] at this
              omega
            obtain ⟨v, h4, h5⟩ := hval _ _ (List.getElem?_eq_getElem hidx)
            rw [a1, add0] at h4
            have := hget i.toNat f _ kk (by omega) hfl (List.getElem?_eq_getElem hidx) hkk v h5
            have hi : ((0 + i.toNat : Nat) : Int) = i := by omega
            rw [hi] at this
            rw [← this]
            exact h4.1
      · cases h
    · cases h
  · cases h
/-- an entry whose content is given up -/
theorem PMem.give {H : Nat → Option HE} (m : PMem C B w0 ρ β W H w) {k : Nat} {bi : BI} (hk : β k = some bi) : PMem C B w0 ρ (upd β k ⟨bi.v, noOwn⟩) W (fun j => if j = k then some (ent true .gone) else H j) w := by
  have hx : Ext β (upd β k ⟨bi.v, noOwn⟩) := fun j b hb => by
    by_cases h : j = k
    · subst h
      obtain rfl := Option.some.inj (hb.symm.trans hk)
      exact ⟨_, upd_same .., rfl⟩
    · exact ⟨b, by rw [upd_other _ _ h]; exact hb, rfl⟩
  have hback : ∀ j b r, upd β k ⟨bi.v, noOwn⟩ j = some b → b.own r → β j = some b ∧ j ≠ k := fun j b r hb ho => by
    by_cases h : j = k
    · rw [h, upd_same] at hb
      obtain rfl := Option.some.inj hb
      cases ho
    · rw [upd_other _ _ h] at hb; exact ⟨hb, h⟩
  refine ⟨m.below, m.size, m.wlo, fun j e b hj hb => ?_, fun j j' b b' r hb hb' ho ho' => ?_, fun j b r hb ho => ?_, fun g j hg => ?_⟩
  · split at hj
    · obtain rfl := Option.some.inj hj
      intro _; trivial
    · rename_i hne
      rw [upd_other _ _ hne] at hb
      exact (m.heap j e b hj hb).below (Below.refl _ _) (fun r hr => .inl hr) hx
  · exact m.dist j j' b b' r (hback j b r hb ho).1 (hback j' b' r hb' ho').1 ho ho'
  · exact m.own j b r (hback j b r hb ho).1 ho
  · obtain ⟨b1, h1, h2⟩ := m.glob g j hg
    obtain ⟨b2, h3, h4⟩ := hx j b1 h1
    exact ⟨b2, h3, by rw [h4]; exact h2⟩
/-- one of our own blocks, that no entry has, under a new entry -/
theorem PMem.reuse {H : Nat → Option HE} (m : PMem C B w0 ρ β W H w) {n : Nat} (hn : β n = none) {e : HE} {b : BI} {r : Nat} (hr : W r) (hno : ∀ k b, β k = some b → ¬ b.own r) (hb : b.own = (· = r)) (hbut : But r w w') (hbel : Below B w w') (hsz : w'.heap.size = w.heap.size)
    (he : EOk ρ (upd β n b) W w' b e) : PMem C B w0 ρ (upd β n b) W (fun j => if j = n then some e else H j) w' := by
  have hx := ext_upd b hn
  refine ⟨m.below.trans hbel, by rw [hsz]; exact m.size, fun r hr => by rw [hsz]; exact m.wlo r hr, fun k e' b' hk hb' => ?_, fun k k' b1 b2 r' h1 h2 o1 o2 => ?_, fun k b1 r' h1 o1 => ?_, fun g k hg => ?_⟩
  · by_cases hkn : k = n
    · subst hkn
      rw [upd_same] at hb'
      obtain rfl := Option.some.inj hb'
      simp only [if_true] at hk
      obtain rfl := Option.some.inj hk
      exact he
    · rw [upd_other _ _ hkn] at hb'
      simp only [if_neg hkn] at hk
      exact ((m.heap k e' b' hk hb').but hbut hr (hno k b' hb')).below (Below.refl _ _) (fun r hr => .inl hr) hx
  · by_cases e1 : k = n
    · by_cases e2 : k' = n
      · rw [e1, e2]
      · rw [e1, upd_same] at h1
        obtain rfl := Option.some.inj h1
        rw [upd_other _ _ e2] at h2
        rw [hb] at o1
        obtain rfl := o1
        exact absurd o2 (hno k' b2 h2)
    · rw [upd_other _ _ e1] at h1
      by_cases e2 : k' = n
      · rw [e2, upd_same] at h2
        obtain rfl := Option.some.inj h2
        rw [hb] at o2
        obtain rfl := o2
        exact absurd o1 (hno k b1 h1)
      · rw [upd_other _ _ e2] at h2
        exact m.dist k k' b1 b2 r' h1 h2 o1 o2
  · by_cases e1 : k = n
    · rw [e1, upd_same] at h1
      obtain rfl := Option.some.inj h1
      rw [hb] at o1
      obtain rfl := o1
      exact hr
    · rw [upd_other _ _ e1] at h1
      exact m.own k b1 r' h1 o1
  · obtain ⟨b1, h1, h2⟩ := m.glob g k hg
    obtain ⟨b2, h3, h4⟩ := hx k b1 h1
    exact ⟨b2, h3, by rw [h4]; exact h2⟩
/-- a new entry, known from now on -/
theorem PMem.name {H : Nat → Option HE} (m : PMem C B w0 ρ β W H w) {n : Nat} (hn : β n = none) (e : HE) : PMem C B w0 ρ β W (fun j => if j = n then some e else H j) w :=
  m.congr fun k b hb => if_neg fun h => by rw [h, hn] at hb; cases hb
end
end Go.Proofs.Ytpbpmabnmakdoaa.Vc
/- The symbolic executor: append as a step. -/
namespace Go.Proofs.Ytpbpmabnmakdoaa.Vc
noncomputable section
open Go Go.RowKit
variable {ρ ρ' : List AV} {β β' : Mp} {W W' : Nat → Prop} {w w' : World} {P : Program} {C : Cfg} {B : Nat} {w0 : World}

theorem eok_appOut {β' : Mp} {sh : List FK} {f g : Int → Nat → Int} {n m cap r : Nat} {a' n' : X} (hout : AppOut w w' r cap sh.length (rowCells sh f n ++ rowCells sh g m)) (hn : n'.I ρ = (n : Int) + m) (hcap : n + m ≤ cap) (hr : r < w'.heap.size)
    (hf : ∀ (i : Int) j, 0 ≤ i → (a'.den ρ).fn i j = if i < n then f i j else g (i - n) j) : EOk ρ β' W' w' ⟨⟨some ⟨r, 0, none⟩, cap, sh.length, fun _ => none, fun _ => 0, fun _ => 0⟩, (· = r)⟩ (ent true (.arr sh a' n')) := by
  intro _
  refine ⟨by rw [hn]; omega, fun h => (by cases h), rfl, .inr (.inr ⟨⟨r, 0, none⟩, rfl, ⟨hr, fun _ => ⟨rfl, rfl, hout.there⟩, fun h => (by cases h)⟩, by rw [hn]; simp only; omega, fun i j k i0 i1 hk => ?_⟩)⟩
  rw [hn] at i1
  rw [add0, hf i j i0]
  have hj := (List.getElem?_eq_some_iff.1 hk).1
  by_cases hi : i < n
  · rw [if_pos hi]
    have h1 := rowCells_at (f := f) (n := n) (i := i.toNat) (by omega) hk
    have h2 := hout.val (i.toNat * sh.length + j) _ (by rw [List.getElem?_append_left (List.getElem?_eq_some_iff.1 h1).1]; exact h1)
    rw [Int.toNat_of_nonneg i0] at h2
    exact ⟨h2.1, fun _ => h2.2⟩
  · rw [if_neg hi]
    have h1 := rowCells_at (f := g) (n := m) (i := i.toNat - n) (by omega) hk
    have hle : n * sh.length ≤ i.toNat * sh.length := Nat.mul_le_mul_right _ (by omega)
    have h2 := hout.val (i.toNat * sh.length + j) _ (by
      rw [List.getElem?_append_right (by rw [rowCells_len]; omega), rowCells_len]
      rw [← h1]
      congr 1
      rw [Nat.sub_mul]; omega)
    have e : ((i.toNat - n : Nat) : Int) = i - n := by omega
    rw [e] at h2
    exact ⟨h2.1, fun _ => h2.2⟩
theorem mapOpt_len {α γ : Type} {f : α → Option γ} : ∀ {l : List α} {m : List γ}, mapOpt f l = some m → m.length = l.length
  | [], m, h => by simp [mapOpt] at h; subst h; rfl
  | x :: l, m, h => by
    simp only [mapOpt] at h
    split at h
    · rename_i y ys _ h2
      obtain rfl := Option.some.inj h
      simp [mapOpt_len h2]
    · cases h
section
variable {Γ : FuncId → Con} {Qd : List AV → Prop} {ctx : List (List AV → Prop)} {s : S} {a : Act} {ops : Array Oper} {o : Oper} {K : S → Tree} {K' : Act → World → Prop} {Q : Exit → Act → World → Prop}
theorem run_append {args : Array Operand} {ts : Array TypeId} {x y : Operand} {t : TypeId} (ho : o.op = .call { callee := .builtin .append, args := args, argTypes := ts }) (hx : args = #[x, y]) (ht : ts = #[t, t]) {u : Value}
    (h : (Builtin.append_ #[t, t] o.type #[a.eval x, a.eval y]).run P w = .ok u w') : (execOp a.eval o).run P w = .ok (.value u) w' := by
  subst hx ht
  unfold execOp
  simp only [ho, resolve, invoke, builtin, Sem.run_bind, Sem.run_pure, Result.andThen_ok, List.map_toArray, List.map_cons, List.map_nil, h]
/-- the entries behind an append -/
def appH (n : Nat) (used : Option Nat) (e : HE) (H : Nat → Option HE) : Nat → Option HE := fun j => if j = n then some e else if used = some j then some (ent true .gone) else H j
theorem seqC_sound {s : S} {sz : Nat} {y : Sc} {m : List Sc} (hf : s.factsOk ρ) (hh : ∀ k e b, s.heap[k]? = some e → β k = some b → EOk ρ β W w b e) (h : seqC s sz y = some m) (hpos : 0 < sz) (hm : 0 < m.length) {v : Value} (hv : y.rel ρ β v) :
    ∃ p' c' us, v = .slice (some p') (m.length / sz) c' ∧ m.length / sz * sz = m.length ∧ RelL (Sc.rel ρ β) m us ∧ ∀ (j : Nat) u, us[j]? = some u → w.cell? (p'.add j) = some u := by
  unfold seqC at h
  split at h
  · rename_i k sz' o n cp
    split at h
    · rename_i own l eg hk
      split at h
      · rename_i hc
        obtain ⟨rfl, ho0, hn0, hle⟩ := hc
        obtain rfl := Option.some.inj h
        obtain ⟨hk, hgt⟩ := body_sound hf (show (X.bl true).B ρ = true from rfl) hk
        have hv : (Sc0.slc (.blk k) sz' (.lit o) (.lit n) cp).rel ρ β v := hv
        obtain ⟨p, c, q, r, hat, rfl, _, _, hlr, hrm, hpc, hq, hrc, _, _⟩ := hv
        simp only [SB.at, Option.map_eq_some_iff] at hat
        obtain ⟨bi, hb, he⟩ := hat
        obtain ⟨rfl, rfl⟩ := Prod.mk.inj he
        obtain ⟨p, hp, _, hval⟩ := (hh k _ bi hk hb) hgt
        simp only [lit_I] at hlr hq
        rw [Nat.add_mul] at hle
        have hlen : ((l.drop (o.toNat * sz')).take (n.toNat * sz')).length = n.toNat * sz' := by simp; omega
        rw [hlen] at hm ⊢
        have hnpos : 0 < n.toNat := Nat.pos_of_mul_pos_right hm
        have hqp : q = some (p.add (o.toNat * sz')) := by
          rcases hq with h | h
          · omega
          · rw [h, hp]; rfl
        subst hqp
        rw [Nat.mul_div_cancel _ hpos]
        have hex : ∀ j, j < n.toNat * sz' → ∃ c u, l[o.toNat * sz' + j]? = some c ∧ w.cell? ((p.add (o.toNat * sz')).add j) = some u ∧ c.rel ρ β u := fun j hj => by
          have hlt : o.toNat * sz' + j < l.length := by omega
          obtain ⟨u, h1, h2⟩ := hval _ _ (List.getElem?_eq_getElem hlt)
          refine ⟨_, u, List.getElem?_eq_getElem hlt, ?_, h2⟩
          rw [add_add]; exact h1.1
        refine ⟨p.add (o.toNat * sz'), r, (List.range (n.toNat * sz')).map fun j => (w.cell? ((p.add (o.toNat * sz')).add j)).getD Go.undef, by rw [lit_I], rfl, RelL.of_get (by simp; omega) fun j x y hx hy => ?_, fun j u hu => ?_⟩
        · have hj : j < n.toNat * sz' := by
            have := (List.getElem?_eq_some_iff.1 hy).1
            simpa using this
          obtain ⟨c, u, h1, h2, h3⟩ := hex j hj
          rw [List.getElem?_take_of_lt hj, List.getElem?_drop, h1] at hx
          obtain rfl := Option.some.inj hx
          rw [List.getElem?_map, List.getElem?_range hj, Option.map_some, h2] at hy
          obtain rfl := Option.some.inj hy
          exact h3
        · have hj : j < n.toNat * sz' := by
            have := (List.getElem?_eq_some_iff.1 hu).1
            simpa using this
          obtain ⟨c, u', h1, h2, h3⟩ := hex j hj
          rw [List.getElem?_map, List.getElem?_range hj, Option.map_some, h2] at hu
          obtain rfl := Option.some.inj hu
          exact h2
      · cases h
    · cases h
  · cases h
theorem emptyBase_sound {x : Sc} {v : Value} (h : emptyBase x = true) (hv : x.rel ρ β v) : ∃ q, v = .slice q 0 0 := by
  unfold emptyBase at h
  split at h
  · exact ⟨none, hv⟩
  · rename_i b sz off z z'
    simp only [Bool.and_eq_true, decide_eq_true_eq] at h
    obtain ⟨rfl, rfl⟩ := h
    have hv : (Sc0.slc b sz off (.lit 0) (some (.lit 0))).rel ρ β v := hv
    obtain ⟨p, c, q, r, hat, rfl, ho0, hl0, hlr, hrm, hpc, hq, hrc, hcp, _⟩ := hv
    have hr0 : r = 0 := by have := hcp _ rfl; rw [lit_I] at this; omega
    subst hr0
    exact ⟨q, rfl⟩
  · cases h
theorem append_cells (hC : C.Ok P) {args : Array Operand} {ts : Array TypeId} {ox oy : Operand} {t e : TypeId} (ho' : o.op = .call { callee := .builtin .append, args := args, argTypes := ts }) (hargs' : args = #[ox, oy]) (hts' : ts = #[t, t]) {x y v : Sc} {nd' : List X} {s1 : S}
    (hu : P.underlying t = some (.slice e)) (happ : appendC C s e x y = some (nd', v, s1)) {H : Nat → Option HE} (m : PMem C B w0 ρ β W H w) (hf : s.factsOk ρ) (hh : ∀ k e b, s.heap[k]? = some e → β k = some b → EOk ρ β W w b e)
    (hfresh : β s.heap.length = none) (rx : x.rel ρ β (a.eval ox)) (ry : y.rel ρ β (a.eval oy)) :
    ∃ u w' β' W' used e sl, (execOp a.eval o).run P w = .ok (.value u) w' ∧ s1.put o.dst { g := .bl true, v := .v (.sc v) } = ((s.spend used).add e).put o.dst sl ∧ sl.rel ρ β' u ∧ (∀ k, used = some k → ∃ e, s.heap[k]? = some e ∧ e.body ≠ .gone) ∧
      PMem C B w0 ρ β' W' (appH s.heap.length used e H) w' ∧ Ext β β' ∧ (∀ j, j ≠ s.heap.length → β j = none → β' j = none) ∧ ∃ b, β' s.heap.length = some b := by
  unfold appendC at happ
  split at happ
  · rename_i d hd
    split at happ
    · rename_i ml hseq
      split at happ
      · rename_i hc
        obtain ⟨hem, hpos, hml, hby, hlim⟩ := hc
        obtain ⟨rfl, h2⟩ := Prod.mk.inj (Option.some.inj happ)
        obtain ⟨rfl, rfl⟩ := Prod.mk.inj h2
        obtain ⟨i, u0, zv, hi, _, hisz, hiby, hzl, _, hz, hzc, _, _, _⟩ := (hC.ty _ _ hd).facts
        have hzs : zv.cells.size = i.size := by
          have := (litsB_rel (ρ := ρ) (β := β) hzc).length
          rw [hzl] at this
          rw [hisz, this]; simp
        obtain ⟨q, hxe⟩ := emptyBase_sound hem rx
        obtain ⟨p', c', us, hye, hdm, hus, hcell⟩ := seqC_sound hf hh hseq hpos hml ry
        have hlu := hus.length
        generalize hmm : ml.length / d.size = mm at *
        have hm0 : 0 < mm := by
          rcases Nat.eq_zero_or_pos mm with h | h
          · rw [h, Nat.zero_mul] at hdm; omega
          · exact h
        have hmle : mm ≤ ml.length := by rw [← hdm]; exact Nat.le_mul_of_pos_right _ hpos
        obtain ⟨cc, zs, g1, g2, g3, g4⟩ := append_grow (P := P) (w := w) (t := t) (ty := o.type) (i := i) (z := zv) (q := q) (n := 0) (cap := 0) (m := mm) (c := c') (q' := some p') (olds := []) (news := us) hu hi hz hzs (fun _ => rfl) (Nat.le_refl _) (by simp) (fun p hp j v hv => by simp at hv) (fun h => by cases h) (by rw [hisz, hdm, hlu]) (fun p hp j v hv => by cases hp; exact hcell j v hv) (by omega) (by omega) (by rw [Nat.zero_add, hiby]; exact hby)
        rw [Nat.zero_add] at g1 g3 g4
        have hout := appOut_grow (w := w) (e := e) (olds := []) (news := us) (n := 0) (m := mm) (sz := d.size) (zs := zs) (c' := cc) (by omega) (by simp) (by rw [hdm, hlu]) (by rw [g3, hisz, Nat.zero_add])
        rw [List.nil_append] at hout g4
        have hbel : Below w.heap.size w (w.drew.alloc (.cells (us ++ zs).toArray e)) := (Below.refl _ _).drew.alloc (Nat.le_refl _) _
        have hsz : (w.drew.alloc (.cells (us ++ zs).toArray e)).heap.size = w.heap.size + 1 := by simp
        have hx := ext_upd ⟨⟨some ⟨w.heap.size, 0, none⟩, cc, d.size, fun _ => none, fun _ => 0, fun _ => 0⟩, (· = w.heap.size)⟩ hfresh
        refine ⟨_, _, upd β s.heap.length ⟨⟨some ⟨w.heap.size, 0, none⟩, cc, d.size, fun _ => none, fun _ => 0, fun _ => 0⟩, (· = w.heap.size)⟩, fun r => W r ∨ r = w.heap.size, none, _, _, run_append ho' hargs' hts' (by rw [hxe, hye]; exact g4), rfl, ⟨fun _ => ?_, fun h => (by cases h)⟩, fun k hk => (by cases hk), ?_, hx, fun j hj h => by rw [upd_other _ _ hj]; exact h, ⟨_, upd_same ..⟩⟩
        · refine ⟨some ⟨w.heap.size, 0, none⟩, cc, some ⟨w.heap.size, 0, none⟩, cc, by simp only [SB.at, upd_same, Option.map_some], by rw [lit_I]; simp, by rw [lit_I]; exact Int.le_refl _, by rw [lit_I]; omega, by rw [lit_I]; simpa using g1, g2, fun h => (by cases h), .inr ?_, by rw [lit_I]; simp, by simp, by rw [lit_I]; simp⟩
          rw [lit_I]; simp [Addr.add]
        · have m2 := (m.name hfresh (ent true (.cells ml))).add hfresh hbel hsz (b := ⟨⟨some ⟨w.heap.size, 0, none⟩, cc, d.size, fun _ => none, fun _ => 0, fun _ => 0⟩, (· = w.heap.size)⟩) rfl fun e' he' => by
            rw [if_pos rfl] at he'
            obtain rfl := Option.some.inj he'
            intro _
            refine ⟨⟨w.heap.size, 0, none⟩, rfl, ⟨by rw [hsz]; simp only; omega, fun _ => ⟨rfl, rfl, hout.there⟩, fun h => (by cases h)⟩, fun j c hj => ?_⟩
            obtain ⟨u, h1, h2⟩ := hus.get j c hj
            obtain ⟨h3, h4⟩ := hout.val j u h1
            refine ⟨u, ?_, Sc.rel_ext hx h2⟩
            rw [add0]
            exact ⟨h3, fun _ => h4⟩
          refine m2.congr fun k b hb => ?_
          unfold appH
          by_cases h : k = s.heap.length
          · rw [if_pos h, if_pos h]
          · rw [if_neg h, if_neg h, if_neg (fun h => by cases h)]
      · cases happ
    · cases happ
  · cases happ
theorem append_any (hC : C.Ok P) {cl : Call} (ho : o.op = .call cl) {nd : List X} {s' : S} (hq : estep C s o = some (nd, s')) {H : Nat → Option HE} (m : PMem C B w0 ρ β W H w) (hf : s.factsOk ρ) (hh : ∀ k e b, s.heap[k]? = some e → β k = some b → EOk ρ β W w b e)
    (hfresh : β s.heap.length = none) (hop : ∀ x ∈ o.op.operands.toList, OpdOk ρ β s a x) (hnd : ∀ x ∈ nd, x.B ρ = true) :
    Region.wanted o (yielded ops a.tmps) = true ∧ ∃ u w' β' W' used e sl, (execOp a.eval o).run P w = .ok (.value u) w' ∧ s' = ((s.spend used).add e).put o.dst sl ∧ sl.rel ρ β' u ∧ (∀ k, used = some k → ∃ e, s.heap[k]? = some e ∧ e.body ≠ .gone) ∧
      PMem C B w0 ρ β' W' (appH s.heap.length used e H) w' ∧ Ext β β' ∧ (∀ j, j ≠ s.heap.length → β j = none → β' j = none) ∧ ∃ b, β' s.heap.length = some b := by
  unfold estep at hq
  split at hq
  · cases hq
  · rename_i hgd
    have hgd' : o.guard = none := by simpa using hgd
    refine ⟨by simp [Region.wanted, hgd'], ?_⟩
    split at hq
    · rename_i h; rw [ho] at h; cases h
    · rename_i args ts ho'
      split at hq
      · rename_i ox oy t t' hargs hts
        split at hq
        · rename_i htt
          subst htt
          have hargs' : args = #[ox, oy] := Array.toList_inj.1 hargs
          have hts' : ts = #[t, t] := Array.toList_inj.1 hts
          split at hq
          · rename_i x y hx hy
            split at hq
            · rename_i nd' v s1 happ
              obtain ⟨rfl, rfl⟩ := Prod.mk.inj (Option.some.inj hq)
              have tt : (X.bl true).B ρ = true := rfl
              have rx := val_rel hf tt m.glob (hop ox (by simp [ho', Op.operands, Call.operands, hargs'])) hx
              have ry := val_rel hf tt m.glob (hop oy (by simp [ho', Op.operands, Call.operands, hargs'])) hy
              unfold appendAt at happ
              split at happ
              · rename_i sh e sz by_ z el pl hsh hty
                split at happ
                · rename_i d aX nX used nd0 bX mX nd1 hd hbase hseq
                  split at happ
                  · rename_i hpos
                    obtain ⟨rfl, h2⟩ := Prod.mk.inj (Option.some.inj happ)
                    obtain ⟨rfl, rfl⟩ := Prod.mk.inj h2
                    -- the types
                    have hu := (hC.ty _ _ hty).slice rfl
                    obtain ⟨i, u0, zv, hi, _, hisz, hiby, hzl, _, hz, hzc, _, _, _⟩ := (hC.ty _ _ hd).facts
                    have hshl : sh.length = d.size := by
                      unfold shOf at hsh
                      rw [hty] at hsh
                      simp only [hd] at hsh
                      rw [mapOpt_len hsh, hzl]
                    have hzs : zv.cells.size = i.size := by
                      have := (litsB_rel (ρ := ρ) (β := β) hzc).length
                      rw [hzl] at this
                      rw [hisz, this]; simp
                    have hsi : sh.length = i.size := by rw [hshl, hisz]
                    -- the two lists
                    obtain ⟨⟨⟨q, cap, hxe, hn0, hncap, hcm, hqn, hbs⟩, hused⟩, hul⟩ := baseOf_sound hf hh hbase rx
                    obtain ⟨_, hrd⟩ := argOf_sound hf tt hh (seqOf_argOf hseq) (fun x hx => hnd x (by simp [hx])) ry
                    obtain ⟨q', m', c', g, hye, hmc, hcm', hqn', hl, hval⟩ := hrd
                    simp only [Sh0.ks, List.map_cons, List.map_nil, fixL, VK.fix, List.cons.injEq, AV.a.injEq, AV.i.injEq, and_true] at hl
                    obtain ⟨hg, hm'⟩ := hl
                    have hmI : mX.I ρ = (m' : Int) := hm'
                    have hnI : ((nX.I ρ).toNat : Int) = nX.I ρ := Int.toNat_of_nonneg hn0
                    generalize hnn : (nX.I ρ).toNat = n at *
                    -- the needs
                    have need1 := hnd (xb .le (xb .mul (xb .add nX mX) (.lit d.bytes)) (.lit (2 ^ 47))) (by simp)
                    have need2 := hnd (xb .le (xb .add nX mX) (.lit (2 ^ 47))) (by simp)
                    have hsum : (xb .add nX mX).I ρ = (n : Int) + m' := by rw [xadd, hmI, hnI]
                    rw [xle, lit_I] at need1 need2
                    rw [xmul, hsum, lit_I] at need1
                    rw [hsum] at need2
                    have h63 : n + m' ≤ 2 ^ 47 := by
                      have : (n : Int) + m' ≤ 2 ^ 47 := by simpa using need2
                      omega
                    have hbytes : (n + m') * i.bytes ≤ 2 ^ 47 := by
                      rw [hiby]
                      have : ((n : Int) + m') * d.bytes ≤ 2 ^ 47 := by simpa using need1
                      exact_mod_cast this
                    -- what is there
                    have hnl : (rowCells sh g m').length = m' * i.size := by rw [rowCells_len, hsi]
                    have hns : ∀ p, q' = some p → ∀ j v, (rowCells sh g m')[j]? = some v → w.cell? (p.add j) = some v := fun p hp j v hv => by
                      obtain ⟨k, hk, hlt, rfl⟩ := rowCells_get hv
                      obtain ⟨p', hp', _, hc⟩ := hval ((j / sh.length : Nat) : Int) (j % sh.length) k (Int.natCast_nonneg _) (by exact_mod_cast hlt) hk
                      obtain rfl := Option.some.inj (hp'.symm.trans hp)
                      rw [Int.toNat_natCast] at hc
                      have : j / sh.length * sh.length + j % sh.length = j := by rw [Nat.mul_comm]; exact Nat.div_add_mod _ _
                      rw [this] at hc; exact hc
                    have hol : (rowCells sh (aX.den ρ).fn n).length = n * i.size := by rw [rowCells_len, hsi]
                    have hos0 : ∀ r, (∀ (i : Int) f k, 0 ≤ i → i < nX.I ρ → sh[f]? = some k → w.cell? ⟨r, i.toNat * sh.length + f, none⟩ = some (k.val ((aX.den ρ).fn i f))) → ∀ j v, (rowCells sh (aX.den ρ).fn n)[j]? = some v → w.cell? ⟨r, j, none⟩ = some v := fun r hr j v hv => by
                      obtain ⟨k, hk, hlt, rfl⟩ := rowCells_get hv
                      have hc := hr ((j / sh.length : Nat) : Int) (j % sh.length) k (Int.natCast_nonneg _) (by rw [← hnI]; exact_mod_cast hlt) hk
                      rw [Int.toNat_natCast] at hc
                      have : j / sh.length * sh.length + j % sh.length = j := by rw [Nat.mul_comm]; exact Nat.div_add_mod _ _
                      rw [this] at hc; exact hc
                    have hfn : ∀ (i : Int) j, 0 ≤ i → ((appX aX nX bX).den ρ).fn i j = if i < n then (aX.den ρ).fn i j else g (i - n) j := fun i j i0 => by
                      rw [← hg]
                      unfold appX
                      split
                      · have : (n : Int) = 0 := by rw [hnI, lit_I]
                        rw [this, if_neg (by omega), Int.sub_zero]
                      · have : (nX.den ρ).int = (n : Int) := by rw [hnI]; try rfl
                        simp only [X.den, AV.fn, this]
                    have hslot : ∀ (β' : Mp) (b : BI) (r cap' : Nat), β' s.heap.length = some b → b.v.addr = some ⟨r, 0, none⟩ → b.v.cap = cap' → n + m' ≤ cap' → cap' ≤ maxLen → (Sc.c (.slc (.blk s.heap.length) sh.length (.lit 0) (xb .add nX mX) none)).rel ρ β' (.slice (some ⟨r, 0, none⟩) (n + m') cap') := fun β' b r cap' hb ha hc h1 h2 => by
                      refine ⟨some ⟨r, 0, none⟩, cap', some ⟨r, 0, none⟩, cap', ?_, ?_, by rw [lit_I]; exact Int.le_refl _, by rw [hsum]; omega, by rw [hsum]; omega, h2, fun h => (by cases h), .inr ?_, by rw [lit_I]; simp, by simp, by rw [lit_I]; simp⟩
                      · simp only [SB.at, hb, Option.map_some, ha, hc]
                      · rw [hsum]; congr 1
                      · rw [lit_I]; simp [Addr.add]
                    -- the memory without what is used up
                    have m1 : ∃ β1, PMem C B w0 ρ β1 W (fun j => if used = some j then some (ent true .gone) else H j) w ∧ Ext β β1 ∧ (∀ j, β j = none → β1 j = none) ∧ ∀ k bi r, used = some k → β k = some bi → bi.own r → ∀ k' b', β1 k' = some b' → ¬ b'.own r := by
                      cases hus : used with
                      | none => exact ⟨β, m.congr fun k b _ => if_neg fun h => (by cases h), Ext.refl _, fun _ h => h, fun k bi r h => by cases h⟩
                      | some k =>
                        obtain ⟨bi, hb⟩ := hused k hus
                        refine ⟨_, (m.give hb).congr fun j b _ => ?_, fun j b hb' => ?_, fun j hj => ?_, fun k0 bi0 r h h0 h1 k' b' hb' ho' => ?_⟩
                        · by_cases h : j = k
                          · rw [if_pos (by rw [h]), if_pos h]
                          · rw [if_neg (fun h' => h (Option.some.inj h').symm), if_neg h]
                        · by_cases h : j = k
                          · subst h
                            obtain rfl := Option.some.inj (hb'.symm.trans hb)
                            exact ⟨_, upd_same .., rfl⟩
                          · exact ⟨b, by rw [upd_other _ _ h]; exact hb', rfl⟩
                        · have : j ≠ k := fun h => by rw [h, hb] at hj; cases hj
                          rw [upd_other _ _ this]; exact hj
                        · cases h
                          by_cases hk' : k' = k
                          · rw [hk', upd_same] at hb'
                            obtain rfl := Option.some.inj hb'
                            cases ho'
                          · rw [upd_other _ _ hk'] at hb'
                            exact hk' (m.dist k' k b' bi0 r hb' h0 ho' h1)
                    obtain ⟨β1, m1, hx1, hnn1, hno1⟩ := m1
                    have hn1 := hnn1 _ hfresh
                    have fin : ∀ (u : Value) (w' : World) (b : BI) (W' : Nat → Prop), (Builtin.append_ #[t, t] o.type #[a.eval ox, a.eval oy]).run P w = .ok u w' →
                        PMem C B w0 ρ (upd β1 s.heap.length b) W' (appH s.heap.length used (ent true (.arr sh (appX aX nX bX) (xb .add nX mX))) H) w' →
                        (Sc.c (.slc (.blk s.heap.length) sh.length (.lit 0) (xb .add nX mX) none)).rel ρ (upd β1 s.heap.length b) u →
                        ∃ u w' β' W' used' e sl, (execOp a.eval o).run P w = .ok (.value u) w' ∧ ((s.spend used).add (ent true (.arr sh (appX aX nX bX) (xb .add nX mX)))).put o.dst { g := .bl true, v := .v (.sc (.c (.slc (.blk s.heap.length) sh.length (.lit 0) (xb .add nX mX) none))) } = ((s.spend used').add e).put o.dst sl ∧ sl.rel ρ β' u ∧
                          (∀ k, used' = some k → ∃ e, s.heap[k]? = some e ∧ e.body ≠ .gone) ∧ PMem C B w0 ρ β' W' (appH s.heap.length used' e H) w' ∧ Ext β β' ∧ (∀ j, j ≠ s.heap.length → β j = none → β' j = none) ∧ ∃ b, β' s.heap.length = some b := by
                      intro u w' b W' hrun hm hrel
                      exact ⟨u, w', _, W', used, _, _, run_append ho' hargs' hts' hrun, rfl, ⟨fun _ => hrel, fun h => (by cases h)⟩, hul, hm, hx1.trans (ext_upd b hn1), fun j hj h => by rw [upd_other _ _ hj]; exact hnn1 j h, ⟨b, upd_same ..⟩⟩
                    have hxe' : a.eval ox = .slice q n cap := hxe
                    rw [hxe', hye] at fin
                    by_cases hgr : cap < n + m'
                    · obtain ⟨cc, zs, g1, g2, g3, g4⟩ := append_grow (P := P) (w := w) (t := t) (ty := o.type) (c := c') hu hi hz hzs hqn hncap hol (fun p hp j v hv => by
                        rcases hbs with h0 | ⟨k, bi, r, _, _, _, _, hqr, _, hr⟩
                        · obtain rfl : n = 0 := by omega
                          simp [rowCells] at hv
                        · obtain rfl := Option.some.inj (hp.symm.trans hqr)
                          rw [add0]; exact hos0 r hr j v hv) (fun h => by have := hqn' h; omega) hnl hns hgr h63 hbytes
                      have hout := appOut_grow (w := w) (e := e) g1 hol hnl g3
                      rw [← hsi] at hout
                      have hbel : Below w.heap.size w (w.drew.alloc (.cells (rowCells sh (aX.den ρ).fn n ++ rowCells sh g m' ++ zs).toArray e)) := (Below.refl _ _).drew.alloc (Nat.le_refl _) _
                      have hsz : (w.drew.alloc (.cells (rowCells sh (aX.den ρ).fn n ++ rowCells sh g m' ++ zs).toArray e)).heap.size = w.heap.size + 1 := by simp
                      refine fin _ _ ⟨⟨some ⟨w.heap.size, 0, none⟩, cc, sh.length, fun _ => none, fun _ => 0, fun _ => 0⟩, (· = w.heap.size)⟩ (fun r => W r ∨ r = w.heap.size) g4 ((m1.name hn1 _).add hn1 hbel hsz rfl fun e' he' => ?_) (hslot _ _ _ _ (upd_same ..) rfl rfl g1 g2)
                      rw [if_pos rfl] at he'
                      obtain rfl := Option.some.inj he'
                      exact eok_appOut hout hsum g1 (by rw [hsz]; omega) hfn
                    · have hroom : n + m' ≤ cap := by omega
                      rcases hbs with h0 | ⟨k, bi, r, hus, hb, hown, hrl, rfl, hex, hr⟩
                      · subst h0
                        obtain rfl : n = 0 := by omega
                        obtain rfl : m' = 0 := by omega
                        refine fin _ w ⟨⟨q, 0, sh.length, fun _ => none, fun _ => 0, fun _ => 0⟩, noOwn⟩ W (append_nothing hu hi) ((m1.name hn1 _).addNone hn1 rfl fun e' he' => ?_) ?_
                        · rw [if_pos rfl] at he'
                          obtain rfl := Option.some.inj he'
                          intro _
                          exact ⟨by rw [hsum]; simp, fun _ => rfl, rfl, .inl ⟨by rw [hsum]; rfl, rfl, rfl⟩⟩
                        · refine ⟨q, 0, q, 0, ?_, ?_, by rw [lit_I]; exact Int.le_refl _, by rw [hsum]; simp, by rw [hsum]; simp, Nat.zero_le _, fun _ => rfl, .inl rfl, by rw [lit_I]; simp, by simp, by rw [lit_I]; simp⟩
                          · simp only [SB.at, upd_same, Option.map_some]
                          · rw [hsum]; rfl
                      · have hWr := m.own k bi r hb hown
                        have hBr := (m.wlo r hWr).1
                        have hout := appOut_room (w := w) (sz := sh.length) hroom (rowCells_len sh (aX.den ρ).fn n) (rowCells_len sh g m') hex (hos0 r hr)
                        have hrun := append_room (P := P) (w := w) (t := t) (ty := o.type) (c := c') hu hi (fun h => by have := hqn' h; omega) hnl hns rowCells_one hroom (by rw [← hsi]; exact hex)
                        rw [← hsi] at hrun
                        refine fin _ _ ⟨⟨some ⟨r, 0, none⟩, cap, sh.length, fun _ => none, fun _ => 0, fun _ => 0⟩, (· = r)⟩ W hrun (m1.reuse hn1 hWr (hno1 k bi r hus hb hown) rfl (but_setCells w r _ _) (below_setCells w r hBr _ _ w) (size_setCells _ _ _ _) ?_) (hslot _ _ _ _ (upd_same ..) rfl rfl hroom hcm)
                        exact eok_appOut hout hsum hroom (by rw [size_setCells]; exact hrl) hfn
                  · cases happ
                · cases happ
              · rename_i e sz by_ z el pl hsh hty
                split at happ
                · exact append_cells hC ho' hargs' hts' ((hC.ty _ _ hty).slice rfl) happ m hf hh hfresh rx ry
                · cases happ
              · cases happ
            · cases hq
          · cases hq
        · cases hq
      · cases hq
    · cases hq
theorem append_seq (hC : C.Ok P) {cl : Call} (ho : o.op = .call cl) {nd : List X} {s' : S} (hq : estep C s o = some (nd, s')) (m : Mem C B w0 ρ β W s w) (fr : Fr ρ β s a) (hnd : ∀ x ∈ nd, x.B ρ = true) :
    Region.wanted o (yielded ops a.tmps) = true ∧ ∃ u w' β' W', (execOp a.eval o).run P w = .ok (.value u) w' ∧ Mem C B w0 ρ β' W' s' w' ∧ Fr ρ β' s' (a.put o.dst u) ∧ Later ρ β s ρ β' s' ∧ s'.lvl = s.lvl := by
  obtain ⟨hw, u, w', β', W', used, e, sl, hrun, rfl, hsl, hus, hm, hx, hnn, hb⟩ := append_any (ops := ops) hC ho hq m.toPMem m.facts (fun k e b hk hb => m.heap k e b hk hb) (m.top _ (Nat.le_refl _)) (fun x _ => opd_of_fr fr x) hnd
  have hl1 : (s.spend used).heap.length = s.heap.length := by cases used <;> simp [S.spend, S.setBody, setF_eq]
  have hl2 : ((s.spend used).add e).heap.length = s.heap.length + 1 := by simp [S.add_eq, hl1]
  have ht : ((s.spend used).add e).tmps = s.tmps := by cases used <;> rfl
  have hfc : ((s.spend used).add e).facts = s.facts := by cases used <;> rfl
  have hks : ((s.spend used).add e).ks = s.ks := by cases used <;> rfl
  have hlv : ((s.spend used).add e).lvl = s.lvl := by cases used <;> rfl
  have hH : ∀ k b, β' k = some b → ((s.spend used).add e).H k = appH s.heap.length used e s.H k := fun k b hb' => by
    have hlt : k < s.heap.length ∨ k = s.heap.length := by
      rcases Nat.lt_trichotomy k s.heap.length with h | h | h
      · exact .inl h
      · exact .inr h
      · rw [hnn k (by omega) (m.top k (by omega))] at hb'; cases hb'
    unfold appH
    rcases hlt with hlt | rfl
    · rw [if_neg (by omega)]
      simp only [S.H, S.add_eq]
      rw [List.getElem?_append_left (by omega)]
      cases used with
      | none => rw [if_neg (fun h => by cases h)]; rfl
      | some j =>
        simp only [S.spend, S.setBody, setF_eq, List.getElem?_set]
        by_cases h : j = k
        · subst h; simp [hlt]
        · rw [if_neg h, if_neg (fun h' => h (Option.some.inj h'))]
    · rw [if_pos rfl]
      simp [S.H, S.add_eq, ← hl1]
  refine ⟨hw, u, w', β', W', hrun, Mem.put ⟨hm.congr hH, fun k hk => ?_, fun k hk => hnn k (by omega) (m.top k (by omega)), by rw [S.factsOk, hfc]; exact m.facts, by rw [hks]; exact m.kt⟩ _ _, Fr.put (Fr.ext hx fr ht) hsl, Later.put (Later.of_ext hx hks (by omega)) _ _, by rw [put_lvl]; exact hlv⟩
  rw [hl2] at hk
  by_cases h : k = s.heap.length
  · rw [h]; exact hb
  · obtain ⟨b, hb⟩ := m.all k (by omega)
    obtain ⟨b', hb', _⟩ := hx k b hb
    exact ⟨b', hb'⟩
end
end
end Go.Proofs.Ytpbpmabnmakdoaa.Vc
/- The symbolic executor: entries given up, taken up and written; rows. -/
namespace Go.Proofs.Ytpbpmabnmakdoaa.Vc
noncomputable section
open Go Go.RowKit
variable {ρ ρ' : List AV} {β β' : Mp} {W W' : Nat → Prop} {w w' : World} {P : Program} {C : Cfg} {B : Nat} {w0 : World}

theorem ext_put {k : Nat} {bi b : BI} (hk : β k = some bi) (hv : b.v = bi.v) : Ext β (upd β k b) := fun j c hc => by
  by_cases h : j = k
  · subst h
    obtain rfl := Option.some.inj (hc.symm.trans hk)
    exact ⟨b, upd_same .., hv⟩
  · exact ⟨c, by rw [upd_other _ _ h]; exact hc, rfl⟩
theorem Mem.lt {s : S} (m : Mem C B w0 ρ β W s w) {k : Nat} {b : BI} (h : β k = some b) : k < s.heap.length := by
  rcases Nat.lt_or_ge k s.heap.length with h' | h'
  · exact h'
  · rw [m.top k h'] at h; cases h
theorem H_set (s : S) {k : Nat} (bd : Body) (j : Nat) (hk : k < s.heap.length) : (s.setBody k bd).H j = if j = k then some (ent true bd) else s.H j := by
  simp only [S.H, S.setBody, setF_eq, List.getElem?_set]
  by_cases h : k = j
  · subst h; simp [hk]
  · rw [if_neg h, if_neg (fun h' => h h'.symm)]
theorem setBody_len (s : S) (k : Nat) (bd : Body) : (s.setBody k bd).heap.length = s.heap.length := by simp [S.setBody, setF_eq]
theorem setBody_twice (s : S) (k : Nat) (a b : Body) : (s.setBody k a).setBody k b = s.setBody k b := by
  simp [S.setBody, setF_eq]
theorem setBody_add (s : S) {k : Nat} (hk : k < s.heap.length) (e : HE) (b : Body) : (s.add e).setBody k b = (s.setBody k b).add e := by
  simp [S.setBody, S.add_eq, setF_eq, List.set_append_left _ _ hk]
/-- an entry with other content -/
theorem Mem.own' {s : S} {k : Nat} {bi b : BI} {bd : Body} (m : Mem C B w0 ρ β W s w) (hk : β k = some bi) (hv : b.v = bi.v) (hW : ∀ r, b.own r → W r) (hd : ∀ j c r, j ≠ k → β j = some c → c.own r → ¬ b.own r)
    (he : EOk ρ (upd β k b) W w b (ent true bd)) : Mem C B w0 ρ (upd β k b) W (s.setBody k bd) w := by
  have hlt := m.lt hk
  have hx := ext_put hk hv
  refine ⟨⟨m.below, m.size, m.wlo, fun j e c hj hc => ?_, fun j j' c c' r hc hc' o o' => ?_, fun j c r hc o => ?_, fun g j hg => ?_⟩, fun j hj => ?_, fun j hj => ?_, m.facts, m.kt⟩
  · rw [H_set s bd j hlt] at hj
    by_cases h : j = k
    · subst h
      rw [if_pos rfl] at hj
      rw [upd_same] at hc
      obtain rfl := Option.some.inj hj
      obtain rfl := Option.some.inj hc
      exact he
    · rw [if_neg h] at hj
      rw [upd_other _ _ h] at hc
      exact (m.heap j e c hj hc).below (Below.refl _ _) (fun r hr => .inl hr) hx
  · by_cases h : j = k
    · by_cases h' : j' = k
      · rw [h, h']
      · rw [h, upd_same] at hc
        obtain rfl := Option.some.inj hc
        rw [upd_other _ _ h'] at hc'
        exact absurd o (hd j' c' r h' hc' o')
    · rw [upd_other _ _ h] at hc
      by_cases h' : j' = k
      · rw [h', upd_same] at hc'
        obtain rfl := Option.some.inj hc'
        exact absurd o' (hd j c r h hc o)
      · rw [upd_other _ _ h'] at hc'
        exact m.dist j j' c c' r hc hc' o o'
  · by_cases h : j = k
    · rw [h, upd_same] at hc
      obtain rfl := Option.some.inj hc
      exact hW r o
    · rw [upd_other _ _ h] at hc
      exact m.own j c r hc o
  · obtain ⟨b1, h1, h2⟩ := m.glob g j hg
    obtain ⟨b2, h3, h4⟩ := hx j b1 h1
    exact ⟨b2, h3, by rw [h4]; exact h2⟩
  · by_cases h : j = k
    · rw [h]; exact ⟨b, upd_same ..⟩
    · rw [upd_other _ _ h]; exact m.all j (by rw [setBody_len] at hj; exact hj)
  · rw [setBody_len] at hj
    rw [upd_other _ _ (by omega)]; exact m.top j hj
/-- an entry's content given up -/
theorem Mem.give {s : S} {k : Nat} {bi : BI} (m : Mem C B w0 ρ β W s w) (hk : β k = some bi) : Mem C B w0 ρ (upd β k ⟨bi.v, noOwn⟩) W (s.setBody k .gone) w :=
  m.own' hk rfl (fun r h => h.elim) (fun _ _ _ _ _ _ h => h) (fun _ => trivial)
theorem own_back {k : Nat} {v : BV} {j : Nat} {c : BI} {r : Nat} (h : upd β k ⟨v, noOwn⟩ j = some c) (o : c.own r) : j ≠ k ∧ β j = some c := by
  by_cases hj : j = k
  · rw [hj, upd_same] at h
    obtain rfl := Option.some.inj h
    exact o.elim
  · rw [upd_other _ _ hj] at h; exact ⟨hj, h⟩
/-- one entry more -/
theorem Mem.addE {s : S} {b : BI} {e : HE} (m : Mem C B w0 ρ β W s w) (hW : ∀ r, b.own r → W r) (hd : ∀ j c r, β j = some c → c.own r → ¬ b.own r) (he : EOk ρ (upd β s.heap.length b) W w b e) : Mem C B w0 ρ (upd β s.heap.length b) W (s.add e) w := by
  have hn := m.top s.heap.length (Nat.le_refl _)
  have hx := ext_upd b hn
  refine m.add ⟨m.below, m.size, m.wlo, fun j e' c hj hc => ?_, fun j j' c c' r hc hc' o o' => ?_, fun j c r hc o => ?_, fun g j hg => ?_⟩
  · by_cases h : j = s.heap.length
    · subst h
      rw [H_new] at hj
      rw [upd_same] at hc
      obtain rfl := Option.some.inj hj
      obtain rfl := Option.some.inj hc
      exact he
    · rw [upd_other _ _ h] at hc
      have hlt := m.lt hc
      exact (m.heap j e' c (by simpa [S.H, S.add_eq, List.getElem?_append_left hlt] using hj) hc).below (Below.refl _ _) (fun r hr => .inl hr) hx
  · by_cases h : j = s.heap.length
    · by_cases h' : j' = s.heap.length
      · rw [h, h']
      · rw [h, upd_same] at hc
        obtain rfl := Option.some.inj hc
        rw [upd_other _ _ h'] at hc'
        exact absurd o (hd j' c' r hc' o')
    · rw [upd_other _ _ h] at hc
      by_cases h' : j' = s.heap.length
      · rw [h', upd_same] at hc'
        obtain rfl := Option.some.inj hc'
        exact absurd o' (hd j c r hc o)
      · rw [upd_other _ _ h'] at hc'
        exact m.dist j j' c c' r hc hc' o o'
  · by_cases h : j = s.heap.length
    · rw [h, upd_same] at hc
      obtain rfl := Option.some.inj hc
      exact hW r o
    · rw [upd_other _ _ h] at hc
      exact m.own j c r hc o
  · obtain ⟨b1, h1, h2⟩ := m.glob g j hg
    obtain ⟨b2, h3, h4⟩ := hx j b1 h1
    exact ⟨b2, h3, by rw [h4]; exact h2⟩
/-- fewer blocks are ours -/
theorem Mem.shrink {s : S} (m : Mem C B w0 ρ β W s w) (p : Nat → Prop) (hp : ∀ k b r, β k = some b → b.own r → ¬ p r) : Mem C B w0 ρ β (fun r => W r ∧ ¬ p r) s w :=
  ⟨⟨m.below, m.size, fun r h => m.wlo r h.1, fun k e b hk hb => (m.heap k e b hk hb).below (Below.refl _ _) (fun r h => .inl h.1) (Ext.refl _), m.dist, fun k b r hb o => ⟨m.own k b r hb o, hp k b r hb o⟩, m.glob⟩, m.all, m.top, m.facts, m.kt⟩
/-- a block is written that no entry has -/
theorem Mem.but' {s : S} (m : Mem C B w0 ρ β W s w) {r : Nat} (hr : W r) (hno : ∀ k b, β k = some b → ¬ b.own r) (hbut : But r w w') (hbel : Below B w w') (hsz : w'.heap.size = w.heap.size) : Mem C B w0 ρ β W s w' :=
  ⟨⟨m.below.trans hbel, by rw [hsz]; exact m.size, fun r hr => by rw [hsz]; exact m.wlo r hr, fun k e b hk hb => (m.heap k e b hk hb).but hbut hr (hno k b hb), m.dist, m.own, m.glob⟩, m.all, m.top, m.facts, m.kt⟩
/-- a block more, that is ours -/
theorem Mem.newW {s : S} (m : Mem C B w0 ρ β W s w) (hb : Below w.heap.size w w') (hsz : w'.heap.size = w.heap.size + 1) : Mem C B w0 ρ β (fun r => W r ∨ r = w.heap.size) s w' :=
  ⟨⟨m.below.trans (hb.mono m.size), Nat.le_trans m.size hb.size, fun r hr => by
    rcases hr with hr | hr
    · have := m.wlo r hr; exact ⟨this.1, by omega⟩
    · exact ⟨by rw [hr]; exact m.size, by omega⟩, fun k e b hk hb' => (m.heap k e b hk hb').below hb (fun r hr => by rcases hr with hr | hr; exact .inl hr; exact .inr (by omega)) (Ext.refl _), m.dist, fun k b r h o => .inl (m.own k b r h o), m.glob⟩, m.all, m.top, m.facts, m.kt⟩
/-- an entry that is used up, if there is one -/
theorem Mem.spend {s : S} (m : Mem C B w0 ρ β W s w) (u : Option Nat) (hu : ∀ k, u = some k → ∃ b, β k = some b) :
    ∃ β1, Mem C B w0 ρ β1 W (s.spend u) w ∧ Ext β β1 ∧ (∀ j, u ≠ some j → β1 j = β j) ∧ (∀ j c r, β1 j = some c → c.own r → u ≠ some j ∧ β j = some c) := by
  cases u with
  | none => exact ⟨β, m, Ext.refl _, fun _ _ => rfl, fun j c r h _ => ⟨fun h => (by cases h), h⟩⟩
  | some k =>
    obtain ⟨b, hb⟩ := hu k rfl
    refine ⟨_, m.give hb, ext_put hb rfl, fun j hj => upd_other _ _ (fun h => hj (by rw [h])), fun j c r h o => ?_⟩
    obtain ⟨h1, h2⟩ := own_back h o
    exact ⟨fun h => h1 (Option.some.inj h).symm, h2⟩
theorem spend_heap_len (s : S) (u : Option Nat) : (s.spend u).heap.length = s.heap.length := by cases u <;> simp [S.spend, S.setBody, setF_eq]
theorem spend_H {s : S} {u : Option Nat} {k : Nat} (h : u ≠ some k) : (s.spend u).heap[k]? = s.heap[k]? := by
  cases u with
  | none => rfl
  | some j =>
    have : j ≠ k := fun h' => h (by rw [h'])
    simp only [S.spend, S.setBody, setF_eq]
    rw [List.getElem?_set_ne this]
theorem setBody_H {s : S} {k j : Nat} (b : Body) (h : j ≠ k) : (s.setBody k b).heap[j]? = s.heap[j]? := by
  simp only [S.setBody, setF_eq]
  rw [List.getElem?_set_ne (fun h' => h h'.symm)]

/-! rows -/
theorem rowOk.re {own : Bool} {b b' : BI} {sh : List FK} {i len : Int} {f : Int → Nat → Int} (h : rowOk w W own b sh i len f) (h1 : b'.v.rows i = b.v.rows i) (h2 : b'.v.caps i = b.v.caps i) (h3 : b'.v.lens i = b.v.lens i) (ho : own = true → ∀ q, b.v.rows i = some q → b.own q.block → b'.own q.block) :
    rowOk w W own b' sh i len f := by
  unfold rowOk at *
  rw [h1, h2, h3]
  obtain ⟨a0, a1, a2, a3, a4, a5⟩ := h
  refine ⟨a0, a1, a2, a3, a4, ?_⟩
  rcases a5 with a5 | a5 | ⟨q, c1, c2, c3, c4, c5⟩
  · exact .inl a5
  · exact .inr (.inl a5)
  · exact .inr (.inr ⟨q, c1, c2, fun h => ⟨(c3 h).1, ho h q c1 (c3 h).2.1, (c3 h).2.2⟩, c4, c5⟩)
/-- rows of our own that are no longer written -/
theorem rowOk.ice {own : Bool} {b b' : BI} {sh : List FK} {i len : Int} {f : Int → Nat → Int} (h : rowOk w W own b sh i len f) (h1 : b'.v.rows i = b.v.rows i) (h2 : b'.v.caps i = b.v.caps i) (h3 : b'.v.lens i = b.v.lens i)
    (hW : ∀ r, W' r → W r) (ho : ∀ r, b.own r → ¬ W' r) : rowOk w W' false b' sh i len f := by
  unfold rowOk at *
  rw [h1, h2, h3]
  obtain ⟨a0, a1, a2, a3, a4, a5⟩ := h
  refine ⟨a0, a1, a2, a3, a4, ?_⟩
  rcases a5 with a5 | a5 | ⟨q, c1, c2, c3, c4, c5⟩
  · exact .inl a5
  · exact .inr (.inl ⟨rfl, a5.2⟩)
  · refine .inr (.inr ⟨q, c1, c2, fun h => (by cases h), fun _ hw => ?_, fun j g k d1 d2 d3 => ⟨(c5 j g k d1 d2 d3).1, fun h => (by cases h)⟩⟩)
    cases own with
    | true => exact ho _ (c3 rfl).2.1 hw
    | false => exact c4 rfl (hW _ hw)
/-- a list as a row -/
structure RowV (β : Mp) (W : Nat → Prop) (w : World) (sh : List FK) (len : Int) (f : Int → Nat → Int) (used : Option Nat) (ow : Bool) (q : Option Addr) (cap : Nat) : Prop where
  len0 : 0 ≤ len
  hcap : len.toNat ≤ cap
  hmax : cap ≤ maxLen
  hnil : q = none → cap = 0
  own : ow = true → (∀ k, used = some k → ∃ bi, β k = some bi) ∧ (cap = 0 ∨ ∃ k bi r, used = some k ∧ β k = some bi ∧ bi.own r ∧ r < w.heap.size ∧ q = some ⟨r, 0, none⟩ ∧
      (∀ j, j < cap * sh.length → ∃ u, w.cell? ⟨r, j, none⟩ = some u ∧ w.frozen? ⟨r, j, none⟩ = false) ∧
      ∀ (i : Int) g k, 0 ≤ i → i < len → sh[g]? = some k → w.cell? ⟨r, i.toNat * sh.length + g, none⟩ = some (k.val (f i g)))
  ice : ow = false → used = none ∧ (len = 0 ∨ ∃ p, q = some p ∧ p.block < w.heap.size ∧ ¬ W p.block ∧ ∀ (i : Int) g k, 0 ≤ i → i < len → sh[g]? = some k → w.cell? (p.add (i.toNat * sh.length + g)) = some (k.val (f i g)))
/-- the blocks of an entry that is used up -/
def usedOwn (β : Mp) (used : Option Nat) : Nat → Prop := fun r => ∃ k bi, used = some k ∧ β k = some bi ∧ bi.own r
def setBV (v : BV) (i : Int) (q : Option Addr) (cap : Nat) (len : Int) : BV := ⟨none, 0, 0, fun j => if j = i then q else v.rows j, fun j => if j = i then cap else v.caps j, fun j => if j = i then len else v.lens j⟩
theorem rowV_own {sh : List FK} {len : Int} {f : Int → Nat → Int} {used : Option Nat} {q : Option Addr} {cap : Nat} (h : RowV β W w sh len f used true q cap) (hWs : ∀ k bi r, β k = some bi → bi.own r → W r) {b : BI} {i : Int} (h1 : b.v.rows i = q) (h2 : b.v.caps i = cap) (h3 : b.v.lens i = len) (ho : ∀ r, usedOwn β used r → b.own r) (hfz : True) :
    rowOk w W true b sh i len f := by
  refine ⟨h.len0, h3.symm, by rw [h2]; exact h.hcap, by rw [h2]; exact h.hmax, by rw [h1, h2]; exact h.hnil, ?_⟩
  rw [h1, h2]
  obtain ⟨_, hh⟩ := h.own rfl
  rcases hh with hh | ⟨k, bi, r, a1, a2, a3, a4, rfl, a6, a7⟩
  · exact .inl hh
  · refine .inr (.inr ⟨_, rfl, a4, fun _ => ⟨rfl, ho r ⟨k, bi, a1, a2, a3⟩, a6⟩, fun h => (by cases h), fun j g kk j0 j1 hk => ⟨by rw [add0]; exact a7 j g kk j0 j1 hk, fun _ => ?_⟩⟩)
    have hg := (List.getElem?_eq_some_iff.1 hk).1
    have hc := h.hcap
    have hlt : j.toNat * sh.length + g < cap * sh.length := by
      have : j.toNat + 1 ≤ cap := by omega
      have := Nat.mul_le_mul_right sh.length this
      rw [Nat.add_mul] at this
      omega
    obtain ⟨_, _, hf⟩ := a6 _ hlt
    rw [add0]; exact hf
theorem rowV_ice {sh : List FK} {len : Int} {f : Int → Nat → Int} {used : Option Nat} {q : Option Addr} {cap : Nat} (h : RowV β W w sh len f used false q cap) (hW : ∀ r, W' r → W r) {b : BI} {i : Int} (h1 : b.v.rows i = q) (h2 : b.v.caps i = cap) (h3 : b.v.lens i = len) : rowOk w W' false b sh i len f := by
  refine ⟨h.len0, h3.symm, by rw [h2]; exact h.hcap, by rw [h2]; exact h.hmax, by rw [h1, h2]; exact h.hnil, ?_⟩
  rw [h1, h2]
  obtain ⟨_, hh⟩ := h.ice rfl
  rcases hh with hh | ⟨p, rfl, a2, a3, a4⟩
  · exact .inr (.inl ⟨rfl, hh⟩)
  · exact .inr (.inr ⟨p, rfl, a2, fun h => (by cases h), fun _ hw => a3 (hW _ hw), fun j g kk j0 j1 hk => ⟨a4 j g kk j0 j1 hk, fun h => (by cases h)⟩⟩)
/-- one row set, or added: all ours -/
theorem RowsOk.setOwn {br : BI} {sh : List FK} {m m' : AV} {n n' i0 : Int} {p : Int → Prop} (h : RowsOk w W true br sh m n p) {len : Int} {f : Int → Nat → Int} {used : Option Nat} {q : Option Addr} {cap : Nat} (hv : RowV β W w sh len f used true q cap)
    (hWs : ∀ k bi r, β k = some bi → bi.own r → W r) (hml : ∀ j, m'.mlen j = if j = i0 then len else m.mlen j) (hmf : ∀ j, m'.mfn j = if j = i0 then f else m.mfn j) (hin : ∀ j, 0 ≤ j → j < n' → j ≠ i0 → j < n ∧ p j)
    (hdis : ∀ r, usedOwn β used r → ¬ br.own r) {b : BI} (hbv : b.v = setBV br.v i0 q cap len) (hbo : ∀ r, b.own r ↔ br.own r ∨ usedOwn β used r) : RowsOk w W true b sh m' n' fun _ => True := by
  have e1 : ∀ j, b.v.rows j = if j = i0 then q else br.v.rows j := fun j => by rw [hbv]; rfl
  have e2 : ∀ j, b.v.caps j = if j = i0 then cap else br.v.caps j := fun j => by rw [hbv]; rfl
  have e3 : ∀ j, b.v.lens j = if j = i0 then len else br.v.lens j := fun j => by rw [hbv]; rfl
  have hcross : ∀ j, 0 ≤ j → j < n' → j ≠ i0 → cap ≠ 0 → br.v.caps j ≠ 0 → q ≠ br.v.rows j := fun j j0 j1 hj hc hcj heq => by
    obtain ⟨h1, h2⟩ := hin j j0 j1 hj
    obtain ⟨_, _, _, _, _, h5⟩ := h.1 j j0 h1 h2
    obtain ⟨_, hh⟩ := hv.own rfl
    rcases hh with hh | ⟨k, bi, r, a1, a2, a3, a4, rfl, _⟩
    · exact hc hh
    · rcases h5 with h5 | h5 | ⟨q', c1, c2, c3, _⟩
      · exact hcj h5
      · cases h5.1
      · rw [c1] at heq
        have := Option.some.inj heq
        subst this
        exact hdis r ⟨k, bi, a1, a2, a3⟩ (c3 rfl).2.1
  refine ⟨fun j j0 j1 _ => ?_, fun _ j j' j0 j1 _ j0' j1' _ hne hc hc' heq => ?_⟩
  · rw [hml, hmf]
    by_cases hj : j = i0
    · rw [if_pos hj, if_pos hj]
      exact rowV_own hv hWs (by rw [e1, if_pos hj]) (by rw [e2, if_pos hj]) (by rw [e3, if_pos hj]) (fun r hr => (hbo r).2 (.inr hr)) trivial
    · rw [if_neg hj, if_neg hj]
      obtain ⟨h1, h2⟩ := hin j j0 j1 hj
      exact (h.1 j j0 h1 h2).re (by rw [e1, if_neg hj]) (by rw [e2, if_neg hj]) (by rw [e3, if_neg hj]) (fun _ q _ ho => (hbo _).2 (.inl ho))
  · rw [e1, e1] at heq
    rw [e2] at hc hc'
    by_cases hj : j = i0
    · have hj' : j' ≠ i0 := fun h => hne (hj.trans h.symm)
      rw [if_pos hj] at heq hc
      rw [if_neg hj'] at heq hc'
      exact hcross j' j0' j1' hj' hc hc' heq
    · rw [if_neg hj] at heq hc
      by_cases hj' : j' = i0
      · rw [if_pos hj'] at heq hc'
        exact hcross j j0 j1 hj hc' hc heq.symm
      · rw [if_neg hj'] at heq hc'
        obtain ⟨h1, h2⟩ := hin j j0 j1 hj
        obtain ⟨h1', h2'⟩ := hin j' j0' j1' hj'
        exact h.2 rfl j j' j0 h1 h2 j0' h1' h2' hne hc hc' heq
/-- one row set, or added: none is written from now on -/
theorem RowsOk.setIce {own : Bool} {br : BI} {sh : List FK} {m m' : AV} {n n' i0 : Int} {p : Int → Prop} (h : RowsOk w W own br sh m n p) {len : Int} {f : Int → Nat → Int} {used : Option Nat} {q : Option Addr} {cap : Nat} (hv : RowV β W w sh len f used false q cap)
    (hW : ∀ r, W' r → W r) (ho : ∀ r, br.own r → ¬ W' r) (hml : ∀ j, m'.mlen j = if j = i0 then len else m.mlen j) (hmf : ∀ j, m'.mfn j = if j = i0 then f else m.mfn j) (hin : ∀ j, 0 ≤ j → j < n' → j ≠ i0 → j < n ∧ p j)
    {b : BI} (hbv : b.v = setBV br.v i0 q cap len) : RowsOk w W' false b sh m' n' fun _ => True := by
  have e1 : ∀ j, b.v.rows j = if j = i0 then q else br.v.rows j := fun j => by rw [hbv]; rfl
  have e2 : ∀ j, b.v.caps j = if j = i0 then cap else br.v.caps j := fun j => by rw [hbv]; rfl
  have e3 : ∀ j, b.v.lens j = if j = i0 then len else br.v.lens j := fun j => by rw [hbv]; rfl
  refine ⟨fun j j0 j1 _ => ?_, fun h => (by cases h)⟩
  rw [hml, hmf]
  by_cases hj : j = i0
  · rw [if_pos hj, if_pos hj]
    exact rowV_ice hv hW (by rw [e1, if_pos hj]) (by rw [e2, if_pos hj]) (by rw [e3, if_pos hj])
  · rw [if_neg hj, if_neg hj]
    obtain ⟨h1, h2⟩ := hin j j0 j1 hj
    exact (h.1 j j0 h1 h2).ice (by rw [e1, if_neg hj]) (by rw [e2, if_neg hj]) (by rw [e3, if_neg hj]) hW ho
/-- a list that nobody writes, read -/
theorem iceB_sound {s : S} {sh : List FK} {v : Sc} {a n : X} {nd : List X} (hf : s.factsOk ρ) (hh : ∀ k e b, s.heap[k]? = some e → β k = some b → EOk ρ β W w b e) (hi : iceB s v = true) (h : s.seqOf sh v = some (a, n, nd)) (hnd : ∀ x ∈ nd, x.B ρ = true) {u : Value} (hv : v.rel ρ β u) :
    ∀ q m c, u = .slice q m c → m = 0 ∨ ∃ p, q = some p ∧ ¬ W p.block := by
  have tt : (X.bl true).B ρ = true := rfl
  intro q m c hu
  unfold iceB at hi
  split at hi
  · have : u = .slice none 0 0 := hv
    rw [this] at hu
    injection hu with _ h2 _
    exact .inl h2.symm
  · rename_i k sz off len cp
    split at hi
    · rename_i sh' a' n' eg hk
      simp only [S.seqOf] at h
      split at h
      · rename_i hsz
        simp only [S.arrOf, hk, Option.map_eq_some_iff] at h
        obtain ⟨⟨x1, x2, x3⟩, h1, h2⟩ := h
        split at h1
        · obtain ⟨rfl, h3⟩ := Prod.mk.inj (Option.some.inj h1)
          obtain ⟨rfl, rfl⟩ := Prod.mk.inj h3
          obtain ⟨hk, hgt⟩ := body_sound hf tt hk
          obtain ⟨p, c', q', r, hat, hve, h3, h4, h5, h6, h7, h8, h9, _⟩ := hv
          simp only [SB.at, Option.map_eq_some_iff] at hat
          obtain ⟨bi, hb, he⟩ := hat
          obtain ⟨hp, _⟩ := Prod.mk.inj he
          rw [hve] at hu
          injection hu with e1 e2 e3
          subst e1 e2 e3
          have hle : off.I ρ + len.I ρ ≤ n'.I ρ := by
            simp only [Prod.mk.injEq, List.nil_append] at h2
            by_cases hc : off = .lit 0 ∧ len = n'
            · obtain ⟨rfl, rfl⟩ := hc; rw [lit_I]; omega
            · have := le_of (hnd (xb .le (xb .add off len) n') (by rw [← h2.2.2, if_neg hc]; simp))
              rw [xadd] at this; exact this
          obtain ⟨_, _, _, hE⟩ := hh k _ bi hk hb hgt
          rcases hE with ⟨b1, _⟩ | ⟨b1, _⟩ | ⟨p0, b1, b2, _⟩
          · exact .inl (by omega)
          · exact .inl (by omega)
          · rcases h8 with h8 | h8
            · exact .inl (by omega)
            · rw [hp] at b1
              subst b1
              refine .inr ⟨_, h8, ?_⟩
              rw [add_block]
              exact b2.2.2 rfl
        · cases h1
      · cases h
    · cases hi
  · rename_i k i sz off len cp
    have key : ∀ (own : Bool) (bi : BI) (x n' : X) , β k = some bi → (nd.contains (xb .le (.lit 0) i) ∨ True) → True := fun _ _ _ _ _ _ => trivial
    split at hi
    · rename_i own sh' x n' eg hk
      simp only [S.seqOf] at h
      split at h
      · simp only [S.arrOf, hk, Option.map_eq_some_iff] at h
        obtain ⟨⟨x1, x2, x3⟩, h1, h2⟩ := h
        split at h1
        · obtain ⟨rfl, h3⟩ := Prod.mk.inj (Option.some.inj h1)
          obtain ⟨rfl, rfl⟩ := Prod.mk.inj h3
          obtain ⟨hk, hgt⟩ := body_sound hf tt hk
          obtain ⟨p, c', q', r, hat, hve, h3, h4, h5, h6, h7, h8, h9, _⟩ := hv
          simp only [SB.at, Option.map_eq_some_iff] at hat
          obtain ⟨bi, hb, he⟩ := hat
          obtain ⟨hp, _⟩ := Prod.mk.inj he
          rw [hve] at hu
          injection hu with e1 e2 e3
          subst e1 e2 e3
          simp only [Prod.mk.injEq] at h2
          have n1 := le_of (hnd (xb .le (.lit 0) i) (by rw [← h2.2.2]; simp))
          have n2 := lt_of (hnd (xb .lt i n') (by rw [← h2.2.2]; simp))
          rw [lit_I] at n1
          have hle : off.I ρ + len.I ρ ≤ (X.mlen x i).I ρ := by
            by_cases hc : off = .lit 0 ∧ len = .mlen x i
            · obtain ⟨rfl, rfl⟩ := hc; rw [lit_I]; omega
            · have := le_of (hnd (xb .le (xb .add off len) (.mlen x i)) (by rw [← h2.2.2, if_neg hc]; simp))
              rw [xadd] at this; exact this
          have hle' : off.I ρ + len.I ρ ≤ (x.den ρ).mlen (i.I ρ) := hle
          obtain ⟨_, _, hE⟩ := hh k _ bi hk hb hgt
          rcases hE with b1 | ⟨p0, b1, b2, b3⟩
          · exact absurd n2 (by omega)
          · obtain ⟨_, _, _, _, _, a6⟩ := b3 (i.I ρ) n1 n2
            rcases a6 with a6 | ⟨q2, c1, c2, c3, _⟩
            · exact .inl (by omega)
            · rcases h8 with h8 | h8
              · exact .inl (by omega)
              · rw [hp] at c1
                subst c1
                refine .inr ⟨_, h8, ?_⟩
                rw [add_block]; exact c3
        · cases h1
      · cases h
    · rename_i sh' x n' eg hk
      simp only [S.seqOf] at h
      split at h
      · simp only [S.arrOf, hk, Option.map_eq_some_iff] at h
        obtain ⟨⟨x1, x2, x3⟩, h1, h2⟩ := h
        split at h1
        · obtain ⟨rfl, h3⟩ := Prod.mk.inj (Option.some.inj h1)
          obtain ⟨rfl, rfl⟩ := Prod.mk.inj h3
          obtain ⟨hk, hgt⟩ := body_sound hf tt hk
          obtain ⟨p, c', q', r, hat, hve, h3, h4, h5, h6, h7, h8, h9, _⟩ := hv
          simp only [SB.at, Option.map_eq_some_iff] at hat
          obtain ⟨bi, hb, he⟩ := hat
          obtain ⟨hp, _⟩ := Prod.mk.inj he
          rw [hve] at hu
          injection hu with e1 e2 e3
          subst e1 e2 e3
          simp only [Prod.mk.injEq] at h2
          have n1 := le_of (hnd (xb .le (.lit 0) i) (by rw [← h2.2.2]; simp))
          have n2 := lt_of (hnd (xb .lt i n') (by rw [← h2.2.2]; simp))
          rw [lit_I] at n1
          have hle : off.I ρ + len.I ρ ≤ (mkLen x i).I ρ := by
            by_cases hc : off = .lit 0 ∧ len = mkLen x i
            · obtain ⟨rfl, rfl⟩ := hc; rw [lit_I]; omega
            · have := le_of (hnd (xb .le (xb .add off len) (mkLen x i)) (by rw [← h2.2.2, if_neg hc]; simp))
              rw [xadd] at this; exact this
          rw [mkLen_I] at hle
          obtain ⟨_, _, d2, _, d4, a6⟩ := (hh k _ bi hk hb hgt).1 (i.I ρ) n1 n2 trivial
          rcases a6 with a6 | a6 | ⟨q2, c1, c2, _, c3, _⟩
          · exact .inl (by omega)
          · exact .inl (by omega)
          · rcases h8 with h8 | h8
            · exact .inl (by omega)
            · rw [hp] at c1
              subst c1
              refine .inr ⟨_, h8, ?_⟩
              rw [add_block]; exact c3 rfl
        · cases h1
      · cases h
    · cases hi
  · cases hi
theorem rowVal_sound {s : S} {sh : List FK} {ow ow' : Bool} {v : Sc} {a n : X} {used : Option Nat} {nd : List X} (m : Mem C B w0 ρ β W s w) (hsh : 0 < sh.length) (h : s.rowVal sh ow v = some (a, n, used, nd, ow')) (hnd : ∀ x ∈ nd, x.B ρ = true) {u : Value} (hv : v.rel ρ β u) :
    (∃ q cap, u = .slice q (n.I ρ).toNat cap ∧ RowV β W w sh (n.I ρ) (a.den ρ).fn used ow' q cap) ∧ (ow' = true → ow = true) ∧ ∀ k, used = some k → ∃ e, s.heap[k]? = some e ∧ ∃ sh' x y l, e.body = .arr sh' x y ∨ e.body = .cells l := by
  have hf := m.facts
  have hh : ∀ k e b, s.heap[k]? = some e → β k = some b → EOk ρ β W w b e := fun k e b hk hb => m.heap k e b hk hb
  unfold S.rowVal at h
  split at h
  · rename_i a' n' used' nd' hb
    cases h
    split at hb
    · rename_i how
      obtain ⟨⟨⟨q, cap, rfl, h1, h2, h3, h4, h5⟩, h6⟩, h7⟩ := baseOf_sound hf hh hb hv
      refine ⟨⟨q, cap, rfl, ⟨h1, h2, h3, h4, fun _ => ⟨h6, ?_⟩, fun h => (by cases h)⟩⟩, fun _ => how, fun k hk => ?_⟩
      · rcases h5 with h5 | ⟨k, bi, r, c1, c2, c3, c4, c5, c6, c7⟩
        · exact .inl h5
        · exact .inr ⟨k, bi, r, c1, c2, c3, c4, c5, c6, c7⟩
      · subst hk
        unfold baseOf at hb
        split at hb
        · cases hb
        · rename_i k0 sz len
          split at hb
          · rename_i sh' a1 n1 eg hk
            split at hb
            · obtain ⟨_, hb⟩ := Prod.mk.inj (Option.some.inj hb)
              obtain ⟨_, hb⟩ := Prod.mk.inj hb
              obtain ⟨hb, _⟩ := Prod.mk.inj hb
              obtain rfl := Option.some.inj hb
              exact ⟨_, (body_sound hf (show (X.bl true).B ρ = true from rfl) hk).1, sh', a1, n1, [], .inl rfl⟩
            · cases hb
          · cases hb
        · cases hb
        · split at hb
          · rename_i l eg hk
            split at hb
            · simp only [Option.map_eq_some_iff] at hb
              obtain ⟨_, _, hb⟩ := hb
              obtain ⟨_, hb⟩ := Prod.mk.inj hb
              obtain ⟨_, hb⟩ := Prod.mk.inj hb
              obtain ⟨hb, _⟩ := Prod.mk.inj hb
              obtain rfl := Option.some.inj hb
              exact ⟨_, (body_sound hf (show (X.bl true).B ρ = true from rfl) hk).1, [], .zeros, .zeros, l, .inr rfl⟩
            · cases hb
          · cases hb
        · cases hb
    · cases hb
  · split at h
    · rename_i a' n' nd' hb
      cases h
      split at hb
      · rename_i hice
        obtain ⟨_, hrd⟩ := argOf_sound hf (show (X.bl true).B ρ = true from rfl) hh (seqOf_argOf hb) hnd hv
        obtain ⟨q, m', c, g, rfl, h1, h2, h3, hl, hval⟩ := hrd
        simp only [Sh0.ks, List.map_cons, List.map_nil, fixL, VK.fix, List.cons.injEq, AV.a.injEq, AV.i.injEq, and_true] at hl
        obtain ⟨hg, hm'⟩ := hl
        have hnI : n.I ρ = (m' : Int) := hm'
        have hnt : (n.I ρ).toNat = m' := by omega
        have hw := iceB_sound hf hh hice hb hnd hv q m' c rfl
        refine ⟨⟨q, c, by rw [hnt], ⟨by omega, by omega, h2, h3, fun h => (by cases h), fun _ => ⟨rfl, ?_⟩⟩⟩, fun h => (by cases h), fun k hk => (by cases hk)⟩
        by_cases hz : m' = 0
        · exact .inl (by omega)
        · rcases hw with hw | ⟨p, rfl, hw⟩
          · exact absurd hw hz
          · obtain ⟨p0, hp0, hb0, _⟩ := hval 0 0 sh[0] (Int.le_refl _) (by omega) (List.getElem?_eq_getElem hsh)
            obtain rfl := Option.some.inj hp0
            refine .inr ⟨p, rfl, hb0, hw, fun i g' k i0 i1 hk => ?_⟩
            obtain ⟨p1, hp1, _, hc1⟩ := hval i g' k i0 (by omega) hk
            obtain rfl := Option.some.inj hp1
            rw [hg]; exact hc1
      · cases hb
    · cases h
end
end Go.Proofs.Ytpbpmabnmakdoaa.Vc
/- The symbolic executor: stores into a list of lists. -/
namespace Go.Proofs.Ytpbpmabnmakdoaa.Vc
noncomputable section
open Go Go.RowKit
variable {ρ ρ' : List AV} {β β' : Mp} {W W' : Nat → Prop} {w w' : World} {P : Program} {C : Cfg} {B : Nat} {w0 : World}

theorem place_set {b : BI} {p : Addr} {o : Nat} {vs : List Value} (h : place w W true b p) (hin : ∀ j, j < vs.length → (w.cell? ⟨p.block, o + j, none⟩).isSome = true) : place (w.setCells p.block o vs) W' true b p := by
  obtain ⟨h1, h2, _⟩ := h
  obtain ⟨a1, a2, a3⟩ := h2 rfl
  refine ⟨by rw [size_setCells]; exact h1, fun _ => ⟨a1, a2, fun j hj => ?_⟩, fun h => (by cases h)⟩
  obtain ⟨v, hv1, hv2⟩ := a3 j hj
  rw [World.frozen?_setCells]
  by_cases hb : o ≤ j ∧ j < o + vs.length
  · have := World.cell?_setCells_in p.block vs o w hin (j - o) (by omega)
    rw [show o + (j - o) = j by omega] at this
    exact ⟨_, this, hv2⟩
  · rw [World.cell?_setCells_out p.block vs o w _ (fun _ _ => by simp; omega)]
    exact ⟨v, hv1, hv2⟩
theorem place_W {b : BI} {p : Addr} (h : place w W true b p) : place w W' true b p := ⟨h.1, h.2.1, fun h => (by cases h)⟩
/-- what a step on lists of lists leaves -/
structure LeftM (C : Cfg) (B : Nat) (w0 : World) (ρ : List AV) (β : Mp) (s s' : S) (β' : Mp) (W' : Nat → Prop) (w' : World) : Prop where
  mem : Mem C B w0 ρ β' W' s' w'
  ext : Ext β β'
  tmps : s'.tmps = s.tmps
  ks : s'.ks = s.ks
  lvl : s'.lvl = s.lvl
  len : s.heap.length ≤ s'.heap.length
theorem rowsAt_sound {s : S} {kr : Nat} {i : X} {sh : List FK} {x n : X} {ow hole : Bool} (m : Mem C B w0 ρ β W s w) (h : s.rowsAt kr i = some (sh, x, n, ow, hole)) :
    ∃ e br, s.heap[kr]? = some e ∧ β kr = some br ∧ (hole = true → ow = true) ∧ (hole = false → ∃ g, e = ⟨ow, .rw sh x n, g⟩) ∧ (hole = true → ∃ g, e = ⟨ow, .rh sh x n i, g⟩) ∧ RowsOk w W ow br sh (x.den ρ) (n.I ρ) fun j => hole = false ∨ j ≠ i.I ρ := by
  have tt : (X.bl true).B ρ = true := rfl
  unfold S.rowsAt at h
  split at h
  · rename_i ow' sh' x' n' eg hk
    cases h
    obtain ⟨hk, hg⟩ := body_sound m.facts tt hk
    obtain ⟨br, hb⟩ := m.all kr (List.getElem?_eq_some_iff.1 hk).1
    have hE := m.heap kr _ br hk hb hg
    exact ⟨_, br, hk, hb, fun h => (by cases h), fun _ => ⟨_, rfl⟩, fun h => (by cases h), ⟨fun j a1 a2 _ => hE.1 j a1 a2 trivial, fun ho a b a1 a2 _ b1 b2 _ => hE.2 ho a b a1 a2 trivial b1 b2 trivial⟩⟩
  · rename_i sh' x' n' j eg hk
    split at h
    · rename_i hij
      cases h
      obtain ⟨hk, hg⟩ := body_sound m.facts tt hk
      obtain ⟨br, hb⟩ := m.all kr (List.getElem?_eq_some_iff.1 hk).1
      have hE := m.heap kr _ br hk hb hg
      subst hij
      exact ⟨_, br, hk, hb, fun _ => rfl, fun h => (by cases h), fun _ => ⟨_, rfl⟩, ⟨fun j a1 a2 a3 => hE.1 j a1 a2 (by rcases a3 with h | h; cases h; exact h), fun ho a b a1 a2 a3 b1 b2 b3 => hE.2 ho a b a1 a2 (by rcases a3 with h | h; cases h; exact h) b1 b2 (by rcases b3 with h | h; cases h; exact h)⟩⟩
    · cases h
  · cases h
theorem mstore_sound (hC : C.Ok P) {s : S} {t : TypeId} {p : Sc0} {v : V1} {nd : List X} {s' : S} (hq : mstore C s t p v = some (nd, s')) (m : Mem C B w0 ρ β W s w) (hnd : ∀ x ∈ nd, x.B ρ = true) {pv xv : Value} (hp : (Sc.c p).rel ρ β pv) (hx : v.rel ρ β xv) :
    ∃ q w' β' W', pv = .pointer (some q) ∧ (storeVar t q xv).run P w = .ok () w' ∧ LeftM C B w0 ρ β s s' β' W' w' := by
  have tt : (X.bl true).B ρ = true := rfl
  unfold mstore at hq
  split at hq
  · -- a row put in
    rename_i k i v0 el by_ z el' pl hty
    split at hq
    · rename_i sh kr n eg hk
      split at hq
      · rename_i sh' x n' ow hole hrows
        split at hq
        · rename_i hc
          obtain ⟨rfl, rfl, hsh⟩ := hc
          split at hq
          · rename_i a len used nd0 ow' hval
            split at hq
            · cases hq
            · rename_i hho
              obtain ⟨rfl, rfl⟩ := Prod.mk.inj (Option.some.inj hq)
              obtain ⟨hk, hgt⟩ := body_sound m.facts tt hk
              obtain ⟨bk, hbk⟩ := m.all k (List.getElem?_eq_some_iff.1 hk).1
              obtain ⟨er, br, hkr, hbr, hh1, hh2, hh3, hR⟩ := rowsAt_sound m hrows
              have n1 := le_of (hnd (xb .le (.lit 0) i) (by simp))
              have n2 := lt_of (hnd (xb .lt i n) (by simp))
              rw [lit_I] at n1
              have hnd0 : ∀ y ∈ nd0, y.B ρ = true := fun y hy => hnd y (by simp [hy])
              have hxv : v0.rel ρ β xv := hx
              obtain ⟨⟨q, cap, rfl, hV⟩, hoo, hus⟩ := rowVal_sound m hsh hval hnd0 hxv
              -- the entries differ
              have hkk : k ≠ kr := fun h => by
                rw [h, hkr] at hk
                have he := Option.some.inj hk
                cases hole with
                | false => obtain ⟨g, hg⟩ := hh2 rfl; rw [hg] at he; cases he
                | true => obtain ⟨g, hg⟩ := hh3 rfl; rw [hg] at he; cases he
              have huk : used ≠ some k := fun h => by
                obtain ⟨e, he, sh2, x2, y2, l2, hb⟩ := hus k h
                rw [hk] at he
                obtain rfl := Option.some.inj he
                rcases hb with hb | hb <;> cases hb
              have hukr : used ≠ some kr := fun h => by
                obtain ⟨e, he, sh2, x2, y2, l2, hb⟩ := hus kr h
                rw [hkr] at he
                obtain rfl := Option.some.inj he
                cases hole with
                | false => obtain ⟨g, hg⟩ := hh2 rfl; rw [hg] at hb; rcases hb with hb | hb <;> cases hb
                | true => obtain ⟨g, hg⟩ := hh3 rfl; rw [hg] at hb; rcases hb with hb | hb <;> cases hb
              have husb : ∀ j, used = some j → ∃ b, β j = some b := fun j hj => by
                obtain ⟨e, he, _⟩ := hus j hj
                exact m.all j (List.getElem?_eq_some_iff.1 he).1
              -- where the list lies
              obtain ⟨h0, h00, hsz, hE⟩ := m.heap k _ bk hk hbk hgt
              rcases hE with ⟨hE, _⟩ | ⟨pa, hpa, hpl, hcap, hcells⟩
              · omega
              obtain ⟨hp1, hp2, hp3⟩ := hpl.2.1 rfl
              obtain ⟨pp, c, hat, hi0, rfl⟩ := hp
              simp only [SB.at, hbk, Option.map_some, Option.some.injEq, Prod.mk.injEq] at hat
              obtain ⟨hat, _⟩ := hat
              have hpp : pp = pa := by rw [hpa] at hat; exact (Option.some.inj hat).symm
              subst hpp
              have hW0 : W pp.block := m.own k bk _ hbk hp2
              -- given up
              obtain ⟨β1, m1, hx1, hs1, hb1⟩ := m.spend used husb
              have hbr1 : β1 kr = some br := by rw [hs1 kr hukr]; exact hbr
              have m2 := m1.give hbr1
              have hbk2 : upd β1 kr ⟨br.v, noOwn⟩ k = some bk := by rw [upd_other _ _ hkk, hs1 k huk]; exact hbk
              have m3 := m2.give hbk2
              have hx3 : Ext β (upd (upd β1 kr ⟨br.v, noOwn⟩) k ⟨bk.v, noOwn⟩) := (hx1.trans (ext_put (b := ⟨br.v, noOwn⟩) hbr1 rfl)).trans (ext_put (b := ⟨bk.v, noOwn⟩) hbk2 rfl)
              have own3 : ∀ j c r, upd (upd β1 kr ⟨br.v, noOwn⟩) k ⟨bk.v, noOwn⟩ j = some c → c.own r → j ≠ k ∧ j ≠ kr ∧ used ≠ some j ∧ β j = some c := fun j c r hc o => by
                obtain ⟨c1, c2⟩ := own_back hc o
                obtain ⟨c3, c4⟩ := own_back c2 o
                obtain ⟨c5, c6⟩ := hb1 j c r c4 o
                exact ⟨c1, c3, c5, c6⟩
              generalize hβ3 : upd (upd β1 kr ⟨br.v, noOwn⟩) k ⟨bk.v, noOwn⟩ = β3 at m3 hx3 own3
              have hbk3 : β3 k = some ⟨bk.v, noOwn⟩ := by rw [← hβ3, upd_same]
              have hlen3 : (((s.spend used).setBody kr .gone).setBody k .gone).heap.length = s.heap.length := by rw [setBody_len, setBody_len, spend_heap_len]
              have hklen : k < s.heap.length := m.lt hbk
              -- how it ends
              have fin : ∀ (W2 : Nat → Prop) (b2 : BI), Mem C B w0 ρ β3 W2 (((s.spend used).setBody kr .gone).setBody k .gone) w → RowsOk w W2 ow' b2 sh ((X.setrow x i a len).den ρ) (n.I ρ) (fun _ => True) →
                  b2.v = setBV br.v (i.I ρ) q cap (len.I ρ) → (∀ r, b2.own r → W2 r) → (∀ r, b2.own r → br.own r ∨ usedOwn β used r) → (∀ r, bk.own r → W2 r) →
                  ∃ q' w' β' W', Value.pointer (some (pp.add ((i.I ρ).toNat * 1 + 0))) = .pointer (some q') ∧ (storeVar t q' (.slice q (len.I ρ).toNat cap)).run P w = .ok () w' ∧
                    LeftM C B w0 ρ β s ((((s.spend used).setBody kr .gone).setBody k (.mo sh s.heap.length n)).add ⟨ow', .rw sh (.setrow x i a len) n, .bl true⟩) β' W' w' := by
                intro W2 b2 m4 hRb hbv hbW hbo hkW
                have hdisk : ∀ r, bk.own r → ¬ b2.own r := fun r h1 h2 => by
                  rcases hbo r h2 with h2 | ⟨k', bi, hu, hb, ho⟩
                  · exact hkk (m.dist k kr bk br r hbk hbr h1 h2)
                  · exact huk (by rw [hu]; exact congrArg some (m.dist k k' bk bi r hbk hb h1 ho).symm)
                have hn1 : 1 * (i.I ρ).toNat < bk.v.cap * bk.v.sz := by rw [hsz]; omega
                have hin : ∀ j, j < [Value.slice q (len.I ρ).toNat cap].length → (w.cell? ⟨pp.block, (i.I ρ).toNat + j, none⟩).isSome = true := fun j hj => by
                  simp at hj
                  subst hj
                  obtain ⟨u, hu, _⟩ := hp3 (i.I ρ).toNat (by omega)
                  rw [Nat.add_zero, hu]; rfl
                have hfz : ∀ j, j < [Value.slice q (len.I ρ).toNat cap].length → w.frozen? ⟨pp.block, (i.I ρ).toNat + j, none⟩ = false := fun j hj => by
                  simp at hj
                  subst hj
                  obtain ⟨u, _, hu⟩ := hp3 (i.I ρ).toNat (by omega)
                  rw [Nat.add_zero]; exact hu
                have hplace : pp.add ((i.I ρ).toNat * 1 + 0) = ⟨pp.block, (i.I ρ).toNat, none⟩ := by
                  rw [Nat.mul_one, Nat.add_zero, hp1, add0]
                have hrun := storeVar_run (P := P) (w := w) (hC.ty _ _ hty) (p := ⟨pp.block, (i.I ρ).toNat, none⟩) (v := .slice q (len.I ρ).toNat cap) (o := (i.I ρ).toNat) rfl rfl hin hfz (fun u hu => by simp [Value.cells] at hu; subst hu; rfl)
                refine ⟨_, _, upd (upd β3 s.heap.length b2) k bk, W2, rfl, by rw [hplace]; exact hrun, ?_⟩
                have hbut := but_setCells w pp.block (i.I ρ).toNat [Value.slice q (len.I ρ).toNat cap]
                have m5 := m4.but' (w' := w.setCells pp.block (i.I ρ).toNat [Value.slice q (len.I ρ).toNat cap]) (hkW _ hp2) (fun j c hc ho => by
                  obtain ⟨c1, _, _, c4⟩ := own3 j c _ hc ho
                  exact c1 (m.dist j k c bk _ c4 hbk ho hp2)) hbut (below_setCells w pp.block (m.wlo _ hW0).1 _ _ w) (size_setCells _ _ _ _)
                have hR5 : RowsOk (w.setCells pp.block (i.I ρ).toNat [Value.slice q (len.I ρ).toNat cap]) W2 ow' b2 sh ((X.setrow x i a len).den ρ) (n.I ρ) (fun _ => True) := ⟨fun j a1 a2 a3 => (hRb.1 j a1 a2 a3).but hbut (hkW _ hp2) (hdisk _ hp2), hRb.2⟩
                have m6 := m5.addE (b := b2) (e := ⟨ow', .rw sh (.setrow x i a len) n, .bl true⟩) hbW (fun j c r hc ho h2 => by
                  obtain ⟨c1, c2, c3, c4⟩ := own3 j c r hc ho
                  rcases hbo r h2 with h2 | ⟨k', bi, hu, hb, ho'⟩
                  · exact c2 (m.dist j kr c br r c4 hbr ho h2)
                  · exact c3 (by rw [hu]; exact congrArg some (m.dist j k' c bi r c4 hb ho ho').symm)) (fun _ => hR5)
                rw [hlen3] at m6
                have hn3 : β3 s.heap.length = none := m4.top _ (by rw [hlen3]; exact Nat.le_refl _)
                have hbk6 : upd β3 s.heap.length b2 k = some ⟨bk.v, noOwn⟩ := by rw [upd_other _ _ (by omega)]; exact hbk3
                have m7 := m6.own' (b := bk) (bd := .mo sh s.heap.length n) hbk6 rfl hkW (fun j c r hj hc ho h2 => by
                  by_cases hjl : j = s.heap.length
                  · rw [hjl, upd_same] at hc
                    obtain rfl := Option.some.inj hc
                    exact hdisk r h2 ho
                  · rw [upd_other _ _ hjl] at hc
                    obtain ⟨_, _, _, c4⟩ := own3 j c r hc ho
                    exact hj (m.dist j k c bk r c4 hbk ho h2)) (fun _ => by
                  refine ⟨h0, h00, hsz, .inr ⟨pp, hpa, place_set hpl hin, hcap, fun j j0 j1 => ⟨b2, by rw [upd_other _ _ (by omega), upd_same], ?_⟩⟩⟩
                  rw [hp1, add0]
                  obtain ⟨u, hu1, hu2⟩ := hp3 j.toNat (by rw [hsz]; omega)
                  refine ⟨?_, fun _ => by rw [World.frozen?_setCells]; exact hu2⟩
                  rw [hbv]
                  by_cases hji : j = i.I ρ
                  · have := World.cell?_setCells_in pp.block _ (i.I ρ).toNat w hin 0 (by simp)
                    simp only [setBV, hji, if_pos]
                    simpa using this
                  · simp only [setBV, if_neg hji]
                    obtain ⟨b', hb', hc'⟩ := hcells j j0 j1
                    obtain rfl := Option.some.inj (hb'.symm.trans hbr)
                    rw [World.cell?_setCells_out pp.block _ _ w _ (fun _ _ => by simp; omega)]
                    have := hc'.1
                    rw [hp1, add0] at this
                    exact this)
                rw [setBody_add _ (by rw [hlen3]; exact hklen), setBody_twice] at m7
                refine ⟨m7, (hx3.trans (ext_upd b2 hn3)).trans (ext_put hbk6 rfl), by cases used <;> rfl, by cases used <;> rfl, by cases used <;> rfl, ?_⟩
                show s.heap.length ≤ (S.add _ _).heap.length
                simp only [S.add_eq, List.length_append]
                rw [setBody_len, setBody_len, spend_heap_len]
                omega
              have hml : ∀ j, ((X.setrow x i a len).den ρ).mlen j = if j = i.I ρ then len.I ρ else (x.den ρ).mlen j := fun j => rfl
              have hmf : ∀ j, ((X.setrow x i a len).den ρ).mfn j = if j = i.I ρ then (a.den ρ).fn else (x.den ρ).mfn j := fun j => rfl
              cases ow' with
              | true =>
                have how := hoo rfl
                subst how
                refine fin W ⟨setBV br.v (i.I ρ) q cap (len.I ρ), fun r => br.own r ∨ usedOwn β used r⟩ m3 ?_ rfl (fun r hr => ?_) (fun r hr => hr) (fun r hr => m.own k bk r hbk hr)
                · exact hR.setOwn hV (fun j c r hc ho => m.own j c r hc ho) hml hmf (fun j j0 j1 hj => ⟨j1, .inr hj⟩) (fun r hr ho => by
                    obtain ⟨k', bi, hu, hb, ho'⟩ := hr
                    exact hukr (by rw [hu]; exact congrArg some (m.dist k' kr bi br r hb hbr ho' ho))) rfl (fun r => Iff.rfl)
                · rcases hr with hr | ⟨k', bi, hu, hb, ho'⟩
                  · exact m.own kr br r hbr hr
                  · exact m.own k' bi r hb ho'
              | false =>
                have m3' := m3.shrink br.own (fun j c r hc ho h2 => by
                  obtain ⟨_, c2, _, c4⟩ := own3 j c r hc ho
                  exact c2 (m.dist j kr c br r c4 hbr ho h2))
                refine fin _ ⟨setBV br.v (i.I ρ) q cap (len.I ρ), noOwn⟩ m3' ?_ rfl (fun r hr => hr.elim) (fun r hr => hr.elim) (fun r hr => ⟨m.own k bk r hbk hr, fun h2 => hkk (m.dist k kr bk br r hbk hbr hr h2)⟩)
                exact hR.setIce hV (fun r hr => hr.1) (fun r hr hw => hw.2 hr) hml hmf (fun j j0 j1 hj => ⟨j1, .inr hj⟩) rfl
          · cases hq
        · cases hq
      · cases hq
    · cases hq
  · -- a row written
    rename_i v0 _ _ _ kr r sz j f d hd
    split at hq
    · rename_i sh x n eg hkr
      split at hq
      · rename_i hc
        obtain ⟨rfl, hfl, hvs, hd0⟩ := hc
        simp only [Option.map_eq_some_iff] at hq
        obtain ⟨a, ha, hq⟩ := hq
        obtain ⟨rfl, rfl⟩ := Prod.mk.inj hq
        obtain ⟨hkr, hgt⟩ := body_sound m.facts tt hkr
        obtain ⟨br, hbr⟩ := m.all kr (List.getElem?_eq_some_iff.1 hkr).1
        have n1 := le_of (hnd (xb .le (.lit 0) r) (by simp))
        have n2 := lt_of (hnd (xb .lt r n) (by simp))
        have n3 := lt_of (hnd (xb .lt j (mkLen x r)) (by simp))
        rw [lit_I] at n1
        rw [mkLen_I] at n3
        have hR := m.heap kr _ br hkr hbr hgt
        have hrow := hR.1 (r.I ρ) n1 n2 trivial
        obtain ⟨pp, c, hat, hj0, rfl⟩ := hp
        simp only [SB.at, hbr, Option.map_some, Option.some.injEq, Prod.mk.injEq] at hat
        obtain ⟨hat, hcat⟩ := hat
        obtain ⟨hl, hcs⟩ := cells_len (β := β) hx
        obtain ⟨r0, r1, r2, r3, r4, r5⟩ := hrow
        rcases r5 with r5 | r5 | ⟨qa, c1, c2, c3, _, c5⟩
        · omega
        · cases r5.1
        obtain rfl : qa = pp := by rw [hat] at c1; exact (Option.some.inj c1).symm
        obtain ⟨hp1, hp2, hp3⟩ := c3 rfl
        obtain ⟨s1, s2⟩ := setAll_sound (ρ := ρ) (β := β) ha
        rw [mkRow_fn] at s1
        have hne : v0.cells.length ≠ 0 := by omega
        have hroom : (j.I ρ).toNat * sh.length + f + v0.cells.length ≤ br.v.caps (r.I ρ) * sh.length := by
          have : (j.I ρ).toNat + 1 ≤ br.v.caps (r.I ρ) := by omega
          have := Nat.mul_le_mul_right sh.length this
          rw [Nat.add_mul] at this
          omega
        have hlen : xv.cells.toList.length = v0.cells.length := hcs.length.symm
        have hin : ∀ q, q < xv.cells.toList.length → (w.cell? ⟨qa.block, (j.I ρ).toNat * sh.length + f + q, none⟩).isSome = true := fun q hq => by
          obtain ⟨u, hu, _⟩ := hp3 ((j.I ρ).toNat * sh.length + f + q) (by omega)
          rw [hu]; rfl
        have hfz : ∀ q, q < xv.cells.toList.length → w.frozen? ⟨qa.block, (j.I ρ).toNat * sh.length + f + q, none⟩ = false := fun q hq => by
          obtain ⟨u, _, hu⟩ := hp3 ((j.I ρ).toNat * sh.length + f + q) (by omega)
          exact hu
        have hplace : qa.add ((j.I ρ).toNat * sh.length + f) = ⟨qa.block, (j.I ρ).toNat * sh.length + f, none⟩ := by rw [hp1, add0]
        have hrun := storeVar_run (P := P) (w := w) (hC.ty _ _ hd) (p := ⟨qa.block, (j.I ρ).toNat * sh.length + f, none⟩) (v := xv) (o := (j.I ρ).toNat * sh.length + f) (by rw [← hl]; exact hvs) rfl hin hfz (all_one hcs)
        have hW0 := m.own kr br _ hbr hp2
        have hbut := but_setCells w qa.block ((j.I ρ).toNat * sh.length + f) xv.cells.toList
        have m1 := (m.give hbr).but' (w' := w.setCells qa.block ((j.I ρ).toNat * sh.length + f) xv.cells.toList) hW0 (fun k c hc ho => by
          obtain ⟨c1, c2⟩ := own_back hc ho
          exact c1 (m.dist k kr c br _ c2 hbr ho hp2)) hbut (below_setCells w qa.block (m.wlo _ hW0).1 _ _ w) (size_setCells _ _ _ _)
        have m2 := m1.own' (b := br) (bd := .rw sh (.setrow x r a (mkLen x r)) n) (upd_same ..) rfl (fun r' hr => m.own kr br r' hbr hr) (fun k c r' hk hc ho h2 => by
          obtain ⟨c1, c2⟩ := own_back hc ho
          exact hk (m.dist k kr c br _ c2 hbr ho h2)) (fun _ => by
          have hml : ∀ q, ((X.setrow x r a (mkLen x r)).den ρ).mlen q = if q = r.I ρ then (mkLen x r).I ρ else (x.den ρ).mlen q := fun q => rfl
          have hmf : ∀ q, ((X.setrow x r a (mkLen x r)).den ρ).mfn q = if q = r.I ρ then (a.den ρ).fn else (x.den ρ).mfn q := fun q => rfl
          refine ⟨fun q q0 q1 _ => ?_, fun ho q q' a1 a2 _ b1 b2 _ => hR.2 rfl q q' a1 a2 trivial b1 b2 trivial⟩
          rw [hml, hmf]
          by_cases hqr : q = r.I ρ
          · rw [if_pos hqr, if_pos hqr, mkLen_I, hqr]
            refine ⟨r0, r1, r2, r3, r4, .inr (.inr ⟨qa, c1, by rw [size_setCells]; exact c2, fun _ => ⟨hp1, hp2, fun z hz => ?_⟩, fun h => (by cases h), fun z g k z0 z1 hk => ?_⟩)⟩
            · obtain ⟨u, hu1, hu2⟩ := hp3 z hz
              rw [World.frozen?_setCells]
              by_cases hb : (j.I ρ).toNat * sh.length + f ≤ z ∧ z < (j.I ρ).toNat * sh.length + f + xv.cells.toList.length
              · have := World.cell?_setCells_in qa.block xv.cells.toList ((j.I ρ).toNat * sh.length + f) w hin (z - ((j.I ρ).toNat * sh.length + f)) (by omega)
                rw [show (j.I ρ).toNat * sh.length + f + (z - ((j.I ρ).toNat * sh.length + f)) = z by omega] at this
                exact ⟨_, this, hu2⟩
              · rw [World.cell?_setCells_out qa.block _ _ w _ (fun _ _ => by simp only; omega)]
                exact ⟨u, hu1, hu2⟩
            · have hg := (List.getElem?_eq_some_iff.1 hk).1
              have hzr : z.toNat * sh.length + g < br.v.caps (r.I ρ) * sh.length := by
                have : z.toNat + 1 ≤ br.v.caps (r.I ρ) := by omega
                have := Nat.mul_le_mul_right sh.length this
                rw [Nat.add_mul] at this
                omega
              obtain ⟨u, hu1, hu2⟩ := hp3 _ hzr
              rw [hp1, add0]
              refine ⟨?_, fun _ => by rw [World.frozen?_setCells]; exact hu2⟩
              by_cases hb : (j.I ρ).toNat * sh.length + f ≤ z.toNat * sh.length + g ∧ z.toNat * sh.length + g < (j.I ρ).toNat * sh.length + f + xv.cells.toList.length
              · have hzj : z = j.I ρ ∧ f ≤ g := by
                  have h1 : z.toNat = (j.I ρ).toNat := by
                    rcases Nat.lt_trichotomy z.toNat (j.I ρ).toNat with h | h | h
                    · have := Nat.mul_le_mul_right sh.length (show z.toNat + 1 ≤ (j.I ρ).toNat from h)
                      rw [Nat.add_mul] at this; omega
                    · exact h
                    · have := Nat.mul_le_mul_right sh.length (show (j.I ρ).toNat + 1 ≤ z.toNat from h)
                      rw [Nat.add_mul] at this; omega
                  rw [h1] at hb
                  exact ⟨by omega, by omega⟩
                obtain ⟨rfl, hfg⟩ := hzj
                have := World.cell?_setCells_in qa.block xv.cells.toList ((j.I ρ).toNat * sh.length + f) w hin (g - f) (by omega)
                rw [show (j.I ρ).toNat * sh.length + f + (g - f) = (j.I ρ).toNat * sh.length + g by omega] at this
                rw [this]
                have hgl : g - f < v0.cells.length := by omega
                obtain ⟨kk, hkk, hvv⟩ := s2 (g - f) _ (List.getElem?_eq_getElem hgl)
                obtain ⟨u', hu', hr'⟩ := hcs.get (g - f) _ (List.getElem?_eq_getElem hgl)
                rw [List.getElem?_eq_getElem (by omega)] at hu'
                rw [Option.some.inj hu']
                rw [show f + (g - f) = g by omega] at hkk hvv
                obtain rfl := Option.some.inj (hkk.symm.trans hk)
                rw [hvv u' hr']
              · rw [World.cell?_setCells_out qa.block _ _ w _ (fun _ _ => by simp only; omega)]
                have := (c5 z g k z0 z1 hk).1
                rw [hp1, add0] at this
                rw [this, s1 z g (fun hh => hb (by
                  obtain ⟨rfl, h2, h3⟩ := hh
                  omega))]
          · rw [if_neg hqr, if_neg hqr]
            have hrq := hR.1 q q0 q1 trivial
            -- another row, another block
            obtain ⟨d0, d1, d2, d3, d4, d5⟩ := hrq
            refine ⟨d0, d1, d2, d3, d4, ?_⟩
            rcases d5 with d5 | d5 | ⟨q2, e1, e2, e3, _, e5⟩
            · exact .inl d5
            · exact .inr (.inl d5)
            · obtain ⟨f1, f2, f3⟩ := e3 rfl
              by_cases hcq : br.v.caps q = 0
              · exact .inl hcq
              · have hbne : q2.block ≠ qa.block := fun h => by
                  refine hR.2 rfl q (r.I ρ) q0 q1 trivial n1 n2 trivial hqr hcq (by omega) ?_
                  rw [e1, c1, f1, hp1, h]
                refine .inr (.inr ⟨q2, e1, by rw [size_setCells]; exact e2, fun _ => ⟨f1, f2, fun z hz => ?_⟩, fun h => (by cases h), fun z g k z0 z1 hk => (e5 z g k z0 z1 hk).but hbut (by rw [add_block]; exact hbne)⟩)
                obtain ⟨u, hu1, hu2⟩ := f3 z hz
                exact ⟨u, hbut.cell _ _ hu1 hbne, hbut.froz _ _ hu1 hu2⟩)
        rw [setBody_twice] at m2
        refine ⟨_, _, _, W, rfl, by rw [hplace]; exact hrun, m2, (ext_put (b := ⟨br.v, noOwn⟩) hbr rfl).trans (ext_put (b := br) (upd_same ..) rfl), rfl, rfl, rfl, by rw [setBody_len]; exact Nat.le_refl _⟩
      · cases hq
    · cases hq
  · cases hq
end
end Go.Proofs.Ytpbpmabnmakdoaa.Vc
/- The symbolic executor: append of a list to a list of lists. -/
namespace Go.Proofs.Ytpbpmabnmakdoaa.Vc
noncomputable section
open Go Go.RowKit
variable {ρ ρ' : List AV} {β β' : Mp} {W W' : Nat → Prop} {w w' : World} {P : Program} {C : Cfg} {B : Nat} {w0 : World}

/-- the cells of a list of lists -/
def matCells (v : BV) (n : Nat) : List Value := (List.range n).map fun (i : Nat) => Value.slice (v.rows i) (v.lens i).toNat (v.caps i)
theorem matCells_len (v : BV) (n : Nat) : (matCells v n).length = n := by simp [matCells]
theorem matCells_get {v : BV} {n i : Nat} (h : i < n) : (matCells v n)[i]? = some (.slice (v.rows i) (v.lens i).toNat (v.caps i)) := by
  simp [matCells, h]
theorem matCells_one {v : BV} {n : Nat} : ∀ u ∈ matCells v n, u.oneCell' = true := by
  intro u hu
  simp only [matCells, List.mem_map] at hu
  obtain ⟨i, _, rfl⟩ := hu
  rfl
def zeroBI : BI := ⟨⟨none, 0, 0, fun _ => none, fun _ => 0, fun _ => 0⟩, noOwn⟩
/-- a list of lists that is appended to -/
structure BaseM (β : Mp) (W : Nat → Prop) (w : World) (sh : List FK) (m : AV) (N : Nat) (ks : Option (Nat × Nat)) (ow : Bool) (br : BI) (q : Option Addr) (cap : Nat) : Prop where
  le : N ≤ cap
  hmax : cap ≤ maxLen
  hnil : q = none → cap = 0
  rows : RowsOk w W ow br sh m N fun _ => True
  out : cap = 0 ∨ ∃ k kr bk r, ks = some (k, kr) ∧ β k = some bk ∧ bk.own r ∧ r < w.heap.size ∧ q = some ⟨r, 0, none⟩ ∧ (∀ j, j < cap → ∃ u, w.cell? ⟨r, j, none⟩ = some u ∧ w.frozen? ⟨r, j, none⟩ = false) ∧
    ∀ i, i < N → w.cell? ⟨r, i, none⟩ = some (.slice (br.v.rows i) (br.v.lens i).toNat (br.v.caps i))
  ents : ∀ k kr, ks = some (k, kr) → k ≠ kr ∧ (∃ bk, β k = some bk) ∧ β kr = some br
  none : ks = none → br.own = noOwn
theorem baseM_sound {s : S} {sh : List FK} {x : Sc} {m n : X} {ks : Option (Nat × Nat)} {ow : Bool} (mm : Mem C B w0 ρ β W s w) (h : baseM s sh x = some (m, n, ks, ow)) {v : Value} (hv : x.rel ρ β v) :
    ∃ q N cap br, v = .slice q N cap ∧ n.I ρ = (N : Int) ∧ BaseM β W w sh (m.den ρ) N ks ow br q cap ∧ ∀ k kr, ks = some (k, kr) → (∃ e, s.heap[k]? = some e ∧ ∃ a b c, e.body = .mo a b c) ∧ ∃ e, s.heap[kr]? = some e ∧ ∃ a b c, e.body = .rw a b c := by
  have tt : (X.bl true).B ρ = true := rfl
  unfold baseM at h
  split at h
  · rename_i k len
    split at h
    · rename_i sh' kr n' eg hk
      split at h
      · rename_i ow' sh2 m' n2 eg2 hkr
        split at h
        · rename_i hc
          obtain ⟨rfl, rfl, rfl, rfl⟩ := hc
          cases h
          obtain ⟨hk, hgk⟩ := body_sound mm.facts tt hk
          obtain ⟨hkr, hgr⟩ := body_sound mm.facts tt hkr
          obtain ⟨br, hbr⟩ := mm.all kr (List.getElem?_eq_some_iff.1 hkr).1
          obtain ⟨p, c, q, r, hat, rfl, h3, h4, h5, h6, h7, h8, h9, _, h10⟩ := hv
          simp only [SB.at, Option.map_eq_some_iff] at hat
          obtain ⟨bk, hbk, he⟩ := hat
          obtain ⟨hp, hcap⟩ := Prod.mk.inj he
          have hR := mm.heap kr _ br hkr hbr hgr
          obtain ⟨h0, h00, hsz, hE⟩ := mm.heap k _ bk hk hbk hgk
          have hrc : r = bk.v.cap := by have := h10 rfl; rw [lit_I] at this; simp at this; omega
          have hNI : ((n.I ρ).toNat : Int) = n.I ρ := Int.toNat_of_nonneg h0
          have hkk : k ≠ kr := fun h => by rw [h, hkr] at hk; cases hk
          refine ⟨q, (n.I ρ).toNat, r, br, rfl, hNI.symm, ⟨h5, h6, fun hq => ?_, by rw [hNI]; exact hR, ?_, fun k' kr' he => ?_, fun h => (by cases h)⟩, fun k' kr' he => ?_⟩
          · rcases h8 with h8 | h8
            · exact h8
            · cases p with
              | none => have := h7 rfl; omega
              | some p => rw [hq] at h8; cases h8
          · by_cases hr0 : r = 0
            · exact .inl hr0
            · rcases hE with ⟨_, hE, _⟩ | ⟨pa, hpa, hpl, _, hcells⟩
              · omega
              · obtain ⟨a1, a2, a3⟩ := hpl.2.1 rfl
                refine .inr ⟨k, kr, bk, pa.block, rfl, hbk, a2, hpl.1, ?_, fun j hj => a3 j (by rw [hsz]; omega), fun i hi => ?_⟩
                · rcases h8 with h8 | h8
                  · exact absurd h8 hr0
                  · rw [h8, ← hp, hpa, lit_I, ← a1]; simp [Addr.add]
                · obtain ⟨b', hb', hc'⟩ := hcells i (by omega) (by omega)
                  obtain rfl := Option.some.inj (hb'.symm.trans hbr)
                  have := hc'.1
                  rw [a1, add0] at this
                  simpa using this
          · cases he
            exact ⟨hkk, ⟨bk, hbk⟩, hbr⟩
          · cases he
            exact ⟨⟨_, hk, _, _, _, rfl⟩, ⟨_, hkr, _, _, _, rfl⟩⟩
        · cases h
      · cases h
    · cases h
  · split at h
    · rename_i hem
      cases h
      obtain ⟨q, rfl⟩ := emptyBase_sound hem hv
      exact ⟨q, 0, 0, zeroBI, rfl, rfl, ⟨Nat.le_refl _, Nat.zero_le _, fun _ => rfl, ⟨fun i a1 a2 => by simp at a2; omega, fun _ i j a1 a2 => by simp at a2; omega⟩, .inl rfl, fun k kr h => (by cases h), fun _ => rfl⟩, fun k kr h => (by cases h)⟩
    · cases h
theorem setBody_last (s : S) (e : HE) (b : Body) : (s.add e).setBody s.heap.length b = s.add (ent true b) := by
  simp [S.setBody, S.add_eq, setF_eq]
theorem spend2_len (s : S) (ks : Option (Nat × Nat)) : (s.spend2 ks).heap.length = s.heap.length := by
  cases ks with
  | none => rfl
  | some x => simp [S.spend2, setBody_len]
/-- the entries of a list of lists that is appended to, given up -/
theorem Mem.spend2 {s : S} (m : Mem C B w0 ρ β W s w) (ks : Option (Nat × Nat)) (hk : ∀ k kr, ks = some (k, kr) → k ≠ kr ∧ (∃ b, β k = some b) ∧ ∃ b, β kr = some b) :
    ∃ β1, Mem C B w0 ρ β1 W (s.spend2 ks) w ∧ Ext β β1 ∧ (∀ j c r, β1 j = some c → c.own r → (∀ k kr, ks = some (k, kr) → j ≠ k ∧ j ≠ kr) ∧ β j = some c) := by
  cases ks with
  | none => exact ⟨β, m, Ext.refl _, fun j c r h _ => ⟨fun k kr h => (by cases h), h⟩⟩
  | some x =>
    obtain ⟨k, kr⟩ := x
    obtain ⟨hkk, ⟨bk, hbk⟩, ⟨br, hbr⟩⟩ := hk k kr rfl
    have m1 := m.give hbk
    have hbr1 : upd β k ⟨bk.v, noOwn⟩ kr = some br := by rw [upd_other _ _ (fun h => hkk h.symm)]; exact hbr
    refine ⟨_, m1.give hbr1, (ext_put (b := ⟨bk.v, noOwn⟩) hbk rfl).trans (ext_put (b := ⟨br.v, noOwn⟩) hbr1 rfl), fun j c r h o => ?_⟩
    obtain ⟨c1, c2⟩ := own_back h o
    obtain ⟨c3, c4⟩ := own_back c2 o
    exact ⟨fun k' kr' h => (by cases h; exact ⟨c3, c1⟩), c4⟩
/-- two new entries: a list of lists and its rows -/
theorem Mem.add2 {s : S} {bo b2 : BI} {sh : List FK} {nX m : X} {ow : Bool} (mm : Mem C B w0 ρ β W s w) (hW : ∀ r, bo.own r ∨ b2.own r → W r) (hd : ∀ j c r, β j = some c → c.own r → ¬ (bo.own r ∨ b2.own r)) (hd2 : ∀ r, bo.own r → ¬ b2.own r)
    (hR : RowsOk w W ow b2 sh (m.den ρ) (nX.I ρ) fun _ => True) (he : EOk ρ (upd (upd β s.heap.length bo) (s.heap.length + 1) b2) W w bo (ent true (.mo sh (s.heap.length + 1) nX))) :
    Mem C B w0 ρ (upd (upd β s.heap.length bo) (s.heap.length + 1) b2) W ((s.add (ent true (.mo sh (s.heap.length + 1) nX))).add ⟨ow, .rw sh m nX, .bl true⟩) w ∧ Ext β (upd (upd β s.heap.length bo) (s.heap.length + 1) b2) := by
  have hn := mm.top s.heap.length (Nat.le_refl _)
  have m1 := mm.addE (b := bo) (e := ent true .gone) (fun r h => hW r (.inl h)) (fun j c r hc ho h => hd j c r hc ho (.inl h)) (fun _ => trivial)
  have hl1 : (s.add (ent true .gone)).heap.length = s.heap.length + 1 := by simp [S.add_eq]
  have hn1 := m1.top (s.heap.length + 1) (by rw [hl1]; exact Nat.le_refl _)
  have m2 := m1.addE (b := b2) (e := ⟨ow, .rw sh m nX, .bl true⟩) (fun r h => hW r (.inr h)) (fun j c r hc ho h => by
    by_cases hj : j = s.heap.length
    · rw [hj, upd_same] at hc
      obtain rfl := Option.some.inj hc
      exact hd2 r ho h
    · rw [upd_other _ _ hj] at hc
      exact hd j c r hc ho (.inr h)) (fun _ => hR)
  rw [hl1] at m2
  have hbo : upd (upd β s.heap.length bo) (s.heap.length + 1) b2 s.heap.length = some bo := by rw [upd_other _ _ (by omega), upd_same]
  have hid : upd (upd (upd β s.heap.length bo) (s.heap.length + 1) b2) s.heap.length bo = upd (upd β s.heap.length bo) (s.heap.length + 1) b2 := by
    funext j
    by_cases hj : j = s.heap.length
    · rw [hj, upd_same, hbo]
    · rw [upd_other _ _ hj]
  have m3 := m2.own' (b := bo) (bd := .mo sh (s.heap.length + 1) nX) hbo rfl (fun r h => hW r (.inl h)) (fun j c r hj hc ho h => by
    by_cases hj1 : j = s.heap.length + 1
    · rw [hj1, upd_same] at hc
      obtain rfl := Option.some.inj hc
      exact hd2 r h ho
    · rw [upd_other _ _ hj1, upd_other _ _ hj] at hc
      exact hd j c r hc ho (.inl h)) (by rw [hid]; exact he)
  rw [hid, setBody_add _ (by rw [hl1]; omega), setBody_last] at m3
  exact ⟨m3, (ext_upd bo hn).trans (ext_upd b2 hn1)⟩
theorem matV_slc {k : Nat} {bo : BI} (hb : β k = some bo) {r cap N : Nat} (ha : bo.v.addr = some ⟨r, 0, none⟩) (hc : bo.v.cap = cap) {nX : X} (hn : nX.I ρ = (N : Int)) (hle : N ≤ cap) (hm : cap ≤ maxLen) : (matV k nX).rel ρ β (.slice (some ⟨r, 0, none⟩) N cap) := by
  refine ⟨some ⟨r, 0, none⟩, cap, some ⟨r, 0, none⟩, cap, ?_, by rw [hn]; simp, by rw [lit_I]; exact Int.le_refl _, by rw [hn]; omega, by rw [hn]; simpa using hle, hm, fun h => (by cases h), .inr ?_, by rw [lit_I]; simp, by simp, by rw [lit_I]; simp⟩
  · simp only [SB.at, hb, Option.map_some, ha, hc]
  · rw [lit_I]; simp [Addr.add]
/-- the list of lists behind an append -/
theorem eok_mo {bo b2 : BI} {β2 : Mp} {sh : List FK} {kr r cap N : Nat} {nX : X} (hb2 : β2 kr = some b2) (ha : bo.v.addr = some ⟨r, 0, none⟩) (hc : bo.v.cap = cap) (hsz : bo.v.sz = 1) (ho : bo.own r) (hr : r < w.heap.size) (hn : nX.I ρ = (N : Int)) (hle : N ≤ cap)
    (hthere : ∀ j, j < cap * 1 → ∃ v, w.cell? ⟨r, j, none⟩ = some v ∧ w.frozen? ⟨r, j, none⟩ = false) (hval : ∀ i : Nat, i < N → w.cell? ⟨r, i, none⟩ = some (.slice (b2.v.rows i) (b2.v.lens i).toNat (b2.v.caps i))) : EOk ρ β2 W w bo (ent true (.mo sh kr nX)) := by
  intro _
  refine ⟨by rw [hn]; omega, fun h => (by rw [ha] at h; cases h), hsz, .inr ⟨⟨r, 0, none⟩, ha, ⟨hr, fun _ => ⟨rfl, ho, fun j hj => hthere j (by rw [hc, hsz] at hj; exact hj)⟩, fun h => (by cases h)⟩, by rw [hn, hc]; simpa using hle, fun i i0 i1 => ⟨b2, hb2, ?_⟩⟩⟩
  rw [hn] at i1
  have h1 := hval i.toNat (by omega)
  rw [show ((i.toNat : Nat) : Int) = i by omega] at h1
  obtain ⟨_, _, hf⟩ := hthere i.toNat (by omega)
  rw [add0]
  exact ⟨h1, fun _ => hf⟩
theorem RowsOk.but {r : Nat} (h : But r w w') (hW : W r) {own : Bool} {b : BI} (ho : ¬ b.own r) {sh : List FK} {m : AV} {n : Int} {p : Int → Prop} (hr : RowsOk w W own b sh m n p) : RowsOk w' W own b sh m n p := ⟨fun i a1 a2 a3 => (hr.1 i a1 a2 a3).but h hW ho, hr.2⟩
/-- how the append of a row ends: w' the world, W2 our blocks, r the list's block -/
theorem append_row_fin {s s3 : S} {t ty : TypeId} {sh : List FK} {n mx : X} {qx : Option Addr} {p' : Addr} {N cx c' : Nat} {ow' : Bool} {β3 : Mp} {br : BI} {used : Option Nat} {q : Option Addr} {cap : Nat} {ln : Int} (hsum : (xb .add n (.lit 1)).I ρ = ((N + 1 : Nat) : Int))
    (hlen3 : s3.heap.length = s.heap.length) (ht : s3.tmps = s.tmps) (hks : s3.ks = s.ks) (hlv : s3.lvl = s.lvl) (hx13 : Ext β β3) (own3 : ∀ j c r, β3 j = some c → c.own r → ¬ (br.own r ∨ usedOwn β used r))
    {w' : World} {W2 : Nat → Prop} {b2 : BI} {r cc : Nat} (hrun : (Builtin.append_ #[t, t] ty #[.slice qx N cx, .slice (some p') 1 c']).run P w = .ok (.slice (some ⟨r, 0, none⟩) (N + 1) cc) w') (m4 : Mem C B w0 ρ β3 W2 s3 w')
    (hbv : b2.v = setBV br.v N q cap ln) (hle : N + 1 ≤ cc) (hmax : cc ≤ maxLen) (hr : r < w'.heap.size) (hWr : W2 r) (hbW : ∀ r', b2.own r' → W2 r') (hbo2 : ∀ r', b2.own r' → br.own r' ∨ usedOwn β used r')
    (hno : ∀ j c, β3 j = some c → ¬ c.own r) (hnb : ¬ b2.own r) (hR : RowsOk w' W2 ow' b2 sh (mx.den ρ) ((xb .add n (.lit 1)).I ρ) (fun _ => True)) (hout : AppOut w w' r cc 1 (matCells br.v N ++ [.slice q ln.toNat cap])) :
    ∃ u w' β' W', (Builtin.append_ #[t, t] ty #[.slice qx N cx, .slice (some p') 1 c']).run P w = .ok u w' ∧
      LeftM C B w0 ρ β s ((s3.add (ent true (.mo sh (s.heap.length + 1) (xb .add n (.lit 1))))).add ⟨ow', .rw sh mx (xb .add n (.lit 1)), .bl true⟩) β' W' w' ∧ (matV s.heap.length (xb .add n (.lit 1))).rel ρ β' u := by
  have hval : ∀ i : Nat, i < N + 1 → w'.cell? ⟨r, i, none⟩ = some (.slice (b2.v.rows i) (b2.v.lens i).toNat (b2.v.caps i)) := fun i hi => by
    rw [hbv]
    by_cases hiN : i = N
    · subst hiN
      have := (hout.val i _ (by rw [List.getElem?_append_right (by rw [matCells_len]; exact Nat.le_refl _), matCells_len, Nat.sub_self]; rfl)).1
      simpa [setBV] using this
    · have hne : ¬ ((i : Int) = (N : Int)) := by omega
      have := (hout.val i _ (by rw [List.getElem?_append_left (by rw [matCells_len]; omega)]; exact matCells_get (by omega))).1
      simp only [setBV, if_neg hne]
      exact this
  have hb2 : upd (upd β3 s3.heap.length ⟨⟨some ⟨r, 0, none⟩, cc, 1, fun _ => none, fun _ => 0, fun _ => 0⟩, (· = r)⟩) (s3.heap.length + 1) b2 (s3.heap.length + 1) = some b2 := upd_same ..
  obtain ⟨m5, hx5⟩ := m4.add2 (bo := ⟨⟨some ⟨r, 0, none⟩, cc, 1, fun _ => none, fun _ => 0, fun _ => 0⟩, (· = r)⟩) (b2 := b2) (sh := sh) (nX := xb .add n (.lit 1)) (m := mx) (ow := ow') (fun r' h => by
      rcases h with h | h
      · have h : r' = r := h
        rw [h]; exact hWr
      · exact hbW r' h) (fun j c r' hc ho h => by
      rcases h with h | h
      · have h : r' = r := h
        rw [h] at ho; exact hno j c hc ho
      · exact own3 j c r' hc ho (hbo2 r' h)) (fun r' h h2 => by
        have h : r' = r := h
        rw [h] at h2; exact hnb h2) hR
      (eok_mo hb2 rfl rfl rfl rfl hr hsum hle hout.there hval)
  rw [hlen3] at m5 hx5
  have hbo : upd (upd β3 s.heap.length ⟨⟨some ⟨r, 0, none⟩, cc, 1, fun _ => none, fun _ => 0, fun _ => 0⟩, (· = r)⟩) (s.heap.length + 1) b2 s.heap.length = some ⟨⟨some ⟨r, 0, none⟩, cc, 1, fun _ => none, fun _ => 0, fun _ => 0⟩, (· = r)⟩ := by rw [upd_other _ _ (by omega), upd_same]
  refine ⟨_, w', _, W2, hrun, ⟨m5, hx13.trans hx5, ht, hks, hlv, ?_⟩, matV_slc hbo rfl rfl hsum hle hmax⟩
  simp only [S.add_eq, List.length_append]
  rw [hlen3]; omega
/-- a row more -/
theorem append_row (hC : C.Ok P) {s : S} {t e ty : TypeId} {sz by_ : Nat} {z : List Sc} {el : TypeId} {pl : Bool} {d : TD} (hty : C.ty t = some ⟨.slice e, sz, by_, z, el, pl⟩) (hd : C.ty e = some d) {sh : List FK} (hsh : 0 < sh.length) (hd1 : d.size = 1) {x y v : Sc} (hy : seqC s 1 y = some [v])
    {m n : X} {ks : Option (Nat × Nat)} {ow ow' : Bool} (hx : baseM s sh x = some (m, n, ks, ow)) {a len : X} {used : Option Nat} {nd : List X} (hv : s.rowVal sh ow v = some (a, len, used, nd, ow')) (mm : Mem C B w0 ρ β W s w)
    (hnd : ∀ y ∈ nd ++ [xb .le (xb .mul (xb .add n (.lit 1)) (.lit d.bytes)) (.lit (2 ^ 47)), xb .le (xb .add n (.lit 1)) (.lit (2 ^ 47))], y.B ρ = true) {xv yv : Value} (hxv : x.rel ρ β xv) (hyv : y.rel ρ β yv) :
    ∃ u w' β' W', (Builtin.append_ #[t, t] ty #[xv, yv]).run P w = .ok u w' ∧
      LeftM C B w0 ρ β s ((((s.spend used).spend2 ks).add (ent true (.mo sh (s.heap.length + 1) (xb .add n (.lit 1))))).add ⟨ow', .rw sh (.setrow m n a len) (xb .add n (.lit 1)), .bl true⟩) β' W' w' ∧ (matV s.heap.length (xb .add n (.lit 1))).rel ρ β' u := by
  have hf := mm.facts
  have hh : ∀ k e b, s.heap[k]? = some e → β k = some b → EOk ρ β W w b e := fun k e b hk hb => mm.heap k e b hk hb
  have hu := (hC.ty _ _ hty).slice rfl
  obtain ⟨i, u0, zv, hi, _, hisz, hiby, hzl, _, hz, hzc, _, _, _⟩ := (hC.ty _ _ hd).facts
  have hzs : zv.cells.size = i.size := by
    have := (litsB_rel (ρ := ρ) (β := β) hzc).length
    rw [hzl] at this
    rw [hisz, this]; simp
  have hi1 : i.size = 1 := by rw [hisz, hd1]
  -- the row
  obtain ⟨p', c', us, hye, _, hus, hcell⟩ := seqC_sound hf hh hy (by omega) (by simp) hyv
  have hye : yv = .slice (some p') 1 c' := by rw [hye, Nat.div_one]; rfl
  subst hye
  obtain ⟨u, hu0, hru⟩ := hus.get 0 v rfl
  obtain ⟨⟨q, cap, rfl, hV⟩, hoo, hue⟩ := rowVal_sound mm hsh hv (fun y hy => hnd y (by simp [hy])) hru
  have hcell0 : w.cell? p' = some (.slice q (len.I ρ).toNat cap) := by have := hcell 0 _ hu0; simpa [Addr.add] using this
  -- what is appended to
  obtain ⟨qx, N, cx, br, rfl, hnI, hB, hke⟩ := baseM_sound mm hx hxv
  have hsum : (xb .add n (.lit 1)).I ρ = ((N + 1 : Nat) : Int) := by rw [xadd, hnI, lit_I]; simp
  have need1 := hnd (xb .le (xb .mul (xb .add n (.lit 1)) (.lit d.bytes)) (.lit (2 ^ 47))) (by simp)
  have need2 := hnd (xb .le (xb .add n (.lit 1)) (.lit (2 ^ 47))) (by simp)
  rw [xle, lit_I] at need1 need2
  rw [xmul, hsum, lit_I] at need1
  rw [hsum] at need2
  have h63 : N + 1 ≤ 2 ^ 47 := by
    have : ((N + 1 : Nat) : Int) ≤ 2 ^ 47 := by simpa using need2
    omega
  have hbytes : (N + 1) * i.bytes ≤ 2 ^ 47 := by
    rw [hiby]
    have : ((N + 1 : Nat) : Int) * d.bytes ≤ 2 ^ 47 := by simpa using need1
    exact_mod_cast this
  -- the entries differ
  have hnotu : ∀ k e, s.heap[k]? = some e → (∀ sh' x y l, e.body ≠ .arr sh' x y ∧ e.body ≠ .cells l) → used ≠ some k := fun k e he hb h => by
    obtain ⟨e', he', sh2, x2, y2, l2, hb'⟩ := hue k h
    rw [he] at he'
    obtain rfl := Option.some.inj he'
    rcases hb' with hb' | hb'
    · exact (hb sh2 x2 y2 []).1 hb'
    · exact (hb [] .zeros .zeros l2).2 hb'
  have hukr : ∀ k kr, ks = some (k, kr) → used ≠ some k ∧ used ≠ some kr := fun k kr h => by
    obtain ⟨⟨e1, h1, a1, b1, c1, g1⟩, ⟨e2, h2, a2, b2, c2, g2⟩⟩ := hke k kr h
    exact ⟨hnotu k e1 h1 (fun _ _ _ _ => ⟨by rw [g1]; simp, by rw [g1]; simp⟩), hnotu kr e2 h2 (fun _ _ _ _ => ⟨by rw [g2]; simp, by rw [g2]; simp⟩)⟩
  have husb : ∀ j, used = some j → ∃ b, β j = some b := fun j hj => by
    obtain ⟨e, he, _⟩ := hue j hj
    exact mm.all j (List.getElem?_eq_some_iff.1 he).1
  obtain ⟨β1, m1, hx1, hs1, hb1⟩ := mm.spend used husb
  obtain ⟨β3, m3, hx3, own3'⟩ := m1.spend2 ks (fun k kr h => by
    obtain ⟨c1, ⟨bk, c2⟩, c3⟩ := hB.ents k kr h
    obtain ⟨d1, d2⟩ := hukr k kr h
    exact ⟨c1, ⟨bk, by rw [hs1 k d1]; exact c2⟩, ⟨br, by rw [hs1 kr d2]; exact c3⟩⟩)
  have own3 : ∀ j c r, β3 j = some c → c.own r → (∀ k kr, ks = some (k, kr) → j ≠ k ∧ j ≠ kr) ∧ used ≠ some j ∧ β j = some c := fun j c r hc o => by
    obtain ⟨c1, c2⟩ := own3' j c r hc o
    obtain ⟨c3, c4⟩ := hb1 j c r c2 o
    exact ⟨c1, c3, c4⟩
  have hx13 : Ext β β3 := hx1.trans hx3
  have hlen3 : ((s.spend used).spend2 ks).heap.length = s.heap.length := by rw [spend2_len, spend_heap_len]
  have hbrn : ∀ r, br.own r → ∃ k kr, ks = some (k, kr) ∧ β kr = some br := fun r hr => by
    cases hk : ks with
    | none => rw [hB.none hk] at hr; exact hr.elim
    | some x => exact ⟨x.1, x.2, rfl, (hB.ents x.1 x.2 hk).2.2⟩
  have hbrW : ∀ r, br.own r → W r := fun r hr => by
    obtain ⟨k, kr, _, hb⟩ := hbrn r hr
    exact mm.own kr br r hb hr
  have hdu : ∀ r, usedOwn β used r → ¬ br.own r := fun r hr ho => by
    obtain ⟨k', bi, hu, hb, ho'⟩ := hr
    obtain ⟨k, kr, hks, hbr⟩ := hbrn r ho
    exact (hukr k kr hks).2 (by rw [hu]; exact congrArg some (mm.dist k' kr bi br r hb hbr ho' ho))
  have hml : ∀ j, ((X.setrow m n a len).den ρ).mlen j = if j = (N : Int) then len.I ρ else (m.den ρ).mlen j := fun j => by rw [← hnI]; rfl
  have hmf : ∀ j, ((X.setrow m n a len).den ρ).mfn j = if j = (N : Int) then (a.den ρ).fn else (m.den ρ).mfn j := fun j => by rw [← hnI]; rfl
  have hin : ∀ j : Int, 0 ≤ j → j < ((N + 1 : Nat) : Int) → j ≠ (N : Int) → j < (N : Int) ∧ True := fun j j0 j1 hj => ⟨by omega, trivial⟩
  have own3q : ∀ j c r, β3 j = some c → c.own r → ¬ (br.own r ∨ usedOwn β used r) := fun j c r hc ho h => by
    obtain ⟨c1, c2, c3⟩ := own3 j c r hc ho
    rcases h with h | ⟨k', bi, hu, hb, ho'⟩
    · obtain ⟨k, kr, hks, hbr⟩ := hbrn r h
      exact (c1 k kr hks).2 (mm.dist j kr c br r c3 hbr ho h)
    · exact c2 (by rw [hu]; exact congrArg some (mm.dist j k' c bi r c3 hb ho ho').symm)
  have ht3 : ((s.spend used).spend2 ks).tmps = s.tmps := by cases used <;> cases ks <;> rfl
  have hk3 : ((s.spend used).spend2 ks).ks = s.ks := by cases used <;> cases ks <;> rfl
  have hl3 : ((s.spend used).spend2 ks).lvl = s.lvl := by cases used <;> cases ks <;> rfl
  have h1c : ∀ v ∈ [Value.slice q (len.I ρ).toNat cap], v.oneCell' = true := fun v hv => by simp at hv; subst hv; rfl
  have hnews : ∀ p, some p' = some p → ∀ j v, [Value.slice q (len.I ρ).toNat cap][j]? = some v → w.cell? (p.add j) = some v := fun p hp j v hv => by
    obtain rfl := Option.some.inj hp
    match j, hv with
    | 0, hv => simp at hv; subst hv; rw [show p'.add 0 = p' by simp [Addr.add]]; exact hcell0
    | j + 1, hv => simp at hv
  -- rows in w, for each case
  by_cases hgr : cx < N + 1
  · -- a new block
    obtain ⟨cc, zs, g1, g2, g3, g4⟩ := append_grow (P := P) (w := w) (t := t) (ty := ty) (c := c') (olds := matCells br.v N) (news := [.slice q (len.I ρ).toNat cap]) (m := 1) hu hi hz hzs hB.hnil hB.le (by rw [matCells_len, hi1, Nat.mul_one]) (fun p hp j v hv => by
      rcases hB.out with h0 | ⟨k, kr, bk, r, _, _, _, _, hqr, _, hr⟩
      · have hN0 : N = 0 := by have := hB.le; omega
        subst hN0
        simp [matCells] at hv
      · obtain rfl := Option.some.inj (hp.symm.trans hqr)
        have hj : j < N := by have := (List.getElem?_eq_some_iff.1 hv).1; rwa [matCells_len] at this
        rw [matCells_get hj] at hv
        obtain rfl := Option.some.inj hv
        rw [add0]; exact hr j hj) (fun h => by cases h) (by rw [hi1]; rfl) hnews hgr h63 hbytes
    rw [hi1] at g3
    have hout := appOut_grow (w := w) (e := e) (sz := 1) (olds := matCells br.v N) (news := [.slice q (len.I ρ).toNat cap]) g1 (by rw [matCells_len, Nat.mul_one]) rfl g3
    have hbel : Below w.heap.size w (w.drew.alloc (.cells (matCells br.v N ++ [Value.slice q (len.I ρ).toNat cap] ++ zs).toArray e)) := (Below.refl _ _).drew.alloc (Nat.le_refl _) _
    have hsz : (w.drew.alloc (.cells (matCells br.v N ++ [Value.slice q (len.I ρ).toNat cap] ++ zs).toArray e)).heap.size = w.heap.size + 1 := by simp
    generalize w.drew.alloc (.cells (matCells br.v N ++ [Value.slice q (len.I ρ).toNat cap] ++ zs).toArray e) = wn at g4 hout hbel hsz
    have hnone : ∀ r, br.own r ∨ usedOwn β used r → r ≠ w.heap.size := fun r hr he => by
      have : W r := by
        rcases hr with hr | ⟨k', bi, _, hb, ho'⟩
        · exact hbrW r hr
        · exact mm.own k' bi r hb ho'
      have := (mm.wlo r this).2
      omega
    have hno3 : ∀ j c, β3 j = some c → ¬ c.own w.heap.size := fun j c hc ho => by
      obtain ⟨_, _, c3⟩ := own3 j c _ hc ho
      have := (mm.wlo _ (mm.own j c _ c3 ho)).2
      omega
    cases ow' with
    | true =>
      have how := hoo rfl
      subst how
      have hR := hB.rows.setOwn hV (fun j c r hc ho => mm.own j c r hc ho) hml hmf hin hdu (b := ⟨setBV br.v N q cap (len.I ρ), fun r => br.own r ∨ usedOwn β used r⟩) rfl (fun r => Iff.rfl)
      refine append_row_fin (br := br) (used := used) (q := q) (cap := cap) (ln := len.I ρ) hsum hlen3 ht3 hk3 hl3 hx13 own3q (W2 := fun r => W r ∨ r = w.heap.size) (b2 := ⟨setBV br.v N q cap (len.I ρ), fun r => br.own r ∨ usedOwn β used r⟩) g4 (m3.newW hbel hsz) rfl g1 g2 (by rw [hsz]; omega) (.inr rfl) (fun r hr => ?_) (fun r hr => hr) hno3 (fun h => hnone _ h rfl) ?_ hout
      · rcases hr with hr | ⟨k', bi, _, hb, ho'⟩
        · exact .inl (hbrW r hr)
        · exact .inl (mm.own k' bi r hb ho')
      · rw [hsum]
        exact hR.below hbel (fun r hr => by rcases hr with hr | hr; exact .inl hr; exact .inr (by omega))
    | false =>
      have m3' := m3.shrink br.own (fun j c r hc ho h2 => by
        obtain ⟨c1, _, c3⟩ := own3 j c r hc ho
        obtain ⟨k, kr, hks, hbr⟩ := hbrn r h2
        exact (c1 k kr hks).2 (mm.dist j kr c br r c3 hbr ho h2))
      have hR := hB.rows.setIce (W' := fun r => W r ∧ ¬ br.own r) hV (fun r hr => hr.1) (fun r hr hw => hw.2 hr) hml hmf hin (b := ⟨setBV br.v N q cap (len.I ρ), noOwn⟩) rfl
      refine append_row_fin (br := br) (used := used) (q := q) (cap := cap) (ln := len.I ρ) hsum hlen3 ht3 hk3 hl3 hx13 own3q (W2 := fun r => (W r ∧ ¬ br.own r) ∨ r = w.heap.size) (b2 := ⟨setBV br.v N q cap (len.I ρ), noOwn⟩) g4 (m3'.newW hbel hsz) rfl g1 g2 (by rw [hsz]; omega) (.inr rfl) (fun r hr => hr.elim) (fun r hr => hr.elim) hno3 (fun h => h) ?_ hout
      rw [hsum]
      exact hR.below hbel (fun r hr => by rcases hr with hr | hr; exact .inl hr; exact .inr (by omega))
  · -- where there is room
    rcases hB.out with h0 | ⟨k, kr, bk, r, hks, hbk, hown, hrl, rfl, hex, hr⟩
    · omega
    · have hWr := mm.own k bk r hbk hown
      obtain ⟨hkk, _, hbr⟩ := hB.ents k kr hks
      have hroom : N + 1 ≤ cx := by omega
      have hrun := append_room (P := P) (w := w) (t := t) (ty := ty) (r := r) (n := N) (cap := cx) (m := 1) (c := c') (q' := some p') (news := [.slice q (len.I ρ).toNat cap]) hu hi (fun h => by cases h) (by rw [hi1]; rfl) hnews h1c hroom (fun j hj => hex j (by rw [hi1] at hj; omega))
      rw [hi1] at hrun
      have hout := appOut_room (w := w) (sz := 1) (olds := matCells br.v N) (news := [.slice q (len.I ρ).toNat cap]) (r := r) hroom (by rw [matCells_len, Nat.mul_one]) rfl (fun j hj => hex j (by omega)) (fun j v hv => by
        have hj : j < N := by have := (List.getElem?_eq_some_iff.1 hv).1; rwa [matCells_len] at this
        rw [matCells_get hj] at hv
        obtain rfl := Option.some.inj hv
        exact hr j hj)
      have hbut := but_setCells w r (N * 1) [Value.slice q (len.I ρ).toNat cap]
      have hno3 : ∀ j c, β3 j = some c → ¬ c.own r := fun j c hc ho => by
        obtain ⟨c1, _, c3⟩ := own3 j c _ hc ho
        exact (c1 k kr hks).1 (mm.dist j k c bk r c3 hbk ho hown)
      have hbrr : ¬ br.own r := fun h => hkk (mm.dist k kr bk br r hbk hbr hown h)
      have hur : ¬ usedOwn β used r := fun ⟨k', bi, hu, hb, ho'⟩ => (hukr k kr hks).1 (by rw [hu]; exact congrArg some (mm.dist k' k bi bk r hb hbk ho' hown))
      cases ow' with
      | true =>
        have how := hoo rfl
        subst how
        have hR := hB.rows.setOwn hV (fun j c r hc ho => mm.own j c r hc ho) hml hmf hin hdu (b := ⟨setBV br.v N q cap (len.I ρ), fun r => br.own r ∨ usedOwn β used r⟩) rfl (fun r => Iff.rfl)
        refine append_row_fin (br := br) (used := used) (q := q) (cap := cap) (ln := len.I ρ) hsum hlen3 ht3 hk3 hl3 hx13 own3q (W2 := W) (b2 := ⟨setBV br.v N q cap (len.I ρ), fun r => br.own r ∨ usedOwn β used r⟩) hrun (m3.but' hWr hno3 hbut (below_setCells w r (mm.wlo r hWr).1 _ _ w) (size_setCells _ _ _ _)) rfl hroom hB.hmax (by rw [size_setCells]; exact hrl) hWr (fun r' hr' => ?_) (fun r' hr' => hr') hno3 (fun h => by rcases h with h | h; exact hbrr h; exact hur h) ?_ hout
        · rcases hr' with hr' | ⟨k', bi, _, hb, ho'⟩
          · exact hbrW r' hr'
          · exact mm.own k' bi r' hb ho'
        · rw [hsum]
          exact hR.but hbut hWr (fun h => by rcases h with h | h; exact hbrr h; exact hur h)
      | false =>
        have m3' := m3.shrink br.own (fun j c r hc ho h2 => by
          obtain ⟨c1, _, c3⟩ := own3 j c r hc ho
          exact (c1 k kr hks).2 (mm.dist j kr c br r c3 hbr ho h2))
        have hR := hB.rows.setIce (W' := fun r => W r ∧ ¬ br.own r) hV (fun r hr => hr.1) (fun r hr hw => hw.2 hr) hml hmf hin (b := ⟨setBV br.v N q cap (len.I ρ), noOwn⟩) rfl
        refine append_row_fin (br := br) (used := used) (q := q) (cap := cap) (ln := len.I ρ) hsum hlen3 ht3 hk3 hl3 hx13 own3q (W2 := fun r => W r ∧ ¬ br.own r) (b2 := ⟨setBV br.v N q cap (len.I ρ), noOwn⟩) hrun (m3'.but' ⟨hWr, hbrr⟩ hno3 hbut (below_setCells w r (mm.wlo r hWr).1 _ _ w) (size_setCells _ _ _ _)) rfl hroom hB.hmax (by rw [size_setCells]; exact hrl) ⟨hWr, hbrr⟩ (fun r hr => hr.elim) (fun r hr => hr.elim) hno3 (fun h => h) ?_ hout
        rw [hsum]
        exact hR.but hbut ⟨hWr, hbrr⟩ (fun h => h)
end
end Go.Proofs.Ytpbpmabnmakdoaa.Vc
/- The symbolic executor: copies of lists of lists; append to a row; lists of lists made; the step. -/
namespace Go.Proofs.Ytpbpmabnmakdoaa.Vc
noncomputable section
open Go Go.RowKit
variable {ρ ρ' : List AV} {β β' : Mp} {W W' : Nat → Prop} {w w' : World} {P : Program} {C : Cfg} {B : Nat} {w0 : World}

/-- a copy of a list of lists that nobody writes -/
theorem append_clone (hC : C.Ok P) {s : S} {t e ty : TypeId} {sz by_ : Nat} {z : List Sc} {el : TypeId} {pl : Bool} {d : TD} (hty : C.ty t = some ⟨.slice e, sz, by_, z, el, pl⟩) (hd : C.ty e = some d) {sh : List FK} (hd1 : d.size = 1) {x : Sc} {ky : Nat} {n m : X} {cp : Option X} {ow : Bool} {gy : X}
    (hx : emptyBase x = true) (hk : s.body (.bl true) ky = some ⟨ow, .mat sh m n, gy⟩) (mm : Mem C B w0 ρ β W s w)
    (hnd : ∀ y ∈ [xb .le (xb .mul n (.lit d.bytes)) (.lit (2 ^ 47)), xb .le n (.lit (2 ^ 47))], y.B ρ = true) {xv yv : Value} (hxv : x.rel ρ β xv) (hyv : (Sc.c (.slc (.blk ky) 1 (.lit 0) n cp)).rel ρ β yv) :
    ∃ u w' β' W', (Builtin.append_ #[t, t] ty #[xv, yv]).run P w = .ok u w' ∧
      LeftM C B w0 ρ β s ((s.add (ent true (.mo sh (s.heap.length + 1) n))).add ⟨false, .rw sh m n, .bl true⟩) β' W' w' ∧ (matV s.heap.length n).rel ρ β' u := by
  have tt : (X.bl true).B ρ = true := rfl
  have hu := (hC.ty _ _ hty).slice rfl
  obtain ⟨i, u0, zv, hi, _, hisz, hiby, hzl, _, hz, hzc, _, _, _⟩ := (hC.ty _ _ hd).facts
  have hzs : zv.cells.size = i.size := by
    have := (litsB_rel (ρ := ρ) (β := β) hzc).length
    rw [hzl] at this
    rw [hisz, this]; simp
  have hi1 : i.size = 1 := by rw [hisz, hd1]
  obtain ⟨qx, rfl⟩ := emptyBase_sound hx hxv
  obtain ⟨hk, hg⟩ := body_sound mm.facts tt hk
  obtain ⟨p, c, q, r, hat, rfl, h3, h4, h5, h6, h7, h8, h9, _⟩ := hyv
  simp only [SB.at, Option.map_eq_some_iff] at hat
  obtain ⟨bk, hbk, he⟩ := hat
  obtain ⟨hp, hcap⟩ := Prod.mk.inj he
  obtain ⟨h0, h00, hE⟩ := mm.heap ky _ bk hk hbk hg
  have hrows : ∀ (b2 : BI), b2.v.rows = bk.v.rows → b2.v.caps = bk.v.caps → b2.v.lens = (m.den ρ).mlen → RowsOk w W false b2 sh (m.den ρ) (n.I ρ) fun _ => True := fun b2 e1 e2 e3 => by
    refine ⟨fun j j0 j1 _ => ?_, fun h => (by cases h)⟩
    rcases hE with hE | ⟨pa, hpa, hpl, hr⟩
    · omega
    · obtain ⟨a1, a2, a3, a4, a5, a6⟩ := hr j j0 j1
      refine ⟨a1, by rw [e3], by rw [e2]; exact a2, by rw [e2]; exact a3, by rw [e1, e2]; exact a4, ?_⟩
      rw [e1, e2]
      rcases a6 with a6 | ⟨q', b1, b2', b3, b4⟩
      · exact .inr (.inl ⟨rfl, a6⟩)
      · exact .inr (.inr ⟨q', b1, b2', fun h => (by cases h), fun _ => b3, fun j' g k j0 j1 hk => ⟨b4 j' g k j0 j1 hk, fun h => (by cases h)⟩⟩)
  have hNI : ((n.I ρ).toNat : Int) = n.I ρ := Int.toNat_of_nonneg h0
  have hlen : s.heap.length ≤ ((s.add (ent true (.mo sh (s.heap.length + 1) n))).add ⟨false, .rw sh m n, .bl true⟩).heap.length := by simp [S.add_eq]
  by_cases hn0 : n.I ρ = 0
  · -- of nothing
    have hrun := append_nothing (P := P) (w := w) (ty := ty) (c := r) (q := qx) (q' := q) hu hi
    rw [show (n.I ρ).toNat = 0 by omega]
    obtain ⟨m5, hx5⟩ := mm.add2 (bo := ⟨⟨qx, 0, 1, fun _ => none, fun _ => 0, fun _ => 0⟩, noOwn⟩) (b2 := ⟨⟨none, 0, 0, bk.v.rows, bk.v.caps, (m.den ρ).mlen⟩, noOwn⟩) (sh := sh) (nX := n) (m := m) (ow := false)
      (fun r h => (by rcases h with h | h <;> exact h.elim)) (fun j c r _ _ h => (by rcases h with h | h <;> exact h.elim)) (fun r h => h.elim) (hrows _ rfl rfl rfl)
      (fun _ => ⟨h0, fun _ => rfl, rfl, .inl ⟨hn0, rfl, rfl⟩⟩)
    refine ⟨_, w, _, W, hrun, ⟨m5, hx5, rfl, rfl, rfl, hlen⟩, ?_⟩
    refine ⟨qx, 0, qx, 0, ?_, by rw [hn0]; rfl, by rw [lit_I]; exact Int.le_refl _, h0, by rw [hn0]; simp, Nat.zero_le _, fun _ => rfl, .inl rfl, by rw [lit_I]; simp, by simp, by rw [lit_I]; simp⟩
    simp only [SB.at]
    rw [upd_other _ _ (by omega), upd_same]; rfl
  · -- a new block
    have need1 := hnd (xb .le (xb .mul n (.lit d.bytes)) (.lit (2 ^ 47))) (by simp)
    have need2 := hnd (xb .le n (.lit (2 ^ 47))) (by simp)
    rw [xle, lit_I] at need1 need2
    rw [xmul, lit_I] at need1
    have h63 : 0 + (n.I ρ).toNat ≤ 2 ^ 47 := by
      have : n.I ρ ≤ 2 ^ 47 := by simpa using need2
      omega
    have hbytes : (0 + (n.I ρ).toNat) * i.bytes ≤ 2 ^ 47 := by
      rw [hiby, Nat.zero_add]
      have : n.I ρ * d.bytes ≤ 2 ^ 47 := by simpa using need1
      rw [← hNI] at this
      exact_mod_cast this
    rcases hE with hE | ⟨pa, hpa, hpl, hr⟩
    · exact absurd hE hn0
    have hqp : q = some pa := by
      rcases h8 with h8 | h8
      · omega
      · rw [h8, ← hp, hpa, lit_I]; simp [Addr.add]
    obtain ⟨vB, hvB⟩ : ∃ vB : BV, vB = ⟨none, 0, 0, bk.v.rows, bk.v.caps, (m.den ρ).mlen⟩ := ⟨_, rfl⟩
    have hnews : ∀ p, q = some p → ∀ (j : Nat) v, (matCells vB (n.I ρ).toNat)[j]? = some v → w.cell? (p.add j) = some v := fun p hp j v hv => by
      rw [hqp] at hp
      obtain rfl := Option.some.inj hp
      have hj : j < (n.I ρ).toNat := by have := (List.getElem?_eq_some_iff.1 hv).1; rwa [matCells_len] at this
      rw [matCells_get hj] at hv
      obtain rfl := Option.some.inj hv
      obtain ⟨_, _, _, _, a5, _⟩ := hr j (by omega) (by omega)
      rw [hvB]
      simpa using a5
    obtain ⟨cc, zs, g1, g2, g3, g4⟩ := append_grow (P := P) (w := w) (t := t) (ty := ty) (q := qx) (n := 0) (cap := 0) (m := (n.I ρ).toNat) (c := r) (q' := q) (olds := []) (news := matCells vB (n.I ρ).toNat) hu hi hz hzs (fun _ => rfl) (Nat.le_refl _) (by simp) (fun p _ j v hv => by simp at hv) (fun h => by rw [hqp] at h; cases h) (by rw [matCells_len, hi1, Nat.mul_one]) hnews (by omega) h63 hbytes
    rw [Nat.zero_add] at g1 g3 g4
    rw [hi1] at g3
    have hout := appOut_grow (w := w) (e := e) (sz := 1) (n := 0) (m := (n.I ρ).toNat) (olds := []) (news := matCells vB (n.I ρ).toNat) (by rw [Nat.zero_add]; exact g1) (by simp) (by rw [matCells_len, Nat.mul_one]) (by rw [Nat.zero_add]; exact g3)
    have hbel : Below w.heap.size w (w.drew.alloc (.cells ([] ++ matCells vB (n.I ρ).toNat ++ zs).toArray e)) := (Below.refl _ _).drew.alloc (Nat.le_refl _) _
    have hsz : (w.drew.alloc (.cells ([] ++ matCells vB (n.I ρ).toNat ++ zs).toArray e)).heap.size = w.heap.size + 1 := by simp
    generalize w.drew.alloc (.cells ([] ++ matCells vB (n.I ρ).toNat ++ zs).toArray e) = wn at g4 hout hbel hsz
    have m4 := mm.newW hbel hsz
    have hno : ∀ j c, β j = some c → ¬ c.own w.heap.size := fun j c hc ho => by have := (mm.wlo _ (mm.own j c _ hc ho)).2; omega
    have hb2 : upd (upd β s.heap.length ⟨⟨some ⟨w.heap.size, 0, none⟩, cc, 1, fun _ => none, fun _ => 0, fun _ => 0⟩, (· = w.heap.size)⟩) (s.heap.length + 1) ⟨vB, noOwn⟩ (s.heap.length + 1) = some ⟨vB, noOwn⟩ := upd_same ..
    have hbo : upd (upd β s.heap.length ⟨⟨some ⟨w.heap.size, 0, none⟩, cc, 1, fun _ => none, fun _ => 0, fun _ => 0⟩, (· = w.heap.size)⟩) (s.heap.length + 1) ⟨vB, noOwn⟩ s.heap.length = some ⟨⟨some ⟨w.heap.size, 0, none⟩, cc, 1, fun _ => none, fun _ => 0, fun _ => 0⟩, (· = w.heap.size)⟩ := by rw [upd_other _ _ (by omega), upd_same]
    obtain ⟨m5, hx5⟩ := m4.add2 (bo := ⟨⟨some ⟨w.heap.size, 0, none⟩, cc, 1, fun _ => none, fun _ => 0, fun _ => 0⟩, (· = w.heap.size)⟩) (b2 := ⟨vB, noOwn⟩) (sh := sh) (nX := n) (m := m) (ow := false)
      (fun r h => by
        rcases h with h | h
        · exact .inr h
        · exact h.elim) (fun j c r hc ho h => by
        rcases h with h | h
        · have h : r = w.heap.size := h
          rw [h] at ho; exact hno j c hc ho
        · exact h.elim) (fun r _ h => h) ((hrows ⟨vB, noOwn⟩ (by rw [hvB]) (by rw [hvB]) (by rw [hvB])).below hbel (fun r hr => by rcases hr with hr | hr; exact .inl hr; exact .inr (by omega)))
      (eok_mo hb2 rfl rfl rfl rfl (by rw [hsz]; omega) hNI.symm g1 hout.there (fun j hj => (hout.val j _ (by rw [List.nil_append]; exact matCells_get hj)).1))
    exact ⟨_, wn, _, _, g4, ⟨m5, hx5, rfl, rfl, rfl, hlen⟩, matV_slc hbo rfl rfl hNI.symm g1 g2⟩
/-- rows without one of them -/
theorem RowsOk.hole {br b : BI} {sh : List FK} {m : AV} {n i : Int} {R : Option Nat} (h : RowsOk w W true br sh m n fun _ => True) (hv : b.v = br.v) (ho : ∀ r, b.own r ↔ br.own r ∧ R ≠ some r) (i0 : 0 ≤ i) (i1 : i < n) (hR : ∀ r, R = some r → br.v.caps i ≠ 0 ∧ br.v.rows i = some ⟨r, 0, none⟩) : RowsOk w W true b sh m n fun j => j ≠ i := by
  refine ⟨fun j j0 j1 hj => ?_, fun _ j j' a1 a2 a3 b1 b2 b3 => by rw [hv]; exact h.2 rfl j j' a1 a2 trivial b1 b2 trivial⟩
  have hrow := h.1 j j0 j1 trivial
  by_cases hc : br.v.caps j = 0
  · obtain ⟨a0, a1, a2, a3, a4, _⟩ := hrow
    refine ⟨a0, by rw [hv]; exact a1, by rw [hv]; exact a2, by rw [hv]; exact a3, by rw [hv]; exact a4, .inl (by rw [hv]; exact hc)⟩
  · refine hrow.re (by rw [hv]) (by rw [hv]) (by rw [hv]) (fun _ q hq hqo => (ho _).2 ⟨hqo, fun hRr => ?_⟩)
    obtain ⟨c1, c2⟩ := hR _ hRr
    obtain ⟨_, _, _, _, _, a5⟩ := hrow
    rcases a5 with a5 | a5 | ⟨q', d1, _, d3, _⟩
    · exact hc a5
    · cases a5.1
    · obtain rfl := Option.some.inj (hq.symm.trans d1)
      exact h.2 rfl j i j0 j1 trivial i0 i1 trivial hj hc c1 (by rw [d1, c2, (d3 rfl).1])
/-- how the append to a row ends -/
theorem append_hole_fin {s : S} {t ty : TypeId} {sh : List FK} {kr : Nat} {m n i aX nX : X} {br : BI} {yv : Value} {qx : Option Addr} {N cx : Nat} (mm : Mem C B w0 ρ β W s w) (hbr : β kr = some br) (hrows : RowsOk w W true br sh (m.den ρ) (n.I ρ) fun _ => True)
    (i0 : 0 ≤ i.I ρ) (i1 : i.I ρ < n.I ρ) {u : Value} {w' : World} {W2 : Nat → Prop} {bo : BI} {R : Option Nat} (hrun : (Builtin.append_ #[t, t] ty #[.slice qx N cx, yv]).run P w = .ok u w') (m4 : Mem C B w0 ρ (upd β kr ⟨br.v, noOwn⟩) W2 (s.setBody kr .gone) w')
    (hboW : ∀ r, bo.own r → W2 r) (hbo : ∀ r, bo.own r → R = some r ∨ w.heap.size ≤ r) (hR : ∀ r, R = some r → br.own r ∧ br.v.caps (i.I ρ) ≠ 0 ∧ br.v.rows (i.I ρ) = some ⟨r, 0, none⟩) (hbW : ∀ r, br.own r → W2 r)
    (hE : ∀ β, EOk ρ β W2 w' bo (ent true (.arr sh aX nX))) (hR2 : ∀ b : BI, b.v = br.v → (∀ r, b.own r ↔ br.own r ∧ R ≠ some r) → RowsOk w W true b sh (m.den ρ) (n.I ρ) (fun j => j ≠ i.I ρ) → RowsOk w' W2 true b sh (m.den ρ) (n.I ρ) fun j => j ≠ i.I ρ)
    {v : Sc} (hv : ∀ β', β' s.heap.length = some bo → v.rel ρ β' u) :
    ∃ u w' β' W', (Builtin.append_ #[t, t] ty #[.slice qx N cx, yv]).run P w = .ok u w' ∧
      LeftM C B w0 ρ β s ((s.setBody kr (.rh sh m n i)).add (ent true (.arr sh aX nX))) β' W' w' ∧ v.rel ρ β' u := by
  have hkl := mm.lt hbr
  have hsl : (s.setBody kr .gone).heap.length = s.heap.length := setBody_len _ _ _
  have hno : ∀ j c r, upd β kr ⟨br.v, noOwn⟩ j = some c → c.own r → ¬ bo.own r ∧ ¬ br.own r := fun j c r hc ho => by
    obtain ⟨c1, c2⟩ := own_back hc ho
    have hbrr : ¬ br.own r := fun h => c1 (mm.dist j kr c br r c2 hbr ho h)
    refine ⟨fun h => ?_, hbrr⟩
    rcases hbo r h with h | h
    · exact hbrr (hR r h).1
    · have := (mm.wlo r (mm.own j c r c2 ho)).2; omega
  have m5 := m4.addE (b := bo) (e := ent true (.arr sh aX nX)) hboW (fun j c r hc ho => (hno j c r hc ho).1) (hE _)
  rw [hsl] at m5
  have hkr5 : upd (upd β kr ⟨br.v, noOwn⟩) s.heap.length bo kr = some ⟨br.v, noOwn⟩ := by rw [upd_other _ _ (by omega), upd_same]
  have hb' : ∀ r, (⟨br.v, fun r => br.own r ∧ R ≠ some r⟩ : BI).own r ↔ br.own r ∧ R ≠ some r := fun r => Iff.rfl
  have m6 := m5.own' (b := ⟨br.v, fun r => br.own r ∧ R ≠ some r⟩) (bd := .rh sh m n i) hkr5 rfl (fun r h => hbW r h.1) (fun j c r hj hc ho h => by
    by_cases hjl : j = s.heap.length
    · rw [hjl, upd_same] at hc
      obtain rfl := Option.some.inj hc
      rcases hbo r ho with h' | h'
      · exact h.2 h'
      · have := (mm.wlo r (mm.own kr br r hbr h.1)).2; omega
    · rw [upd_other _ _ hjl] at hc
      exact (hno j c r hc ho).2 h.1) (fun _ => hR2 _ rfl hb' (hrows.hole rfl hb' i0 i1 fun r hr => (hR r hr).2))
  rw [setBody_add _ (by rw [hsl]; exact hkl), setBody_twice] at m6
  have hn : upd β kr ⟨br.v, noOwn⟩ s.heap.length = none := m4.top _ (by rw [hsl]; exact Nat.le_refl _)
  refine ⟨u, w', _, W2, hrun, ⟨m6, ((ext_put (b := ⟨br.v, noOwn⟩) hbr rfl).trans (ext_upd bo hn)).trans (ext_put (b := ⟨br.v, fun r => br.own r ∧ R ≠ some r⟩) hkr5 rfl), rfl, rfl, rfl, ?_⟩, hv _ (by rw [upd_other _ _ (by omega), upd_same])⟩
  show _ ≤ (S.add _ _).heap.length
  simp only [S.add_eq, List.length_append, setBody_len]
  omega
theorem append_hole (hC : C.Ok P) {s : S} {t e ty : TypeId} {sz by_ : Nat} {z : List Sc} {el : TypeId} {pl : Bool} {d : TD} (hty : C.ty t = some ⟨.slice e, sz, by_, z, el, pl⟩) (hd : C.ty e = some d) {sh : List FK} (hshO : shOf C t = some sh) (hsh : 0 < sh.length) {kr : Nat} {i m n len bX cX : X} {nd : List X} {y : Sc} {g : X}
    (hk : s.body (.bl true) kr = some ⟨true, .rw sh m n, g⟩) (hy : s.seqOf sh y = some (bX, cX, nd)) (hlen : len = mkLen m i) (mm : Mem C B w0 ρ β W s w)
    (hnd : ∀ y ∈ nd ++ [xb .le (.lit 0) i, xb .lt i n, xb .le (.lit 0) cX, xb .le (xb .mul (xb .add len cX) (.lit d.bytes)) (.lit (2 ^ 47)), xb .le (xb .add len cX) (.lit (2 ^ 47))], y.B ρ = true) {xv yv : Value}
    (hxv : (Sc.c (.slc (.row kr i) sh.length (.lit 0) len none)).rel ρ β xv) (hyv : y.rel ρ β yv) :
    ∃ u w' β' W', (Builtin.append_ #[t, t] ty #[xv, yv]).run P w = .ok u w' ∧
      LeftM C B w0 ρ β s ((s.setBody kr (.rh sh m n i)).add (ent true (.arr sh (appX (mkRow m i) len bX) (xb .add len cX)))) β' W' w' ∧ (Sc.c (.slc (.blk s.heap.length) sh.length (.lit 0) (xb .add len cX) none)).rel ρ β' u := by
  have tt : (X.bl true).B ρ = true := rfl
  have hf := mm.facts
  have hh : ∀ k e b, s.heap[k]? = some e → β k = some b → EOk ρ β W w b e := fun k e b hk hb => mm.heap k e b hk hb
  have hu := (hC.ty _ _ hty).slice rfl
  obtain ⟨ti, u0, zv, hi, _, hisz, hiby, hzl, _, hz, hzc, _, _, _⟩ := (hC.ty _ _ hd).facts
  have hshl : sh.length = d.size := by
    unfold shOf at hshO
    rw [hty] at hshO
    simp only [hd] at hshO
    rw [mapOpt_len hshO, hzl]
  have hzs : zv.cells.size = ti.size := by
    have := (litsB_rel (ρ := ρ) (β := β) hzc).length
    rw [hzl] at this
    rw [hisz, this]; simp
  have hsi : sh.length = ti.size := by rw [hshl, hisz]
  obtain ⟨hk, hg⟩ := body_sound hf tt hk
  have n1 := le_of (hnd (xb .le (.lit 0) i) (by simp))
  have n2 := lt_of (hnd (xb .lt i n) (by simp))
  rw [lit_I] at n1
  -- the row
  obtain ⟨p, c, qx, r, hat, rfl, h3, h4, h5, h6, h7, h8, h9, _, h10⟩ := hxv
  simp only [SB.at, Option.map_eq_some_iff] at hat
  obtain ⟨br, hbr, he⟩ := hat
  obtain ⟨hp, hcap⟩ := Prod.mk.inj he
  have hrc : r = br.v.caps (i.I ρ) := by have := h10 rfl; rw [lit_I] at this; simp at this; omega
  have hrows := mm.heap kr _ br hk hbr hg
  have hrow := hrows.1 (i.I ρ) n1 n2 trivial
  have hlI : len.I ρ = (m.den ρ).mlen (i.I ρ) := by rw [hlen, mkLen_I]
  have hfI : ((mkRow m i).den ρ).fn = (m.den ρ).mfn (i.I ρ) := mkRow_fn m i
  -- the other list
  obtain ⟨_, hrd⟩ := argOf_sound hf tt hh (seqOf_argOf hy) (fun x hx => hnd x (by simp [hx])) hyv
  obtain ⟨q', m', c', gf, rfl, hmc, hcm', hqn', hl, hval⟩ := hrd
  simp only [Sh0.ks, List.map_cons, List.map_nil, fixL, VK.fix, List.cons.injEq, AV.a.injEq, AV.i.injEq, and_true] at hl
  obtain ⟨hgf, hm'⟩ := hl
  have hmI : cX.I ρ = (m' : Int) := hm'
  have hnI : ((len.I ρ).toNat : Int) = len.I ρ := Int.toNat_of_nonneg h4
  generalize hNN : (len.I ρ).toNat = N at *
  have need1 := hnd (xb .le (xb .mul (xb .add len cX) (.lit d.bytes)) (.lit (2 ^ 47))) (by simp)
  have need2 := hnd (xb .le (xb .add len cX) (.lit (2 ^ 47))) (by simp)
  have hsum : (xb .add len cX).I ρ = (N : Int) + m' := by rw [xadd, hmI, hnI]
  rw [xle, lit_I] at need1 need2
  rw [xmul, hsum, lit_I] at need1
  rw [hsum] at need2
  have h63 : N + m' ≤ 2 ^ 47 := by
    have : (N : Int) + m' ≤ 2 ^ 47 := by simpa using need2
    omega
  have hbytes : (N + m') * ti.bytes ≤ 2 ^ 47 := by
    rw [hiby]
    have : ((N : Int) + m') * d.bytes ≤ 2 ^ 47 := by simpa using need1
    exact_mod_cast this
  have hnl : (rowCells sh gf m').length = m' * ti.size := by rw [rowCells_len, hsi]
  have hns : ∀ p, q' = some p → ∀ j v, (rowCells sh gf m')[j]? = some v → w.cell? (p.add j) = some v := fun p hp j v hv => by
    obtain ⟨k, hk, hlt, rfl⟩ := rowCells_get hv
    obtain ⟨p', hp', _, hc⟩ := hval ((j / sh.length : Nat) : Int) (j % sh.length) k (Int.natCast_nonneg _) (by exact_mod_cast hlt) hk
    obtain rfl := Option.some.inj (hp'.symm.trans hp)
    rw [Int.toNat_natCast] at hc
    have : j / sh.length * sh.length + j % sh.length = j := by rw [Nat.mul_comm]; exact Nat.div_add_mod _ _
    rw [this] at hc; exact hc
  have hfn : ∀ (j : Int) k, 0 ≤ j → ((appX (mkRow m i) len bX).den ρ).fn j k = if j < N then ((mkRow m i).den ρ).fn j k else gf (j - N) k := fun j k j0 => by
    rw [← hgf]
    unfold appX
    split
    · have : (N : Int) = 0 := by rw [hnI, lit_I]
      rw [this, if_neg (by omega), Int.sub_zero]
    · have : (len.den ρ).int = (N : Int) := by rw [hnI]; try rfl
      simp only [X.den, AV.fn, this]
  have hol : (rowCells sh ((mkRow m i).den ρ).fn N).length = N * ti.size := by rw [rowCells_len, hsi]
  have hqn : qx = none → r = 0 := fun hq => by
    rcases h8 with h8 | h8
    · exact h8
    · cases p with
      | none => have := h7 rfl; omega
      | some p => rw [hq] at h8; cases h8
  -- where the row lies
  have hri : r = 0 ∨ ∃ b0, br.own b0 ∧ b0 < w.heap.size ∧ br.v.rows (i.I ρ) = some ⟨b0, 0, none⟩ ∧ qx = some ⟨b0, 0, none⟩ ∧ (∀ j, j < r * sh.length → ∃ v, w.cell? ⟨b0, j, none⟩ = some v ∧ w.frozen? ⟨b0, j, none⟩ = false) ∧
      ∀ (j : Nat) v, (rowCells sh ((mkRow m i).den ρ).fn N)[j]? = some v → w.cell? ⟨b0, j, none⟩ = some v := by
    by_cases hr0 : r = 0
    · exact .inl hr0
    · obtain ⟨a0, a1, a2, a3, a4, a5⟩ := hrow
      rcases a5 with a5 | a5 | ⟨qa, c1, c2, c3, _, c5⟩
      · omega
      · cases a5.1
      · obtain ⟨d1, d2, d3⟩ := c3 rfl
        refine .inr ⟨qa.block, d2, c2, by rw [c1, ← d1], ?_, fun j hj => d3 j (by rw [← hrc]; exact hj), fun j v hv => ?_⟩
        · rcases h8 with h8 | h8
          · exact absurd h8 hr0
          · rw [h8, ← hp, c1, lit_I, ← d1]; simp [Addr.add]
        · obtain ⟨k, hk, hlt, rfl⟩ := rowCells_get hv
          have hlt' : ((j / sh.length : Nat) : Int) < (m.den ρ).mlen (i.I ρ) := by
            have : ((j / sh.length : Nat) : Int) < N := by exact_mod_cast hlt
            omega
          have hc := (c5 ((j / sh.length : Nat) : Int) (j % sh.length) k (Int.natCast_nonneg _) hlt' hk).1
          rw [Int.toNat_natCast, d1, add0] at hc
          have : j / sh.length * sh.length + j % sh.length = j := by rw [Nat.mul_comm]; exact Nat.div_add_mod _ _
          rw [this] at hc
          rw [hfI]; exact hc
  have hslot : ∀ (r' cap' : Nat), N + m' ≤ cap' → cap' ≤ maxLen → ∀ β', β' s.heap.length = some (⟨⟨some ⟨r', 0, none⟩, cap', sh.length, fun _ => none, fun _ => 0, fun _ => 0⟩, (· = r')⟩ : BI) → (Sc.c (.slc (.blk s.heap.length) sh.length (.lit 0) (xb .add len cX) none)).rel ρ β' (.slice (some ⟨r', 0, none⟩) (N + m') cap') := fun r' cap' h1 h2 β' hb => by
    refine ⟨some ⟨r', 0, none⟩, cap', some ⟨r', 0, none⟩, cap', ?_, ?_, by rw [lit_I]; exact Int.le_refl _, by rw [hsum]; omega, by rw [hsum]; omega, h2, fun h => (by cases h), .inr ?_, by rw [lit_I]; simp, by simp, by rw [lit_I]; simp⟩
    · simp only [SB.at, hb, Option.map_some]
    · rw [hsum]; congr 1
    · rw [lit_I]; simp [Addr.add]
  have m1 := mm.give hbr
  by_cases hgr : r < N + m'
  · -- a new block
    obtain ⟨cc, zs, g1, g2, g3, g4⟩ := append_grow (P := P) (w := w) (t := t) (ty := ty) (c := c') hu hi hz hzs hqn h5 hol (fun p hp j v hv => by
      rcases hri with h0 | ⟨b0, _, _, _, hqr, _, hr⟩
      · obtain rfl : N = 0 := by omega
        simp [rowCells] at hv
      · obtain rfl := Option.some.inj (hp.symm.trans hqr)
        rw [add0]; exact hr j v hv) (fun h => by have := hqn' h; omega) hnl hns hgr h63 hbytes
    have hout := appOut_grow (w := w) (e := e) g1 hol hnl g3
    rw [← hsi] at hout
    have hbel : Below w.heap.size w (w.drew.alloc (.cells (rowCells sh ((mkRow m i).den ρ).fn N ++ rowCells sh gf m' ++ zs).toArray e)) := (Below.refl _ _).drew.alloc (Nat.le_refl _) _
    have hsz : (w.drew.alloc (.cells (rowCells sh ((mkRow m i).den ρ).fn N ++ rowCells sh gf m' ++ zs).toArray e)).heap.size = w.heap.size + 1 := by simp
    generalize w.drew.alloc (.cells (rowCells sh ((mkRow m i).den ρ).fn N ++ rowCells sh gf m' ++ zs).toArray e) = wn at g4 hout hbel hsz
    exact append_hole_fin (W2 := fun r => W r ∨ r = w.heap.size) (bo := ⟨⟨some ⟨w.heap.size, 0, none⟩, cc, sh.length, fun _ => none, fun _ => 0, fun _ => 0⟩, (· = w.heap.size)⟩) (R := none) mm hbr hrows n1 n2 g4 (m1.newW hbel hsz) (fun r hr => .inr hr) (fun r hr => by
        have hr : r = w.heap.size := hr
        exact .inr (by omega)) (fun r hr => by cases hr) (fun r hr => .inl (mm.own kr br r hbr hr)) (fun β => eok_appOut hout hsum g1 (by rw [hsz]; omega) hfn) (fun b _ _ h => h.below hbel (fun r hr => by rcases hr with hr | hr; exact .inl hr; exact .inr (by omega))) (hslot _ _ g1 g2)
  · have hroom : N + m' ≤ r := by omega
    rcases hri with h0 | ⟨b0, ho0, hb0, hrw0, rfl, hex, hr⟩
    · -- nothing
      subst h0
      obtain rfl : N = 0 := by omega
      obtain rfl : m' = 0 := by omega
      refine append_hole_fin (W2 := W) (bo := ⟨⟨qx, 0, sh.length, fun _ => none, fun _ => 0, fun _ => 0⟩, noOwn⟩) (R := none) mm hbr hrows n1 n2 (append_nothing hu hi) m1 (fun r hr => hr.elim) (fun r hr => hr.elim) (fun r hr => by cases hr) (fun r hr => mm.own kr br r hbr hr) (fun β _ => ⟨by rw [hsum]; simp, fun _ => rfl, rfl, .inl ⟨by rw [hsum]; rfl, rfl, rfl⟩⟩) (fun b _ _ h => h) (fun β' hb => ?_)
      refine ⟨qx, 0, qx, 0, ?_, by rw [hsum]; rfl, by rw [lit_I]; exact Int.le_refl _, by rw [hsum]; simp, by rw [hsum]; simp, Nat.zero_le _, fun _ => rfl, .inl rfl, by rw [lit_I]; simp, by simp, by rw [lit_I]; simp⟩
      simp only [SB.at, hb, Option.map_some]
    · -- where there is room
      have hW0 := mm.own kr br b0 hbr ho0
      have hout := appOut_room (w := w) (sz := sh.length) hroom (rowCells_len sh ((mkRow m i).den ρ).fn N) (rowCells_len sh gf m') hex hr
      have hrun := append_room (P := P) (w := w) (t := t) (ty := ty) (c := c') hu hi (fun h => by have := hqn' h; omega) hnl hns rowCells_one hroom (by rw [← hsi]; exact hex)
      rw [← hsi] at hrun
      have hbut := but_setCells w b0 (N * sh.length) (rowCells sh gf m')
      by_cases hr0 : r = 0
      · -- no cell of it
        subst hr0
        obtain rfl : N = 0 := by omega
        obtain rfl : m' = 0 := by omega
        refine append_hole_fin (W2 := W) (bo := ⟨⟨some ⟨b0, 0, none⟩, 0, sh.length, fun _ => none, fun _ => 0, fun _ => 0⟩, noOwn⟩) (R := none) mm hbr hrows n1 n2 (append_nothing hu hi) m1 (fun r hr => hr.elim) (fun r hr => hr.elim) (fun r hr => by cases hr) (fun r hr => mm.own kr br r hbr hr) (fun β _ => ⟨by rw [hsum]; simp, fun _ => rfl, rfl, .inl ⟨by rw [hsum]; rfl, rfl, rfl⟩⟩) (fun b _ _ h => h) (fun β' hb => ?_)
        refine ⟨some ⟨b0, 0, none⟩, 0, some ⟨b0, 0, none⟩, 0, ?_, by rw [hsum]; rfl, by rw [lit_I]; exact Int.le_refl _, by rw [hsum]; simp, by rw [hsum]; simp, Nat.zero_le _, fun _ => rfl, .inl rfl, by rw [lit_I]; simp, by simp, by rw [lit_I]; simp⟩
        simp only [SB.at, hb, Option.map_some]
      · refine append_hole_fin (W2 := W) (bo := ⟨⟨some ⟨b0, 0, none⟩, r, sh.length, fun _ => none, fun _ => 0, fun _ => 0⟩, (· = b0)⟩) (R := some b0) mm hbr hrows n1 n2 hrun (m1.but' hW0 (fun j c hc ho => by
          obtain ⟨c1, c2⟩ := own_back hc ho
          exact c1 (mm.dist j kr c br b0 c2 hbr ho ho0)) hbut (below_setCells w b0 (mm.wlo b0 hW0).1 _ _ w) (size_setCells _ _ _ _)) (fun r' hr' => by
          have hr' : r' = b0 := hr'
          rw [hr']; exact hW0) (fun r' hr' => by
          have hr' : r' = b0 := hr'
          exact .inl (by rw [hr'])) (fun r' hr' => by
          obtain rfl := Option.some.inj hr'
          exact ⟨ho0, by omega, hrw0⟩) (fun r' hr' => mm.own kr br r' hbr hr') (fun β => eok_appOut hout hsum hroom (by rw [size_setCells]; exact hb0) hfn) (fun b _ hb h => h.but hbut hW0 (fun ho => ((hb b0).1 ho).2 rfl)) (hslot _ _ hroom h6)
/-- a list of nil lists made -/
theorem make_run (hC : C.Ok P) {t e : TypeId} {d : TD} (hu : P.underlying t = some (.slice e)) (hd : C.ty e = some d) (hz0 : d.zero = [.c .nils]) {n : Nat} (hb : n * d.bytes ≤ 2 ^ 47) (hle : n ≤ 2 ^ 47) {kl kc : IntKind} :
    ∃ cs : Array Value, (Instr.makeSlice t (.int kl n) (.int kc n)).run P w = .ok (.slice (some ⟨w.heap.size, 0, none⟩) n n) (w.alloc (.cells cs e)) ∧ cs.size = n ∧ ∀ j, j < n → cs[j]? = some (.slice none 0 0) := by
  obtain ⟨ie, ue, zz, hie, _, his, hib, hzl0, _⟩ := (hC.ty _ _ hd).facts
  have hd1 : d.size = 1 := by rw [← hzl0, hz0]; rfl
  obtain ⟨zv, hz, hr, hs⟩ := (hC.ty _ _ hd).zero (w := w) (ρ := []) (β := fun _ => none)
  have hw : IntKind.i64.wrap (n : Int) = n := wrap_of_inr (by simp [Vc.inr, IntKind.min, IntKind.max, IntKind.signed, IntKind.bits]; omega)
  have hroom : (askRoom (n * d.bytes)).run P w = .ok () w := by unfold askRoom roomBytes; rw [if_neg (by omega)]; rfl
  have hti : (typeInfo e).run P w = .ok ie w := by simp [typeInfo, hie]
  have h1 : (decide ((n : Int) < 0) || decide ((d.bytes : Int) * (n : Int) > 2 ^ 48)) = false := by
    have : (d.bytes : Int) * (n : Int) = ((n * d.bytes : Nat) : Int) := by rw [Int.mul_comm]; simp
    rw [this]; simp; omega
  have hzc : zv.cells.toList = [.slice none 0 0] := by
    rw [hz0] at hr
    cases h : zv.cells.toList with
    | nil => rw [h] at hr; exact hr.elim
    | cons v vs =>
      rw [h] at hr
      cases vs with
      | nil =>
        have h1 : v = .slice none 0 0 := hr.1
        rw [h1]
      | cons _ _ => exact hr.2.elim
  have hzc' : zv.cells = #[.slice none 0 0] := by rw [← Array.toArray_toList (xs := zv.cells), hzc]
  refine ⟨(Array.range (n * d.size)).map (zv.cells[· % zv.cells.size]!), ?_, by simp [hd1], fun j hj => ?_⟩
  · simp only [Instr.makeSlice, asInt, asIntOf, Sem.run_bind, Sem.run_pure, Result.andThen_ok, run_underlying hu, hw, hti, hib, h1]
    rw [if_neg (by simp)]
    simp only [Int.toNat_natCast, Sem.run_bind, Sem.run_pure, Result.andThen_ok, hroom, sizeOf_run (hC.ty _ _ hd)]
    have e0 : n * d.size = 0 → ∀ f g : Nat → Value, (Array.range (n * d.size)).map f = (Array.range (n * d.size)).map g := fun h f g => by rw [h]; simp
    by_cases h0 : n * d.size = 0
    · rw [if_pos h0]
      simp only [Sem.run_bind, Sem.run_pure, Result.andThen_ok, newRow_run]
      rw [e0 h0 _ (zv.cells[· % zv.cells.size]!)]
    · rw [if_neg h0]
      simp only [Sem.run_bind, hz, Sem.run_pure, Result.andThen_ok, newRow_run]
  · rw [hzc', hd1]
    simp [hj, Nat.mod_one]
section
variable {Γ : FuncId → Con} {Qd : List AV → Prop} {ctx : List (List AV → Prop)} {s : S} {a : Act} {ops : Array Oper} {o : Oper} {K : S → Tree} {K' : Act → World → Prop} {Q : Exit → Act → World → Prop}
theorem mappend_sound (hC : C.Ok P) {t ty : TypeId} {x y v : Sc} {nd : List X} {s' : S} (hq : mappend C s t x y = some (nd, v, s')) (m : Mem C B w0 ρ β W s w) (hnd : ∀ x ∈ nd, x.B ρ = true) {xv yv : Value} (hxv : x.rel ρ β xv) (hyv : y.rel ρ β yv) :
    ∃ u w' β' W', (Builtin.append_ #[t, t] ty #[xv, yv]).run P w = .ok u w' ∧ LeftM C B w0 ρ β s s' β' W' w' ∧ v.rel ρ β' u := by
  unfold mappend at hq
  split at hq
  · rename_i e sz by_ z el pl hty
    split at hq
    · rename_i d hd
      split at hq
      · rename_i sh hsh
        split at hq
        · rename_i hc
          split at hq
          · rename_i v0 hy
            split at hq
            · rename_i mX nX ks ow hx
              split at hq
              · rename_i aX len used nd0 ow' hv
                cases hq
                exact append_row hC hty hd hc.1 hc.2 hy hx hv m hnd hxv hyv
              · cases hq
            · cases hq
          · cases hq
          · split at hq
            · rename_i ky len cp
              split at hq
              · rename_i ow sh' mX nX gy hk
                split at hq
                · rename_i hc2
                  obtain ⟨hem, rfl, rfl⟩ := hc2
                  cases hq
                  exact append_clone hC hty hd hc.2 hem hk m hnd hxv hyv
                · cases hq
              · cases hq
            · cases hq
        · cases hq
      · split at hq
        · rename_i kr i sz' len sh hsO
          split at hq
          · rename_i sh' mX nX g hk
            split at hq
            · rename_i bX cX nd0 hy
              split at hq
              · rename_i hc
                obtain ⟨rfl, rfl, hl, hpos⟩ := hc
                cases hq
                exact append_hole hC hty hd hsO hpos hk hy hl m hnd hxv hyv
              · cases hq
            · cases hq
          · cases hq
        · cases hq
    · cases hq
  · cases hq
/-- a step that makes or writes a list of lists -/
theorem mstep_seq (hC : C.Ok P) {nd : List X} {s' : S} (hq : mstep C s o = some (nd, s')) (m : Mem C B w0 ρ β W s w) (fr : Fr ρ β s a) (hnd : ∀ x ∈ nd, x.B ρ = true) :
    (∃ w' β' W', (execOp a.eval o).run P w = .ok .skip w' ∧ Mem C B w0 ρ β' W' s' w' ∧ Fr ρ β' s' (a.put o.dst Go.undef) ∧ Later ρ β s ρ β' s' ∧ s'.lvl = s.lvl) ∨
    (∃ u w' β' W', (execOp a.eval o).run P w = .ok (.value u) w' ∧ Mem C B w0 ρ β' W' s' w' ∧ Fr ρ β' s' (a.put o.dst u) ∧ Later ρ β s ρ β' s' ∧ s'.lvl = s.lvl) := by
  have tt : (X.bl true).B ρ = true := rfl
  have hf := m.facts
  unfold mstep at hq
  split at hq
  · cases hq
  · split at hq
    · -- store
      rename_i t p x ho
      split at hq
      · rename_i pv v hp hx
        split at hq
        · rename_i nd' s1 hs
          cases hq
          have hpr := val_rel hf tt m.glob (opd_of_fr fr p) hp
          have hxr := val_rel hf tt m.glob (opd_of_fr fr x) hx
          obtain ⟨q, w', β', W', hpe, hrun, hL⟩ := mstore_sound hC hs m hnd hpr hxr
          refine .inl ⟨w', β', W', ?_, hL.mem.put _ _, Fr.put (s := s1) (Fr.ext hL.ext fr hL.tmps) ⟨fun _ => rfl, fun _ => rfl⟩, Later.put (Later.of_ext hL.ext hL.ks hL.len) _ _, by rw [put_lvl]; exact hL.lvl⟩
          simp only [execOp, ho, Instr.storeAt, hpe, Instr.sureAddr, Sem.run_bind, Sem.run_pure, Result.andThen_ok, hrun]
        · cases hq
      · cases hq
    · -- make
      rename_i t xl xc ho
      split at hq
      · rename_i sh e sz by_ z el pl kl l kc c hsh hty hl hc
        split at hq
        · rename_i d hd
          split at hq
          · rename_i hcnd
            obtain ⟨rfl, hby, hpos, hz0⟩ := hcnd
            cases hq
            have el := int_rel hf tt m.glob (opd_of_fr fr xl) hl
            have ec := int_rel hf tt m.glob (opd_of_fr fr xc) hc
            have hu := (hC.ty _ _ hty).slice rfl
            have n1 := le_of (hnd (xb .le (.lit 0) l) (by simp))
            have n2 := le_of (hnd (xb .le (xb .mul l (.lit d.bytes)) (.lit (2 ^ 47))) (by simp))
            rw [lit_I] at n1
            rw [xmul, lit_I, lit_I] at n2
            obtain ⟨n, hn⟩ := Int.eq_ofNat_of_zero_le n1
            have hb : n * d.bytes ≤ 2 ^ 47 := by rw [hn] at n2; exact_mod_cast n2
            have hle : n ≤ 2 ^ 47 := Nat.le_trans (Nat.le_mul_of_pos_right n hby) hb
            obtain ⟨cs, hrun, hsz, hcs⟩ := make_run (w := w) hC hu hd hz0 hb hle (kl := kl) (kc := kc)
            rw [hn] at el ec
            have hbel := below_alloc w (.cells cs e)
            have hws : (w.alloc (.cells cs e)).heap.size = w.heap.size + 1 := by simp
            have hcell : ∀ j, j < n → (w.alloc (.cells cs e)).cell? ⟨w.heap.size, j, none⟩ = some (.slice none 0 0) ∧ (w.alloc (.cells cs e)).frozen? ⟨w.heap.size, j, none⟩ = false := fun j hj => by
              have hj' : j < cs.size := by rw [hsz]; exact hj
              have h1 := hcs j hj
              have h2 : cs[j] = .slice none 0 0 := by rw [Array.getElem?_eq_getElem hj'] at h1; exact Option.some.inj h1
              exact ⟨by simp [hj', h2], by simp⟩
            generalize w.alloc (.cells cs e) = wn at hrun hbel hws hcell
            have m4 := m.newW hbel hws
            have hno : ∀ j c, β j = some c → ¬ c.own w.heap.size := fun j c hc ho => by have := (m.wlo _ (m.own j c _ hc ho)).2; omega
            have hb2 : upd (upd β s.heap.length ⟨⟨some ⟨w.heap.size, 0, none⟩, n, 1, fun _ => none, fun _ => 0, fun _ => 0⟩, (· = w.heap.size)⟩) (s.heap.length + 1) zeroBI (s.heap.length + 1) = some zeroBI := upd_same ..
            have hbo : upd (upd β s.heap.length ⟨⟨some ⟨w.heap.size, 0, none⟩, n, 1, fun _ => none, fun _ => 0, fun _ => 0⟩, (· = w.heap.size)⟩) (s.heap.length + 1) zeroBI s.heap.length = some ⟨⟨some ⟨w.heap.size, 0, none⟩, n, 1, fun _ => none, fun _ => 0, fun _ => 0⟩, (· = w.heap.size)⟩ := by rw [upd_other _ _ (by omega), upd_same]
            have hz : ∀ j, ((zerosM).den ρ).mlen j = 0 := fun j => by
              show (if _ then _ else _) = (0 : Int)
              split <;> rfl
            have hR : RowsOk wn (fun r => W r ∨ r = w.heap.size) true zeroBI sh ((zerosM).den ρ) (l.I ρ) fun _ => True :=
              ⟨fun j _ _ _ => ⟨by rw [hz]; exact Int.le_refl _, hz j, by rw [hz]; exact Nat.zero_le _, Nat.zero_le _, fun _ => rfl, .inl rfl⟩, fun _ i j _ _ _ _ _ _ _ h => absurd rfl h⟩
            obtain ⟨m5, hx5⟩ := m4.add2 (bo := ⟨⟨some ⟨w.heap.size, 0, none⟩, n, 1, fun _ => none, fun _ => 0, fun _ => 0⟩, (· = w.heap.size)⟩) (b2 := zeroBI) (sh := sh) (nX := l) (m := zerosM) (ow := true)
              (fun r h => by
                rcases h with h | h
                · exact .inr h
                · exact h.elim) (fun j c r hc ho h => by
                rcases h with h | h
                · have h : r = w.heap.size := h
                  rw [h] at ho; exact hno j c hc ho
                · exact h.elim) (fun r _ h => h) hR
              (eok_mo hb2 rfl rfl rfl rfl (by rw [hws]; omega) hn (Nat.le_refl _) (fun j hj => ⟨_, hcell j (by simpa using hj)⟩) (fun j hj => (hcell j hj).1))
            have hl2 := Later.of_ext (ρ := ρ) (s := s) (s' := (s.add (ent true (.mo sh (s.heap.length + 1) l))).add (ent true (.rw sh zerosM l))) hx5 rfl (by simp [S.add_eq])
            refine .inr ⟨_, wn, _, _, runv (m := Instr.makeSlice t (a.eval xl) (a.eval xc)) (by simp [execOp, ho]) (by rw [el, ec]; exact hrun), m5.put _ _, Fr.put (s := (s.add (ent true (.mo sh (s.heap.length + 1) l))).add (ent true (.rw sh zerosM l))) (Fr.ext hx5 fr rfl) ⟨fun _ => matV_slc (cap := n) hbo rfl rfl hn (Nat.le_refl _) (by unfold maxLen; omega), fun h => (by cases h)⟩, hl2.put _ _, by rw [put_lvl]; rfl⟩
          · cases hq
        · cases hq
      · cases hq
    · -- append
      rename_i args ts ho
      split at hq
      · rename_i x y t t' hargs hts
        split at hq
        · rename_i htt
          subst htt
          split at hq
          · rename_i xs ys hx hy
            split at hq
            · rename_i nd' v s1 hs
              cases hq
              have hxr := val_rel hf tt m.glob (opd_of_fr fr x) hx
              have hyr := val_rel hf tt m.glob (opd_of_fr fr y) hy
              have hargs' : args = #[x, y] := by rw [← Array.toArray_toList (xs := args), hargs]
              have hts' : ts = #[t, t] := by rw [← Array.toArray_toList (xs := ts), hts]
              obtain ⟨u, w', β', W', hrun, hL, hv⟩ := mappend_sound (ty := o.type) hC hs m hnd hxr hyr
              exact .inr ⟨u, w', β', W', run_append ho hargs' hts' hrun, hL.mem.put _ _, Fr.put (s := s1) (Fr.ext hL.ext fr hL.tmps) ⟨fun _ => hv, fun h => (by cases h)⟩, Later.put (Later.of_ext hL.ext hL.ks hL.len) _ _, by rw [put_lvl]; exact hL.lvl⟩
            · cases hq
          · cases hq
        · cases hq
      · cases hq
    · cases hq
end
end
end Go.Proofs.Ytpbpmabnmakdoaa.Vc
