/- The symbolic executor: a state as an instance of a general one. -/
import Derived.Test.YtiiabaklipmbbaaVg
namespace Go.Proofs.Ytiiabaklipmbbaa.Vc
noncomputable section
open Go Go.RowKit
variable {ρ ρ' : List AV} {β β' : Mp} {W W' : Nat → Prop} {w w' : World} {P : Program} {C : Cfg} {B : Nat} {w0 : World}

theorem kind_fix {ks : List VK} (hk : KT ks ρ) {x : X} {k : VK} (h : x.kind ks = some k) : k.fix (x.den ρ) = x.den ρ := by
  cases x with
  | var n => simp only [X.kind] at h; exact hk.2 n k h
  | bin o a b => cases o <;> (simp only [X.kind] at h; obtain rfl := Option.some.inj h; rfl)
  | _ => simp only [X.kind] at h; obtain rfl := Option.some.inj h; rfl
theorem allAV_elim : ∀ {ks : List VK} {p : List AV → Prop}, allAV ks p → ∀ vs, KT ks vs → p vs
  | [], p, h, vs, hk => by
    obtain rfl := List.eq_nil_of_length_eq_zero hk.1
    exact h
  | k :: ks, p, h, vs, hk => by
    cases vs with
    | nil => have := hk.1; simp at this
    | cons v vs =>
      have hv : k.fix v = v := by simpa using hk.2 0 k rfl
      have hks : KT ks vs := ⟨by simpa using hk.1, fun i k' hi => by simpa using hk.2 (i + 1) k' (by simpa using hi)⟩
      cases k with
      | i => rw [← hv]; exact allAV_elim (h v.int) vs hks
      | b => rw [← hv]; exact allAV_elim (h v.bool) vs hks
      | a => rw [← hv]; exact allAV_elim (h v.fn) vs hks
      | m => rw [← hv]; exact allAV_elim (h v.mlen v.mfn) vs hks
theorem KT.take {ks : List VK} (h : KT ks ρ) (n : Nat) : KT (ks.take n) (ρ.take n) := by
  refine ⟨by simp [h.1], fun i k hi => ?_⟩
  rw [List.getElem?_take] at hi
  split at hi
  · rename_i hlt
    have := h.2 i k hi
    simp only [List.getD_eq_getElem?_getD, List.getElem?_take, if_pos hlt] at this ⊢
    exact this
  · cases hi
theorem zipIdx_all {α : Type} {l : List α} {p : α × Nat → Bool} (h : l.zipIdx.all p = true) : ∀ (i : Nat) x, l[i]? = some x → p (x, i) = true := fun i x hi => by
  rw [List.all_eq_true] at h
  exact h (x, i) (by rw [List.mem_zipIdx_iff_getElem?]; simpa using hi)
theorem fixL_get : ∀ (ks : List VK) (vs : List AV) (i : Nat) (k : VK) (v : AV), ks[i]? = some k → vs[i]? = some v → (fixL ks vs)[i]? = some (k.fix v)
  | [], _, _, _, _, h, _ => by simp at h
  | k :: ks, [], i, _, _, _, h => by simp at h
  | k :: ks, v :: vs, 0, k', v', h, h' => by simp at h h'; subst h h'; rfl
  | k :: ks, v :: vs, i + 1, k', v', h, h' => by simp at h h'; simpa [fixL] using fixL_get ks vs i k' v' h h'
def strip (b : BI) : BI := ⟨b.v, none⟩
theorem EOk_strip {b : BI} {e : HE} (ho : e.own = false) (h : EOk ρ β W w b e) : EOk ρ β W w (strip b) e := by
  unfold EOk at *
  intro hg
  have h := h hg
  obtain ⟨own, body, g⟩ := e
  simp only at ho
  subst ho
  have hpl : ∀ p, place w W false b p → place w W false (strip b) p := fun p hp => ⟨hp.1, fun h => (by cases h), hp.2.2⟩
  cases body with
  | gone => trivial
  | cells l => obtain ⟨p, h1, h2, h3⟩ := h; exact ⟨p, h1, hpl p h2, h3⟩
  | arr sh a n =>
    obtain ⟨h0, h00, hs, h1⟩ := h
    refine ⟨h0, h00, hs, ?_⟩
    rcases h1 with ⟨a1, a2, _⟩ | h1 | ⟨p, h1, h2, h3⟩
    · exact .inl ⟨a1, a2, rfl⟩
    · exact .inr (.inl h1)
    · exact .inr (.inr ⟨p, h1, hpl p h2, h3⟩)
  | mat sh a n =>
    obtain ⟨h0, h00, h1⟩ := h
    refine ⟨h0, h00, ?_⟩
    rcases h1 with h1 | ⟨p, h1, h2, h3⟩
    · exact .inl h1
    · exact .inr ⟨p, h1, hpl p h2, h3⟩
theorem EOk_gone {b : BI} {e : HE} (h : e.body = .gone) : EOk ρ β W w b e := by unfold EOk; intro _; rw [h]; trivial
/-- what the general state's entries stand for -/
def instM (β : Mp) (h : S) (r : Nat → Nat) : Mp := fun k => match h.heap[k]? with
  | some e => if e.mine then β (r k) else (β (r k)).map strip
  | none => none
theorem instM_v {h : S} {r : Nat → Nat} {k : Nat} (hk : k < h.heap.length) : (instM β h r k).map (·.v) = (β (r k)).map (·.v) := by
  unfold instM
  rw [List.getElem?_eq_getElem hk]
  simp only
  split
  · rfl
  · cases β (r k) <;> rfl
theorem glob_mem {g k : Nat} (h : C.glob g = some k) : k ∈ C.globL.map (·.2) := by
  unfold Cfg.glob at h
  generalize C.globL = l at h ⊢
  induction l with
  | nil => cases h
  | cons x l ih =>
    obtain ⟨x1, x2⟩ := x
    rw [List.lookup_cons] at h
    split at h
    · obtain rfl := Option.some.inj h; simp
    · simp only [List.map_cons, List.mem_cons]; exact .inr (ih h)
theorem inst_sound {s h : S} {n : Nat} {args : List X} {r : List Nat} {a : Act} (hi : s.inst h n args r (C.globL.map (·.2)) = true) (m : Mem C B w0 ρ β W s w) (fr : Fr ρ β s a) :
    Mem C B w0 (ρ.take n ++ fixL (h.ks.drop n) (args.map (X.den ρ))) (instM β h fun k => (r[k]?).getD k) W h w ∧ Fr (ρ.take n ++ fixL (h.ks.drop n) (args.map (X.den ρ))) (instM β h fun k => (r[k]?).getD k) h a ∧
      (∀ k, k < h.heap.length → (instM β h (fun k => (r[k]?).getD k) k).map (·.v) = (β ((r[k]?).getD k)).map (·.v)) := by
  simp only [S.inst, Bool.and_eq_true, decide_eq_true_eq] at hi
  obtain ⟨⟨⟨⟨⟨⟨⟨⟨⟨i1, i2⟩, i3⟩, i4⟩, i5⟩, i6⟩, i7⟩, i8⟩, i9⟩, i10⟩ := hi
  generalize hρn : ρ.take n ++ fixL (h.ks.drop n) (args.map (X.den ρ)) = ρn
  have hnl : n ≤ ρ.length := by rw [m.kt.1]; exact i3
  have hok : Ren.Ok ⟨n + args.length, fun i => if i < n then .var i else (args[i - n]?).getD (.lit 0), h.heap.length, fun k => (r[k]?).getD k⟩ ρn (instM β h fun k => (r[k]?).getD k) ρ β := by
    refine ⟨fun j hj => ?_, fun k hk => instM_v hk⟩
    simp only at hj ⊢
    by_cases hjn : j < n
    · rw [if_pos hjn, ← hρn]
      simp only [X.den, List.getD_eq_getElem?_getD]
      rw [List.getElem?_append_left (by simp; omega), List.getElem?_take, if_pos hjn]
    · rw [if_neg hjn]
      obtain ⟨x, hx⟩ : ∃ x, args[j - n]? = some x := ⟨_, List.getElem?_eq_getElem (by omega)⟩
      have hk := zipIdx_all i5 (j - n) x hx
      simp only [decide_eq_true_eq] at hk
      rw [show n + (j - n) = j by omega] at hk
      obtain ⟨k, hk'⟩ : ∃ k, h.ks[j]? = some k := ⟨_, List.getElem?_eq_getElem (by omega)⟩
      rw [hk'] at hk
      have hfx := kind_fix m.kt hk
      rw [hx, ← hρn, List.getD_eq_getElem?_getD, List.getElem?_append_right (by simp; omega)]
      have hidx : j - (ρ.take n).length = j - n := by simp; omega
      rw [hidx, fixL_get (h.ks.drop n) (args.map (X.den ρ)) (j - n) k (x.den ρ) (by rw [List.getElem?_drop, show n + (j - n) = j by omega]; exact hk') (by simp [hx]), hfx]
      rfl
  have heap : ∀ k e, h.heap[k]? = some e → (r[k]?).getD k < s.heap.length ∧ (e.body ≠ .gone → ∃ y, e.sub ⟨n + args.length, fun i => if i < n then .var i else (args[i - n]?).getD (.lit 0), h.heap.length, fun k => (r[k]?).getD k⟩ = some y ∧ s.heap[(r[k]?).getD k]? = some y) := fun k e hk => by
    have := zipIdx_all i7 k e hk
    simp only [Bool.and_eq_true, decide_eq_true_eq] at this
    refine ⟨this.1, fun hg => ?_⟩
    have h2 := this.2
    split at h2
    · rename_i hg'; exact absurd hg' hg
    · split at h2
      · rename_i y hy; exact ⟨y, hy, by simpa using h2⟩
      · cases h2
  refine ⟨⟨⟨m.below, m.size, m.wlo, fun k e b hk hb => ?_, fun k k' b b' r' hb hb' ho ho' => ?_, fun k b r' hb ho => ?_, fun g k hg => ?_⟩, fun k hk => ?_, fun k hk => ?_, fun x hx => ?_, ?_⟩, ⟨?_, fun t sl ht => ?_⟩, fun k hk => instM_v hk⟩
  · -- the entries
    have hk' : h.heap[k]? = some e := hk
    by_cases hgone : e.body = .gone
    · exact EOk_gone hgone
    · obtain ⟨y, hy, hs⟩ := (heap k e hk').2 hgone
      simp only [instM, hk'] at hb
      split at hb
      · exact (HE.sub_ok hok hy b).1 (m.heap _ y b hs hb)
      · rename_i hmine
        simp only [Option.map_eq_some_iff] at hb
        obtain ⟨b0, hb0, rfl⟩ := hb
        have hown : e.own = false := by
          obtain ⟨own, body, g⟩ := e
          simp only [HE.mine] at hmine
          cases body with
          | gone => exact absurd rfl hgone
          | _ => simpa using hmine
        exact EOk_strip hown ((HE.sub_ok hok hy b0).1 (m.heap _ y b0 hs hb0))
  · -- apart
    have hm : ∀ k b, instM β h (fun k => (r[k]?).getD k) k = some b → b.own = some r' → ∃ e, h.heap[k]? = some e ∧ e.mine = true ∧ β ((r[k]?).getD k) = some b := fun k b hb ho => by
      unfold instM at hb
      split at hb
      · rename_i e he
        split at hb
        · rename_i hmine; exact ⟨e, he, hmine, hb⟩
        · simp only [Option.map_eq_some_iff] at hb
          obtain ⟨b0, _, rfl⟩ := hb
          cases ho
      · cases hb
    obtain ⟨e, he, hme, h1⟩ := hm k b hb ho
    obtain ⟨e', he', hme', h2⟩ := hm k' b' hb' ho'
    have hrr := m.dist _ _ b b' r' h1 h2 ho ho'
    have := zipIdx_all (zipIdx_all i9 k e he) k' e' he'
    simp only [hme, hme', Bool.and_self, Bool.not_true, Bool.false_or, Bool.or_eq_true, decide_eq_true_eq] at this
    rcases this with h3 | h3
    · exact h3
    · exact absurd hrr h3
  · unfold instM at hb
    split at hb
    · split at hb
      · exact m.own _ b r' hb ho
      · simp only [Option.map_eq_some_iff] at hb
        obtain ⟨b0, _, rfl⟩ := hb
        cases ho
    · cases hb
  · have hmem := glob_mem hg
    have := List.all_eq_true.1 i10 k hmem
    simp only [Bool.and_eq_true, decide_eq_true_eq] at this
    obtain ⟨hrk, hkl⟩ := this
    obtain ⟨b, hb, ha⟩ := m.glob g k hg
    have hv := instM_v (β := β) (h := h) (r := fun k => (r[k]?).getD k) hkl
    simp only at hv
    rw [hrk, hb] at hv
    simp only [Option.map_some, Option.map_eq_some_iff] at hv
    obtain ⟨b', hb', hv'⟩ := hv
    exact ⟨b', hb', by rw [hv']; exact ha⟩
  · obtain ⟨b, hb⟩ := m.all _ (heap k _ (List.getElem?_eq_getElem hk)).1
    unfold instM
    rw [List.getElem?_eq_getElem hk]
    simp only [hb]
    split
    · exact ⟨b, rfl⟩
    · exact ⟨strip b, rfl⟩
  · unfold instM
    rw [List.getElem?_eq_none hk]
  · have := List.all_eq_true.1 i8 x hx
    split at this
    · rename_i y hy
      have h1 := S.holds_B m.facts (show (X.bl true).B ρ = true from rfl) this
      have h2 := X.sub_den hok.x hy
      show (x.den ρn).bool = true
      rw [← h2]; exact h1
    · cases this
  · have := (m.kt.take n).append (fixL_KT (h.ks.drop n) (args.map (X.den ρ)))
    rw [← i4, List.take_append_drop, hρn] at this
    exact this
  · rw [fr.1, i1]
  · have := zipIdx_all i6 t (some sl) ht
    simp only at this
    split at this
    · rename_i y hy
      simp only [decide_eq_true_eq] at this
      exact (Slot.sub_rel hok hy _).1 (fr.2 t y this)
    · cases this
end
end Go.Proofs.Ytiiabaklipmbbaa.Vc
