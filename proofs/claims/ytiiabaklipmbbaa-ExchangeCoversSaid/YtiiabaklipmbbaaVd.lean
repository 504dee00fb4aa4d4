/- The symbolic executor: calls by contract. -/
import Derived.Test.YtiiabaklipmbbaaVc
namespace Go.Proofs.Ytiiabaklipmbbaa.Vc
noncomputable section
open Go Go.RowKit
variable {ρ ρ' : List AV} {β β' : Mp} {W W' : Nat → Prop} {w w' : World} {P : Program} {C : Cfg} {B : Nat} {w0 : World}

/-- more variables -/
theorem Mem.more {s s' : S} {ks : List VK} {δ : List AV} (m : Mem C B w0 ρ β W s w) (h : s.more ks = some s') (hk : KT ks δ) : s' = { s with ks := s.ks ++ ks } ∧ Mem C B w0 (ρ ++ δ) β W s' w := by
  obtain ⟨rfl, sc⟩ := S.more_eq h
  have hok : (idR s.ks.length s.heap.length).Ok ρ β (ρ ++ δ) β := idR_ok (by rw [m.kt.1]; exact Nat.le_refl _) fun _ _ => rfl
  refine ⟨rfl, ⟨⟨m.below, m.size, m.wlo, fun k e b hk hb => ?_, m.dist, m.own, m.glob⟩, m.all, m.top, fun x hx => ?_, m.kt.append hk⟩⟩
  · exact (HE.sub_ok hok (sc.heap k e hk) b).2 (m.heap k e b hk hb)
  · have := X.sub_den hok.x (sc.facts x hx)
    show (x.den _).bool = true
    rw [this]; exact m.facts x hx
theorem Fr.more {s s' : S} {ks : List VK} {δ : List AV} {a : Act} (m : Mem C B w0 ρ β W s w) (h : s.more ks = some s') (fr : Fr ρ β s a) : Fr (ρ ++ δ) β s' a := by
  obtain ⟨rfl, sc⟩ := S.more_eq h
  have hok : (idR s.ks.length s.heap.length).Ok ρ β (ρ ++ δ) β := idR_ok (by rw [m.kt.1]; exact Nat.le_refl _) fun _ _ => rfl
  exact ⟨fr.1, fun t sl ht => (Slot.sub_rel hok (sc.tmps t sl ht) _).2 (fr.2 t sl ht)⟩

/-! what a contract gives -/
def GvSc (N : Nat) (w : World) : Sh0 → Value → List AV → List Nat → Prop
  | .int k, v, l, os => ∃ z, v = .int k z ∧ l = [.i z] ∧ os = []
  | .bool, v, l, os => ∃ p, v = .bool p ∧ l = [.b p] ∧ os = []
  | .slc sh, v, l, os => ∃ (q : Option Addr) (n c : Nat) (f : Int → Nat → Int), v = .slice q n c ∧ n ≤ c ∧ c ≤ maxLen ∧ (q = none → c = 0) ∧ l = [.a f, .i (n : Int)] ∧
      ((n = 0 ∧ c = 0 ∧ os = []) ∨ ∃ r, q = some ⟨r, 0, none⟩ ∧ N ≤ r ∧ r < w.heap.size ∧ os = [r] ∧ (∀ j, j < c * sh.length → ∃ u, w.cell? ⟨r, j, none⟩ = some u ∧ w.frozen? ⟨r, j, none⟩ = false) ∧
        ∀ (i : Int) f' k, 0 ≤ i → i < n → sh[f']? = some k → cellOk w true ⟨r, i.toNat * sh.length + f', none⟩ (k.val (f i f')))
  | .mat sh, v, l, os => False
def GvL (N : Nat) (w : World) : List Sh0 → List Value → List AV → List Nat → Prop
  | [], [], l, os => l = [] ∧ os = []
  | h :: hs, v :: vs, l, os => ∃ a b o1 o2, l = a ++ b ∧ os = o1 ++ o2 ∧ GvSc N w h v a o1 ∧ GvL N w hs vs b o2
  | _, _, _, _ => False
def GvV (N : Nat) (w : World) (h : Sh) (v : Value) (l : List AV) (os : List Nat) : Prop :=
  if h.agg then ∃ vs : List Value, v = .agg vs.toArray ∧ GvL N w h.l vs l os else ∃ x, h.l = [x] ∧ GvL N w h.l [v] l os
def GvA (N : Nat) (w : World) : List Sh → List Value → List AV → List Nat → Prop
  | [], [], l, os => l = [] ∧ os = []
  | h :: hs, v :: vs, l, os => ∃ a b o1 o2, l = a ++ b ∧ os = o1 ++ o2 ∧ GvV N w h v a o1 ∧ GvA N w hs vs b o2
  | _, _, _, _ => False
def tupOf : List Value → Value
  | [x] => x
  | l => .tuple l.toArray
def Gv (N : Nat) (w : World) (outs : List Sh) (v : Value) (l : List AV) : Prop := ∃ vs os, v = tupOf vs ∧ GvA N w outs vs l os ∧ os.Nodup
/-- the function keeps the contract, in the worlds that G admits -/
def MeetsG (P : Program) (G : World → Prop) (con : Con) (f : FuncId) (sig : CSig) : Prop :=
  ∀ (args : List Value) avs w, G w → RdA w sig.ins args avs → con.pre avs → Calls P f args.toArray w fun e w' => ∃ v, e = .returned v ∧ Below w.heap.size w w' ∧ Gv w.heap.size w' sig.outs v (con.out avs)

abbrev Meets (P : Program) (con : Con) (f : FuncId) (sig : CSig) : Prop := MeetsG P (fun _ => True) con f sig
/-- what the new entries stand for -/
structure News (w : World) (N : Nat) (bs : List BI) (os : List Nat) : Prop where
  own : ∀ (j : Nat) b r, bs[j]? = some b → b.own = some r → r ∈ os
  dist : os.Nodup → ∀ (j j' : Nat) b b' r, bs[j]? = some b → bs[j']? = some b' → b.own = some r → b'.own = some r → j = j'
  lo : ∀ r ∈ os, N ≤ r ∧ r < w.heap.size
theorem News.nil (w : World) (N : Nat) : News w N [] [] := ⟨fun j b r h => by simp at h, fun _ j j' b b' r h => by simp at h, fun r h => by cases h⟩
theorem News.append {N : Nat} {b1 b2 : List BI} {o1 o2 : List Nat} (h : News w N b1 o1) (k : News w N b2 o2) : News w N (b1 ++ b2) (o1 ++ o2) := by
  refine ⟨fun j b r hb ho => ?_, fun hn j j' b b' r hb hb' ho ho' => ?_, fun r hr => ?_⟩
  · rw [List.getElem?_append] at hb
    split at hb
    · exact List.mem_append.2 (.inl (h.own _ _ _ hb ho))
    · exact List.mem_append.2 (.inr (k.own _ _ _ hb ho))
  · rw [List.nodup_append] at hn
    obtain ⟨n1, n2, n3⟩ := hn
    rw [List.getElem?_append] at hb hb'
    split at hb
    · split at hb'
      · exact h.dist n1 _ _ _ _ _ hb hb' ho ho'
      · exact absurd rfl (n3 r (h.own _ _ _ hb ho) r (k.own _ _ _ hb' ho'))
    · split at hb'
      · exact absurd rfl (n3 r (h.own _ _ _ hb' ho') r (k.own _ _ _ hb ho))
      · have := k.dist n2 _ _ _ _ _ hb hb' ho ho'
        omega
  · rcases List.mem_append.1 hr with hr | hr
    · exact h.lo r hr
    · exact k.lo r hr
/-- a piece of the variables -/
def Piece (ρ : List AV) (n : Nat) (l : List AV) : Prop := ∀ (i : Nat) v, l[i]? = some v → ρ.getD (n + i) (.i 0) = v
theorem Piece.left {n : Nat} {a b : List AV} (h : Piece ρ n (a ++ b)) : Piece ρ n a := fun i v hv => h i v (by rw [List.getElem?_append_left (List.getElem?_eq_some_iff.1 hv).1]; exact hv)
theorem Piece.right {n : Nat} {a b : List AV} (h : Piece ρ n (a ++ b)) : Piece ρ (n + a.length) b := fun i v hv => by
  have := h (a.length + i) v (by rw [List.getElem?_append_right (by omega)]; simpa using hv)
  rw [Nat.add_assoc]; exact this
/-- entries from k on -/
def Maps (β : Mp) (k : Nat) (bs : List BI) : Prop := ∀ (j : Nat) b, bs[j]? = some b → β (k + j) = some b
theorem Maps.left {k : Nat} {a b : List BI} (h : Maps β k (a ++ b)) : Maps β k a := fun i v hv => h i v (by rw [List.getElem?_append_left (List.getElem?_eq_some_iff.1 hv).1]; exact hv)
theorem Maps.right {k : Nat} {a b : List BI} (h : Maps β k (a ++ b)) : Maps β (k + a.length) b := fun i v hv => by
  have := h (a.length + i) v (by rw [List.getElem?_append_right (by omega)]; simpa using hv)
  rw [Nat.add_assoc]; exact this
/-- what is claimed of new entries -/
def EOks (ρ : List AV) (w : World) (es : List HE) (bs : List BI) : Prop := ∀ (j : Nat) e b, es[j]? = some e → bs[j]? = some b → ∀ g β W, EOk ρ β W w b (guarded g e)
theorem EOks.append {es es' : List HE} {bs bs' : List BI} (hl : es.length = bs.length) (h : EOks ρ w es bs) (k : EOks ρ w es' bs') : EOks ρ w (es ++ es') (bs ++ bs') := by
  intro j e b he hb
  rw [List.getElem?_append] at he hb
  split at he
  · rw [if_pos (by omega)] at hb
    exact h j e b he hb
  · rw [if_neg (by omega)] at hb
    rw [hl] at he
    exact k _ e b he hb
structure OutOk (ρ : List AV) (w : World) (N n k : Nat) (cs : List Sc) (es : List HE) (ks : List VK) (vs : List Value) (l : List AV) (os : List Nat) (bs : List BI) : Prop where
  len : l.length = ks.length
  fix : fixL ks l = l
  elen : es.length = bs.length
  news : News w N bs os
  oks : EOks ρ w es bs
  rel : ∀ β, Maps β k bs → RelL (Sc.rel ρ β) cs vs
theorem outOf_sound {N : Nat} : ∀ {hs : List Sh0} {vs : List Value} {l : List AV} {os : List Nat} (n k : Nat), GvL N w hs vs l os → Piece ρ n l → ∃ bs, OutOk ρ w N n k (outOf n k hs).1 (outOf n k hs).2.1 (outOf n k hs).2.2 vs l os bs
  | [], [], l, os, n, k, h, _ => by
    obtain ⟨rfl, rfl⟩ := h
    exact ⟨[], rfl, rfl, rfl, News.nil _ _, fun j e b he => by simp [outOf] at he, fun _ _ => trivial⟩
  | hd :: hs, v :: vs, l, os, n, k, h, hp => by
    obtain ⟨a, b, o1, o2, rfl, rfl, h1, h2⟩ := h
    cases hd with
    | int kd =>
      obtain ⟨z, rfl, rfl, rfl⟩ := h1
      obtain ⟨bs, q⟩ := outOf_sound (n + 1) k h2 hp.right
      refine ⟨bs, by simp [outOf, q.len], by simp [outOf, fixL, VK.fix, AV.int, q.fix], q.elen, q.news, q.oks, fun β hm => ⟨?_, q.rel β hm⟩⟩
      show Value.int kd z = Value.int kd _
      have := hp 0 (.i z) rfl
      simp only [X.I, X.den]
      rw [Nat.add_zero] at this
      rw [this]; rfl
    | bool =>
      obtain ⟨p, rfl, rfl, rfl⟩ := h1
      obtain ⟨bs, q⟩ := outOf_sound (n + 1) k h2 hp.right
      refine ⟨bs, by simp [outOf, q.len], by simp [outOf, fixL, VK.fix, AV.bool, q.fix], q.elen, q.news, q.oks, fun β hm => ⟨?_, q.rel β hm⟩⟩
      show Value.bool p = Value.bool _
      have := hp 0 (.b p) rfl
      simp only [X.B, X.den]
      rw [Nat.add_zero] at this
      rw [this]; rfl
    | slc sh =>
      obtain ⟨q0, m, c, f, rfl, hmc, hcm, hq, rfl, hown⟩ := h1
      obtain ⟨bs, q⟩ := outOf_sound (n + 2) (k + 1) h2 hp.right
      have e1 : ρ.getD n (.i 0) = .a f := hp 0 _ rfl
      have e2 : ρ.getD (n + 1) (.i 0) = .i (m : Int) := hp 1 _ rfl
      have i1 : (X.var (n + 1)).I ρ = m := by simp only [X.I, X.den, e2, AV.int]
      have f1 : ((X.var n).den ρ).fn = f := by simp only [X.den, e1, AV.fn]
      let b0 : BI := ⟨⟨q0, c, sh.length, fun _ => none, fun _ => 0⟩, match o1 with | [] => none | r :: _ => some r⟩
      have hnews : News w N [b0] o1 := by
        rcases hown with ⟨_, _, rfl⟩ | ⟨r, _, hr1, hr2, rfl, _⟩
        · exact ⟨fun j b r hb ho => by cases j with | zero => simp at hb; subst hb; cases ho | succ j => simp at hb, fun _ j j' b b' r hb hb' _ _ => by cases j <;> cases j' <;> simp at hb hb' ⊢, fun r h => by cases h⟩
        · refine ⟨fun j b r' hb ho => ?_, fun _ j j' b b' r hb hb' _ _ => by cases j <;> cases j' <;> simp at hb hb' ⊢, fun r' h => by simp at h; subst h; exact ⟨hr1, hr2⟩⟩
          cases j with
          | zero =>
            simp at hb
            subst hb
            have := Option.some.inj (show some r = some r' from ho)
            subst this
            exact List.mem_singleton.2 rfl
          | succ j => simp at hb
      refine ⟨b0 :: bs, by simp [outOf, q.len], by simp [outOf, fixL, VK.fix, AV.int, AV.fn, q.fix], by simp [outOf, q.elen], hnews.append q.news, ?_, fun β hm => ⟨?_, q.rel β (Maps.right (a := [b0]) hm)⟩⟩
      · refine EOks.append (es := [_]) (bs := [b0]) rfl (fun j e b he hb g β W => ?_) q.oks
        cases j with
        | succ j => simp at he
        | zero =>
          simp at he hb
          subst he hb
          intro _
          refine ⟨by rw [i1]; omega, fun h => hq h, rfl, ?_⟩
          rcases hown with ⟨hm0, hc0, rfl⟩ | ⟨r, hr0, hr1, hr2, rfl, hcell, hval⟩
          · exact .inl ⟨by rw [i1, hm0]; rfl, hc0, rfl⟩
          · refine .inr (.inr ⟨⟨r, 0, none⟩, hr0, ⟨hr2, fun _ => ⟨rfl, rfl, fun j hj => hcell j hj⟩, fun h => by cases h⟩, by rw [i1]; simpa using hmc, fun i f' kk i0 i1' hk => ?_⟩)
            rw [i1] at i1'
            rw [add0, f1]
            exact hval i f' kk i0 i1' hk
      · refine ⟨q0, c, q0, c, ?_, by rw [i1]; simp, by rw [lit_I]; exact Int.le_refl _, by rw [i1]; omega, by rw [i1]; simpa using hmc, hcm, hq, .inr ?_, by rw [lit_I]; simp, by simp, by rw [lit_I]; simp⟩
        · have := hm 0 b0 rfl
          simp only [SB.at]
          rw [Nat.add_zero] at this
          rw [this]; rfl
        · rw [lit_I]; cases q0 <;> simp [Addr.add]
    | mat sh => exact h1.elim
  | [], _ :: _, _, _, _, _, h, _ => h.elim
  | _ :: _, [], _, _, _, _, h, _ => h.elim
theorem outsL_sound {N : Nat} : ∀ {hs : List Sh} {vs : List Value} {l : List AV} {os : List Nat} (n k : Nat), GvA N w hs vs l os → Piece ρ n l →
    ∃ bs, l.length = (outsL n k hs).2.2.length ∧ fixL (outsL n k hs).2.2 l = l ∧ (outsL n k hs).2.1.length = bs.length ∧ News w N bs os ∧ EOks ρ w (outsL n k hs).2.1 bs ∧ ∀ β, Maps β k bs → RelL (V1.rel ρ β) (outsL n k hs).1 vs
  | [], [], l, os, n, k, h, _ => by
    obtain ⟨rfl, rfl⟩ := h
    exact ⟨[], rfl, rfl, rfl, News.nil _ _, fun j e b he => by simp [outsL] at he, fun _ _ => trivial⟩
  | hd :: hs, v :: vs, l, os, n, k, h, hp => by
    obtain ⟨a, b, o1, o2, rfl, rfl, h1, h2⟩ := h
    have key : ∃ bs, ∃ us, OutOk ρ w N n k (outOf n k hd.l).1 (outOf n k hd.l).2.1 (outOf n k hd.l).2.2 us a o1 bs ∧ ∀ β, RelL (Sc.rel ρ β) (outOf n k hd.l).1 us → (v1Sh hd.agg (outOf n k hd.l).1).rel ρ β v := by
      unfold GvV at h1
      split at h1
      · rename_i hag
        obtain ⟨us, rfl, hg⟩ := h1
        obtain ⟨bs, q⟩ := outOf_sound n k hg hp.left
        exact ⟨bs, us, q, fun β hr => by rw [show hd.agg = true from hag]; exact ⟨us, rfl, hr⟩⟩
      · rename_i hag
        obtain ⟨x, hx, hg⟩ := h1
        obtain ⟨bs, q⟩ := outOf_sound n k hg hp.left
        refine ⟨bs, [v], q, fun β hr => ?_⟩
        rw [Bool.eq_false_iff.2 hag]
        cases hc : (outOf n k hd.l).1 with
        | nil => rw [hc] at hr; exact hr.elim
        | cons c cs =>
          rw [hc] at hr
          cases cs with
          | nil => exact hr.1
          | cons _ _ => exact hr.2.elim
    obtain ⟨bs, us, q, hv⟩ := key
    obtain ⟨bs', q1, q2, q3, q4, q5, q6⟩ := outsL_sound (n + (outOf n k hd.l).2.2.length) (k + (outOf n k hd.l).2.1.length) h2 (by rw [← q.len]; exact hp.right)
    refine ⟨bs ++ bs', by simp [outsL, q.len, q1], ?_, by simp only [outsL, List.length_append, q3]; rw [q.elen], q.news.append q4, EOks.append q.elen q.oks q5, fun β hm => ⟨hv β (q.rel β hm.left), q6 β (by rw [q.elen]; exact hm.right)⟩⟩
    simp only [outsL]
    rw [fixL_append _ _ _ _ q.len, q.fix, q2]
  | [], _ :: _, _, _, _, _, h, _ => h.elim
  | _ :: _, [], _, _, _, _, h, _ => h.elim
theorem outOf_len : ∀ (hs : List Sh0) (n k : Nat), (outOf n k hs).2.1.length = (outOf 0 0 hs).2.1.length ∧ (outOf n k hs).2.2 = (outOf 0 0 hs).2.2
  | [], _, _ => ⟨rfl, rfl⟩
  | .int kd :: l, n, k => by
    have a := outOf_len l (n + 1) k; have b := outOf_len l (0 + 1) 0
    simp [outOf, a.1, b.1, a.2, b.2]
  | .bool :: l, n, k => by
    have a := outOf_len l (n + 1) k; have b := outOf_len l (0 + 1) 0
    simp [outOf, a.1, b.1, a.2, b.2]
  | .slc sh :: l, n, k => by
    have a := outOf_len l (n + 2) (k + 1); have b := outOf_len l (0 + 2) (0 + 1)
    simp [outOf, a.1, b.1, a.2, b.2]
  | .mat sh :: l, n, k => by
    have a := outOf_len l (n + 2) (k + 1); have b := outOf_len l (0 + 2) (0 + 1)
    simp [outOf, a.1, b.1, a.2, b.2]
/-- entries from k on -/
def app (β : Mp) (k : Nat) (bs : List BI) : Mp := fun j => if j < k then β j else bs[j - k]?
theorem app_maps (β : Mp) (k : Nat) (bs : List BI) : Maps (app β k bs) k bs := fun j b hb => by
  simp only [app]; rw [if_neg (by omega)]; rw [← hb]; congr 1; omega
theorem app_ext {k : Nat} (bs : List BI) (h : ∀ j, k ≤ j → β j = none) : Ext β (app β k bs) := fun j b hb => by
  have : j < k := by
    rcases Nat.lt_or_ge j k with h' | h'
    · exact h'
    · rw [h j h'] at hb; cases hb
  exact ⟨b, by simp only [app]; rw [if_pos this]; exact hb, rfl⟩
/-- more entries -/
theorem Mem.many {s : S} (m : Mem C B w0 ρ β W s w) {es : List HE} {bs : List BI} {os : List Nat} (hb : Below w.heap.size w w') (hl : es.length = bs.length) (hn : News w' w.heap.size bs os) (hd : os.Nodup)
    (he : ∀ (j : Nat) e b, es[j]? = some e → bs[j]? = some b → EOk ρ (app β s.heap.length bs) (fun r => W r ∨ r ∈ os) w' b e) :
    Mem C B w0 ρ (app β s.heap.length bs) (fun r => W r ∨ r ∈ os) { s with heap := s.heap ++ es } w' := by
  have hx := app_ext (β := β) bs m.top
  have lt : ∀ j b, β j = some b → j < s.heap.length := fun j b h => by
    rcases Nat.lt_or_ge j s.heap.length with h' | h'
    · exact h'
    · rw [m.top j h'] at h; cases h
  refine ⟨⟨m.below.trans (hb.mono m.size), Nat.le_trans m.size hb.size, fun r hr => ?_, fun k e b hk hb' => ?_, fun k k' b1 b2 r h1 h2 o1 o2 => ?_, fun k b r h1 o1 => ?_, fun g k hg => ?_⟩, fun k hk => ?_, fun k hk => ?_, m.facts, m.kt⟩
  · rcases hr with hr | hr
    · have := m.wlo r hr; have := hb.size; omega
    · have := hn.lo r hr; have := m.size; omega
  · by_cases h : k < s.heap.length
    · simp only [app, if_pos h] at hb'
      have hk' : s.heap[k]? = some e := by simpa [S.H, List.getElem?_append_left h] using hk
      exact (m.heap k e b hk' hb').below hb (fun r hr => by rcases hr with hr | hr; exact .inl hr; exact .inr (hn.lo r hr).1) hx
    · simp only [app, if_neg h] at hb'
      refine he (k - s.heap.length) e b ?_ hb'
      simpa [S.H, List.getElem?_append_right (Nat.le_of_not_lt h)] using hk
  · by_cases e1 : k < s.heap.length
    · simp only [app, if_pos e1] at h1
      by_cases e2 : k' < s.heap.length
      · simp only [app, if_pos e2] at h2
        exact m.dist k k' b1 b2 r h1 h2 o1 o2
      · simp only [app, if_neg e2] at h2
        have := m.wlo r (m.own k b1 r h1 o1)
        have := (hn.lo r (hn.own _ _ _ h2 o2)).1
        omega
    · simp only [app, if_neg e1] at h1
      by_cases e2 : k' < s.heap.length
      · simp only [app, if_pos e2] at h2
        have := m.wlo r (m.own k' b2 r h2 o2)
        have := (hn.lo r (hn.own _ _ _ h1 o1)).1
        omega
      · simp only [app, if_neg e2] at h2
        have := hn.dist hd _ _ _ _ _ h1 h2 o1 o2
        omega
  · by_cases e1 : k < s.heap.length
    · simp only [app, if_pos e1] at h1
      exact .inl (m.own k b r h1 o1)
    · simp only [app, if_neg e1] at h1
      exact .inr (hn.own _ _ _ h1 o1)
  · obtain ⟨b1, h1, h2⟩ := m.glob g k hg
    obtain ⟨b2, h3, h4⟩ := hx k b1 h1
    exact ⟨b2, h3, by rw [h4]; exact h2⟩
  · by_cases h : k < s.heap.length
    · obtain ⟨b, hb'⟩ := m.all k h
      exact ⟨b, by simp only [app, if_pos h]; exact hb'⟩
    · simp only [List.length_append] at hk
      exact ⟨bs[k - s.heap.length]'(by omega), by simp only [app, if_neg h]; exact List.getElem?_eq_getElem _⟩
  · simp only [List.length_append] at hk
    simp only [app]
    rw [if_neg (by omega)]
    exact List.getElem?_eq_none (by omega)
end
end Go.Proofs.Ytiiabaklipmbbaa.Vc
