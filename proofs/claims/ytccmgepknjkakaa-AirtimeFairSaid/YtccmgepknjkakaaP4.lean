/- Serving queues: what is left to show of Great, SameInts and Run. -/
import Derived.Test.YtccmgepknjkakaaP2
import Derived.Test.YtccmgepknjkakaaC4
namespace Go.Proofs.Ytccmgepknjkakaa
open Go Go.RowKit Go.Proofs.Ytccmgepknjkakaa.Vc
theorem vc10 : VC10 := by
  intro l f m hp hm hM
  have e : grA l f m = decide (40 < m ∨ 300 < sumI l m) := rfl
  refine ⟨fun h => ⟨by rw [e]; simp [h], trivial⟩, fun h => ?_⟩
  refine ⟨fun s i => 0 ≤ i ∧ i ≤ m ∧ s = sumI l i ∧ 0 ≤ s ∧ s ≤ i * 140737488351232, fun _ i => (m - i).toNat, ⟨by omega, by omega, rfl, by omega, by omega⟩, ?_⟩
  rintro s i ⟨i0, i1, hs, s0, s1⟩
  refine ⟨fun h1 => ?_, fun h1 => ?_⟩
  · have hl := hp.h i i0 h1
    refine ⟨i0, fun _ => ⟨by omega, fun _ => ⟨by omega, fun _ => ⟨⟨by omega, by omega, by rw [sumI_succ i0, hs], by omega, by omega⟩, by dsimp only; omega⟩⟩⟩⟩
  · obtain rfl : i = m := by omega
    subst hs
    exact ⟨by rw [e]; simp [h], trivial⟩
theorem vc13 : VC13 := by
  intro a n b m
  have e : siA a n b m = (decide (n = m) && allI (eq1 a b) n) := rfl
  (repeat' (first | exact True.intro | apply And.intro | intro _)) <;> (try (subst_vars; grind []))
  refine ⟨fun i => 0 ≤ i ∧ i ≤ n ∧ allI (eq1 a b) i = true, fun i => (n - i).toNat, by grind [allI_zero], ?_⟩
  intro i hi
  have d1 := @allI_at (eq1 a b) n i
  have d2 := @allI_succ (eq1 a b) i
  have d3 : eq1 a b i = decide (a i 0 = b i 0) := rfl
  (repeat' (first | exact True.intro | apply And.intro | intro _)) <;> (try (subst_vars; grind []))
/-- rows that are no airtimes -/
theorem row_bad {l : Int → Int} {f : Int → Int → Nat → Int} {m i j : Int} (i0 : 0 ≤ i) (i1 : i < m) (j0 : 0 ≤ j) (j1 : j < l i) (h : f i j 0 < 1 ∨ 32767 < f i j 0) : ¬ allI (rowOk l f) m = true := by
  intro hh
  have h5 : rowOk l f i = true := allI_at hh i0 i1
  have h6 : 1 ≤ f i j 0 ∧ f i j 0 ≤ 32767 := of_decide_eq_true (allI_at (p := rowB f i) h5 j0 j1)
  omega
theorem ruE_2 {a : Int → Nat → Int} {n t : Int} {l : Int → Int} {f : Int → Int → Nat → Int} {m : Int} (hc : ckA a n t = 0) (h : ¬ (m = n ∧ allI (rowOk l f) m = true ∧ sumI (nmL l m) m ≤ 10000)) : ruE a n t l f m = 2 := by
  unfold ruE; rw [if_pos hc, if_neg h]
theorem ruE_0 {a : Int → Nat → Int} {n t : Int} {l : Int → Int} {f : Int → Int → Nat → Int} {m : Int} (hc : ckA a n t = 0) (h : m = n ∧ allI (rowOk l f) m = true ∧ sumI (nmL l m) m ≤ 10000) : ruE a n t l f m = 0 := by
  unfold ruE; rw [if_pos hc, if_pos h]
theorem ruE_8 {a : Int → Nat → Int} {n t : Int} {l : Int → Int} {f : Int → Int → Nat → Int} {m : Int} (hc : ¬ ckA a n t = 0) : ruE a n t l f m = 8 := by
  unfold ruE; rw [if_neg hc]
theorem ru_none {a : Int → Nat → Int} {n t : Int} {l : Int → Int} {f : Int → Int → Nat → Int} {m e : Int} (he : ruE a n t l f m = e) (h : ¬ e = 0) : (0 : Int) = ruK a n t l f m ∧ (∀ (i : Int) (g : Nat), 0 ≤ i → i < ruK a n t l f m → g < 1 → zA i g = ruO a n t l f m i g) ∧ (0 : Int) = ruN a n t l f m n ∧ (∀ (i : Int) (g : Nat), 0 ≤ i → i < ruN a n t l f m n → g < 2 → zA i g = ruA a n t l f m i g) ∧ (0 : Int) = ruT a n t l f m ∧ e = ruE a n t l f m ∧ True := by
  have e1 : ruK a n t l f m = 0 := by unfold ruK; rw [he, if_neg h]
  have e2 : ruN a n t l f m n = 0 := by unfold ruN; rw [he, if_neg h]
  have e3 : ruT a n t l f m = 0 := by unfold ruT; rw [he, if_neg h]
  rw [e1, e2, e3, he]
  exact ⟨rfl, fun i g i0 i1 => by omega, rfl, fun i g i0 i1 => by omega, rfl, rfl, trivial⟩
theorem ru_done {a : Int → Nat → Int} {n t : Int} {l : Int → Int} {f : Int → Int → Nat → Int} {m : Int} (he : ruE a n t l f m = 0) {s : RS} (hr : rn a n t l f m = s) {k : Int} {x O : Int → Nat → Int} {u c : Int} (hk : k = n) (hx : x = s.a) (hu : u = s.t) (hc : c = s.cnt) (hO : ∀ i, 0 ≤ i → i < c → O i 0 = s.ord i) :
    c = ruK a n t l f m ∧ (∀ (i : Int) (g : Nat), 0 ≤ i → i < ruK a n t l f m → g < 1 → O i g = ruO a n t l f m i g) ∧ k = ruN a n t l f m n ∧ (∀ (i : Int) (g : Nat), 0 ≤ i → i < ruN a n t l f m n → g < 2 → x i g = ruA a n t l f m i g) ∧ u = ruT a n t l f m ∧ (0 : Int) = ruE a n t l f m ∧ True := by
  have e1 : ruK a n t l f m = s.cnt := by unfold ruK; rw [he, if_pos rfl, hr]
  have e2 : ruN a n t l f m n = n := by unfold ruN; rw [he, if_pos rfl]
  have e3 : ruT a n t l f m = s.t := by unfold ruT; rw [he, if_pos rfl, hr]
  have e4 : ruA a n t l f m = s.a := by unfold ruA; rw [hr]
  have e5 : ∀ i g, ruO a n t l f m i g = s.ord i := fun i g => by unfold ruO; rw [hr]
  rw [e1, e2, e3, e4, he]
  refine ⟨hc, fun i g i0 i1 hg => ?_, hk, fun i g _ _ _ => by rw [hx], hu, rfl, trivial⟩
  obtain rfl : g = 0 := by omega
  rw [e5]; exact hO i i0 (by omega)
/-- what is kept of the rest of the rows -/
structure Rst (n : Int) (l L : Int → Int) (f F : Int → Int → Nat → Int) (s : RS) : Prop where
  hl : ∀ i, 0 ≤ i → i < n → L i = l i - s.hd i
  hf : ∀ i, 0 ≤ i → i < n → ∀ j, F i j 0 = f i (j + s.hd i) 0
theorem Rst.serve {n : Int} {l L : Int → Int} {f F : Int → Int → Nat → Int} {s : RS} (h : Rst n l L f F s) (t0 : 0 ≤ s.t) (t1 : s.t < n) {f2 : Int → Int → Int} : Rst n l (srL L s.t (L s.t - 1)) f (srF F s.t (shA (rowA F s.t) 1)) (rV f2 s) := by
  refine ⟨fun i i0 i1 => ?_, fun i i0 i1 j => ?_⟩
  · show (if i = s.t then L s.t - 1 else L i) = l i - upI s.hd s.t (s.hd s.t + 1) i
    split
    · rename_i h1; subst h1; rw [upI_eq, h.hl _ t0 t1]; omega
    · rename_i h1; rw [upI_ne h1, h.hl i i0 i1]
  · show srF F s.t (shA (rowA F s.t) 1) i j 0 = f i (j + upI s.hd s.t (s.hd s.t + 1) i) 0
    unfold srF
    split
    · rename_i h1; subst h1
      rw [upI_eq]
      show F s.t (j + 1) 0 = _
      rw [h.hf _ t0 t1]
      rw [show j + 1 + s.hd s.t = j + (s.hd s.t + 1) by omega]
    · rename_i h1; rw [upI_ne h1, h.hf i i0 i1]
theorem ord_serve {s : RS} {f2 : Int → Int → Int} {O : Int → Nat → Int} {c u : Int} (hc : c = s.cnt) (hu : u = s.t) (hO : ∀ i, 0 ≤ i → i < c → O i 0 = s.ord i) : ∀ i, 0 ≤ i → i < c + 1 → appA O c (setA zA 0 0 u) i 0 = (rV f2 s).ord i := by
  intro i i0 i1
  show appA O c (setA zA 0 0 u) i 0 = upI s.ord s.cnt s.t i
  subst hc hu
  unfold appA
  split
  · rw [upI_ne (by omega), hO i i0 (by omega)]
  · obtain rfl : i = s.cnt := by omega
    rw [upI_eq, Int.sub_self]; simp [setA]
theorem vc11 : VC11 := by
  intro a n t l f m hp hn hm
  obtain ⟨hm40, hp⟩ := hp
  refine ⟨trivial, ?_⟩
  rintro e he hN hM
  have o8 := ckA_08 a n t
  refine ⟨fun h1 => ?_, fun h1 => ?_⟩
  · have h2 : ¬ ckA a n t = 0 := by omega
    have h3 : e = 8 := by omega
    subst h3
    exact ru_none (ruE_8 h2) (by omega)
  have hc : ckA a n t = 0 := by omega
  obtain ⟨c1, c2, c3, c4, c5⟩ := ckA_ok hc
  have hsum : ∀ i, 0 ≤ i → i ≤ m → 0 ≤ sumI l i ∧ sumI l i ≤ i * 140737488351232 := fun i i0 i1 => sumI_bd i0 fun j j0 j1 => hp.h j j0 (by omega)
  refine ⟨fun i s => 0 ≤ i ∧ i ≤ m ∧ s = sumI l i ∧ allI (rowOk l f) i = true, fun i _ => (m - i).toNat, ⟨by omega, by omega, rfl, rfl⟩, ?_⟩
  rintro i s ⟨i0, i1, rfl, hok⟩
  have hsi := hsum i i0 i1
  refine ⟨fun h2 => ?_, fun h2 => ?_⟩
  · have hl := hp.h i i0 h2
    refine ⟨i0, fun _ => ⟨by omega, fun _ => ?_⟩⟩
    refine ⟨fun j => 0 ≤ j ∧ j ≤ l i ∧ allI (rowB f i) j = true, fun j => (l i - j).toNat, ⟨by omega, by omega, rfl⟩, ?_⟩
    rintro j ⟨j0, j1, hj⟩
    intro _ _
    refine ⟨fun h3 => ⟨j0, fun _ => ⟨fun h4 => ?_, fun h4 => ?_⟩⟩, fun h3 => ?_⟩
    · exact ru_none (ruE_2 hc fun hh => row_bad i0 h2 j0 h3 h4 hh.2.1) (by omega)
    · refine ⟨by omega, fun _ => ⟨⟨by omega, by omega, ?_⟩, by dsimp only; omega⟩⟩
      rw [allI_succ j0, hj, Bool.true_and]
      have h4' : ¬ (f i j 0 < 1 ∨ 32767 < f i j 0) := h4
      unfold rowB
      exact decide_eq_true (by omega)
    · obtain rfl : j = l i := by omega
      refine ⟨by omega, fun _ => ⟨⟨by omega, by omega, (sumI_succ i0).symm, ?_⟩, by dsimp only; omega⟩⟩
      rw [allI_succ i0, hok, Bool.true_and]
      exact hj
  obtain rfl : i = m := by omega
  have hs : sumI (nmL l i) i = sumI l i := sumI_congr fun j j0 j1 => nmL_at j0 j1
  refine ⟨fun h3 => ?_, fun h3 => ?_⟩
  · exact ru_none (ruE_2 hc fun hh => by rw [hs] at hh; omega) (by omega)
  obtain rfl : i = n := by omega
  have hE : ruE a i t l f i = 0 := ruE_0 hc ⟨rfl, hok, by omega⟩
  obtain ⟨_, _, _, F, I⟩ := ruE_ok (fun j j0 j1 => (hp.h j j0 j1).1) hE
  refine ⟨by omega, ?_⟩
  rintro a n rfl rfl hn2 _ nb hnb
  refine ⟨fun hb => absurd hb (by intro hb; rcases hnb with h | h; exact h hb; omega), fun _ => ?_⟩
  refine ⟨by omega, fun _ => ⟨by omega, fun _ => ?_⟩⟩
  have hRI : ∀ s, Rch (rS n (nmL l n) (nmF f n)) (rD (sumI (nmL l n) n)) (rs0 a t) s → RI n (nmL l n) s := fun s h => h.keeps (P := RI n (nmL l n)) (fun s hs hd => (rs_step F s hs hd).1) I
  refine ⟨fun x u L G k O c left => ∃ s : RS, Rch (rS n (nmL l n) (nmF f n)) (rD (sumI (nmL l n) n)) (rs0 a t) s ∧ x = s.a ∧ u = s.t ∧ k = n ∧ Rst n l L f G s ∧ c = s.cnt ∧ (∀ i, 0 ≤ i → i < c → O i 0 = s.ord i) ∧ left = sumI l n - s.cnt, fun _ _ _ _ _ _ _ left => left.toNat, ⟨rs0 a t, Rch.refl _, rfl, rfl, rfl, ⟨fun i _ _ => by show l i = l i - 0; omega, fun i _ _ j => by show f i j 0 = f i (j + 0) 0; rw [Int.add_zero]⟩, rfl, fun i i0 i1 => by omega, by show _ = _ - 0; omega⟩, ?_⟩
  rintro x u L G k O c left ⟨s, hR, rfl, rfl, rfl, hst, hcc, hO, rfl⟩ _ _ hcc0 _
  have hI := hRI s hR
  refine ⟨fun hl => ?_, fun hl => ?_⟩
  · have hd0 : rD (sumI (nmL l k) k) s = false := by unfold rD; rw [hs]; simp; omega
    refine ⟨fun y v => ∃ s' : RS, Rch (rS k (nmL l k) (nmF f k)) (rD (sumI (nmL l k) k)) (rs0 a t) s' ∧ y = s'.a ∧ v = s'.t ∧ s'.hd = s.hd ∧ s'.ord = s.ord ∧ s'.cnt = s.cnt, fun y v => pM k (fb k (rB (nmL l k) s)) (y, v), ⟨s, hR, rfl, rfl, rfl, rfl, rfl⟩, ?_⟩
    rintro y v ⟨s', hR', rfl, rfl, h5, h6, h7⟩
    have hI' := hRI s' hR'
    have hd' : rD (sumI (nmL l k) k) s' = false := by unfold rD at hd0 ⊢; rw [h7]; exact hd0
    have t0 := hI'.t0
    have t1 := hI'.t1
    have kk := hI'.ok.h s'.t t0 t1
    have hh := hI'.h s'.t t0 t1
    rw [nmL_at t0 t1] at hh
    have hLt : L s'.t = l s'.t - s'.hd s'.t := by rw [hst.hl _ t0 t1, h5]
    have hrb : rB (nmL l k) s' s'.t = decide (0 < L s'.t) := by unfold rB; rw [nmL_at t0 t1, hLt]; simp
    have hpb : fb k (rB (nmL l k) s) = fb k (rB (nmL l k) s') := by unfold rB; rw [h5]
    have hlt := hp.h s'.t t0 t1
    have hcnt : s.cnt ≤ 10000 := by omega
    have hgo : ¬ cho (rB (nmL l k) s' s'.t) s'.a s'.t = true → ∀ z w, z = stA (rB (nmL l k) s' s'.t) s'.a s'.t → w = stT (rB (nmL l k) s' s'.t) s'.a k s'.t → (∃ s'' : RS, Rch (rS k (nmL l k) (nmF f k)) (rD (sumI (nmL l k) k)) (rs0 a t) s'' ∧ z = s''.a ∧ w = s''.t ∧ s''.hd = s.hd ∧ s''.ord = s.ord ∧ s''.cnt = s.cnt) ∧ pM k (fb k (rB (nmL l k) s)) (z, w) < pM k (fb k (rB (nmL l k) s)) (s'.a, s'.t) := by
      rintro hch z w rfl rfl
      refine ⟨⟨rW k (nmL l k) s', ?_, rfl, rfl, h5, h6, h7⟩, ?_⟩
      · have := hR'.tail hd'
        unfold rS at this
        rw [if_neg hch] at this
        exact this
      · rw [hpb]; exact rW_lt F hI' hd' hch
    refine ⟨t0, fun _ => ⟨t1, fun _ => ⟨t1, fun _ => ⟨fun h8 => ?_, fun h8 => ⟨fun h9 => ?_, fun h9 => ?_⟩⟩⟩⟩⟩
    · have hb : rB (nmL l k) s' s'.t = false := by rw [hrb]; simp; omega
      have hch : ¬ cho (rB (nmL l k) s' s'.t) s'.a s'.t = true := by rw [hb]; simp [cho]
      exact ⟨by omega, fun _ => ⟨by omega, fun _ => hgo hch _ _ (min_st (p := rB (nmL l k) s') hb) (next_st (p := rB (nmL l k) s') t0 t1 (by simpa using hch))⟩⟩
    · have hb : rB (nmL l k) s' s'.t = true := by rw [hrb]; simp; omega
      have hch : cho (rB (nmL l k) s' s'.t) s'.a s'.t = true := cho_iff.2 ⟨hb, h9⟩
      have hfr := F.fr s'.t (s'.hd s'.t) t0 t1 hh.1 (by rw [nmL_at t0 t1]; omega)
      have hG : rowA G s'.t 0 0 = nmF f k s'.t (s'.hd s'.t) := by
        show G s'.t 0 0 = _
        rw [hst.hf _ t0 t1, nmF_at t0 t1, h5, Int.zero_add]
      rw [hG]
      refine ⟨by omega, fun _ _ _ => ⟨by omega, fun _ => ⟨by omega, fun _ => ⟨by omega, fun _ => ⟨by omega, fun _ => ⟨by omega, fun _ => ⟨by omega, fun _ => ⟨⟨rV (nmF f k) s', ?_, rfl, rfl, rfl, ?_, ?_, ?_, ?_⟩, ?_⟩⟩⟩⟩⟩⟩⟩⟩
      · have := hR'.tail hd'
        unfold rS at this
        rw [if_pos hch] at this
        exact this
      · have hst' : Rst k l L f G s' := ⟨fun i i0 i1 => by rw [h5]; exact hst.hl i i0 i1, fun i i0 i1 j => by rw [h5]; exact hst.hf i i0 i1 j⟩
        exact hst'.serve t0 t1
      · show _ = s'.cnt + 1; omega
      · exact ord_serve (by omega) rfl (fun i i0 i1 => by rw [h6]; exact hO i i0 i1)
      · show _ = _ - (s'.cnt + 1); omega
      · dsimp only; omega
    · have hb : rB (nmL l k) s' s'.t = true := by rw [hrb]; simp; omega
      have hch : ¬ cho (rB (nmL l k) s' s'.t) s'.a s'.t = true := by
        have := (cho_no (b := rB (nmL l k) s' s'.t) (a := s'.a) (t := s'.t)).2 (fun h => h9 h.2)
        rw [this]; simp
      exact ⟨by omega, fun _ => ⟨by omega, fun _ => ⟨by omega, fun _ => ⟨by omega, fun _ => hgo hch _ _ (add_st (p := rB (nmL l k) s') hb h9) (next_st (p := rB (nmL l k) s') t0 t1 (by simpa using hch))⟩⟩⟩⟩
  · have hd : rD (sumI (nmL l k) k) s = true := by unfold rD; rw [hs]; simp; omega
    exact ru_done hE (fin_eq hR hd) rfl rfl rfl hcc hO
end Go.Proofs.Ytccmgepknjkakaa
