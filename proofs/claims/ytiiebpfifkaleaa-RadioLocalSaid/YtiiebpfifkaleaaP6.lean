/- Worlds of radios: the reference, copies and changes: what is left to show. -/
import Derived.Test.YtiiebpfifkaleaaP2
import Derived.Test.YtiiebpfifkaleaaP5
import Derived.Test.YtiiebpfifkaleaaC6
namespace Go.Proofs.Ytiiebpfifkaleaa
open Go Go.RowKit Go.Proofs.Ytiiebpfifkaleaa.Vc
theorem as1 {a : Int → Nat → Int} {n : Int} {l : Int → Int} {f : Int → Int → Nat → Int} {m i : Int} : asW a n l f m (setA zA 0 0 i) 1 = lvE a n l f m i i := by
  have h : allI (fun t => decide (0 ≤ setA zA 0 0 i t 0 ∧ setA zA 0 0 i t 0 < n)) 1 = true ↔ 0 ≤ i ∧ i < n ∧ 0 ≤ i ∧ i < n := by
    have e0 : setA zA 0 0 i 0 0 = i := by simp [setA]
    constructor
    · intro h
      have h0 := allI_at h (i := 0) (by omega) (by omega)
      simp only [e0, decide_eq_true_eq] at h0
      omega
    · intro h
      refine allI_of fun t t0 t1 => ?_
      have : t = 0 := by omega
      subst this
      rw [e0, decide_eq_true_eq]; omega
  unfold asW lvE
  by_cases hc : ckW a n l f m = 0
  · rw [if_pos hc, if_pos hc]
    by_cases h2 : 0 ≤ i ∧ i < n ∧ 0 ≤ i ∧ i < n
    · rw [if_pos (h.2 h2), if_pos h2]
    · rw [if_neg (fun hh => h2 (h.1 hh)), if_neg h2]
  · rw [if_neg hc, if_neg hc]
theorem ck_small {a : Int → Nat → Int} {n : Int} {l : Int → Int} {f : Int → Int → Nat → Int} {m : Int} (h : ckW a n l f m = 0) : smallW n l m := by
  have h1 := ckW_ok h
  refine ⟨by omega, by omega, fun i h0 h2 => ?_⟩
  have := ckW_sh h i 0 h0 h2 (by omega) (by omega)
  omega
theorem vc38 : VC38 := by
  intro x lo hi
  (repeat' (first | exact True.intro | apply And.intro | intro _)) <;> (try (subst_vars; grind [inB]))
theorem vc57 : VC57 := by
  intro x y p c
  (repeat' (first | exact True.intro | apply And.intro | intro _)) <;> (try (subst_vars; grind [inB, okW]))
theorem vc31 : VC31 := by
  intro a n l f m
  have i1 : inB n 1 32 = (decide (1 ≤ n) && decide (n ≤ 32)) := rfl
  (repeat' (first | exact True.intro | apply And.intro | intro _)) <;> (try (subst_vars; grind [ckW]))
  refine ⟨fun i => 0 ≤ i ∧ i ≤ n ∧ allI (okX a) i = true, fun i => (n - i).toNat, by grind [allI_zero], ?_⟩
  intro i hi
  have d1 := @allI_at (okX a) n i
  have d2 := @allI_succ (okX a) i
  have d3 : okX a i = okW (a i 0) (a i 1) (a i 2) (a i 3) := rfl
  have z0 : allI (rowW l f n) 0 = true := rfl
  (repeat' (first | exact True.intro | apply And.intro | intro _)) <;> (try (subst_vars; grind [ckW]))
  clear d1 d2 d3
  refine ⟨fun j => 0 ≤ j ∧ j ≤ m ∧ allI (rowW l f n) j = true, fun j => (m - j).toNat, by grind [allI_zero], ?_⟩
  intro j hj
  have e1 := @allI_at (rowW l f n) m j
  have e2 := @allI_succ (rowW l f n) j
  have e3 : rowW l f n j = (decide (l j = n ∧ f j j 0 = 0) && allI (cellW f j) n) := rfl
  have e4 : rowA f j j 0 = f j j 0 := rfl
  (repeat' (first | exact True.intro | apply And.intro | intro _)) <;> (try (subst_vars; grind [ckW]))
  refine ⟨fun k => 0 ≤ k ∧ k ≤ n ∧ allI (cellW f j) k = true, fun k => (n - k).toNat, by grind [allI_zero], ?_⟩
  intro k hk
  have g1 := @allI_at (cellW f j) n k
  have g2 := @allI_succ (cellW f j) k
  have g3 : cellW f j k = decide (0 ≤ f j k 0 ∧ f j k 0 ≤ 600) := rfl
  have g4 : rowA f j k 0 = f j k 0 := rfl
  have g5 : inB (f j k 0) 0 600 = (decide (0 ≤ f j k 0) && decide (f j k 0 ≤ 600)) := rfl
  (repeat' (first | exact True.intro | apply And.intro | intro _)) <;> (try (subst_vars; grind [ckW]))
theorem vc32 : VC32 := by
  intro a n l f m
  have hc := @ckW_ok a n l f m
  (repeat' (first | exact True.intro | apply And.intro | intro _)) <;> (try (subst_vars; grind [syW]))
  refine ⟨fun i => 0 ≤ i ∧ i ≤ m ∧ allI (syR f n) i = true, fun i => (m - i).toNat, by grind [allI_zero], ?_⟩
  intro i hi
  have d1 := @allI_at (syR f n) m i
  have d2 := @allI_succ (syR f n) i
  have d4 := fun h him => @ckW_sh a n l f m h i 0 hi.1 him
  (repeat' (first | exact True.intro | apply And.intro | intro _)) <;> (try (subst_vars; grind [syW]))
  have hp : ∃ p, p = (fun j => decide (f i j 0 = f j i 0)) := ⟨_, rfl⟩
  obtain ⟨p, hp⟩ := hp
  have d3 : syR f n i = allI p n := by rw [hp]; rfl
  refine ⟨fun j => 0 ≤ j ∧ j ≤ n ∧ allI p j = true, fun j => (n - j).toNat, by grind [allI_zero], ?_⟩
  intro j hj
  have g1 := @allI_at p n j
  have g2 := @allI_succ p j
  have g3 : p j = decide (f i j 0 = f j i 0) := by rw [hp]
  have g4 : rowA f i j 0 = f i j 0 := rfl
  have g5 : rowA f j i 0 = f j i 0 := rfl
  have g6 := fun h hjm => @ckW_sh a n l f m h j 0 hj.1 hjm
  clear hp
  (repeat' (first | exact True.intro | apply And.intro | intro _)) <;> (try (subst_vars; grind [syW]))
theorem vc50 : VC50 := by
  intro a n l f m i j h
  have r1 := ckW_row h.1 i h.2.1 h.2.2.1
  have r3 := fun hm => ckW_sh h.1 i j h.2.1 hm h.2.2.2.1 h.2.2.2.2
  have r4 := ckW_ok h.1
  have r5 := dsW_ok h.1 h.2.1 h.2.2.1 h.2.2.2.1 h.2.2.2.2
  have e : lvA a f m i j = a i 2 - (loss (dsW a i j) + (if 0 < m then f i j 0 else 0)) := rfl
  have e4 : rowA f i j 0 = f i j 0 := rfl
  (repeat' (first | exact True.intro | apply And.intro | intro _)) <;> (try (subst_vars; grind []))
theorem vc44 : VC44 := by
  intro a n l f m i j
  have hc := ckW_08 a n l f m
  have hn := @ckW_ok a n l f m
  have i1 : inB i 0 (n - 1) = (decide (0 ≤ i) && decide (i ≤ n - 1)) := rfl
  have i2 : inB j 0 (n - 1) = (decide (0 ≤ j) && decide (j ≤ n - 1)) := rfl
  (repeat' (first | exact True.intro | apply And.intro | intro _)) <;> (try (subst_vars; grind [lvE]))
theorem vc26 : VC26 := by
  intro a n l f m i j
  have o := @lvE_ok a n l f m i j
  (repeat' (first | exact True.intro | apply And.intro | intro _)) <;> (try (subst_vars; grind [lvV]))
theorem vc51 : VC51 := by
  intro a n l f m j i h
  (repeat' (first | exact True.intro | apply And.intro | intro _)) <;> (try (subst_vars; grind [hrA]))
theorem vc27 : VC27 := by
  intro a n l f m j i
  have o := @lvE_ok a n l f m i j
  have e2 := @lvE_sym a n l f m i j
  (repeat' (first | exact True.intro | apply And.intro | intro _)) <;> (try (subst_vars; grind [hrV]))
theorem vc29 : VC29 := by
  intro a n l f m j
  have o := @lvE_ok a n l f m j j
  have e : nbN a n l f m j = if lvE a n l f m j j = 0 then cntI (fun i => hrA a f m j i) n else 0 := rfl
  have e2 : nbF a n f m j = lstI (fun i => hrA a f m j i) n := rfl
  obtain ⟨p, hp⟩ : ∃ p, p = (fun i => hrA a f m j i) := ⟨_, rfl⟩
  rw [← hp] at e e2
  have hb := fun i h => @cntI_bd p i h
  have hz := @cnt_zero p
  have c := fun h => @ckW_ok a n l f m h
  (repeat' (first | exact True.intro | apply And.intro | intro _)) <;> (try (subst_vars; grind []))
  refine ⟨fun x k i => 0 ≤ i ∧ i ≤ n ∧ x = lstI p i ∧ k = cntI p i, fun _ _ i => (n - i).toNat, by grind, ?_⟩
  intro x k i hi
  have hs := @cnt_succ p i hi.1
  have fin : ¬ i < n → x = nbF a n f m j := fun h => by rw [hi.2.2.1, e2, show i = n by omega]
  have hbi := hb i hi.1
  have hpi : p i = hrA a f m j i := by rw [hp]
  clear hb hp
  (repeat' (first | exact True.intro | apply And.intro | intro _)) <;> (try (subst_vars; grind []))
  all_goals (rw [fin (by assumption)])
theorem vc28 : VC28 := by
  intro a n l f m j
  have o := @lvE_ok a n l f m j j
  have e : nbN a n l f m j = if lvE a n l f m j j = 0 then cntI (fun i => hrA a f m j i) n else 0 := rfl
  have e2 : nbF a n f m j = lstI (fun i => hrA a f m j i) n := rfl
  obtain ⟨p, hp⟩ : ∃ p, p = (fun i => hrA a f m j i) := ⟨_, rfl⟩
  rw [← hp] at e e2
  have hb := fun i h => @cntI_bd p i h
  have hz := @cnt_zero p
  have c := fun h => @ckW_ok a n l f m h
  have e3 := @as1 a n l f m j
  (repeat' (first | exact True.intro | apply And.intro | intro _)) <;> (try (subst_vars; grind []))
  refine ⟨fun i x k => 0 ≤ i ∧ i ≤ n ∧ x = lstI p i ∧ k = cntI p i, fun i _ _ => (n - i).toNat, by grind, ?_⟩
  intro i x k hi
  have hs := @cnt_succ p i hi.1
  have fin : ¬ i < n → x = nbF a n f m j := fun h => by rw [hi.2.2.1, e2, show i = n by omega]
  have hbi := hb i hi.1
  have hpi : p i = hrA a f m j i := by rw [hp]
  clear hb hp
  (repeat' (first | exact True.intro | apply And.intro | intro _)) <;> (try (subst_vars; grind []))
  all_goals (rw [fin (by assumption)])
theorem vc33 : VC33 := by
  intro a n b m
  obtain ⟨p, hp⟩ : ∃ p, p = (fun i => decide (a i 0 = b i 0)) := ⟨_, rfl⟩
  have e : saI a n b m = (decide (n = m) && allI p n) := by rw [hp]; rfl
  (repeat' (first | exact True.intro | apply And.intro | intro _)) <;> (try (subst_vars; grind []))
  refine ⟨fun i => 0 ≤ i ∧ i ≤ n ∧ allI p i = true, fun i => (n - i).toNat, by grind [allI_zero], ?_⟩
  intro i hi
  have d1 := @allI_at p n i
  have d2 := @allI_succ p i
  have d3 : p i = decide (a i 0 = b i 0) := by rw [hp]
  clear hp
  (repeat' (first | exact True.intro | apply And.intro | intro _)) <;> (try (subst_vars; grind []))
theorem vc21 : VC21 := by
  intro a n l f m b n' l' f' m'
  have e : smW a n l f m b n' l' f' m' = (decide (n = n' ∧ m = m') && (allI (sm4 a b) n && allI (smR l f l' f') m)) := rfl
  (repeat' (first | exact True.intro | apply And.intro | intro _)) <;> (try (subst_vars; grind []))
  refine ⟨fun i => 0 ≤ i ∧ i ≤ n ∧ allI (sm4 a b) i = true, fun i => (n - i).toNat, by grind [allI_zero], ?_⟩
  intro i hi
  have d1 := @allI_at (sm4 a b) n i
  have d2 := @allI_succ (sm4 a b) i
  have d3 : sm4 a b i = decide (a i 0 = b i 0 ∧ a i 1 = b i 1 ∧ a i 2 = b i 2 ∧ a i 3 = b i 3) := rfl
  (repeat' (first | exact True.intro | apply And.intro | intro _)) <;> (try (subst_vars; grind []))
  clear d1 d2 d3
  refine ⟨fun i => 0 ≤ i ∧ i ≤ m ∧ allI (smR l f l' f') i = true, fun i => (m - i).toNat, by grind [allI_zero], ?_⟩
  intro j hj
  have d1 := @allI_at (smR l f l' f') m j
  have d2 := @allI_succ (smR l f l' f') j
  have d3 : smR l f l' f' j = saI (rowA f j) (l j) (rowA f' j) (l' j) := rfl
  (repeat' (first | exact True.intro | apply And.intro | intro _)) <;> (try (subst_vars; grind []))
theorem vc16 : VC16 := by
  intro a n l f m hs
  obtain ⟨s1, s2, s3⟩ := hs
  (repeat' (first | exact True.intro | apply And.intro | intro _)) <;> (try (subst_vars; grind []))
  refine ⟨fun l' f' k i => 0 ≤ i ∧ i ≤ m ∧ k = i ∧ (∀ j, 0 ≤ j → j < i → l' j = l j ∧ f' j = f j), fun _ _ _ i => (m - i).toNat, ⟨by omega, by omega, by omega, fun j h0 h1 => by omega⟩, ?_⟩
  rintro l' f' k i ⟨i0, i1, rfl, hi⟩
  have r := s3 k i0
  have u : k < m → ∀ j, 0 ≤ j → j < k + 1 → srL l' k (l k) j = l j ∧ srF f' k (rowA f k) j = f j := by
    intro hk j h0 h1
    unfold srL srF
    by_cases hj : j = k
    · subst hj; rw [if_pos rfl, if_pos rfl]; exact ⟨rfl, rfl⟩
    · rw [if_neg hj, if_neg hj]; exact hi j h0 (by omega)
  repeat' (first | exact True.intro | apply And.intro | intro _)
  all_goals first
    | omega
    | exact u (by omega) _ (by assumption) (by assumption)
    | exact (hi _ (by assumption) (by omega)).1
    | (rw [(hi _ (by assumption) (by omega)).2])
    | grind
theorem vc45 : VC45 := by
  intro a n l f m i x y p c h
  (repeat' (first | exact True.intro | apply And.intro | intro _)) <;> (try (subst_vars; grind [puN, puE]))
  all_goals (subst_vars; rfl)
theorem vc18 : VC18 := by
  intro a n l f m i x y
  have o := @lvE_ok a n l f m i i
  have s := @ck_small a n l f m
  have e : mvE a n l f m i x y (a i 2) (a i 3) = if lvE a n l f m i i = 0 then puE (okW x y (a i 2) (a i 3)) else lvE a n l f m i i := rfl
  (repeat' (first | exact True.intro | apply And.intro | intro _)) <;> (try (subst_vars; grind [mvN, puN, puE]))
theorem vc20 : VC20 := by
  intro a n l f m i c
  have o := @lvE_ok a n l f m i i
  have s := @ck_small a n l f m
  have e : mvE a n l f m i (a i 0) (a i 1) (a i 2) c = if lvE a n l f m i i = 0 then puE (okW (a i 0) (a i 1) (a i 2) c) else lvE a n l f m i i := rfl
  (repeat' (first | exact True.intro | apply And.intro | intro _)) <;> (try (subst_vars; grind [mvN, puN, puE]))
theorem vc60 : VC60 := by
  intro a n h
  (repeat' (first | exact True.intro | apply And.intro | intro _)) <;> (try (subst_vars; grind []))
theorem vc61 : VC61 := by
  intro a n h
  (repeat' (first | exact True.intro | apply And.intro | intro _)) <;> (try (subst_vars; grind []))
theorem pu_mv {a : Int → Nat → Int} {i x y : Int} (j : Int) (g : Nat) : setA (setA a i 0 x) i 1 y j g = puA a i x y (a i 2) (a i 3) j g := by
  unfold puA setA
  by_cases h : j = i
  · subst h
    match g with
    | 0 => simp
    | 1 => simp
    | 2 => simp
    | 3 => simp
    | g + 4 => simp
  · simp [h]
theorem pu_tn {a : Int → Nat → Int} {i c : Int} (j : Int) (g : Nat) : setA a i 3 c j g = puA a i (a i 0) (a i 1) (a i 2) c j g := by
  unfold puA setA
  by_cases h : j = i
  · subst h
    match g with
    | 0 => simp
    | 1 => simp
    | 2 => simp
    | 3 => simp
    | g + 4 => simp
  · simp [h]
theorem vc17 : VC17 := by
  intro a n l f m i x y
  have o := @lvE_ok a n l f m i i
  have s := @ck_small a n l f m
  have e3 := @as1 a n l f m i
  have e : mvE a n l f m i x y (a i 2) (a i 3) = if lvE a n l f m i i = 0 then puE (okW x y (a i 2) (a i 3)) else lvE a n l f m i i := rfl
  have e4 : ∀ k, mvN a n l f m i x y (a i 2) (a i 3) k = if mvE a n l f m i x y (a i 2) (a i 3) = 0 then k else 0 := fun k => rfl
  have e5 : puE (okW x y (a i 2) (a i 3)) = if okW x y (a i 2) (a i 3) = true then 0 else 2 := rfl
  have e6 := e4 n
  have e7 := e4 m
  clear e4
  have t1 := fun h => (s h).hn
  repeat' (first | exact True.intro | apply And.intro | intro _)
  all_goals (try (subst_vars; grind))
  rename_i hz _ a' n' ea en _ _
  have hck := o (by rw [← e3]; subst_vars; grind)
  have sm := s hck.1
  obtain ⟨s1, s2, s3⟩ := sm
  refine ⟨fun l' f' k i => 0 ≤ i ∧ i ≤ m ∧ k = i ∧ (∀ j, 0 ≤ j → j < i → l' j = l j ∧ f' j = f j), fun _ _ _ i => (m - i).toNat, ⟨by omega, by omega, by omega, fun j h0 h1 => by omega⟩, ?_⟩
  rintro l' f' k i' ⟨i0, i1, rfl, hi⟩
  have r := s3 k i0
  clear s3
  have u : ∀ b c, b = rowA f k → c = l k → k < m → ∀ j, 0 ≤ j → j < k + 1 → srL l' k c j = l j ∧ srF f' k b j = f j := by
    intro b c hb hc hk j h0 h1
    unfold srL srF
    by_cases hj : j = k
    · subst hj; rw [if_pos rfl, if_pos rfl]; exact ⟨hc, hb⟩
    · rw [if_neg hj, if_neg hj]; exact hi j h0 (by omega)
  have pm := @pu_mv a i x y
  subst ea en
  repeat' (first | exact True.intro | apply And.intro | intro _)
  all_goals first
    | omega
    | exact (u _ _ (by assumption) (by assumption) (by omega) _ (by assumption) (by assumption)).1
    | exact (u _ _ (by assumption) (by assumption) (by omega) _ (by assumption) (by assumption)).2
    | exact (hi _ (by assumption) (by clear u hi; grind)).1
    | (rw [(hi _ (by assumption) (by clear u hi; grind)).2])
    | (clear u hi; grind)
theorem vc19 : VC19 := by
  intro a n l f m i x
  have o := @lvE_ok a n l f m i i
  have s := @ck_small a n l f m
  have e3 := @as1 a n l f m i
  have e : mvE a n l f m i (a i 0) (a i 1) (a i 2) x = if lvE a n l f m i i = 0 then puE (okW (a i 0) (a i 1) (a i 2) x) else lvE a n l f m i i := rfl
  have e4 : ∀ k, mvN a n l f m i (a i 0) (a i 1) (a i 2) x k = if mvE a n l f m i (a i 0) (a i 1) (a i 2) x = 0 then k else 0 := fun k => rfl
  have e5 : puE (okW (a i 0) (a i 1) (a i 2) x) = if okW (a i 0) (a i 1) (a i 2) x = true then 0 else 2 := rfl
  have e6 := e4 n
  have e7 := e4 m
  clear e4
  have t1 := fun h => (s h).hn
  repeat' (first | exact True.intro | apply And.intro | intro _)
  all_goals (try (subst_vars; grind))
  rename_i hz _ a' n' ea en _ _
  have hck := o (by rw [← e3]; subst_vars; grind)
  have sm := s hck.1
  obtain ⟨s1, s2, s3⟩ := sm
  refine ⟨fun l' f' k i => 0 ≤ i ∧ i ≤ m ∧ k = i ∧ (∀ j, 0 ≤ j → j < i → l' j = l j ∧ f' j = f j), fun _ _ _ i => (m - i).toNat, ⟨by omega, by omega, by omega, fun j h0 h1 => by omega⟩, ?_⟩
  rintro l' f' k i' ⟨i0, i1, rfl, hi⟩
  have r := s3 k i0
  clear s3
  have u : ∀ b c, b = rowA f k → c = l k → k < m → ∀ j, 0 ≤ j → j < k + 1 → srL l' k c j = l j ∧ srF f' k b j = f j := by
    intro b c hb hc hk j h0 h1
    unfold srL srF
    by_cases hj : j = k
    · subst hj; rw [if_pos rfl, if_pos rfl]; exact ⟨hc, hb⟩
    · rw [if_neg hj, if_neg hj]; exact hi j h0 (by omega)
  have pm := @pu_tn a i x
  subst ea en
  repeat' (first | exact True.intro | apply And.intro | intro _)
  all_goals first
    | omega
    | exact (u _ _ (by assumption) (by assumption) (by omega) _ (by assumption) (by assumption)).1
    | exact (u _ _ (by assumption) (by assumption) (by omega) _ (by assumption) (by assumption)).2
    | exact (hi _ (by assumption) (by clear u hi; grind)).1
    | (rw [(hi _ (by assumption) (by clear u hi; grind)).2])
    | (clear u hi; grind)
end Go.Proofs.Ytiiebpfifkaleaa
