/- A managed queue: what is left to show of each function. -/
import Derived.Test.YtjlljcencbppcaaC
import Derived.Test.YtjlljcencbppcaaE
namespace Go.Proofs.Ytjlljcencbppcaa
open Go Go.RowKit Go.Proofs.Ytjlljcencbppcaa.Vc
set_option maxHeartbeats 1000000 in
theorem vc10 : VC10 := by
  intro a n u k
  have hp := @allI_at (okI a) n
  (repeat' (first | exact True.intro | apply And.intro | intro _)) <;> (try (subst_vars; grind [ckQ]))
  refine ⟨fun last i => 0 ≤ i ∧ i ≤ n ∧ last = (if i = 0 then 0 else a (i - 1) 2) ∧ 0 ≤ last ∧ allI (okI a) i = true, fun _ i => (n - i).toNat, ?_⟩
  (repeat' (first | exact True.intro | apply And.intro | intro _)) <;> (try (subst_vars; grind [ckQ, allI_zero, allI_succ, okI]))
set_option maxHeartbeats 1000000 in
theorem vc20 : VC20 := by
  intro a n u k
  have hp := @allI_at (okI a) n
  (repeat' (first | exact True.intro | apply And.intro | intro _)) <;> (try (subst_vars; grind [ckQ]))
  refine ⟨fun i => 0 ≤ i ∧ i ≤ n ∧ allI (okI a) i = true, fun i => (n - i).toNat, ?_⟩
  (repeat' (first | exact True.intro | apply And.intro | intro _)) <;> (try (subst_vars; grind [ckQ, allI_zero, allI_succ, okI]))
theorem vc28 : VC28 := by
  intro a n u k
  (repeat' (first | exact True.intro | apply And.intro | intro _)) <;> (try (subst_vars; grind [ltQ]))
set_option maxHeartbeats 1000000 in
theorem vc22 : VC22 := by
  intro a n u k now
  have h := fun hh => @ck_row a n u k hh (n - 1)
  have h8 := ck_08 a n u k
  have e1 : ltQ a n = if n = 0 then 0 else a (n - 1) 2 := rfl
  have e2 : asE a n u k now = if ckQ a n u k = 0 then if ltQ a n ≤ now ∧ 0 ≤ now ∧ now ≤ 1099511627776 then 0 else 2 else 8 := rfl
  (repeat' (first | exact True.intro | apply And.intro | intro _)) <;> (try (subst_vars; grind []))
set_option maxHeartbeats 1000000 in
theorem vc26 : VC26 := by
  intro a n u k now
  (repeat' (first | exact True.intro | apply And.intro | intro _)) <;> (try (subst_vars; grind []))
set_option maxHeartbeats 1000000 in
theorem vc11 : VC11 := by
  intro a n u k id by_ now
  have h := @ck_ok a n u k
  (repeat' (first | exact True.intro | apply And.intro | intro _)) <;> (try (subst_vars; grind [puE, puN, puU, puK, puA, zA, setA, appA, asE]))
set_option maxHeartbeats 1000000 in
theorem vc17 : VC17 := by
  intro a n u k id by_ now
  have h := @ck_ok a n u k
  (repeat' (first | exact True.intro | apply And.intro | intro _)) <;> (try (subst_vars; grind [puE, puN, puU, puK, puA, zA, setA, appA, asE, ltQ]))
set_option maxHeartbeats 1000000 in
theorem vc24 : VC24 := by
  intro a n k
  (repeat' (first | exact True.intro | apply And.intro | intro _)) <;> (try (subst_vars; grind []))
end Go.Proofs.Ytjlljcencbppcaa
