/- A managed queue: what is left to show of taking. -/
import Derived.Test.YtjlljcencbppcaaP
import Derived.Test.YtjlljcencbppcaaE
namespace Go.Proofs.Ytjlljcencbppcaa
open Go Go.RowKit Go.Proofs.Ytjlljcencbppcaa.Vc
set_option maxHeartbeats 2000000 in
theorem vc13 : VC13 := by
  intro a n u k now
  have h1 := @ck_ok a n u k
  have h2 := @as_ck a n u k now
  have h3 := fun h => @as_row a n u k now h 0 (by omega)
  have h4 := @tdiv_100 (min (k + 1) 256 + 1)
  have t1 := @tk_e a n u k now
  have t2 := @tk_calm a n u k now
  have t3 := @tk_first a n u k now
  have t4 := @tk_wait a n u k now
  have t5 := @tk_last a n u k now
  have t6 := @tk_drop a n u k now
  (repeat' (first | exact True.intro | apply And.intro | intro _)) <;> (try (subst_vars; grind [shA, zA]))
set_option maxHeartbeats 2000000 in
theorem vc18 : VC18 := by
  intro a n u k now
  have h1 := @ck_ok a n u k
  have h2 := @as_ck a n u k now
  have h3 := fun h => @as_row a n u k now h 0 (by omega)
  have h4 := @tdiv_100 (min (k + 1) 256 + 1)
  have h5 := @as_8 a n u k now
  have h6 : asE a n u k now = if ckQ a n u k = 0 then if ltQ a n ≤ now ∧ 0 ≤ now ∧ now ≤ 1099511627776 then 0 else 2 else 8 := rfl
  have h7 : ltQ a n = if n = 0 then 0 else a (n - 1) 2 := rfl
  have t1 := @tk_e a n u k now
  have t2 := @tk_calm a n u k now
  have t3 := @tk_first a n u k now
  have t4 := @tk_wait a n u k now
  have t5 := @tk_last a n u k now
  have t6 := @tk_drop a n u k now
  (repeat' (first | exact True.intro | apply And.intro | intro _)) <;> (try (subst_vars; grind [shA, zA, setA]))
end Go.Proofs.Ytjlljcencbppcaa
