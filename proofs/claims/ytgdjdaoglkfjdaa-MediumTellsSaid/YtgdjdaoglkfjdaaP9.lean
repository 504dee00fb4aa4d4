/- Receiving: what is left to show of MediumTells. -/
import Derived.Test.YtgdjdaoglkfjdaaE5
import Derived.Test.YtgdjdaoglkfjdaaC6
namespace Go.Proofs.Ytgdjdaoglkfjdaa
open Go Go.RowKit Go.Proofs.Ytgdjdaoglkfjdaa.Vc
theorem vc4 : VC4 := by
  intro a n l f m b k d h _ hn hm hk hh
  refine ⟨trivial, ?_⟩
  rintro g hg _ _ _ _
  refine ⟨fun _ => ⟨by simp, trivial⟩, fun h1 => ?_⟩
  have hk80 := gr1_80 hg fun h2 => h1 (.inl h2)
  refine ⟨by omega, fun _ => ⟨by omega, fun _ => ⟨trivial, ?_⟩⟩⟩
  rintro L F N e hL hF hN he _
  refine ⟨trivial, ?_⟩
  rintro L' F' N' e' hL' hF' hN' he' _ _
  rw [← hL] at hL'
  rw [← hF] at hF'
  rw [← hN] at hN'
  rw [← he] at he'
  subst L' F' N' e'
  refine ⟨trivial, ?_⟩
  rintro c1 h2
  refine ⟨trivial, ?_⟩
  rintro c2 h3
  rw [← h2] at h3
  subst c2
  refine ⟨fun _ => trivial, ?_⟩
  rintro v1 hv1
  refine ⟨fun _ => trivial, ?_⟩
  rintro v2 hv2 _
  have hv1 : v1 = true := by rw [hv1]; exact sr_self
  have hv2 : v2 = true := by rw [hv2]; exact smL_self fun _ _ _ _ _ => rfl
  exact ⟨⟨fun _ => rfl, fun _ => ⟨⟨⟨rfl, hv1⟩, rfl⟩, hv2⟩⟩, trivial⟩
end Go.Proofs.Ytgdjdaoglkfjdaa
