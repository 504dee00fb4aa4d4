/- The contracts. -/
import Derived.Test.YtpbpmabnmakdoaaP2
import Derived.Test.YtpbpmabnmakdoaaM
set_option maxRecDepth 100000
namespace Go.Proofs.Ytpbpmabnmakdoaa
open Go Go.RowKit Go.Proofs.Ytpbpmabnmakdoaa.Vc

theorem ok36 : Meets Try.prog (mkCon sig36 pre36 raw36) 36 sig36 := meets [] loopsA rfl 36 (by kernel_rfl) vc36
noncomputable def pr36 : Pr Try.prog := ⟨36, sig36, mkCon sig36 pre36 raw36, ok36, ⟨Try.f36, Try.func36, by kernel_rfl, by kernel_rfl⟩⟩
theorem he22 : (allAV (insKs sig22.ins) fun avs => pre22 avs → (subTree (cfgW [] [pr36] loopsA) [ip47] 45 4 12 2 22 Try.f22 sig22).vc (gamT [(ip47, con47)] [pr36]) (fun ρ ks outs => doneQ ρ sig22.outs ks outs (raw22 avs)) avs []) = VC22 := by kernel_rfl
theorem ok22 : Meets Try.prog (mkCon sig22 pre22 raw22) 22 sig22 := sub_vc (l := [pr36]) (ts := [(ip47, con47)]) (cfgOk [] [pr36] loopsA) rfl rfl rfl (fun t ht => by
    obtain rfl := List.mem_singleton.1 ht
    exact ⟨ok47, fn47⟩) rfl (fun f fn h => by
    have := List.all_eq_true.1 nameOk _ (mem_of_lookup h)
    simpa using this) rfl rfl Try.func22 (by kernel_rfl) 45 4 12 2 (he22 ▸ vc22)
noncomputable def pr22 : Pr Try.prog := ⟨22, sig22, mkCon sig22 pre22 raw22, ok22, ⟨Try.f22, Try.func22, by kernel_rfl, by kernel_rfl⟩⟩
end Go.Proofs.Ytpbpmabnmakdoaa
