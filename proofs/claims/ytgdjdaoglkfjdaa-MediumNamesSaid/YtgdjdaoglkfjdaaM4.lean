/- The contracts. -/
import Derived.Test.YtgdjdaoglkfjdaaP7
import Derived.Test.YtgdjdaoglkfjdaaM3
import Derived.Test.YtgdjdaoglkfjdaaM
set_option maxRecDepth 100000
namespace Go.Proofs.Ytgdjdaoglkfjdaa
open Go Go.RowKit Go.Proofs.Ytgdjdaoglkfjdaa.Vc
theorem ok44 : Meets Try.prog (mkCon sig44 pre44 raw44) 44 sig44 := meets [pr58, pr56, pr19] loopsA rfl 44 (by kernel_rfl) (vh44 vc44)
noncomputable def pr44 : Pr Try.prog := ⟨44, sig44, mkCon sig44 pre44 raw44, ok44, ⟨Try.f44, Try.func44, by kernel_rfl, by kernel_rfl⟩⟩
theorem ok20 : Meets Try.prog (mkCon sig20 pre20 raw20) 20 sig20 := meets [pr22, pr43] loopsA rfl 20 (by kernel_rfl) (vh20 vc20)
noncomputable def pr20 : Pr Try.prog := ⟨20, sig20, mkCon sig20 pre20 raw20, ok20, ⟨Try.f20, Try.func20, by kernel_rfl, by kernel_rfl⟩⟩
theorem ok21 : Meets Try.prog (mkCon sig21 pre21 raw21) 21 sig21 := meets [pr23, pr44] loopsA rfl 21 (by kernel_rfl) (vh21 vc21)
noncomputable def pr21 : Pr Try.prog := ⟨21, sig21, mkCon sig21 pre21 raw21, ok21, ⟨Try.f21, Try.func21, by kernel_rfl, by kernel_rfl⟩⟩
theorem ok24 : Meets Try.prog (mkCon sig24 pre24 raw24) 24 sig24 := meets [pr29] loopsA rfl 24 (by kernel_rfl) (vh24 vc24)
noncomputable def pr24 : Pr Try.prog := ⟨24, sig24, mkCon sig24 pre24 raw24, ok24, ⟨Try.f24, Try.func24, by kernel_rfl, by kernel_rfl⟩⟩
theorem ok28 : Meets Try.prog (mkCon sig28 pre28 raw28) 28 sig28 := meets [] loopsA rfl 28 (by kernel_rfl) (vh28 vc28)
noncomputable def pr28 : Pr Try.prog := ⟨28, sig28, mkCon sig28 pre28 raw28, ok28, ⟨Try.f28, Try.func28, by kernel_rfl, by kernel_rfl⟩⟩
theorem ok30 : Meets Try.prog (mkCon sig30 pre30 raw30) 30 sig30 := meets [pr49, pr50] loopsA rfl 30 (by kernel_rfl) (vh30 vc30)
noncomputable def pr30 : Pr Try.prog := ⟨30, sig30, mkCon sig30 pre30 raw30, ok30, ⟨Try.f30, Try.func30, by kernel_rfl, by kernel_rfl⟩⟩
end Go.Proofs.Ytgdjdaoglkfjdaa
