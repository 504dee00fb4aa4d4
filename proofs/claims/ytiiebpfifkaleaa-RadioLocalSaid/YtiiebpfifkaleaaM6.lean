/- The contracts. -/
import Derived.Test.YtiiebpfifkaleaaP6
import Derived.Test.YtiiebpfifkaleaaH6
import Derived.Test.YtiiebpfifkaleaaM
set_option maxRecDepth 100000
namespace Go.Proofs.Ytiiebpfifkaleaa
open Go Go.RowKit Go.Proofs.Ytiiebpfifkaleaa.Vc
noncomputable def pr12 : Pr Try.prog := ⟨12, sig12, mkCon sig12 pre12 raw12, ok12, ⟨Try.f12, Try.func12, by kernel_rfl, by kernel_rfl⟩⟩
noncomputable def pr41 : Pr Try.prog := ⟨41, sig41, mkCon sig41 pre41 raw41, ok41, ⟨Try.f41, Try.func41, by kernel_rfl, by kernel_rfl⟩⟩
theorem ok38 : Meets Try.prog (mkCon sig38 pre38 raw38) 38 sig38 := meets [] loopsA rfl 38 (by kernel_rfl) (vh38 vc38)
noncomputable def pr38 : Pr Try.prog := ⟨38, sig38, mkCon sig38 pre38 raw38, ok38, ⟨Try.f38, Try.func38, by kernel_rfl, by kernel_rfl⟩⟩
theorem ok57 : Meets Try.prog (mkCon sig57 pre57 raw57) 57 sig57 := meets [pr38] loopsA rfl 57 (by kernel_rfl) (vh57 vc57)
noncomputable def pr57 : Pr Try.prog := ⟨57, sig57, mkCon sig57 pre57 raw57, ok57, ⟨Try.f57, Try.func57, by kernel_rfl, by kernel_rfl⟩⟩
theorem ok31 : Meets Try.prog (mkCon sig31 pre31 raw31) 31 sig31 := meets [pr38, pr57] loopsA rfl 31 (by kernel_rfl) (vh31 vc31)
noncomputable def pr31 : Pr Try.prog := ⟨31, sig31, mkCon sig31 pre31 raw31, ok31, ⟨Try.f31, Try.func31, by kernel_rfl, by kernel_rfl⟩⟩
theorem ok32 : Meets Try.prog (mkCon sig32 pre32 raw32) 32 sig32 := meets [pr31] loopsA rfl 32 (by kernel_rfl) (vh32 vc32)
noncomputable def pr32 : Pr Try.prog := ⟨32, sig32, mkCon sig32 pre32 raw32, ok32, ⟨Try.f32, Try.func32, by kernel_rfl, by kernel_rfl⟩⟩
theorem ok50 : Meets Try.prog (mkCon sig50 pre50 raw50) 50 sig50 := meets [pr12, pr41] loopsA rfl 50 (by kernel_rfl) (vh50 vc50)
noncomputable def pr50 : Pr Try.prog := ⟨50, sig50, mkCon sig50 pre50 raw50, ok50, ⟨Try.f50, Try.func50, by kernel_rfl, by kernel_rfl⟩⟩
theorem ok44 : Meets Try.prog (mkCon sig44 pre44 raw44) 44 sig44 := meets [pr31, pr38] loopsA rfl 44 (by kernel_rfl) (vh44 vc44)
noncomputable def pr44 : Pr Try.prog := ⟨44, sig44, mkCon sig44 pre44 raw44, ok44, ⟨Try.f44, Try.func44, by kernel_rfl, by kernel_rfl⟩⟩
theorem ok26 : Meets Try.prog (mkCon sig26 pre26 raw26) 26 sig26 := meets [pr44, pr50] loopsA rfl 26 (by kernel_rfl) (vh26 vc26)
noncomputable def pr26 : Pr Try.prog := ⟨26, sig26, mkCon sig26 pre26 raw26, ok26, ⟨Try.f26, Try.func26, by kernel_rfl, by kernel_rfl⟩⟩
theorem ok51 : Meets Try.prog (mkCon sig51 pre51 raw51) 51 sig51 := meets [pr50] loopsA rfl 51 (by kernel_rfl) (vh51 vc51)
noncomputable def pr51 : Pr Try.prog := ⟨51, sig51, mkCon sig51 pre51 raw51, ok51, ⟨Try.f51, Try.func51, by kernel_rfl, by kernel_rfl⟩⟩
theorem ok27 : Meets Try.prog (mkCon sig27 pre27 raw27) 27 sig27 := meets [pr44, pr51] loopsA rfl 27 (by kernel_rfl) (vh27 vc27)
noncomputable def pr27 : Pr Try.prog := ⟨27, sig27, mkCon sig27 pre27 raw27, ok27, ⟨Try.f27, Try.func27, by kernel_rfl, by kernel_rfl⟩⟩
theorem ok29 : Meets Try.prog (mkCon sig29 pre29 raw29) 29 sig29 := meets [pr44, pr51] loopsA rfl 29 (by kernel_rfl) (vh29 vc29)
noncomputable def pr29 : Pr Try.prog := ⟨29, sig29, mkCon sig29 pre29 raw29, ok29, ⟨Try.f29, Try.func29, by kernel_rfl, by kernel_rfl⟩⟩
theorem ok28 : Meets Try.prog (mkCon sig28 pre28 raw28) 28 sig28 := meets [pr47, pr49] loopsA rfl 28 (by kernel_rfl) (vh28 vc28)
noncomputable def pr28 : Pr Try.prog := ⟨28, sig28, mkCon sig28 pre28 raw28, ok28, ⟨Try.f28, Try.func28, by kernel_rfl, by kernel_rfl⟩⟩
theorem ok33 : Meets Try.prog (mkCon sig33 pre33 raw33) 33 sig33 := meets [] loopsA rfl 33 (by kernel_rfl) (vh33 vc33)
noncomputable def pr33 : Pr Try.prog := ⟨33, sig33, mkCon sig33 pre33 raw33, ok33, ⟨Try.f33, Try.func33, by kernel_rfl, by kernel_rfl⟩⟩
theorem ok21 : Meets Try.prog (mkCon sig21 pre21 raw21) 21 sig21 := meets [pr33] loopsA rfl 21 (by kernel_rfl) (vh21 vc21)
noncomputable def pr21 : Pr Try.prog := ⟨21, sig21, mkCon sig21 pre21 raw21, ok21, ⟨Try.f21, Try.func21, by kernel_rfl, by kernel_rfl⟩⟩
theorem ok16 : Meets Try.prog (mkCon sig16 pre16 raw16) 16 sig16 := meets [] loopsA rfl 16 (by kernel_rfl) (vh16 vc16)
noncomputable def pr16 : Pr Try.prog := ⟨16, sig16, mkCon sig16 pre16 raw16, ok16, ⟨Try.f16, Try.func16, by kernel_rfl, by kernel_rfl⟩⟩
theorem ok45 : Meets Try.prog (mkCon sig45 pre45 raw45) 45 sig45 := meets [pr57, pr16] loopsA rfl 45 (by kernel_rfl) (vh45 vc45)
noncomputable def pr45 : Pr Try.prog := ⟨45, sig45, mkCon sig45 pre45 raw45, ok45, ⟨Try.f45, Try.func45, by kernel_rfl, by kernel_rfl⟩⟩
theorem ok18 : Meets Try.prog (mkCon sig18 pre18 raw18) 18 sig18 := meets [pr44, pr45] loopsA rfl 18 (by kernel_rfl) (vh18 vc18)
noncomputable def pr18 : Pr Try.prog := ⟨18, sig18, mkCon sig18 pre18 raw18, ok18, ⟨Try.f18, Try.func18, by kernel_rfl, by kernel_rfl⟩⟩
theorem ok20 : Meets Try.prog (mkCon sig20 pre20 raw20) 20 sig20 := meets [pr44, pr45] loopsA rfl 20 (by kernel_rfl) (vh20 vc20)
noncomputable def pr20 : Pr Try.prog := ⟨20, sig20, mkCon sig20 pre20 raw20, ok20, ⟨Try.f20, Try.func20, by kernel_rfl, by kernel_rfl⟩⟩
theorem ok60 : Meets Try.prog (mkCon sig60 pre60 raw60) 60 sig60 := meets [] loopsA rfl 60 (by kernel_rfl) (vh60 vc60)
noncomputable def pr60 : Pr Try.prog := ⟨60, sig60, mkCon sig60 pre60 raw60, ok60, ⟨Try.f60, Try.func60, by kernel_rfl, by kernel_rfl⟩⟩
theorem ok61 : Meets Try.prog (mkCon sig61 pre61 raw61) 61 sig61 := meets [] loopsA rfl 61 (by kernel_rfl) (vh61 vc61)
noncomputable def pr61 : Pr Try.prog := ⟨61, sig61, mkCon sig61 pre61 raw61, ok61, ⟨Try.f61, Try.func61, by kernel_rfl, by kernel_rfl⟩⟩
theorem ok17 : Meets Try.prog (mkCon sig17 pre17 raw17) 17 sig17 := meets [pr47, pr54, pr60, pr61] loopsA rfl 17 (by kernel_rfl) (vh17 vc17)
noncomputable def pr17 : Pr Try.prog := ⟨17, sig17, mkCon sig17 pre17 raw17, ok17, ⟨Try.f17, Try.func17, by kernel_rfl, by kernel_rfl⟩⟩
theorem ok19 : Meets Try.prog (mkCon sig19 pre19 raw19) 19 sig19 := meets [pr47, pr54, pr60, pr61] loopsA rfl 19 (by kernel_rfl) (vh19 vc19)
noncomputable def pr19 : Pr Try.prog := ⟨19, sig19, mkCon sig19 pre19 raw19, ok19, ⟨Try.f19, Try.func19, by kernel_rfl, by kernel_rfl⟩⟩
end Go.Proofs.Ytiiebpfifkaleaa
