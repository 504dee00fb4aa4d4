/- Header's contract. -/
import Derived.Test.YtiiabaklipmbbaaDoorP12
import Derived.Test.YtiiabaklipmbbaaDoorM
set_option maxRecDepth 100000
namespace Go.Proofs.YtiiabaklipmbbaaDoor
open Go Go.RowKit Go.Proofs.YtiiabaklipmbbaaDoor.Vc
def fstC : Code → Code
  | .seq a _ => a
  | c => c
def sndC : Code → Code
  | .seq _ b => b
  | c => c
def opsC : Code → Array Oper
  | .region _ ops _ => ops
  | _ => #[]
noncomputable def hdB : Code := (Tryd.f9.body).getD .skip
noncomputable def hdTr : S → (Ex → S → Tree) → Tree := hdT (cfgW [] [] loopsA) (execF (cfgW [] [] loopsA) 12) 9 LKm (fstC hdB) (opsC (fstC (sndC hdB))) (sndC (sndC hdB))
theorem hdBody : Tryd.f9.body = some (.seq (fstC hdB) (.seq (.region 1 (opsC (fstC (sndC hdB))) false) (sndC (sndC hdB)))) := by kernel_rfl
theorem hdTree : (allAV (insKs sig9.ins) fun avs => pre9 avs → (execL (cfgW [] [] loopsA) globs hdTr Tryd.f9 sig9).vc (prCon ([] : List (PrG Tryd.prog GW))) (fun ρ ks outs => doneQ ρ sig9.outs ks outs (raw9 avs)) avs []) = VH9 := by kernel_rfl
theorem ok9 : MeetsG Tryd.prog GW (mkCon sig9 pre9 raw9) 9 sig9 :=
  meets_vcL (C := cfgW [] [] loopsA) (Γ := prCon ([] : List (PrG Tryd.prog GW))) (T := hdTr) (globs := globs) GW.later (GW.globs rfl) (cfgOk [] [] loopsA) (prOk [] rfl) rfl Tryd.func9 hdBody
    (fun w hw hΓ Qd => hdT_sound (cfgOk [] [] loopsA) hΓ rfl (execF_sound (cfgOk [] [] loopsA) hΓ rfl (fun f fn h => by
      have := List.all_eq_true.1 nameOk _ (mem_of_lookup h)
      simpa using this) 12) 9 hw (fstC hdB) 1 _ _)
    (hdTree ▸ vh9 vc9)
noncomputable def pr9 : PrG Tryd.prog GW := ⟨9, sig9, mkCon sig9 pre9 raw9, ok9, ⟨Tryd.f9, Tryd.func9, by kernel_rfl, by kernel_rfl⟩⟩
end Go.Proofs.YtiiabaklipmbbaaDoor
