/- ExchangeNames returns true for every input and leaves its arguments as they were; the package table is tied to the text of the program. No condition. -/
import Derived.Test.YtiiabaklipmbbaaDoorF
import Derived.Test.YtiiabaklipmbbaaDoorM15
import Derived.Test.YtiiabaklipmbbaaDoorTie
import Derived.Test.YtiiabaklipmbbaaDoorCards
import Derived.SevenTiedAt
namespace Go.Proofs.YtiiabaklipmbbaaDoor.exchangeNames
open Go.ChangeShapes Go.WideShapes Go.ChangeAt Go.RowKit Go.Proofs.YtiiabaklipmbbaaDoor.Vc
set_option linter.unusedVariables false
theorem law_pre : allAV (insKs sig3.ins) fun l => RngL (sig3.ins.flatMap (·.l)) l → pre3 l ∧ raw3 l = [.b true] := fun _ => ⟨trivial, rfl⟩
set_option maxRecDepth 100000 in
theorem lifted (os : Os) (started : os.Started) (H : Type) (enc : TypeId × Value → H) :
    ReturnsInHanded {} Tryd.checked os 3 .any (fun w args => (Rows.exchangeNamesSpec.pre enc Tryd.prog Tryd.f3 [] false w args ∧ laidMetH Tryd.prog laidW w) ∧ sizedMet enc Tryd.prog Tryd.f3 (OpenSpec.ofChange Rows.exchangeNamesSpec) false w args)
      (Rows.exchangeNamesSpec.post enc Tryd.prog Tryd.f3 false true false false) := by
  refine returnsInHanded_of_change_and (C := Tryd.checked) (X := fun w _ => laidMetH Tryd.prog laidW w) (fun _ _ _ hh h => h.of_heap hh) own started (by kernel_rfl) Tryd.func3
    (ChangeSpec.witness_shaped (enc := enc) (C := Tryd.checked) (os := os) (X := fun w _ => laidMetH Tryd.prog laidW w) false (World.doorLaid Tryd.prog 400 os) #[] 8 rfl (World.shaped_of_RefB (by kernel_rfl) (by kernel_rfl)) (by kernel_rfl) (by kernel_rfl) (by kernel_rfl) (door_met os _)) ?_
  intro W base args ds gs before hval0 hW _ _ hL _
  have hval : ∀ (j : Nat) t v, Tryd.f3.params[j]? = some t → args[j]? = some v → Value.okWide Tryd.prog W .any base t v := hval0
  have hW' := hW
  obtain ⟨p, q, hA0, hV, rfl, hfz, hnd⟩ := hW
  have hA : DataW.TrodAll enc Tryd.prog W 0 (fun _ => true) true Tryd.f3.params.toList args.toList ds p := hA0
  obtain ⟨rfl, rfl⟩ := trodVars_none hV
  obtain ⟨avs, hrd, hrg⟩ := open_args (sh := sig3.ins) (by rw [Tryd.params3]; kernel_rfl) (fun j t v ht hv => hval j t v (by simp at ht) (by simpa using hv)) hA
  obtain ⟨hargs, rfl, rfl⟩ := (by rw [Tryd.params3] at hA; exact trodAll_nil hA : args.toList = [] ∧ ds = [] ∧ p = [])
  refine (law_callsG ok3 rfl law_pre (of_laid hL) hrd hrg).mono fun e W' ⟨he, hb⟩ => ?_
  subst he
  exact ⟨_, rfl, law_done laidOut (by decide +kernel) rfl rfl Tryd.underlying4 rfl hW' hb⟩
theorem holds : Rows.ExchangeNamesSaid :=
  OpenClaim.holds_of_wide 3 Tryd.f3 rfl rfl rfl rfl rfl rfl rfl ⟨rfl, rfl, rfl, rfl, rfl⟩ rfl rfl rfl rfl rfl (by kernel_rfl) Tryd.func3 (by kernel_rfl)
    (of_decide_eq_true (by kernel_rfl)) (by unfold Func.isWrapper; first | (rw [if_pos (by decide +kernel)]; kernel_rfl) | (rw [if_neg (by decide +kernel)]; exact ⟨rfl, rfl⟩))
    (fun os started H enc _ => lifted os started H enc)
theorem standIns : ∀ t ∈ Tryd.f3.params.toList, Tryd.prog.wantsStandIn t = false := by decide +kernel
theorem proved : Rows.ExchangeNamesCardSaid :=
  Claim7.holds_tied_plain_at .later [] [.mapped] true (true, "2728b1d47abc5e3fee7b1d18635d910aea7fd111ae9295f140eb9a6c5e4963a0") false
    holds (fun _ h => by cases h) (by kernel_rfl) (fun _ h => by cases h) exchangeNames_row_tie rfl ⟨rfl, rfl⟩ (by kernel_rfl) rfl
    (fun f fn hf hfn => by
      obtain rfl : f = 3 := Option.some.inj ((show Tryd.prog.funcNamed Rows.exchangeNamesRow.func = some 3 by kernel_rfl).symm.trans hf) |>.symm
      obtain rfl : fn = Tryd.f3 := (Option.some.inj (Tryd.func3.symm.trans hfn)).symm
      exact ⟨by kernel_rfl, fun j t ht => standIns t (by rw [← Array.getElem?_toList] at ht; exact List.mem_of_getElem? ht)⟩)
    (by kernel_rfl)
#print axioms proved
end Go.Proofs.YtiiabaklipmbbaaDoor.exchangeNames
