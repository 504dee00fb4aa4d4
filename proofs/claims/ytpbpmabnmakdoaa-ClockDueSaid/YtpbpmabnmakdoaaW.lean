/- The tables of types and functions. -/
import Derived.Test.YtpbpmabnmakdoaaProg
import Derived.Test.YtpbpmabnmakdoaaVE
namespace Go.Proofs.Ytpbpmabnmakdoaa
open Go Go.RowKit Go.Proofs.Ytpbpmabnmakdoaa.Vc
namespace Tab
def i (k : IntKind) (z : Int) : Sc := .c (.int k (.lit z))
def b (p : Bool) : Sc := .c (.bool (.bl p))
def n : Sc := .c .nils
def p : Sc := .c .nilp
def f : Sc := .nilf
def rp (k : Nat) (s : Sc) : List Sc := List.replicate k s
def tyL : List (Nat × TD) := [
  (1, ⟨.scalar, 1, 8, [f], 0, false⟩),
  (2, ⟨.int .i64, 1, 8, [i .i64 0], 0, false⟩),
  (3, ⟨.int .i64, 1, 8, [i .i64 0], 0, false⟩),
  (4, ⟨.bool, 1, 1, [b false], 0, false⟩),
  (5, ⟨.int .u8, 1, 1, [i .u8 0], 0, false⟩),
  (6, ⟨.int .u8, 1, 1, [i .u8 0], 0, false⟩),
  (7, ⟨.struct [(0, 1, 2), (1, 1, 3), (2, 1, 4), (3, 1, 6)], 4, 24, rp 2 (i .i64 0) ++ [b false] ++ [i .u8 0], 0, true⟩),
  (8, ⟨.struct [(0, 1, 2), (1, 1, 3), (2, 1, 4), (3, 1, 6)], 4, 24, rp 2 (i .i64 0) ++ [b false] ++ [i .u8 0], 0, true⟩),
  (12, ⟨.int .u64, 1, 8, [i .u64 0], 0, false⟩),
  (15, ⟨.scalar, 1, 8, [p], 0, false⟩),
  (16, ⟨.scalar, 1, 8, [p], 0, false⟩),
  (17, ⟨.scalar, 1, 8, [p], 0, false⟩),
  (18, ⟨.struct [(0, 1, 17)], 1, 8, [p], 0, false⟩),
  (19, ⟨.struct [(0, 1, 17)], 1, 8, [p], 0, false⟩),
  (21, ⟨.int .i32, 1, 4, [i .i32 0], 0, false⟩),
  (22, ⟨.slice 33, 1, 24, [n], 0, false⟩),
  (23, ⟨.slice 24, 1, 24, [n], 0, false⟩),
  (24, ⟨.slice 3, 1, 24, [n], 0, false⟩),
  (25, ⟨.int .i64, 1, 8, [i .i64 0], 0, false⟩),
  (27, ⟨.scalar, 1, 8, [f], 0, false⟩),
  (29, ⟨.scalar, 1, 8, [f], 0, false⟩),
  (30, ⟨.scalar, 1, 8, [f], 0, false⟩),
  (31, ⟨.scalar, 1, 8, [f], 0, false⟩),
  (32, ⟨.struct [(0, 1, 3), (1, 1, 3)], 2, 16, rp 2 (i .i64 0), 0, true⟩),
  (33, ⟨.struct [(0, 1, 3), (1, 1, 3)], 2, 16, rp 2 (i .i64 0), 0, true⟩),
  (35, ⟨.scalar, 1, 8, [f], 0, false⟩),
  (37, ⟨.scalar, 1, 8, [f], 0, false⟩),
  (39, ⟨.scalar, 1, 8, [f], 0, false⟩),
  (41, ⟨.scalar, 1, 8, [f], 0, false⟩),
  (43, ⟨.scalar, 1, 8, [f], 0, false⟩),
  (45, ⟨.scalar, 1, 8, [f], 0, false⟩),
  (46, ⟨.scalar, 1, 8, [f], 0, false⟩),
  (47, ⟨.scalar, 1, 8, [f], 0, false⟩),
  (48, ⟨.scalar, 1, 8, [f], 0, false⟩),
  (49, ⟨.scalar, 1, 8, [f], 0, false⟩),
  (50, ⟨.scalar, 1, 8, [f], 0, false⟩),
  (51, ⟨.scalar, 1, 8, [f], 0, false⟩),
  (52, ⟨.slice 58, 1, 24, [n], 0, false⟩),
  (53, ⟨.struct [(0, 1, 3), (1, 1, 52)], 2, 32, [i .i64 0] ++ [n], 0, false⟩),
  (54, ⟨.struct [(0, 1, 3), (1, 1, 52)], 2, 32, [i .i64 0] ++ [n], 0, false⟩),
  (56, ⟨.scalar, 1, 8, [f], 0, false⟩),
  (57, ⟨.struct [(0, 1, 3), (1, 1, 3), (2, 1, 3)], 3, 24, rp 3 (i .i64 0), 0, true⟩),
  (58, ⟨.struct [(0, 1, 3), (1, 1, 3), (2, 1, 3)], 3, 24, rp 3 (i .i64 0), 0, true⟩),
  (59, ⟨.scalar, 1, 8, [f], 0, false⟩),
  (60, ⟨.scalar, 1, 8, [f], 0, false⟩),
  (61, ⟨.scalar, 1, 8, [f], 0, false⟩),
  (62, ⟨.scalar, 1, 8, [f], 0, false⟩),
  (63, ⟨.scalar, 1, 8, [f], 0, false⟩),
  (64, ⟨.scalar, 1, 8, [f], 0, false⟩),
  (65, ⟨.scalar, 1, 8, [f], 0, false⟩),
  (66, ⟨.scalar, 1, 8, [f], 0, false⟩),
  (67, ⟨.scalar, 1, 8, [f], 0, false⟩),
  (68, ⟨.scalar, 1, 8, [f], 0, false⟩),
  (69, ⟨.scalar, 1, 8, [f], 0, false⟩),
  (70, ⟨.scalar, 1, 8, [f], 0, false⟩),
  (71, ⟨.scalar, 1, 8, [f], 0, false⟩),
  (72, ⟨.scalar, 1, 8, [f], 0, false⟩),
  (73, ⟨.scalar, 1, 8, [f], 0, false⟩),
  (74, ⟨.scalar, 1, 8, [f], 0, false⟩),
  (75, ⟨.scalar, 1, 8, [f], 0, false⟩),
  (76, ⟨.int .u64, 1, 8, [i .u64 0], 0, false⟩),
  (77, ⟨.scalar, 1, 8, [f], 0, false⟩),
  (78, ⟨.scalar, 1, 8, [f], 0, false⟩),
  (79, ⟨.scalar, 1, 8, [f], 0, false⟩),
  (80, ⟨.scalar, 1, 8, [f], 0, false⟩),
  (81, ⟨.scalar, 1, 8, [f], 0, false⟩),
  (82, ⟨.scalar, 1, 8, [f], 0, false⟩),
  (83, ⟨.scalar, 1, 8, [f], 0, false⟩),
  (86, ⟨.arr 0 1, 0, 0, [], 16, false⟩),
  (87, ⟨.struct [(0, 0, 86)], 0, 0, [], 0, false⟩),
  (88, ⟨.struct [(0, 0, 86)], 0, 0, [], 0, false⟩),
  (89, ⟨.scalar, 1, 8, [f], 0, false⟩),
  (90, ⟨.int .u32, 1, 4, [i .u32 0], 0, false⟩),
  (91, ⟨.int .u8, 1, 1, [i .u8 0], 0, false⟩),
  (92, ⟨.int .u8, 1, 1, [i .u8 0], 0, false⟩),
  (93, ⟨.scalar, 1, 8, [f], 0, false⟩),
  (94, ⟨.scalar, 1, 8, [p], 0, false⟩),
  (95, ⟨.int .i32, 1, 4, [i .i32 0], 0, false⟩),
  (96, ⟨.int .i32, 1, 4, [i .i32 0], 0, false⟩),
  (97, ⟨.struct [(0, 1, 12), (1, 1, 12), (2, 1, 90), (3, 1, 91), (4, 1, 5), (5, 1, 5), (6, 1, 92), (7, 1, 93), (8, 1, 94), (9, 1, 95), (10, 1, 96)], 11, 48, rp 2 (i .u64 0) ++ [i .u32 0] ++ rp 4 (i .u8 0) ++ [f] ++ [p] ++ rp 2 (i .i32 0), 0, false⟩),
  (98, ⟨.struct [(0, 1, 12), (1, 1, 12), (2, 1, 90), (3, 1, 91), (4, 1, 5), (5, 1, 5), (6, 1, 92), (7, 1, 93), (8, 1, 94), (9, 1, 95), (10, 1, 96)], 11, 48, rp 2 (i .u64 0) ++ [i .u32 0] ++ rp 4 (i .u8 0) ++ [f] ++ [p] ++ rp 2 (i .i32 0), 0, false⟩)]
def strL : List Nat := [9, 10, 11]
noncomputable def fnL : List (Nat × Func) := [(3, Try.f3), (4, Try.f4), (5, Try.f5), (6, Try.f6), (7, Try.f7), (8, Try.f8), (9, Try.f9), (10, Try.f10), (11, Try.f11), (12, Try.f12), (13, Try.f13), (14, Try.f14), (15, Try.f15), (16, Try.f16), (17, Try.f17), (18, Try.f18), (19, Try.f19), (20, Try.f20), (21, Try.f21), (22, Try.f22), (23, Try.f23), (24, Try.f24), (25, Try.f25), (26, Try.f26), (27, Try.f27), (28, Try.f28), (29, Try.f29), (30, Try.f30), (31, Try.f31), (32, Try.f32), (33, Try.f33), (34, Try.f34), (35, Try.f35), (36, Try.f36), (37, Try.f37), (38, Try.f38), (39, Try.f39), (40, Try.f40), (41, Try.f41), (42, Try.f42), (43, Try.f43), (44, Try.f44), (45, Try.f45), (46, Try.f46), (47, Try.f47), (48, Try.f48), (49, Try.f49), (50, Try.f50), (51, Try.f51), (52, Try.f52), (53, Try.f53), (69, Try.f69)]
end Tab
theorem tyOk : Tab.tyL.all (fun x => tdB Try.prog x.1 x.2) = true := by kernel_rfl
theorem fnOk : ∀ x ∈ Tab.fnL, Try.prog.funcs[x.1]? = some x.2 := by
  simp only [Tab.fnL, List.forall_mem_cons]
  exact ⟨Try.func3, Try.func4, Try.func5, Try.func6, Try.func7, Try.func8, Try.func9, Try.func10, Try.func11, Try.func12, Try.func13, Try.func14, Try.func15, Try.func16, Try.func17, Try.func18, Try.func19, Try.func20, Try.func21, Try.func22, Try.func23, Try.func24, Try.func25, Try.func26, Try.func27, Try.func28, Try.func29, Try.func30, Try.func31, Try.func32, Try.func33, Try.func34, Try.func35, Try.func36, Try.func37, Try.func38, Try.func39, Try.func40, Try.func41, Try.func42, Try.func43, Try.func44, Try.func45, Try.func46, Try.func47, Try.func48, Try.func49, Try.func50, Try.func51, Try.func52, Try.func53, Try.func69, fun _ h => (by cases h)⟩
theorem strOk : Tab.strL.all (fun t => match Try.prog.underlying t with | some .string => true | _ => false) = true := by kernel_rfl
theorem plainOk : Tab.tyL.all (fun x => !x.2.plain || plainB Try.prog x.1 x.2) = true := by kernel_rfl
theorem mem_of_lookup {α : Type} {k : Nat} {v : α} : ∀ {l : List (Nat × α)}, l.lookup k = some v → (k, v) ∈ l
  | [], h => by cases h
  | (a, b) :: l, h => by
    simp only [List.lookup] at h
    split at h
    · rename_i he
      have := beq_iff_eq.1 he
      subst this
      obtain rfl := Option.some.inj h
      exact List.mem_cons_self ..
    · exact List.mem_cons_of_mem _ (mem_of_lookup h)
def opsAt : Code → Nat → Option (Array Oper)
  | .region id ops _, r => if id = r then some ops else none
  | .seq a b, r => match opsAt a r with
    | some x => some x
    | none => opsAt b r
  | .cond _ a b, r => match opsAt a r with
    | some x => some x
    | none => opsAt b r
  | .block _ c, r => opsAt c r
  | .loop c, r => opsAt c r
  | .scope c, r => opsAt c r
  | _, _ => none
/-- an operation's place in the text, for the operations that may wrap -/
def posAt (fn : Func) (r k : Nat) : String := match (fn.body.bind fun c => opsAt c r).bind fun ops => ops[k]? with
  | some o => o.pos
  | none => fn.name
noncomputable def cfgW (wr : List String) (l : List (Pr Try.prog)) (loops : List LA) : Cfg := { ty := fun t => Tab.tyL.lookup t, fn := fun f => Tab.fnL.lookup f, con := prSig l, globL := [], loops := loops, wraps := wr, strs := Tab.strL }
theorem nameOk : Tab.fnL.all (fun x => !(x.2.name == "runtime.NumGoroutine")) = true := by kernel_rfl
theorem cfgOk (wr : List String) (l : List (Pr Try.prog)) (loops : List LA) : (cfgW wr l loops).Ok Try.prog where
  ty := fun t d h => ⟨List.all_eq_true.1 tyOk _ (mem_of_lookup h)⟩
  fn := fun f fn h => fnOk _ (mem_of_lookup h)
  str := fun t h => by
    have := List.all_eq_true.1 strOk t (List.contains_iff_mem.1 h)
    split at this
    · assumption
    · cases this
  eq := fun t d h hp => by
    have := List.all_eq_true.1 plainOk _ (mem_of_lookup h)
    simp only [hp, Bool.not_true, Bool.false_or] at this
    exact plain_eq this
/-- a function's contract out of what is left to show -/
theorem meetsW (wr : List String) (l : List (Pr Try.prog)) (loops : List LA) {sig : CSig} (hok : (sig.ins.all (fun h => h.l.all Sh0.okB)) = true) (f : FuncId) {pre : List AV → Prop} {raw : List AV → List AV} {V : Prop}
    (he : (allAV (insKs sig.ins) fun avs => pre avs → (exec (cfgW wr l loops) [] 12 f sig).vc (prCon l) (fun ρ ks outs => doneQ ρ sig.outs ks outs (raw avs)) avs []) = V) (hv : V) : Meets Try.prog (mkCon sig pre raw) f sig :=
  meets_vc (cfgOk wr l loops) (prOk l rfl) rfl (fun f fn h => by
    have := List.all_eq_true.1 nameOk _ (mem_of_lookup h)
    simpa using this) rfl hok 12 (he ▸ hv)
theorem meets (l : List (Pr Try.prog)) (loops : List LA) {sig : CSig} (hok : (sig.ins.all (fun h => h.l.all Sh0.okB)) = true) (f : FuncId) {pre : List AV → Prop} {raw : List AV → List AV} {V : Prop}
    (he : (allAV (insKs sig.ins) fun avs => pre avs → (exec (cfgW [] l loops) [] 12 f sig).vc (prCon l) (fun ρ ks outs => doneQ ρ sig.outs ks outs (raw avs)) avs []) = V) (hv : V) : Meets Try.prog (mkCon sig pre raw) f sig := meetsW [] l loops hok f he hv
/-- the same for functions that are walked through with all that is known -/
noncomputable def cfgC (l : List (Pr Try.prog)) : Cfg := { ty := fun t => Tab.tyL.lookup t, fn := fun f => Tab.fnL.lookup f, con := prSig l, globL := [], loops := [], conc := 300, strs := Tab.strL }
theorem cfgCOk (l : List (Pr Try.prog)) : (cfgC l).Ok Try.prog := ⟨(cfgOk [] l []).ty, (cfgOk [] l []).fn, (cfgOk [] l []).str, (cfgOk [] l []).eq⟩
theorem meetsK (l : List (Pr Try.prog)) {sig : CSig} (hok : (sig.ins.all (fun h => h.l.all Sh0.okB)) = true) (f : FuncId) {pre : List AV → Prop} {raw : List AV → List AV} {V : Prop}
    (he : (allAV (insKs sig.ins) fun avs => pre avs → (exec (cfgC l) [] 30 f sig).vc (prCon l) (fun ρ ks outs => doneQ ρ sig.outs ks outs (raw avs)) avs []) = V) (hv : V) : Meets Try.prog (mkCon sig pre raw) f sig :=
  meets_vc (cfgCOk l) (prOk l rfl) rfl (fun f fn h => by
    have := List.all_eq_true.1 nameOk _ (mem_of_lookup h)
    simpa using this) rfl hok 30 (he ▸ hv)
end Go.Proofs.Ytpbpmabnmakdoaa
