/- The tables of types and functions. -/
import Derived.Test.YtiiabaklipmbbaaDoorProg
import Derived.Test.YtiiabaklipmbbaaDoorHX
import Derived.Test.YtiiabaklipmbbaaDoorVE
namespace Go.Proofs.YtiiabaklipmbbaaDoor
open Go Go.RowKit Go.Proofs.YtiiabaklipmbbaaDoor.Vc
namespace Tab
def i (k : IntKind) (z : Int) : Sc := .c (.int k (.lit z))
def b (p : Bool) : Sc := .c (.bool (.bl p))
def n : Sc := .c .nils
def p : Sc := .c .nilp
def f : Sc := .nilf
def rp (k : Nat) (s : Sc) : List Sc := List.replicate k s
def tyL : List (Nat × TD) := [
  (1, ⟨.scalar, 1, 8, [f], 0, false⟩),
  (2, ⟨.int .i64, 1, 8, [i .i64 0], 0, false⟩),
  (3, ⟨.int .i64, 1, 8, [i .i64 0], 0, false⟩),
  (4, ⟨.bool, 1, 1, [b false], 0, false⟩),
  (5, ⟨.int .u8, 1, 1, [i .u8 0], 0, false⟩),
  (6, ⟨.int .u8, 1, 1, [i .u8 0], 0, false⟩),
  (7, ⟨.struct [(0, 1, 2), (1, 1, 3), (2, 1, 4), (3, 1, 6)], 4, 24, rp 2 (i .i64 0) ++ [b false] ++ [i .u8 0], 0, true⟩),
  (8, ⟨.struct [(0, 1, 2), (1, 1, 3), (2, 1, 4), (3, 1, 6)], 4, 24, rp 2 (i .i64 0) ++ [b false] ++ [i .u8 0], 0, true⟩),
  (12, ⟨.int .u64, 1, 8, [i .u64 0], 0, false⟩),
  (15, ⟨.scalar, 1, 8, [p], 0, false⟩),
  (16, ⟨.scalar, 1, 8, [p], 0, false⟩),
  (17, ⟨.scalar, 1, 8, [p], 0, false⟩),
  (18, ⟨.struct [(0, 1, 17)], 1, 8, [p], 0, false⟩),
  (19, ⟨.struct [(0, 1, 17)], 1, 8, [p], 0, false⟩),
  (21, ⟨.int .i32, 1, 4, [i .i32 0], 0, false⟩),
  (22, ⟨.slice 3, 1, 24, [n], 0, false⟩),
  (23, ⟨.struct [(0, 1, 5), (1, 1, 5), (2, 1, 3), (3, 1, 22), (4, 1, 3), (5, 1, 3), (6, 1, 3), (7, 1, 3), (8, 1, 3)], 9, 80, rp 2 (i .u8 0) ++ [i .i64 0] ++ [n] ++ rp 5 (i .i64 0), 0, false⟩),
  (24, ⟨.struct [(0, 1, 5), (1, 1, 5), (2, 1, 3), (3, 1, 22), (4, 1, 3), (5, 1, 3), (6, 1, 3), (7, 1, 3), (8, 1, 3)], 9, 80, rp 2 (i .u8 0) ++ [i .i64 0] ++ [n] ++ rp 5 (i .i64 0), 0, false⟩),
  (25, ⟨.int .i64, 1, 8, [i .i64 0], 0, false⟩),
  (26, ⟨.slice 42, 1, 24, [n], 0, false⟩),
  (28, ⟨.scalar, 1, 8, [f], 0, false⟩),
  (29, ⟨.scalar, 1, 8, [f], 0, false⟩),
  (30, ⟨.scalar, 1, 8, [f], 0, false⟩),
  (31, ⟨.struct [(0, 1, 3), (1, 1, 22), (2, 1, 22)], 3, 56, [i .i64 0] ++ rp 2 (n), 0, false⟩),
  (32, ⟨.struct [(0, 1, 3), (1, 1, 22), (2, 1, 22)], 3, 56, [i .i64 0] ++ rp 2 (n), 0, false⟩),
  (33, ⟨.scalar, 1, 8, [f], 0, false⟩),
  (34, ⟨.slice 4, 1, 24, [n], 0, false⟩),
  (35, ⟨.arr 6 1, 6, 6, rp 6 (i .u8 0), 5, true⟩),
  (36, ⟨.arr 6 1, 6, 6, rp 6 (i .u8 0), 5, true⟩),
  (37, ⟨.struct [(0, 1, 5), (1, 1, 5), (2, 1, 4), (3, 1, 4), (4, 1, 4), (5, 1, 4), (6, 1, 4), (7, 1, 4), (8, 1, 4), (9, 1, 3), (10, 6, 36), (16, 6, 36), (22, 6, 36), (28, 6, 36), (34, 1, 3), (35, 1, 3), (36, 1, 3), (37, 1, 5), (38, 1, 4), (39, 1, 4)], 40, 80, rp 2 (i .u8 0) ++ rp 7 (b false) ++ [i .i64 0] ++ rp 24 (i .u8 0) ++ rp 3 (i .i64 0) ++ [i .u8 0] ++ rp 2 (b false), 0, true⟩),
  (38, ⟨.struct [(0, 1, 5), (1, 1, 5), (2, 1, 4), (3, 1, 4), (4, 1, 4), (5, 1, 4), (6, 1, 4), (7, 1, 4), (8, 1, 4), (9, 1, 3), (10, 6, 36), (16, 6, 36), (22, 6, 36), (28, 6, 36), (34, 1, 3), (35, 1, 3), (36, 1, 3), (37, 1, 5), (38, 1, 4), (39, 1, 4)], 40, 80, rp 2 (i .u8 0) ++ rp 7 (b false) ++ [i .i64 0] ++ rp 24 (i .u8 0) ++ rp 3 (i .i64 0) ++ [i .u8 0] ++ rp 2 (b false), 0, true⟩),
  (40, ⟨.scalar, 1, 8, [f], 0, false⟩),
  (41, ⟨.struct [(0, 1, 5), (1, 1, 4), (2, 1, 3), (3, 1, 3), (4, 1, 3), (5, 1, 3)], 6, 40, [i .u8 0] ++ [b false] ++ rp 4 (i .i64 0), 0, true⟩),
  (42, ⟨.struct [(0, 1, 5), (1, 1, 4), (2, 1, 3), (3, 1, 3), (4, 1, 3), (5, 1, 3)], 6, 40, [i .u8 0] ++ [b false] ++ rp 4 (i .i64 0), 0, true⟩),
  (43, ⟨.scalar, 1, 8, [f], 0, false⟩),
  (44, ⟨.scalar, 1, 8, [f], 0, false⟩),
  (45, ⟨.scalar, 1, 8, [f], 0, false⟩),
  (46, ⟨.scalar, 1, 8, [f], 0, false⟩),
  (47, ⟨.scalar, 1, 8, [f], 0, false⟩),
  (48, ⟨.scalar, 1, 8, [f], 0, false⟩),
  (49, ⟨.scalar, 1, 8, [f], 0, false⟩),
  (50, ⟨.scalar, 1, 8, [f], 0, false⟩),
  (51, ⟨.scalar, 1, 8, [f], 0, false⟩),
  (52, ⟨.scalar, 1, 8, [f], 0, false⟩),
  (53, ⟨.arr 2 1, 2, 2, rp 2 (i .u8 0), 5, true⟩),
  (56, ⟨.scalar, 1, 8, [f], 0, false⟩),
  (57, ⟨.scalar, 1, 8, [f], 0, false⟩),
  (58, ⟨.scalar, 1, 8, [f], 0, false⟩),
  (59, ⟨.struct [(0, 1, 26), (1, 1, 3)], 2, 32, [n] ++ [i .i64 0], 0, false⟩),
  (60, ⟨.struct [(0, 1, 26), (1, 1, 3)], 2, 32, [n] ++ [i .i64 0], 0, false⟩),
  (61, ⟨.scalar, 1, 8, [f], 0, false⟩),
  (62, ⟨.scalar, 1, 8, [p], 0, false⟩),
  (63, ⟨.scalar, 1, 8, [f], 0, false⟩),
  (64, ⟨.scalar, 1, 8, [p], 0, false⟩),
  (65, ⟨.scalar, 1, 8, [f], 0, false⟩),
  (66, ⟨.scalar, 1, 8, [f], 0, false⟩),
  (67, ⟨.int .u64, 1, 8, [i .u64 0], 0, false⟩),
  (68, ⟨.scalar, 1, 8, [f], 0, false⟩),
  (69, ⟨.int .i64, 1, 8, [i .i64 0], 0, false⟩),
  (71, ⟨.scalar, 1, 8, [f], 0, false⟩),
  (72, ⟨.scalar, 1, 8, [f], 0, false⟩),
  (73, ⟨.scalar, 1, 8, [f], 0, false⟩),
  (74, ⟨.scalar, 1, 8, [f], 0, false⟩),
  (76, ⟨.scalar, 1, 8, [f], 0, false⟩),
  (77, ⟨.scalar, 1, 8, [f], 0, false⟩),
  (78, ⟨.int .u32, 1, 4, [i .u32 0], 0, false⟩),
  (79, ⟨.scalar, 1, 8, [f], 0, false⟩),
  (80, ⟨.int .u64, 1, 8, [i .u64 0], 0, false⟩),
  (81, ⟨.int .u64, 1, 8, [i .u64 0], 0, false⟩),
  (82, ⟨.scalar, 1, 8, [f], 0, false⟩),
  (83, ⟨.scalar, 1, 8, [f], 0, false⟩),
  (84, ⟨.scalar, 1, 8, [f], 0, false⟩),
  (85, ⟨.scalar, 1, 8, [p], 0, false⟩),
  (86, ⟨.scalar, 1, 8, [f], 0, false⟩),
  (87, ⟨.scalar, 1, 8, [p], 0, false⟩),
  (89, ⟨.scalar, 1, 8, [f], 0, false⟩),
  (90, ⟨.scalar, 1, 8, [f], 0, false⟩),
  (93, ⟨.arr 0 1, 0, 0, [], 16, false⟩),
  (94, ⟨.struct [(0, 0, 93)], 0, 0, [], 0, false⟩),
  (95, ⟨.struct [(0, 0, 93)], 0, 0, [], 0, false⟩),
  (96, ⟨.scalar, 1, 8, [f], 0, false⟩),
  (97, ⟨.int .u8, 1, 1, [i .u8 0], 0, false⟩),
  (98, ⟨.int .u8, 1, 1, [i .u8 0], 0, false⟩),
  (99, ⟨.scalar, 1, 8, [f], 0, false⟩),
  (100, ⟨.scalar, 1, 8, [p], 0, false⟩),
  (101, ⟨.int .i32, 1, 4, [i .i32 0], 0, false⟩),
  (102, ⟨.int .i32, 1, 4, [i .i32 0], 0, false⟩),
  (103, ⟨.struct [(0, 1, 12), (1, 1, 12), (2, 1, 78), (3, 1, 97), (4, 1, 5), (5, 1, 5), (6, 1, 98), (7, 1, 99), (8, 1, 100), (9, 1, 101), (10, 1, 102)], 11, 48, rp 2 (i .u64 0) ++ [i .u32 0] ++ rp 4 (i .u8 0) ++ [f] ++ [p] ++ rp 2 (i .i32 0), 0, false⟩),
  (104, ⟨.struct [(0, 1, 12), (1, 1, 12), (2, 1, 78), (3, 1, 97), (4, 1, 5), (5, 1, 5), (6, 1, 98), (7, 1, 99), (8, 1, 100), (9, 1, 101), (10, 1, 102)], 11, 48, rp 2 (i .u64 0) ++ [i .u32 0] ++ rp 4 (i .u8 0) ++ [f] ++ [p] ++ rp 2 (i .i32 0), 0, false⟩)]
def strL : List Nat := [9, 10, 11]
noncomputable def fnL : List (Nat × Func) := [(3, Tryd.f3), (4, Tryd.f4), (5, Tryd.f5), (6, Tryd.f6), (7, Tryd.f7), (8, Tryd.f8), (9, Tryd.f9), (10, Tryd.f10), (11, Tryd.f11), (12, Tryd.f12), (13, Tryd.f13), (14, Tryd.f14), (15, Tryd.f15), (16, Tryd.f16), (17, Tryd.f17), (18, Tryd.f18), (19, Tryd.f19), (20, Tryd.f20), (21, Tryd.f21), (22, Tryd.f22), (23, Tryd.f23), (24, Tryd.f24), (25, Tryd.f25), (26, Tryd.f26), (27, Tryd.f27), (30, Tryd.f30), (32, Tryd.f32), (33, Tryd.f33), (36, Tryd.f36), (37, Tryd.f37), (42, Tryd.f42), (43, Tryd.f43), (44, Tryd.f44), (60, Tryd.f60)]
end Tab
theorem tyOk : Tab.tyL.all (fun x => tdB Tryd.prog x.1 x.2) = true := by kernel_rfl
theorem fnOk : ∀ x ∈ Tab.fnL, Tryd.prog.funcs[x.1]? = some x.2 := by
  simp only [Tab.fnL, List.forall_mem_cons]
  exact ⟨Tryd.func3, Tryd.func4, Tryd.func5, Tryd.func6, Tryd.func7, Tryd.func8, Tryd.func9, Tryd.func10, Tryd.func11, Tryd.func12, Tryd.func13, Tryd.func14, Tryd.func15, Tryd.func16, Tryd.func17, Tryd.func18, Tryd.func19, Tryd.func20, Tryd.func21, Tryd.func22, Tryd.func23, Tryd.func24, Tryd.func25, Tryd.func26, Tryd.func27, Tryd.func30, Tryd.func32, Tryd.func33, Tryd.func36, Tryd.func37, Tryd.func42, Tryd.func43, Tryd.func44, Tryd.func60, fun _ h => (by cases h)⟩
theorem strOk : Tab.strL.all (fun t => match Tryd.prog.underlying t with | some .string => true | _ => false) = true := by kernel_rfl
theorem plainOk : Tab.tyL.all (fun x => !x.2.plain || plainB Tryd.prog x.1 x.2) = true := by kernel_rfl
theorem mem_of_lookup {α : Type} {k : Nat} {v : α} : ∀ {l : List (Nat × α)}, l.lookup k = some v → (k, v) ∈ l
  | [], h => by cases h
  | (a, b) :: l, h => by
    simp only [List.lookup] at h
    split at h
    · rename_i he
      have := beq_iff_eq.1 he
      subst this
      obtain rfl := Option.some.inj h
      exact List.mem_cons_self ..
    · exact List.mem_cons_of_mem _ (mem_of_lookup h)
def opsAt : Code → Nat → Option (Array Oper)
  | .region id ops _, r => if id = r then some ops else none
  | .seq a b, r => match opsAt a r with
    | some x => some x
    | none => opsAt b r
  | .cond _ a b, r => match opsAt a r with
    | some x => some x
    | none => opsAt b r
  | .block _ c, r => opsAt c r
  | .loop c, r => opsAt c r
  | .scope c, r => opsAt c r
  | _, _ => none
/-- an operation's place in the text, for the operations that may wrap -/
def posAt (fn : Func) (r k : Nat) : String := match (fn.body.bind fun c => opsAt c r).bind fun ops => ops[k]? with
  | some o => o.pos
  | none => fn.name
/-- the map of kinds as the program's text lays it -/
def LKm : LkMap := ⟨55, 0, [(1, 1), (2, 1), (3, 1), (4, 2), (5, 1), (6, 1), (7, 1)], [(1, 11), (2, 12), (3, 12), (4, 8), (5, 13), (6, 8), (7, 9)], [1, 2, 3, 4, 5, 6, 7]⟩
def globs : List HE := []
def GW (w : World) : Prop := LookOk Tryd.prog LKm w.heap.size w
theorem GW.later (w w' : World) (h : GW w) (hb : Below w.heap.size w w') : GW w' := by
  obtain ⟨mv, h⟩ := h
  exact ⟨mv, fun w2 h2 => h w2 (hb.trans (h2.mono hb.size))⟩
theorem GW.globs {C : Cfg} (hC : C.globL = []) (w : World) (h : GW w) : ∃ bs : List BI, bs.length = globs.length ∧ (∀ b ∈ bs, b.own = noOwn) ∧ (∀ (j : Nat) e b, globs[j]? = some e → bs[j]? = some b → ∀ ρ β, EOk ρ β (fun _ => False) w b e) ∧ ∀ g k, C.glob g = some k → ∃ b, bs[k]? = some b ∧ b.v.addr = some ⟨g, 0, none⟩ :=
  ⟨[], rfl, fun b hb => (by cases hb), fun j e b hj => (by simp [Go.Proofs.YtiiabaklipmbbaaDoor.globs] at hj), fun g k hg => (by simp [Cfg.glob, hC] at hg)⟩
noncomputable def cfgW (wr : List String) (l : List (PrG Tryd.prog GW)) (loops : List LA) : Cfg := { ty := fun t => Tab.tyL.lookup t, fn := fun f => Tab.fnL.lookup f, con := prSig l, globL := [], loops := loops, wraps := wr, strs := Tab.strL }
theorem nameOk : Tab.fnL.all (fun x => !(x.2.name == "runtime.NumGoroutine")) = true := by kernel_rfl
theorem cfgOk (wr : List String) (l : List (PrG Tryd.prog GW)) (loops : List LA) : (cfgW wr l loops).Ok Tryd.prog where
  ty := fun t d h => ⟨List.all_eq_true.1 tyOk _ (mem_of_lookup h)⟩
  fn := fun f fn h => fnOk _ (mem_of_lookup h)
  str := fun t h => by
    have := List.all_eq_true.1 strOk t (List.contains_iff_mem.1 h)
    split at this
    · assumption
    · cases this
  eq := fun t d h hp => by
    have := List.all_eq_true.1 plainOk _ (mem_of_lookup h)
    simp only [hp, Bool.not_true, Bool.false_or] at this
    exact plain_eq this
/-- a function's contract out of what is left to show -/
theorem meetsW (wr : List String) (l : List (PrG Tryd.prog GW)) (loops : List LA) {sig : CSig} (hok : (sig.ins.all (fun h => h.l.all Sh0.okB)) = true) (f : FuncId) {pre : List AV → Prop} {raw : List AV → List AV} {V : Prop}
    (he : (allAV (insKs sig.ins) fun avs => pre avs → (exec (cfgW wr l loops) globs 12 f sig).vc (prCon l) (fun ρ ks outs => doneQ ρ sig.outs ks outs (raw avs)) avs []) = V) (hv : V) : MeetsG Tryd.prog GW (mkCon sig pre raw) f sig :=
  meets_vcG GW.later (GW.globs rfl) (cfgOk wr l loops) (prOk l rfl) rfl (fun f fn h => by
    have := List.all_eq_true.1 nameOk _ (mem_of_lookup h)
    simpa using this) hok 12 (he ▸ hv)
theorem meets (l : List (PrG Tryd.prog GW)) (loops : List LA) {sig : CSig} (hok : (sig.ins.all (fun h => h.l.all Sh0.okB)) = true) (f : FuncId) {pre : List AV → Prop} {raw : List AV → List AV} {V : Prop}
    (he : (allAV (insKs sig.ins) fun avs => pre avs → (exec (cfgW [] l loops) globs 12 f sig).vc (prCon l) (fun ρ ks outs => doneQ ρ sig.outs ks outs (raw avs)) avs []) = V) (hv : V) : MeetsG Tryd.prog GW (mkCon sig pre raw) f sig := meetsW [] l loops hok f he hv
/-- the same for functions that are walked through with all that is known -/
noncomputable def cfgC (l : List (PrG Tryd.prog GW)) : Cfg := { ty := fun t => Tab.tyL.lookup t, fn := fun f => Tab.fnL.lookup f, con := prSig l, globL := [], loops := [], conc := 300, strs := Tab.strL }
theorem cfgCOk (l : List (PrG Tryd.prog GW)) : (cfgC l).Ok Tryd.prog := ⟨(cfgOk [] l []).ty, (cfgOk [] l []).fn, (cfgOk [] l []).str, (cfgOk [] l []).eq⟩
theorem meetsK (l : List (PrG Tryd.prog GW)) {sig : CSig} (hok : (sig.ins.all (fun h => h.l.all Sh0.okB)) = true) (f : FuncId) {pre : List AV → Prop} {raw : List AV → List AV} {V : Prop}
    (he : (allAV (insKs sig.ins) fun avs => pre avs → (exec (cfgC l) globs 30 f sig).vc (prCon l) (fun ρ ks outs => doneQ ρ sig.outs ks outs (raw avs)) avs []) = V) (hv : V) : MeetsG Tryd.prog GW (mkCon sig pre raw) f sig :=
  meets_vcG GW.later (GW.globs rfl) (cfgCOk l) (prOk l rfl) rfl (fun f fn h => by
    have := List.all_eq_true.1 nameOk _ (mem_of_lookup h)
    simpa using this) hok 30 (he ▸ hv)
end Go.Proofs.YtiiabaklipmbbaaDoor
