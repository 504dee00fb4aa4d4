/- A symbolic executor of loaded Go functions: its definitions. What it gives is a tree of conditions (Tree); Tree.den says what the tree asks. -/
import Derived.WalkKit
import Derived.Calls
namespace Go.Proofs.Ytiiabaklipmbbaa.Vc
noncomputable section
open Go

def getI {α : Type} (l : List α) (n : Nat) : Option α := l[n]?
def setI {α : Type} (l : List α) (n : Nat) (a : α) : List α := l.set n a
/-- the element at a place: few steps for the kernel -/
def getF {α : Type} (l : List α) (n : Nat) : Option α :=
  @_root_.Nat.rec (fun _ => List α → Option α) (fun l => @List.rec α (fun _ => Option α) none (fun h _ _ => some h) l) (fun _ ih l => ih (@List.rec α (fun _ => List α) [] (fun _ t _ => t) l)) n l
def setF {α : Type} (l : List α) (n : Nat) (a : α) : List α :=
  @_root_.Nat.rec (fun _ => List α → List α) (fun l => @List.rec α (fun _ => List α) [] (fun _ t _ => a :: t) l) (fun _ ih l => @List.rec α (fun _ => List α) [] (fun h t _ => h :: ih t) l) n l
def dropI {α : Type} (n : Nat) (l : List α) : List α := l.drop n
def dropF {α : Type} (n : Nat) (l : List α) : List α :=
  @_root_.Nat.rec (fun _ => List α → List α) (fun l => l) (fun _ ih l => ih (@List.rec α (fun _ => List α) [] (fun _ t _ => t) l)) n l
theorem dropF_eq {α : Type} : ∀ (n : Nat) (l : List α), dropF n l = l.drop n
  | 0, l => rfl
  | n + 1, [] => by
    show dropF n [] = _
    rw [dropF_eq n []]; simp
  | n + 1, _ :: l => by
    show dropF n l = _
    rw [dropF_eq n l]; rfl
theorem getF_eq {α : Type} : ∀ (l : List α) (n : Nat), getF l n = l[n]?
  | [], 0 => rfl
  | _ :: _, 0 => rfl
  | [], n + 1 => by
    show getF [] n = _
    rw [getF_eq [] n]; simp
  | _ :: l, n + 1 => by
    show getF l n = _
    rw [getF_eq l n]; simp
theorem setF_eq {α : Type} : ∀ (l : List α) (n : Nat) (a : α), setF l n a = l.set n a
  | [], 0, _ => rfl
  | _ :: _, 0, _ => rfl
  | [], _ + 1, _ => rfl
  | h :: l, n + 1, a => by
    show h :: setF l n a = _
    rw [setF_eq l n a]; rfl

/-- what a variable of the reckoning may stand for: a number, a truth value, a list of rows of cells, a list of such lists -/
inductive AV where
  | i (z : Int)
  | b (p : Bool)
  | a (f : Int → Nat → Int)
  | m (l : Int → Int) (f : Int → Int → Nat → Int)
def AV.int : AV → Int | .i z => z | _ => 0
def AV.bool : AV → Bool | .b p => p | _ => false
def AV.fn : AV → Int → Nat → Int | .a f => f | _ => fun _ _ => 0
def AV.mlen : AV → Int → Int | .m l _ => l | _ => fun _ => 0
def AV.mfn : AV → Int → Int → Nat → Int | .m _ f => f | _ => fun _ _ _ => 0

inductive Bin where
  | add | sub | mul | quo | rem | min | max | lt | le | eq | and | or | shl | shr
  deriving DecidableEq, Repr

inductive X where
  | var (n : Nat)
  | lit (z : Int)
  | bl (p : Bool)
  | bin (o : Bin) (x y : X)
  | not (x : X)
  | inr (k : IntKind) (x : X)
  | wrap (k : IntKind) (x : X)
  | ite (c x y : X)
  | get (a i : X) (f : Nat)
  | set (a i : X) (f : Nat) (e : X)
  | shift (a i : X)
  | app (a n b : X)
  | zeros
  | row (m i : X)
  | mlen (m i : X)
  deriving DecidableEq, Repr

def Bin.den (o : Bin) (x y : AV) : AV :=
  match o with
  | .add => .i (x.int + y.int)
  | .sub => .i (x.int - y.int)
  | .mul => .i (x.int * y.int)
  | .quo => .i (x.int.tdiv y.int)
  | .rem => .i (x.int.tmod y.int)
  | .min => .i (Min.min x.int y.int)
  | .max => .i (Max.max x.int y.int)
  | .lt => .b (decide (x.int < y.int))
  | .le => .b (decide (x.int ≤ y.int))
  | .eq => .b (decide (x.int = y.int))
  | .and => .b (x.bool && y.bool)
  | .or => .b (x.bool || y.bool)
  | .shl => .i (x.int * 2 ^ y.int.toNat)
  | .shr => .i (x.int.fdiv (2 ^ y.int.toNat))

def inr (k : IntKind) (z : Int) : Bool := decide (k.min ≤ z) && decide (z ≤ k.max)

def X.den (ρ : List AV) : X → AV
  | .var n => ρ.getD n (.i 0)
  | .lit z => .i z
  | .bl p => .b p
  | .bin o x y => o.den (x.den ρ) (y.den ρ)
  | .not x => .b (!(x.den ρ).bool)
  | .inr k x => .b (Vc.inr k (x.den ρ).int)
  | .wrap k x => .i (k.wrap (x.den ρ).int)
  | .ite c x y => .i (if (c.den ρ).bool then (x.den ρ).int else (y.den ρ).int)
  | .get a i f => .i ((a.den ρ).fn (i.den ρ).int f)
  | .set a i f e => .a fun j g => if j = (i.den ρ).int ∧ g = f then (e.den ρ).int else (a.den ρ).fn j g
  | .shift a i => .a fun j g => (a.den ρ).fn (j + (i.den ρ).int) g
  | .app a n b => .a fun j g => if j < (n.den ρ).int then (a.den ρ).fn j g else (b.den ρ).fn (j - (n.den ρ).int) g
  | .zeros => .a fun _ _ => 0
  | .row m i => .a fun j g => (m.den ρ).mfn (i.den ρ).int j g
  | .mlen m i => .i ((m.den ρ).mlen (i.den ρ).int)

/-- all variables are below n -/
def X.lt (n : Nat) : X → Bool
  | .var k => decide (k < n)
  | .lit _ | .bl _ | .zeros => true
  | .bin _ x y | .shift x y | .row x y | .mlen x y | .get x y _ => x.lt n && y.lt n
  | .not x | .inr _ x | .wrap _ x => x.lt n
  | .ite c x y | .app c x y | .set c x _ y => c.lt n && x.lt n && y.lt n

/-! reckoning with what is known -/
def Bin.fold (o : Bin) (x y : Int) : X :=
  match o with
  | .add => .lit (x + y)
  | .sub => .lit (x - y)
  | .mul => .lit (x * y)
  | .quo => .lit (x.tdiv y)
  | .rem => .lit (x.tmod y)
  | .min => .lit (Min.min x y)
  | .max => .lit (Max.max x y)
  | .lt => .bl (decide (x < y))
  | .le => .bl (decide (x ≤ y))
  | .eq => .bl (decide (x = y))
  | .shl => .lit (x * 2 ^ y.toNat)
  | .shr => .lit (x.fdiv (2 ^ y.toNat))
  | .and => .bl false
  | .or => .bl false
def xAnd (x y : X) : X :=
  match x with
  | .bl true => y
  | .bl false => .bl false
  | x => match y with
    | .bl true => x
    | .bl false => .bl false
    | y => .bin .and x y
def xOr (x y : X) : X :=
  match x with
  | .bl false => y
  | .bl true => .bl true
  | x => match y with
    | .bl false => x
    | .bl true => .bl true
    | y => .bin .or x y
def isLit (z : Int) : X → Bool
  | .lit y => decide (y = z)
  | _ => false
def xf (o : Bin) (x y : X) : X :=
  match x with
  | .lit a => match y with
    | .lit b => o.fold a b
    | y => .bin o (.lit a) y
  | x => .bin o x y
def xb (o : Bin) (x y : X) : X :=
  match o with
  | .and => xAnd x y
  | .or => xOr x y
  | .add => if isLit 0 y then x else if isLit 0 x then y else xf .add x y
  | .sub => if isLit 0 y then x else xf .sub x y
  | o => xf o x y
def mkNot : X → X
  | .bl p => .bl (!p)
  | .not x => x
  | x => .not x
def mkInr (k : IntKind) : X → X
  | .lit z => .bl (Vc.inr k z)
  | x => .inr k x
def mkIte (c x y : X) : X :=
  match c with
  | .bl true => x
  | .bl false => y
  | c => if x = y then x else .ite c x y
def mkItb (c x y : X) : X :=
  match c, x, y with
  | .bl true, x, _ => x
  | .bl false, _, y => y
  | c, x, .bl false => xb .and c x
  | c, .bl true, y => xb .or c y
  | c, x, y => xb .or (xb .and c x) (xb .and (mkNot c) y)
def mkShift (a i : X) : X :=
  match i with
  | .lit 0 => a
  | i => .shift a i

/-! symbolic values -/
inductive FK where
  | int (k : IntKind)
  | bool
  deriving DecidableEq, Repr

inductive SB where
  | blk (k : Nat)
  | row (k : Nat) (i : X)
  deriving DecidableEq, Repr

/-- one cell that is no function -/
inductive Sc0 where
  | int (k : IntKind) (e : X)
  | bool (e : X)
  | ptr (b : SB) (sz : Nat) (i : X) (f : Nat)
  | nilp
  | slc (b : SB) (sz : Nat) (off len : X) (cp : Option X)
  | nils
  deriving DecidableEq, Repr
inductive Sc where
  | c (s : Sc0)
  | fn (f : Nat) (first caps : List Sc0)
  | nilf
  deriving DecidableEq, Repr
inductive V1 where
  | sc (s : Sc)
  | agg (l : List Sc)
  deriving DecidableEq, Repr
inductive SV where
  | v (x : V1)
  | tup (l : List V1)
  | undef
  deriving DecidableEq, Repr
structure Slot where
  g : X
  v : SV
  deriving DecidableEq, Repr

inductive Body where
  | cells (l : List Sc)
  | arr (sh : List FK) (a n : X)
  | mat (sh : List FK) (m n : X)
  | gone
  deriving DecidableEq, Repr
structure HE where
  own : Bool
  body : Body
  g : X := .bl true      -- it is there only where this holds
  deriving DecidableEq, Repr
inductive VK where
  | i | b | a | m
  deriving DecidableEq, Repr
def VK.fix : VK → AV → AV
  | .i, v => .i v.int
  | .b, v => .b v.bool
  | .a, v => .a v.fn
  | .m, v => .m v.mlen v.mfn
def fixL : List VK → List AV → List AV
  | [], _ => []
  | k :: ks, [] => k.fix (.i 0) :: fixL ks []
  | k :: ks, v :: vs => k.fix v :: fixL ks vs
def ent (own : Bool) (b : Body) : HE := ⟨own, b, .bl true⟩
structure S where
  tmps : List (Option Slot)
  heap : List HE
  facts : List X
  ks : List VK      -- the variables' kinds
  lvl : Nat         -- loops around
  deriving DecidableEq, Repr

/-! the program's types, and what is given -/
inductive DK where
  | scalar
  | bool
  | int (k : IntKind)
  | struct (fields : List (Nat × Nat × Nat))   -- offset, size, type
  | arr (len esz : Nat)
  | slice (elem : TypeId)
  deriving DecidableEq, Repr
structure TD where
  dk : DK
  size : Nat
  bytes : Nat
  zero : List Sc
  el : TypeId       -- an array's elements
  plain : Bool      -- '==' looks at every cell, each a number or a truth value
  deriving Repr
/-- shapes of what a contract takes and gives -/
inductive Sh0 where
  | int (k : IntKind)
  | bool
  | slc (sh : List FK)
  | mat (sh : List FK)
  deriving DecidableEq, Repr
structure Sh where
  agg : Bool
  l : List Sh0
  deriving DecidableEq, Repr
structure CSig where
  ins : List Sh
  outs : List Sh
  deriving Repr
inductive LR where
  | slot (t : Nat)
  | cell (t j : Nat)
  deriving Repr
inductive LM where
  | sc
  | own (sh : List FK)
  | lst (sh : List FK)
  | win
  | arr
  | keep
  deriving Repr
structure LA where
  fn : Nat
  rid : Nat
  gens : List (LR × LM)
  unr : Nat := 0     -- not general: so many rounds
  deriving Repr
structure Cfg where
  ty : TypeId → Option TD
  fn : FuncId → Option Func
  con : FuncId → Option CSig
  globL : List (Nat × Nat)      -- package-level variables that are entries
  loops : List LA
  wraps : List String := []     -- where numbers may wrap
  strs : List TypeId := []  -- types of strings
  conc : Nat := 0          -- not 0: everything is known: no facts are gathered, loops run so many rounds at most

def Cfg.glob (C : Cfg) (g : Nat) : Option Nat := C.globL.lookup g
/-- what is left to show -/
inductive Tree where
  | fail (why : String)
  | done (ks : List VK) (outs : List X)
  | cond (b : X) (t e : Tree)
  | need (b : X) (t : Tree)
  | assume (b : X) (t : Tree)
  | call (g : X) (f : FuncId) (aks ks : List VK) (args : List X) (t : Tree)
  | loop (ks : List VK) (init : List X) (t : Tree)
  | next (lvl : Nat) (ks : List VK) (args : List X)
  | fresh (k : VK) (t : Tree)
  | both (a b : Tree)
  deriving Repr

/-- the meaning of the contracts: what is asked of the arguments, and the results -/
structure Con where
  pre : List AV → Prop
  out : List AV → List AV

def allAV : List VK → (List AV → Prop) → Prop
  | [], p => p []
  | .i :: ks, p => ∀ x : Int, allAV ks fun l => p (.i x :: l)
  | .b :: ks, p => ∀ x : Bool, allAV ks fun l => p (.b x :: l)
  | .a :: ks, p => ∀ x : Int → Nat → Int, allAV ks fun l => p (.a x :: l)
  | .m :: ks, p => ∀ (x : Int → Int) (y : Int → Int → Nat → Int), allAV ks fun l => p (.m x y :: l)

def Tree.den (Γ : FuncId → Con) (Q : List AV → Prop) (ρ : List AV) (ctx : List (List AV → Prop)) : Tree → Prop
  | .fail _ => False
  | .done ks outs => Q (fixL ks (outs.map (X.den ρ)))
  | .cond b t e => ((b.den ρ).bool = true → t.den Γ Q ρ ctx) ∧ ((b.den ρ).bool = false → e.den Γ Q ρ ctx)
  | .need b t => (b.den ρ).bool = true ∧ t.den Γ Q ρ ctx
  | .assume b t => (b.den ρ).bool = true → t.den Γ Q ρ ctx
  | .call g f aks ks args t => ((g.den ρ).bool = true → (Γ f).pre (fixL aks (args.map (X.den ρ)))) ∧ t.den Γ Q (ρ ++ fixL ks ((Γ f).out (fixL aks (args.map (X.den ρ))))) ctx
  | .loop ks init t => ∃ (I : List AV → Prop) (μ : List AV → Nat), I (fixL ks (init.map (X.den ρ))) ∧
      allAV ks fun vs => I vs → t.den Γ Q (ρ ++ vs) (ctx ++ [fun ns => I ns ∧ μ ns < μ vs])
  | .next lvl ks args => (ctx.getD lvl fun _ => False) (fixL ks (args.map (X.den ρ)))
  | .fresh k t => allAV [k] fun l => t.den Γ Q (ρ ++ l) ctx
  | .both a b => a.den Γ Q ρ ctx ∧ b.den Γ Q ρ ctx

/-! the executor -/
def isT : X → Bool
  | .bl p => p
  | _ => false
theorem isT_eq {x : X} (h : isT x = true) : x = .bl true := by
  unfold isT at h
  split at h
  · rw [h]
  · cases h
def isBl (p : Bool) : X → Bool
  | .bl q => match p with
    | true => q
    | false => match q with
      | true => false
      | false => true
  | _ => false
theorem isBl_eq {p : Bool} {x : X} (h : isBl p x = true) : x = .bl p := by
  unfold isBl at h
  split at h
  · cases p <;> rename_i q <;> cases q <;> first | rfl | cases h
  · cases h
def conjIn (x : X) : X → Bool
  | .bin .and a b => (x = .bin .and a b) || conjIn x a || conjIn x b
  | .bl p => isBl p x
  | y => decide (x = y)
/-- what a number is at least, as far as the facts tell it plainly -/
def X.lb (fs : List X) : X → Option Int
  | .lit z => some z
  | .var n => if fs.any (conjIn (.bin .le (.lit 0) (.var n))) then some 0 else none
  | .bin .add a b => match a.lb fs, b.lb fs with
    | some x, some y => some (x + y)
    | _, _ => none
  | _ => none
def boundB (fs : List X) : X → Bool
  | .bin .le (.lit z) (.bin .add a b) => match (X.bin .add a b).lb fs with | some w => decide (z ≤ w) | none => false
  | .bin .lt (.lit z) (.bin .add a b) => match (X.bin .add a b).lb fs with | some w => decide (z < w) | none => false
  | .not (.bin .eq (.bin .add a b) (.lit z)) => match (X.bin .add a b).lb fs with | some w => decide (z < w) | none => false
  | _ => false
def S.holds (s : S) (g x : X) : Bool := isT x || conjIn x g || s.facts.any (conjIn x) || boundB s.facts x
def S.put (s : S) (d : Option Nat) (sl : Slot) : S :=
  match d with
  | none => s
  | some t => { s with tmps := setF s.tmps t (some sl) }
/-- the list itself, looked at now -/
def forceL {α : Type} : List α → List α
  | [] => []
  | x :: l => x :: l
theorem forceL_eq {α : Type} (l : List α) : forceL l = l := by cases l <;> rfl
def S.with (s : S) (l : List X) : S := { s with facts := l ++ forceL s.facts }
def S.add (s : S) (e : HE) : S := { s with heap := s.heap ++ [e] }
def S.fact (s : S) (x : X) : S := if s.holds (.bl true) x then s else { s with facts := x :: s.facts }
def S.body (s : S) (g : X) (k : Nat) : Option HE := match getF s.heap k with
  | some e => if s.holds g e.g then some e else none
  | none => none
def S.setBody (s : S) (k : Nat) (b : Body) : S := { s with heap := setF s.heap k (ent true b) }

/-- the same, looked at now -/
def S.tidy (s : S) : S := { s with heap := forceL s.heap, ks := forceL s.ks, facts := forceL s.facts }
theorem S.tidy_eq (s : S) : s.tidy = s := by simp only [S.tidy, forceL_eq]

def scOf (k : IntKind) (z : Int) : SV := .v (.sc (.c (.int k (.lit z))))
def constSV : Value → Option SV
  | .int k z => some (scOf k z)
  | .bool p => some (.v (.sc (.c (.bool (.bl p)))))
  | .pointer none => some (.v (.sc (.c .nilp)))
  | .slice none 0 0 => some (.v (.sc (.c .nils)))
  | .nilFunc => some (.v (.sc .nilf))
  | _ => none
def S.opd (s : S) (C : Cfg) : Operand → Option Slot
  | .tmp t => (getF s.tmps t).bind id
  | .const v => (constSV v).map fun x => { g := .bl true, v := x }
  | .global g => (C.glob g).map fun k => { g := .bl true, v := .v (.sc (.c (.ptr (.blk k) 1 (.lit 0) 0))) }
  | .func f => some { g := .bl true, v := .v (.sc (.fn f [] [])) }
/-- the operand's value, where its guard is met under g -/
def S.val (s : S) (C : Cfg) (g : X) (o : Operand) : Option SV :=
  match s.opd C o with
  | some sl => if s.holds g sl.g then some sl.v else none
  | none => none
def S.int (s : S) (C : Cfg) (g : X) (o : Operand) : Option (IntKind × X) :=
  match s.val C g o with
  | some (.v (.sc (.c (.int k e)))) => some (k, e)
  | _ => none
def S.bool (s : S) (C : Cfg) (g : X) (o : Operand) : Option X :=
  match s.val C g o with
  | some (.v (.sc (.c (.bool e)))) => some e
  | _ => none
def V1.cells : V1 → List Sc
  | .sc s => [s]
  | .agg l => l

/-- the result of an operation that leaves old memory alone -/
structure R where
  needs : List X
  v : SV
  add : Option HE := none
  assume : List X := []
  deriving Repr

def rI (k : IntKind) (e : X) (needs : List X := []) : R := { needs, v := .v (.sc (.c (.int k e))) }
def rB (e : X) (needs : List X := []) : R := { needs, v := .v (.sc (.c (.bool e))) }
def rC (s : Sc0) (needs : List X := []) : R := { needs, v := .v (.sc (.c s)) }

def arith (k : IntKind) (e : X) (needs : List X := []) : R := rI k e (needs ++ [mkInr k e])
def mapOpt {α β : Type} (f : α → Option β) : List α → Option (List β)
  | [] => some []
  | x :: l => match f x, mapOpt f l with
    | some y, some m => some (y :: m)
    | _, _ => none
def fkOf : Sc → Option FK
  | .c (.int k _) => some (.int k)
  | .c (.bool _) => some .bool
  | _ => none
def eqCells : List Sc → List Sc → Option X
  | [], [] => some (.bl true)
  | .c (.int k x) :: l, .c (.int k' y) :: l' => if k = k' then (eqCells l l').map (xb .and (xb .eq x y)) else none
  | .c (.bool x) :: l, .c (.bool y) :: l' => (eqCells l l').map (xb .and (xb .or (xb .and x y) (xb .and (mkNot x) (mkNot y))))
  | _, _ => none
def boolEq (x y : X) : X :=
  match x, y with
  | x, .bl true => x
  | .bl true, y => y
  | x, .bl false => mkNot x
  | .bl false, y => mkNot y
  | x, y => xb .or (xb .and x y) (xb .and (mkNot x) (mkNot y))

def opBin (C : Cfg) (op : BinOp) (t : TypeId) (x y : SV) : Option R :=
  match x, y with
  | .v (.sc (.c (.int k a))), .v (.sc (.c (.int k' b))) =>
    match op with
    | .shl => some (arith k (xb .shl a b) [xb .le (.lit 0) b, xb .lt b (.lit k.bits)])
    | .shr => some (rI k (xb .shr a b) [xb .le (.lit 0) b, xb .lt b (.lit k.bits)])
    | _ =>
    if k = k' then
      match op with
      | .add => some (arith k (xb .add a b))
      | .sub => some (arith k (xb .sub a b))
      | .mul => some (arith k (xb .mul a b))
      | .quo => some (arith k (xb .quo a b) [mkNot (xb .eq b (.lit 0))])
      | .rem => some (rI k (xb .rem a b) [mkNot (xb .eq b (.lit 0))])
      | .eql => some (rB (xb .eq a b))
      | .neq => some (rB (mkNot (xb .eq a b)))
      | .lss => some (rB (xb .lt a b))
      | .leq => some (rB (xb .le a b))
      | .gtr => some (rB (xb .lt b a))
      | .geq => some (rB (xb .le b a))
      | _ => none
    else none
  | .v (.sc (.c (.bool a))), .v (.sc (.c (.bool b))) =>
    match C.ty t with
    | some { dk := .bool, .. } =>
      match op with
      | .eql => some (rB (boolEq a b))
      | .neq => some (rB (mkNot (boolEq a b)))
      | _ => none
    | _ => none
  | .v (.sc (.c (.slc _ _ _ (.lit n) _))), .v (.sc (.c .nils)) =>
    match C.ty t with
    | some { dk := .slice _, .. } => if 0 < n then match op with
        | .eql => some (rB (.bl false))
        | .neq => some (rB (.bl true))
        | _ => none
      else none
    | _ => none
  | .v (.sc (.c .nils)), .v (.sc (.c .nils)) =>
    match C.ty t with
    | some { dk := .slice _, .. } => match op with
        | .eql => some (rB (.bl true))
        | .neq => some (rB (.bl false))
        | _ => none
    | _ => none
  | .v (.agg a), .v (.agg b) =>
    match C.ty t with
    | some d => if d.plain ∧ (mapOpt fkOf a).isSome ∧ mapOpt fkOf a = mapOpt fkOf d.zero then
        match eqCells a b with
        | none => none
        | some e => match op with
          | .eql => some (rB e)
          | .neq => some (rB (mkNot e))
          | _ => none
      else none
    | none => none
  | _, _ => none

/-- sums that may wrap -/
def opWrap (op : BinOp) (x y : SV) : Option R :=
  match x, y with
  | .v (.sc (.c (.int k a))), .v (.sc (.c (.int k' b))) =>
    if k = k' then
      match op with
      | .add => some (rI k (.wrap k (xb .add a b)))
      | .sub => some (rI k (.wrap k (xb .sub a b)))
      | .mul => some (rI k (.wrap k (xb .mul a b)))
      | _ => none
    else none
  | _, _ => none
/-- a constant place: cell offset -/
def constOff (sz : Nat) (i : X) (f : Nat) : Option Nat :=
  match i with
  | .lit z => if 0 ≤ z then some (z.toNat * sz + f) else none
  | _ => none
/-- one number of a list: what was written last there, where that can be told -/
def mkGet (a i : X) (f : Nat) : X :=
  match a with
  | .set b j g e => if f = g then (if i = j then e else match i, j with
      | .lit x, .lit y => if x = y then .get a i f else mkGet b i f
      | _, _ => .get a i f) else mkGet b i f
  | .app b n c => match i, n with
    | .lit x, .lit m => if x < m then mkGet b i f else mkGet c (.lit (x - m)) f
    | _, _ => .get a i f
  | .shift b j => match i, j with
    | .lit x, .lit y => mkGet b (.lit (x + y)) f
    | _, _ => .get a i f
  | .zeros => .lit 0
  | a => .get a i f
def FK.get (fk : FK) (a i : X) (f : Nat) : Sc :=
  match fk with
  | .int k => .c (.int k (mkGet a i f))
  | .bool => .c (.bool (mkNot (xb .eq (mkGet a i f) (.lit 0))))
/-- n cells from f on -/
def fkCells (sh : List FK) (a i : X) (f n : Nat) : Option (List Sc) :=
  if f + n ≤ sh.length then some (((sh.drop f).take n).zipIdx.map fun (k, j) => k.get a i (f + j)) else none
/-- one of several cells, by the number i counted from j -/
def sel (i : X) : Nat → List Sc → Option Sc
  | _, [] => none
  | _, [c] => some c
  | j, .c (.int k e) :: l => match sel i (j + 1) l with
    | some (.c (.int k' e')) => if k = k' then some (.c (.int k (mkIte (xb .eq i (.lit j)) e e'))) else none
    | _ => none
  | j, .c (.bool e) :: l => match sel i (j + 1) l with
    | some (.c (.bool e')) => some (.c (.bool (mkItb (xb .eq i (.lit j)) e e')))
    | _ => none
  | _, _ => none
/-- cells f, f + sz, f + 2 sz .. -/
def every (sz f : Nat) : Nat → List Sc → List Sc
  | 0, _ => []
  | n + 1, l => match l[f]? with
    | some c => c :: every sz f n (l.drop sz)
    | none => []
/-- the cells at a place of an entry: (needs, cells) -/
def Body.load (b : Body) (sz : Nat) (i : X) (f n : Nat) (k : Nat) : Option (List X × List Sc) :=
  match b with
  | .cells l =>
    match constOff sz i f with
    | some c => if c + n ≤ l.length then some ([], (dropF c l).take n) else none
    | none =>
      let cnt := (l.length - f - n) / sz + 1
      if 0 < n ∧ n ≤ sz ∧ f + n ≤ l.length then
        (mapOpt (fun j => if (every sz (f + j) cnt l).length = cnt then sel i 0 (every sz (f + j) cnt l) else none) (List.range n)).map fun cs => ([xb .le (.lit 0) i, xb .lt i (.lit cnt)], cs)
      else none
  | .arr sh a m => if sz = sh.length then (fkCells sh a i f n).map fun cs => ([xb .le (.lit 0) i, xb .lt i m], cs) else none
  | .mat sh x m => if sz = 1 ∧ f = 0 ∧ n = 1 then some ([xb .le (.lit 0) i, xb .lt i m], [.c (.slc (.row k i) sh.length (.lit 0) (.mlen x i) none)]) else none
  | .gone => none
def S.loadAt (s : S) (g : X) (b : SB) (sz : Nat) (i : X) (f n : Nat) : Option (List X × List Sc) :=
  match b with
  | .blk k => match s.body g k with
    | some e => e.body.load sz i f n k
    | none => none
  | .row k r => match s.body g k with
    | some { body := .mat sh x m, .. } => if sz = sh.length then (fkCells sh (.row x r) i f n).map fun cs => ([xb .le (.lit 0) r, xb .lt r m, xb .le (.lit 0) i, xb .lt i (.mlen x r)], cs) else none
    | _ => none
def v1Of (agg : Bool) (l : List Sc) : Option V1 :=
  if agg then some (.agg l) else match l with
    | [c] => some (.sc c)
    | _ => none
def DK.agg : DK → Bool
  | .struct _ | .arr _ _ => true
  | _ => false

def fillCells (place : Nat → Option (Nat × Nat)) (cells : List Sc) : List (Nat × V1) → Option (List Sc)
  | [] => some cells
  | (i, v) :: rest =>
    match place i with
    | none => none
    | some (off, size) =>
      if v.cells.length = size ∧ off + size ≤ cells.length then fillCells place (cells.take off ++ v.cells ++ cells.drop (off + size)) rest else none
def partsOf (s : S) (C : Cfg) (g : X) : List (Nat × Operand) → Option (List (Nat × V1))
  | [] => some []
  | (i, o) :: l => match s.val C g o, partsOf s C g l with
    | some (.v x), some m => some ((i, x) :: m)
    | _, _ => none
def repCells (z : List Sc) : Nat → List Sc
  | 0 => []
  | n + 1 => z ++ repCells z n
def caps0 : List SV → Option (List Sc0)
  | [] => some []
  | .v (.sc (.c x)) :: l => (caps0 l).map (x :: ·)
  | _ => none
def foldM2 (o : Bin) (k : IntKind) (e : X) : List SV → Option (IntKind × X)
  | [] => some (k, e)
  | .v (.sc (.c (.int k' e'))) :: l => if k = k' then foldM2 o k (xb o e e') l else none
  | _ => none
def foldMM (o : Bin) : List SV → Option (IntKind × X)
  | .v (.sc (.c (.int k e))) :: l => foldM2 o k e l
  | _ => none
def zerosB (l : List Sc) : Bool := l.all fun
  | .c (.int _ (.lit 0)) => true
  | .c (.bool (.bl false)) => true
  | _ => false
def strAt (b : ByteArray) (z : Int) : Option Int := if h : 0 ≤ z ∧ z.toNat < b.size then some (b[z.toNat]'h.2).toNat else none
def qPick (C : Cfg) (s : S) (g : X) (c a b : Operand) : Option R :=
    match s.bool C g c with
    | some (.bl true) => (s.val C g a).map fun v => { needs := [], v }
    | some (.bl false) => (s.val C g b).map fun v => { needs := [], v }
    | some e =>
      if s.holds g e then (s.val C g a).map fun v => { needs := [], v }
      else if s.holds g (mkNot e) then (s.val C g b).map fun v => { needs := [], v }
      else if s.holds (.bl true) (mkNot (xb .and g (mkNot e))) then (s.val C (xb .and g e) a).map fun v => { needs := [], v }
      else if s.holds (.bl true) (mkNot (xb .and g e)) then (s.val C (xb .and g (mkNot e)) b).map fun v => { needs := [], v }
      else match s.val C (xb .and g e) a, s.val C (xb .and g (mkNot e)) b with
      | some (.v (.sc (.c (.bool x)))), some (.v (.sc (.c (.bool y)))) => some (rB (mkItb e x y))
      | some (.v (.sc (.c (.int k x)))), some (.v (.sc (.c (.int k' y)))) => if k = k' then some (rI k (mkIte e x y)) else none
      | _, _ => none
    | none => none
def qBin (C : Cfg) (s : S) (g : X) (pos : String) (op : BinOp) (t : TypeId) (x y : Operand) : Option R :=
    match s.val C g x, s.val C g y with
    | some a, some b => if C.wraps.any (fun p => p == pos) then opWrap op a b else opBin C op t a b
    | _, _ => none
def qUn (C : Cfg) (s : S) (g : X) (pos : String) (op : UnOp) (x : Operand) : Option R :=
    match op, s.val C g x with
    | .not, some (.v (.sc (.c (.bool e)))) => some (rB (mkNot e))
    | .neg, some (.v (.sc (.c (.int k e)))) => if C.wraps.any (fun p => p == pos) then some (rI k (.wrap k (xb .sub (.lit 0) e))) else some (arith k (xb .sub (.lit 0) e))
    | _, _ => none
def qConv (C : Cfg) (s : S) (g : X) (src dst : TypeId) (x : Operand) : Option R :=
    match s.int C g x, C.ty src, C.ty dst with
    | some (_, e), some _, some { dk := .int k, .. } => some (arith k e)
    | _, _, _ => none
def qExtract (C : Cfg) (s : S) (g : X) (t : Operand) (ix : Nat) : Option R :=
    match s.val C g t with
    | some (.tup l) => (l[ix]?).map fun v => { needs := [], v := .v v }
    | _ => none
def qLoad (C : Cfg) (s : S) (g : X) (t : TypeId) (p : Operand) : Option R :=
    match s.val C g p, C.ty t with
    | some (.v (.sc (.c (.ptr b sz i f)))), some d =>
      match s.loadAt g b sz i f d.size with
      | some (nd, cs) => (v1Of d.dk.agg cs).map fun v => { needs := nd, v := .v v }
      | none => none
    | _, _ => none
def qField (C : Cfg) (s : S) (g : X) (t : TypeId) (x : Operand) (f : Nat) : Option R :=
    match s.val C g x, C.ty t with
    | some (.v (.agg l)), some { dk := .struct fs, .. } =>
      match fs[f]? with
      | some (off, size, ft) =>
        match C.ty ft with
        | some d => if d.size = size ∧ off + d.size ≤ l.length then (v1Of d.dk.agg ((l.drop off).take d.size)).map fun v => { needs := [], v := .v v } else none
        | none => none
      | none => none
    | _, _ => none
def qFieldAddr (C : Cfg) (s : S) (g : X) (t : TypeId) (x : Operand) (f : Nat) : Option R :=
    match s.val C g x, C.ty t with
    | some (.v (.sc (.c (.ptr b sz i f0)))), some { dk := .struct fs, .. } =>
      match fs[f]? with
      | some (off, size, _) => if size = 0 then none else some (rC (.ptr b sz i (f0 + off)))
      | none => none
    | _, _ => none
def qIndexAddr (C : Cfg) (s : S) (g : X) (t : TypeId) (x ix : Operand) : Option R :=
    match s.val C g x, s.int C g ix, C.ty t with
    | some (.v (.sc (.c (.slc b sz off len _)))), some (_, i), some { dk := .slice e, .. } =>
      match C.ty e with
      | some d => if d.size = sz then some (rC (.ptr b sz (xb .add off i) 0) [xb .le (.lit 0) i, xb .lt i len]) else none
      | none => none
    | some (.v (.sc (.c (.ptr b sz i0 f0)))), some (_, i), some { dk := .arr n esz, .. } =>
      match constOff sz i0 f0 with
      | some c => some (rC (.ptr b esz i c) [xb .le (.lit 0) i, xb .lt i (.lit n)])
      | none => match i with
        | .lit z => if 0 ≤ z ∧ z < n then some (rC (.ptr b sz i0 (f0 + z.toNat * esz))) else none
        | _ => none
    | _, _, _ => none
def qIndex (C : Cfg) (s : S) (g : X) (t : TypeId) (x ix : Operand) : Option R :=
  match x with
  | .const (.string b) => if C.strs.contains t then (match s.int C g ix with
    | some (_, .lit z) => (strAt b z).map fun v => rI .u8 (.lit v)
    | _ => none) else none
  | x =>
    match s.val C g x, s.int C g ix, C.ty t with
    | some (.v (.agg l)), some (_, .lit z), some { dk := .arr n esz, el := e, .. } =>
      match C.ty e with
      | some d => if d.size = esz ∧ 0 ≤ z ∧ z < n ∧ z.toNat * esz + d.size ≤ l.length then (v1Of d.dk.agg ((l.drop (z.toNat * esz)).take d.size)).map fun v => { needs := [], v := .v v } else none
      | none => none
    | some (.v (.agg l)), some (_, i), some { dk := .arr n esz, el := e, .. } =>
      match C.ty e with
      | some d => if d.size = esz ∧ 0 < esz ∧ l.length = n * esz then
          match mapOpt (fun j => if (every esz j n l).length = n then sel i 0 (every esz j n l) else none) (List.range esz) with
          | some cs => (v1Of d.dk.agg cs).map fun v => { needs := [xb .le (.lit 0) i, xb .lt i (.lit n)], v := .v v }
          | none => none
        else none
      | none => none
    | _, _, _ => none
def qNil (C : Cfg) (s : S) (g : X) (x : Operand) : Option R :=
    match s.val C g x with
    | some (.v (.sc (.c (.ptr b sz i f)))) => some (rC (.ptr b sz i f))
    | some (.v (.sc (.fn f a b))) => some { needs := [], v := .v (.sc (.fn f a b)) }
    | _ => none
def qSlice (C : Cfg) (s : S) (g : X) (t : TypeId) (x : Operand) (lo hi mx : Option Operand) : Option R :=
    match s.val C g x, C.ty t with
    | some (.v (.sc (.c (.slc b sz off len cp)))), some { dk := .slice e, .. } =>
      match C.ty e with
      | some d => if d.size = sz ∧ (mx.isSome → hi.isSome) then
        let l : Option X := match lo with | none => some (.lit 0) | some o => (s.int C g o).map fun x => x.2
        let h : Option X := match hi with | none => some len | some o => (s.int C g o).map fun x => x.2
        let m : Option (Option X) := match mx with | none => some none | some o => (s.int C g o).map fun x => some x.2
        match l, h, m with
        | some l, some h, some none =>
          some (rC (.slc b sz (xb .add off l) (xb .sub h l) (cp.map fun c => xb .sub c l)) [xb .le (.lit 0) l, xb .le l h, xb .le h len])
        | some l, some h, some (some m) =>
          some (rC (.slc b sz (xb .add off l) (xb .sub h l) (some (xb .sub m l))) [xb .le (.lit 0) l, xb .le l h, xb .le h m, xb .le m len])
        | _, _, _ => none
        else none
      | none => none
    | some (.v (.sc (.c .nils))), some { dk := .slice e, .. } =>
        let l : Option X := match lo with | none => some (.lit 0) | some o => (s.int C g o).map fun x => x.2
        let h : Option X := match hi with | none => some (.lit 0) | some o => (s.int C g o).map fun x => x.2
        match l, h, mx, C.ty e with
        | some l, some h, none, some _ => some (rC .nils [xb .eq l (.lit 0), xb .eq h (.lit 0)])
        | _, _, _, _ => none
    | _, _ => none
def qFunc (C : Cfg) (s : S) (g : X) (f : FuncId) (first captured : Array Operand) : Option R :=
    match (mapOpt (s.val C g) first.toList).bind caps0, (mapOpt (s.val C g) captured.toList).bind caps0 with
    | some a, some b => some { needs := [], v := .v (.sc (.fn f a b)) }
    | _, _ => none
def qBuild (C : Cfg) (s : S) (g : X) (t : TypeId) (parts : Array (Nat × Operand)) : Option R :=
    match C.ty t, partsOf s C g parts.toList with
    | some { dk := .struct fs, zero := z, .. }, some ps => (fillCells (fun i => (fs[i]?).map fun x => (x.1, x.2.1)) z ps).map fun l => { needs := [], v := .v (.agg l) }
    | some { dk := .arr _ esz, zero := z, .. }, some ps => (fillCells (fun i => some (i * esz, esz)) z ps).map fun l => { needs := [], v := .v (.agg l) }
    | _, _ => none
def qAlloc (C : Cfg) (s : S) (g : X) (t : TypeId) : Option R :=
  let new := SB.blk s.heap.length
    match C.ty t with
    | some d => some { needs := [], v := .v (.sc (.c (.ptr new 1 (.lit 0) 0))), add := some (ent true (.cells d.zero)) }
    | none => none
def qBox (C : Cfg) (s : S) (g : X) (t : TypeId) (x : Operand) : Option R :=
  let new := SB.blk s.heap.length
    match s.val C g x, C.ty t with
    | some (.v x), some d => if x.cells.length = d.size then some { needs := [], v := .v (.sc (.c (.ptr new 1 (.lit 0) 0))), add := some (ent true (.cells x.cells)) } else none
    | _, _ => none
def qBuildSlice (C : Cfg) (s : S) (g : X) (t : TypeId) (n : Nat) (parts : Array (Nat × Operand)) : Option R :=
  let new := SB.blk s.heap.length
    match C.ty t, partsOf s C g parts.toList with
    | some { dk := .slice e, .. }, some ps =>
      match C.ty e with
      | some d => if n * d.size ≤ 2 ^ 24 ∧ n ≤ 2 ^ 24 then (fillCells (fun i => some (i * d.size, d.size)) (repCells d.zero n) ps).map fun l =>
          { needs := [], v := .v (.sc (.c (.slc new d.size (.lit 0) (.lit n) (some (.lit n))))), add := some (ent true (.cells l)) } else none
      | none => none
    | _, _ => none
def qMakeSlice (C : Cfg) (s : S) (g : X) (t : TypeId) (l c : Operand) : Option R :=
  let new := SB.blk s.heap.length
    match C.ty t, s.int C g l, s.int C g c with
    | some { dk := .slice e, .. }, some (_, l), some (_, c) =>
      if l = c then
        match C.ty e with
        | some d =>
          match l with
          | .lit n => if 0 ≤ n ∧ n ≤ 4096 ∧ n * d.bytes ≤ 2 ^ 47 then some { needs := [], v := .v (.sc (.c (.slc new d.size (.lit 0) (.lit n) (some (.lit n))))), add := some (ent true (.cells (repCells d.zero n.toNat))) } else none
          | l => if 0 < d.bytes ∧ zerosB d.zero then match mapOpt fkOf d.zero with
            | some sh => some { needs := [xb .le (.lit 0) l, xb .le (xb .mul l (.lit d.bytes)) (.lit (2 ^ 47))], v := .v (.sc (.c (.slc new d.size (.lit 0) l none))), add := some (ent true (.arr sh .zeros l)) }
            | none => none
            else none
        | none => none
      else none
    | _, _, _ => none
def qCall (C : Cfg) (s : S) (g : X) : Call → Option R
  | { callee := .builtin .len, args := args, argTypes := ts } =>
    match args.toList, ts.toList with
    | [x], [t] => match s.val C g x, C.ty t with
      | some (.v (.sc (.c (.slc _ _ _ len _)))), some { dk := .slice _, .. } => some (rI .i64 len)
      | some (.v (.sc (.c .nils))), some { dk := .slice _, .. } => some (rI .i64 (.lit 0))
      | _, _ => none
    | _, _ => none
  | { callee := .builtin .min, args := args, .. } => match (mapOpt (s.val C g) args.toList).bind (foldMM .min) with
    | some (k, e) => some (rI k e)
    | none => none
  | { callee := .builtin .max, args := args, .. } => match (mapOpt (s.val C g) args.toList).bind (foldMM .max) with
    | some (k, e) => some (rI k e)
    | none => none
  | _ => none
/-- operations that leave old memory as it is -/
def qop (C : Cfg) (s : S) (g : X) (o : Oper) : Option R :=
  match o.op with
  | .move x | .assign x => (s.val C g x).map fun v => { needs := [], v }
  | .pick c a b => qPick C s g c a b
  | .binOp op t x y _ => qBin C s g o.pos op t x y
  | .unOp op _ x => qUn C s g o.pos op x
  | .convert src dst x => qConv C s g src dst x
  | .extract t ix => qExtract C s g t ix
  | .load t p => qLoad C s g t p
  | .field t x f => qField C s g t x f
  | .fieldAddr t x f => qFieldAddr C s g t x f
  | .indexAddr t x ix => qIndexAddr C s g t x ix
  | .index t x ix => qIndex C s g t x ix
  | .nilCheck x => qNil C s g x
  | .slice t x lo hi mx => qSlice C s g t x lo hi mx
  | .makeFunc (.func f) first captured => qFunc C s g f first captured
  | .build t parts => qBuild C s g t parts
  | .alloc t => qAlloc C s g t
  | .box t x => qBox C s g t x
  | .buildSlice t n parts => qBuildSlice C s g t n parts
  | .makeSlice t l c => qMakeSlice C s g t l c
  | .call c => qCall C s g c
  | _ => none
/-- the same in one -/
def qopAll (C : Cfg) (s : S) (g : X) (o : Oper) : Option R :=
  let new := SB.blk s.heap.length
  match o.op with
  | .move x | .assign x => (s.val C g x).map fun v => { needs := [], v }
  | .pick c a b =>
    match s.bool C g c with
    | some (.bl true) => (s.val C g a).map fun v => { needs := [], v }
    | some (.bl false) => (s.val C g b).map fun v => { needs := [], v }
    | some e =>
      if s.holds g e then (s.val C g a).map fun v => { needs := [], v }
      else if s.holds g (mkNot e) then (s.val C g b).map fun v => { needs := [], v }
      else if s.holds (.bl true) (mkNot (xb .and g (mkNot e))) then (s.val C (xb .and g e) a).map fun v => { needs := [], v }
      else if s.holds (.bl true) (mkNot (xb .and g e)) then (s.val C (xb .and g (mkNot e)) b).map fun v => { needs := [], v }
      else match s.val C (xb .and g e) a, s.val C (xb .and g (mkNot e)) b with
      | some (.v (.sc (.c (.bool x)))), some (.v (.sc (.c (.bool y)))) => some (rB (mkItb e x y))
      | some (.v (.sc (.c (.int k x)))), some (.v (.sc (.c (.int k' y)))) => if k = k' then some (rI k (mkIte e x y)) else none
      | _, _ => none
    | none => none
  | .binOp op t x y _ =>
    match s.val C g x, s.val C g y with
    | some a, some b => if C.wraps.any (fun p => p == o.pos) then opWrap op a b else opBin C op t a b
    | _, _ => none
  | .unOp op _ x =>
    match op, s.val C g x with
    | .not, some (.v (.sc (.c (.bool e)))) => some (rB (mkNot e))
    | .neg, some (.v (.sc (.c (.int k e)))) => if C.wraps.any (fun p => p == o.pos) then some (rI k (.wrap k (xb .sub (.lit 0) e))) else some (arith k (xb .sub (.lit 0) e))
    | _, _ => none
  | .convert src dst x =>
    match s.int C g x, C.ty src, C.ty dst with
    | some (_, e), some _, some { dk := .int k, .. } => some (arith k e)
    | _, _, _ => none
  | .extract t ix =>
    match s.val C g t with
    | some (.tup l) => (l[ix]?).map fun v => { needs := [], v := .v v }
    | _ => none
  | .load t p =>
    match s.val C g p, C.ty t with
    | some (.v (.sc (.c (.ptr b sz i f)))), some d =>
      match s.loadAt g b sz i f d.size with
      | some (nd, cs) => (v1Of d.dk.agg cs).map fun v => { needs := nd, v := .v v }
      | none => none
    | _, _ => none
  | .field t x f =>
    match s.val C g x, C.ty t with
    | some (.v (.agg l)), some { dk := .struct fs, .. } =>
      match fs[f]? with
      | some (off, size, ft) =>
        match C.ty ft with
        | some d => if d.size = size ∧ off + d.size ≤ l.length then (v1Of d.dk.agg ((l.drop off).take d.size)).map fun v => { needs := [], v := .v v } else none
        | none => none
      | none => none
    | _, _ => none
  | .fieldAddr t x f =>
    match s.val C g x, C.ty t with
    | some (.v (.sc (.c (.ptr b sz i f0)))), some { dk := .struct fs, .. } =>
      match fs[f]? with
      | some (off, size, _) => if size = 0 then none else some (rC (.ptr b sz i (f0 + off)))
      | none => none
    | _, _ => none
  | .indexAddr t x ix =>
    match s.val C g x, s.int C g ix, C.ty t with
    | some (.v (.sc (.c (.slc b sz off len _)))), some (_, i), some { dk := .slice e, .. } =>
      match C.ty e with
      | some d => if d.size = sz then some (rC (.ptr b sz (xb .add off i) 0) [xb .le (.lit 0) i, xb .lt i len]) else none
      | none => none
    | some (.v (.sc (.c (.ptr b sz i0 f0)))), some (_, i), some { dk := .arr n esz, .. } =>
      match constOff sz i0 f0 with
      | some c => some (rC (.ptr b esz i c) [xb .le (.lit 0) i, xb .lt i (.lit n)])
      | none => match i with
        | .lit z => if 0 ≤ z ∧ z < n then some (rC (.ptr b sz i0 (f0 + z.toNat * esz))) else none
        | _ => none
    | _, _, _ => none
  | .index t x ix =>
    match x with
    | .const (.string b) => if C.strs.contains t then (match s.int C g ix with
      | some (_, .lit z) => (strAt b z).map fun v => rI .u8 (.lit v)
      | _ => none) else none
    | x =>
    match s.val C g x, s.int C g ix, C.ty t with
    | some (.v (.agg l)), some (_, .lit z), some { dk := .arr n esz, el := e, .. } =>
      match C.ty e with
      | some d => if d.size = esz ∧ 0 ≤ z ∧ z < n ∧ z.toNat * esz + d.size ≤ l.length then (v1Of d.dk.agg ((l.drop (z.toNat * esz)).take d.size)).map fun v => { needs := [], v := .v v } else none
      | none => none
    | some (.v (.agg l)), some (_, i), some { dk := .arr n esz, el := e, .. } =>
      match C.ty e with
      | some d => if d.size = esz ∧ 0 < esz ∧ l.length = n * esz then
          match mapOpt (fun j => if (every esz j n l).length = n then sel i 0 (every esz j n l) else none) (List.range esz) with
          | some cs => (v1Of d.dk.agg cs).map fun v => { needs := [xb .le (.lit 0) i, xb .lt i (.lit n)], v := .v v }
          | none => none
        else none
      | none => none
    | _, _, _ => none
  | .nilCheck x =>
    match s.val C g x with
    | some (.v (.sc (.c (.ptr b sz i f)))) => some (rC (.ptr b sz i f))
    | some (.v (.sc (.fn f a b))) => some { needs := [], v := .v (.sc (.fn f a b)) }
    | _ => none
  | .slice t x lo hi mx =>
    match s.val C g x, C.ty t with
    | some (.v (.sc (.c (.slc b sz off len cp)))), some { dk := .slice e, .. } =>
      match C.ty e with
      | some d => if d.size = sz ∧ (mx.isSome → hi.isSome) then
        let l : Option X := match lo with | none => some (.lit 0) | some o => (s.int C g o).map fun x => x.2
        let h : Option X := match hi with | none => some len | some o => (s.int C g o).map fun x => x.2
        let m : Option (Option X) := match mx with | none => some none | some o => (s.int C g o).map fun x => some x.2
        match l, h, m with
        | some l, some h, some none =>
          some (rC (.slc b sz (xb .add off l) (xb .sub h l) (cp.map fun c => xb .sub c l)) [xb .le (.lit 0) l, xb .le l h, xb .le h len])
        | some l, some h, some (some m) =>
          some (rC (.slc b sz (xb .add off l) (xb .sub h l) (some (xb .sub m l))) [xb .le (.lit 0) l, xb .le l h, xb .le h m, xb .le m len])
        | _, _, _ => none
        else none
      | none => none
    | some (.v (.sc (.c .nils))), some { dk := .slice e, .. } =>
        let l : Option X := match lo with | none => some (.lit 0) | some o => (s.int C g o).map fun x => x.2
        let h : Option X := match hi with | none => some (.lit 0) | some o => (s.int C g o).map fun x => x.2
        match l, h, mx, C.ty e with
        | some l, some h, none, some _ => some (rC .nils [xb .eq l (.lit 0), xb .eq h (.lit 0)])
        | _, _, _, _ => none
    | _, _ => none
  | .makeFunc (.func f) first captured =>
    match (mapOpt (s.val C g) first.toList).bind caps0, (mapOpt (s.val C g) captured.toList).bind caps0 with
    | some a, some b => some { needs := [], v := .v (.sc (.fn f a b)) }
    | _, _ => none
  | .build t parts =>
    match C.ty t, partsOf s C g parts.toList with
    | some { dk := .struct fs, zero := z, .. }, some ps => (fillCells (fun i => (fs[i]?).map fun x => (x.1, x.2.1)) z ps).map fun l => { needs := [], v := .v (.agg l) }
    | some { dk := .arr _ esz, zero := z, .. }, some ps => (fillCells (fun i => some (i * esz, esz)) z ps).map fun l => { needs := [], v := .v (.agg l) }
    | _, _ => none
  | .alloc t =>
    match C.ty t with
    | some d => some { needs := [], v := .v (.sc (.c (.ptr new 1 (.lit 0) 0))), add := some (ent true (.cells d.zero)) }
    | none => none
  | .box t x =>
    match s.val C g x, C.ty t with
    | some (.v x), some d => if x.cells.length = d.size then some { needs := [], v := .v (.sc (.c (.ptr new 1 (.lit 0) 0))), add := some (ent true (.cells x.cells)) } else none
    | _, _ => none
  | .buildSlice t n parts =>
    match C.ty t, partsOf s C g parts.toList with
    | some { dk := .slice e, .. }, some ps =>
      match C.ty e with
      | some d => if n * d.size ≤ 2 ^ 24 ∧ n ≤ 2 ^ 24 then (fillCells (fun i => some (i * d.size, d.size)) (repCells d.zero n) ps).map fun l =>
          { needs := [], v := .v (.sc (.c (.slc new d.size (.lit 0) (.lit n) (some (.lit n))))), add := some (ent true (.cells l)) } else none
      | none => none
    | _, _ => none
  | .makeSlice t l c =>
    match C.ty t, s.int C g l, s.int C g c with
    | some { dk := .slice e, .. }, some (_, l), some (_, c) =>
      if l = c then
        match C.ty e with
        | some d =>
          match l with
          | .lit n => if 0 ≤ n ∧ n ≤ 4096 ∧ n * d.bytes ≤ 2 ^ 47 then some { needs := [], v := .v (.sc (.c (.slc new d.size (.lit 0) (.lit n) (some (.lit n))))), add := some (ent true (.cells (repCells d.zero n.toNat))) } else none
          | l => if 0 < d.bytes ∧ zerosB d.zero then match mapOpt fkOf d.zero with
            | some sh => some { needs := [xb .le (.lit 0) l, xb .le (xb .mul l (.lit d.bytes)) (.lit (2 ^ 47))], v := .v (.sc (.c (.slc new d.size (.lit 0) l none))), add := some (ent true (.arr sh .zeros l)) }
            | none => none
            else none
        | none => none
      else none
    | _, _, _ => none
  | .call { callee := .builtin .len, args := args, argTypes := ts } =>
    match args.toList, ts.toList with
    | [x], [t] => match s.val C g x, C.ty t with
      | some (.v (.sc (.c (.slc _ _ _ len _)))), some { dk := .slice _, .. } => some (rI .i64 len)
      | some (.v (.sc (.c .nils))), some { dk := .slice _, .. } => some (rI .i64 (.lit 0))
      | _, _ => none
    | _, _ => none
  | .call { callee := .builtin .min, args := args, .. } => match (mapOpt (s.val C g) args.toList).bind (foldMM .min) with
    | some (k, e) => some (rI k e)
    | none => none
  | .call { callee := .builtin .max, args := args, .. } => match (mapOpt (s.val C g) args.toList).bind (foldMM .max) with
    | some (k, e) => some (rI k e)
    | none => none
  | _ => none

theorem qop_eq (C : Cfg) (s : S) (g : X) (o : Oper) : qop C s g o = qopAll C s g o := by
  unfold qop qopAll
  cases o.op with
  | call c =>
    obtain ⟨callee, args, ts⟩ := c
    cases callee with
    | builtin b => cases b <;> rfl
    | _ => rfl
  | makeFunc f a b => cases f <;> rfl
  | _ => rfl
/-! calls by contract -/
def setAll (sh : List FK) (a i : X) : Nat → List Sc → Option X
  | _, [] => some a
  | f, .c (.int k e) :: l => match sh[f]? with
    | some (.int k') => if k = k' then setAll sh (.set a i f e) i (f + 1) l else none
    | _ => none
  | f, .c (.bool e) :: l => match sh[f]? with
    | some .bool => setAll sh (.set a i f (mkIte e (.lit 1) (.lit 0))) i (f + 1) l
    | _ => none
  | _, _ => none
/-- literal cells as rows -/
def rowsOf (sh : List FK) (a : X) (l : List Sc) : Nat → Nat → Option X
  | _, 0 => some a
  | j, n + 1 => match setAll sh a (.lit j) 0 (l.take sh.length) with
    | some a => rowsOf sh a (l.drop sh.length) (j + 1) n
    | none => none
/-- content, length, needs -/
def S.arrOf (s : S) (g : X) (sh : List FK) (b : SB) : Option (X × X × List X) :=
  match b with
  | .blk k => match s.body g k with
    | some { body := .arr sh' a n, .. } => if sh = sh' then some (a, n, []) else none
    | some { body := .cells l, .. } => if 0 < sh.length then (rowsOf sh .zeros l 0 (l.length / sh.length)).map fun a => (a, .lit (l.length / sh.length : Nat), []) else none
    | _ => none
  | .row k i => match s.body g k with
    | some { body := .mat sh' m n, .. } => if sh = sh' then some (.row m i, .mlen m i, [xb .le (.lit 0) i, xb .lt i n]) else none
    | _ => none
/-- needs, arguments -/
def argOf (s : S) (g : X) : Sh0 → Sc → Option (List X × List X)
  | .int k, .c (.int k' e) => if k = k' then some ([], [e]) else none
  | .bool, .c (.bool e) => some ([], [e])
  | .slc sh, .c (.slc b sz off len _) => if sz = sh.length then (s.arrOf g sh b).map fun x => (x.2.2 ++ (if off = .lit 0 ∧ len = x.2.1 then [] else [xb .le (xb .add off len) x.2.1]), [mkShift x.1 off, len]) else none
  | .slc _, .c .nils => some ([], [.zeros, .lit 0])
  | .mat sh, .c (.slc (.blk k) sz (.lit 0) len _) => match s.body g k with
    | some { body := .mat sh' m n, .. } => if sh = sh' ∧ sz = 1 ∧ len = n then some ([], [m, len]) else none
    | _ => none
  | .mat _, .c .nils => some ([], [.zeros, .lit 0])
  | _, _ => none
def argsOf (s : S) (g : X) : List Sh0 → List Sc → Option (List X × List X)
  | [], [] => some ([], [])
  | h :: hs, c :: cs => match argOf s g h c, argsOf s g hs cs with
    | some a, some b => some (a.1 ++ b.1, a.2 ++ b.2)
    | _, _ => none
  | _, _ => none
def argV (s : S) (g : X) (h : Sh) : V1 → Option (List X × List X)
  | .agg l => if h.agg then argsOf s g h.l l else none
  | .sc c => if h.agg then none else argsOf s g h.l [c]
def argsL (s : S) (g : X) : List Sh → List SV → Option (List X × List X)
  | [], [] => some ([], [])
  | h :: hs, .v v :: vs => match argV s g h v, argsL s g hs vs with
    | some a, some b => some (a.1 ++ b.1, a.2 ++ b.2)
    | _, _ => none
  | _, _ => none
def Sh0.ks : Sh0 → List VK
  | .int _ => [.i]
  | .bool => [.b]
  | .slc _ => [.a, .i]
  | .mat _ => [.m, .i]
def shKs (l : List Sh0) : List VK := l.flatMap Sh0.ks
def insKs (l : List Sh) : List VK := l.flatMap fun h => shKs h.l
/-- results: fresh variables from n on; new entries from k on -/
def outOf (n k : Nat) : List Sh0 → List Sc × List HE × List VK
  | [] => ([], [], [])
  | .int kd :: l => let r := outOf (n + 1) k l; (.c (.int kd (.var n)) :: r.1, r.2.1, .i :: r.2.2)
  | .bool :: l => let r := outOf (n + 1) k l; (.c (.bool (.var n)) :: r.1, r.2.1, .b :: r.2.2)
  | .slc sh :: l => let r := outOf (n + 2) (k + 1) l; (.c (.slc (.blk k) sh.length (.lit 0) (.var (n + 1)) none) :: r.1, (ent true (.arr sh (.var n) (.var (n + 1)))) :: r.2.1, .a :: .i :: r.2.2)
  | .mat sh :: l => let r := outOf (n + 2) (k + 1) l; (.c (.slc (.blk k) 1 (.lit 0) (.var (n + 1)) none) :: r.1, (ent false (.mat sh (.var n) (.var (n + 1)))) :: r.2.1, .m :: .i :: r.2.2)
def v1Sh (agg : Bool) (l : List Sc) : V1 := if agg then .agg l else match l with | [c] => .sc c | _ => .agg l
def outsL (n k : Nat) : List Sh → List V1 × List HE × List VK
  | [] => ([], [], [])
  | h :: hs =>
    let r := outOf n k h.l
    let q := outsL (n + r.2.2.length) (k + r.2.1.length) hs
    (v1Sh h.agg r.1 :: q.1, r.2.1 ++ q.2.1, r.2.2 ++ q.2.2)

/-! renaming: variables below N by σ, entries below K by r -/
def X.sub (N : Nat) (σ : Nat → X) : X → Option X
  | .var n => if n < N then some (σ n) else none
  | .lit z => some (.lit z)
  | .bl p => some (.bl p)
  | .zeros => some .zeros
  | .bin o x y => match x.sub N σ, y.sub N σ with | some x, some y => some (.bin o x y) | _, _ => none
  | .not x => match x.sub N σ with | some x => some (.not x) | none => none
  | .inr k x => match x.sub N σ with | some x => some (.inr k x) | none => none
  | .wrap k x => match x.sub N σ with | some x => some (.wrap k x) | none => none
  | .ite c x y => match c.sub N σ, x.sub N σ, y.sub N σ with | some c, some x, some y => some (.ite c x y) | _, _, _ => none
  | .get x y f => match x.sub N σ, y.sub N σ with | some x, some y => some (.get x y f) | _, _ => none
  | .set c x f y => match c.sub N σ, x.sub N σ, y.sub N σ with | some c, some x, some y => some (.set c x f y) | _, _, _ => none
  | .shift x y => match x.sub N σ, y.sub N σ with | some x, some y => some (.shift x y) | _, _ => none
  | .app c x y => match c.sub N σ, x.sub N σ, y.sub N σ with | some c, some x, some y => some (.app c x y) | _, _, _ => none
  | .row x y => match x.sub N σ, y.sub N σ with | some x, some y => some (.row x y) | _, _ => none
  | .mlen x y => match x.sub N σ, y.sub N σ with | some x, some y => some (.mlen x y) | _, _ => none
structure Ren where
  N : Nat
  σ : Nat → X
  K : Nat
  r : Nat → Nat
def SB.sub (R : Ren) : SB → Option SB
  | .blk k => if k < R.K then some (.blk (R.r k)) else none
  | .row k i => if k < R.K then match i.sub R.N R.σ with | some i => some (.row (R.r k) i) | none => none else none
def Sc0.sub (R : Ren) : Sc0 → Option Sc0
  | .int k e => match e.sub R.N R.σ with | some e => some (.int k e) | none => none
  | .bool e => match e.sub R.N R.σ with | some e => some (.bool e) | none => none
  | .ptr b sz i f => match b.sub R, i.sub R.N R.σ with | some b, some i => some (.ptr b sz i f) | _, _ => none
  | .nilp => some .nilp
  | .slc b sz off len none => match b.sub R, off.sub R.N R.σ, len.sub R.N R.σ with | some b, some off, some len => some (.slc b sz off len none) | _, _, _ => none
  | .slc b sz off len (some c) => match b.sub R, off.sub R.N R.σ, len.sub R.N R.σ, c.sub R.N R.σ with | some b, some off, some len, some c => some (.slc b sz off len (some c)) | _, _, _, _ => none
  | .nils => some .nils
def Sc.sub (R : Ren) : Sc → Option Sc
  | .c s => match s.sub R with | some s => some (.c s) | none => none
  | .fn f a b => match mapOpt (Sc0.sub R) a, mapOpt (Sc0.sub R) b with | some a, some b => some (.fn f a b) | _, _ => none
  | .nilf => some .nilf
def V1.sub (R : Ren) : V1 → Option V1
  | .sc s => match s.sub R with | some s => some (.sc s) | none => none
  | .agg l => match mapOpt (Sc.sub R) l with | some l => some (.agg l) | none => none
def SV.sub (R : Ren) : SV → Option SV
  | .v x => match x.sub R with | some x => some (.v x) | none => none
  | .tup l => match mapOpt (V1.sub R) l with | some l => some (.tup l) | none => none
  | .undef => some .undef
def Slot.sub (R : Ren) (s : Slot) : Option Slot := match s.g.sub R.N R.σ, s.v.sub R with | some g, some v => some ⟨g, v⟩ | _, _ => none
def Body.sub (R : Ren) : Body → Option Body
  | .cells l => match mapOpt (Sc.sub R) l with | some l => some (.cells l) | none => none
  | .arr sh a n => match a.sub R.N R.σ, n.sub R.N R.σ with | some a, some n => some (.arr sh a n) | _, _ => none
  | .mat sh a n => match a.sub R.N R.σ, n.sub R.N R.σ with | some a, some n => some (.mat sh a n) | _, _ => none
  | .gone => some .gone
def HE.sub (R : Ren) (e : HE) : Option HE := match e.body.sub R, e.g.sub R.N R.σ with | some b, some g => some ⟨e.own, b, g⟩ | _, _ => none
def optSub (R : Ren) : Option Slot → Option (Option Slot)
  | none => some none
  | some sl => match sl.sub R with | some sl => some (some sl) | none => none
/-- the state under more variables -/
def S.more (s : S) (ks : List VK) : Option S :=
  let R : Ren := ⟨s.ks.length, .var, s.heap.length, id⟩
  match mapOpt (optSub R) s.tmps, mapOpt (HE.sub R) s.heap, mapOpt (fun x => x.sub R.N R.σ) s.facts with
  | some t, some h, some f => some { s with tmps := t, heap := h, facts := f, ks := s.ks ++ ks }
  | _, _, _ => none
/-- a variable's kind, as the expression's head tells it -/
def X.kind (ks : List VK) : X → Option VK
  | .var n => ks[n]?
  | .lit _ | .wrap .. | .ite .. | .get .. | .mlen .. => some .i
  | .bl _ | .not _ | .inr .. => some .b
  | .set .. | .shift .. | .app .. | .zeros | .row .. => some .a
  | .bin o _ _ => match o with
    | .lt | .le | .eq | .and | .or => some .b
    | _ => some .i
/-- s is an instance of the general state h: h's variables from n on stand for args, h's entry k for s's entry r k -/
def HE.mine (e : HE) : Bool := e.own && (match e.body with | .gone => false | _ => true)
def S.inst (s h : S) (n : Nat) (args : List X) (r : List Nat) (fixed : List Nat) : Bool :=
  let R : Ren := ⟨n + args.length, fun i => if i < n then .var i else (args[i - n]?).getD (.lit 0), h.heap.length, fun k => (r[k]?).getD k⟩
  decide (h.tmps.length = s.tmps.length) && decide (h.ks.length = n + args.length) && decide (n ≤ s.ks.length) && decide (h.ks.take n = s.ks.take n) &&
  (args.zipIdx.all fun x => decide (x.1.kind s.ks = h.ks[n + x.2]?)) &&
  (h.tmps.zipIdx.all fun x => match x.1 with
    | none => true
    | some sl => match sl.sub R with | some y => decide (s.tmps[x.2]? = some (some y)) | none => false) &&
  (h.heap.zipIdx.all fun x => decide (R.r x.2 < s.heap.length) && match x.1.body with
    | .gone => true
    | _ => match x.1.sub R with | some y => decide (s.heap[R.r x.2]? = some y) | none => false) &&
  (h.facts.all fun x => match x.sub R.N R.σ with | some y => s.holds (.bl true) y | none => false) &&
  (h.heap.zipIdx.all fun x => h.heap.zipIdx.all fun y => !(x.1.mine && y.1.mine) || decide (x.2 = y.2) || decide (R.r x.2 ≠ R.r y.2)) &&
  fixed.all fun k => decide (R.r k = k) && decide (k < h.heap.length)

/-- what a state tells of its variables -/
def knownSc : Sc → List X
  | .c (.slc _ _ off len _) => [xb .le (.lit 0) off, xb .le (.lit 0) len, xb .le len (.lit 9223372036854775807)]
  | .c (.ptr _ _ i _) => [xb .le (.lit 0) i]
  | _ => []
def S.known (s : S) : List X :=
  (s.heap.flatMap fun e => if e.g ≠ .bl true then [] else match e.body with
    | .arr _ _ n => [xb .le (.lit 0) n]
    | .mat _ _ n => [xb .le (.lit 0) n]
    | .cells l => l.flatMap knownSc
    | .gone => []) ++
  (s.tmps.flatMap fun x => match x with
    | some { g := .bl true, v := .v (.sc c) } => knownSc c
    | _ => [])
def S.news (s : S) : List X := ((s.known.filter fun x => !s.holds (.bl true) x)).eraseDups

def S.newsC (s : S) (C : Cfg) : List X := if C.conc = 0 then s.news else []

inductive Ex where
  | normal
  | exit (id : Nat)
  | ret
  deriving DecidableEq, Repr

def imp (g x : X) : X := xb .or (mkNot g) x
def guardOf (s : S) (ops : Array Oper) (o : Oper) : Option X :=
  match o.guard with
  | none => some (.bl true)
  | some (j, b) =>
    match (ops[j]?).bind (·.dst) with
    | some t => match (s.tmps[t]?).bind id with
      | some { g := g, v := .v (.sc (.c (.bool e))) } => some (xb .and g (if b then e else mkNot e))
      | some { g := g, v := .undef } => some (.bl false)
      | _ => none
    | none => none

def retV (outs : List V1) : SV :=
  match outs with
  | [x] => .v x
  | l => .tup l

/-- one of two cells -/
def mergeSc (e : X) (v c : Sc) : Option Sc :=
  if v = c then some c else match v, c with
  | .c (.int k x), .c (.int k' y) => if k = k' then some (.c (.int k (mkIte e x y))) else none
  | .c (.bool x), .c (.bool y) => some (.c (.bool (mkItb e x y)))
  | _, _ => none
/-- cell p behind a store at the number i -/
def putSel (sz f : Nat) (i : X) (vs : List Sc) (x : Sc × Nat) : Option Sc :=
  if f ≤ x.2 then match vs[(x.2 - f) % sz]? with
    | some v => mergeSc (xb .eq i (.lit ((x.2 - f) / sz : Nat))) v x.1
    | none => some x.1
  else some x.1
/-- stores -/
def setCells (l : List Sc) (c : Nat) (vs : List Sc) : List Sc := l.take c ++ vs ++ l.drop (c + vs.length)
def Body.store (b : Body) (sz : Nat) (i : X) (f : Nat) (vs : List Sc) : Option (List X × Body) :=
  match b with
  | .cells l =>
    match constOff sz i f with
    | some c => if c + vs.length ≤ l.length then some ([], .cells (setCells l c vs)) else none
    | none => if 0 < vs.length ∧ vs.length ≤ sz ∧ f + vs.length ≤ l.length then
        (mapOpt (putSel sz f i vs) l.zipIdx).map fun l' => ([xb .le (.lit 0) i, xb .lt i (.lit ((l.length - f - vs.length) / sz + 1 : Nat))], .cells l')
      else none
  | .arr sh a m => if sz = sh.length ∧ f + vs.length ≤ sh.length then (setAll sh a i f vs).map fun a => ([xb .le (.lit 0) i, xb .lt i m], .arr sh a m) else none
  | _ => none
def S.storeAt (s : S) (b : SB) (sz : Nat) (i : X) (f : Nat) (vs : List Sc) : Option (List X × S) :=
  match b with
  | .blk k => match s.body (.bl true) k with
    | some { own := true, body := b, .. } => (b.store sz i f vs).map fun x => (x.1, s.setBody k x.2)
    | _ => none
  | .row _ _ => none
/-- a row of a list as an array expression with its length -/
def S.seqOf (s : S) (sh : List FK) : Sc → Option (X × X × List X)
  | .c (.slc b sz off len _) => if sz = sh.length then (s.arrOf (.bl true) sh b).map fun x => (mkShift x.1 off, len, x.2.2 ++ (if off = .lit 0 ∧ len = x.2.1 then [] else [xb .le (xb .add off len) x.2.1])) else none
  | .c .nils => some (.zeros, .lit 0, [])
  | _ => none
def shOf (C : Cfg) (t : TypeId) : Option (List FK) :=
  match C.ty t with
  | some { dk := .slice e, .. } => match C.ty e with
    | some d => mapOpt fkOf d.zero
    | none => none
  | _ => none
/-- what is appended to: content, length, the entry that is used up, needs -/
def baseOf (s : S) (sh : List FK) : Sc → Option (X × X × Option Nat × List X)
  | .c .nils => some (.zeros, .lit 0, none, [])
  | .c (.slc (.blk k) sz (.lit 0) len none) => match s.body (.bl true) k with
    | some { own := true, body := .arr sh' a n, .. } => if sh = sh' ∧ len = n ∧ sz = sh.length then some (a, n, some k, []) else none
    | _ => none
  | .c (.slc _ _ _ (.lit 0) (some (.lit 0))) => some (.zeros, .lit 0, none, [])
  | .c (.slc (.blk k) sz (.lit 0) (.lit n) (some (.lit n'))) => match s.body (.bl true) k with
    | some { own := true, body := .cells l, .. } => if n = n' ∧ sz = sh.length ∧ 0 < sh.length ∧ 0 ≤ n ∧ l.length = n.toNat * sh.length then (rowsOf sh .zeros l 0 n.toNat).map fun a => (a, .lit n, some k, []) else none
    | _ => none
  | _ => none
def S.spend (s : S) : Option Nat → S
  | some k => s.setBody k .gone
  | none => s
def appX (a n b : X) : X := match n with
  | .lit 0 => b
  | n => .app a n b
def emptyBase : Sc → Bool
  | .c .nils => true
  | .c (.slc _ _ _ (.lit z) (some (.lit z'))) => decide (z = 0) && decide (z' = 0)
  | _ => false
/-- the cells of a list whose bounds are known -/
def seqC (s : S) (sz : Nat) : Sc → Option (List Sc)
  | .c (.slc (.blk k) sz' (.lit o) (.lit n) _) => match s.body (.bl true) k with
    | some { body := .cells l, .. } => if sz' = sz ∧ 0 ≤ o ∧ 0 ≤ n ∧ (o.toNat + n.toNat) * sz ≤ l.length then some ((l.drop (o.toNat * sz)).take (n.toNat * sz)) else none
    | _ => none
  | _ => none
/-- append to nothing, of cells of any kind -/
def appendC (C : Cfg) (s : S) (e : TypeId) (x y : Sc) : Option (List X × Sc × S) :=
  match C.ty e with
  | some d => match seqC s d.size y with
    | some m => if emptyBase x ∧ 0 < d.size ∧ 0 < m.length ∧ m.length / d.size * d.bytes ≤ 2 ^ 47 ∧ m.length ≤ 2 ^ 24 then
        some ([], .c (.slc (.blk s.heap.length) d.size (.lit 0) (.lit (m.length / d.size : Nat)) none), s.add (ent true (.cells m)))
      else none
    | none => none
  | none => none
/-- (needs, result, state) of append -/
def appendAt (C : Cfg) (s : S) (t : TypeId) (x y : Sc) : Option (List X × Sc × S) :=
  match shOf C t, C.ty t with
  | some sh, some { dk := .slice e, .. } =>
    match C.ty e, baseOf s sh x, s.seqOf sh y with
    | some d, some (a, n, used, _), some (b, m, nd) =>
      if 0 < sh.length then
        some (nd ++ [xb .le (.lit 0) m, xb .le (xb .mul (xb .add n m) (.lit d.bytes)) (.lit (2 ^ 47)), xb .le (xb .add n m) (.lit (2 ^ 47))], .c (.slc (.blk s.heap.length) sh.length (.lit 0) (xb .add n m) none),
          (s.spend used).add (ent true (.arr sh (appX a n b) (xb .add n m))))
      else none
    | _, _, _ => none
  | none, some { dk := .slice e, .. } => appendC C s e x y
  | _, _ => none

def firstRid : Code → Option Nat
  | .region id _ _ => some id
  | .seq a b => match firstRid a with | some x => some x | none => firstRid b
  | .cond _ a b => match firstRid a with | some x => some x | none => firstRid b
  | .block _ c | .loop c | .scope c => firstRid c
  | .rangeFunc _ _ a b => match firstRid a with | some x => some x | none => firstRid b
  | _ => none
def asg : Code → List Nat
  | .region _ ops _ => ops.toList.filterMap (·.dst)
  | .seq a b | .cond _ a b => asg a ++ asg b
  | .block _ c | .loop c | .scope c => asg c
  | _ => []

def guarded (g : X) (e : HE) : HE := ⟨e.own, e.body, g⟩
/-- one step that leaves old memory as it is -/
structure St where
  needs : List X
  call : Option (X × FuncId × List VK × List VK × List X)
  s : S
def addE (s : S) (g : X) : Option HE → S
  | some e => s.add (guarded g e)
  | none => s
def callStep (C : Cfg) (s : S) (g : X) (o : Oper) : Option St :=
  match o.op with
  | .call { callee := .value f, args := args, .. } =>
    match s.val C g f, mapOpt (s.val C g) args.toList with
    | some (.v (.sc (.fn f first caps))), some vs =>
      match C.con f with
      | some sig =>
        match argsL s g sig.ins (first.map (fun c => SV.v (.sc (.c c))) ++ vs ++ caps.map (fun c => SV.v (.sc (.c c)))) with
        | some (nd, xs) =>
          let nd := (nd.filter fun x => !s.holds g x).map (imp g)
          let r := outsL s.ks.length s.heap.length sig.outs
          match (s.with nd).more r.2.2, (g.sub s.ks.length .var) with
          | some s', some g' =>
            some ⟨nd, some (g, f, insKs sig.ins, r.2.2, xs), ({ s' with heap := s'.heap ++ r.2.1.map (guarded g') }.put o.dst { g := g', v := retV r.1 })⟩
          | _, _ => none
        | none => none
      | none => none
    | _, _ => none
  | _ => none
def qstep (C : Cfg) (s : S) (ops : Array Oper) (o : Oper) : Option St :=
  match guardOf s ops o with
  | none => none
  | some g =>
    if s.holds (.bl true) (mkNot g) then some ⟨[], none, s.put o.dst { g := .bl true, v := .undef }⟩
    else
      let g := if s.holds (.bl true) g then .bl true else g
      match qop C s g o with
      | some r =>
        let nd := (r.needs.filter fun x => !s.holds g x).map (imp g)
        some ⟨nd, none, ((addE s g r.add).with nd).put o.dst { g := g, v := r.v }⟩
      | none => callStep C s g o
def needAll (l : List X) (t : Tree) : Tree := l.foldr Tree.need t
def assumeAll (l : List X) (t : Tree) : Tree := l.foldr Tree.assume t
def St.emit (x : St) (K : S → Tree) : Tree :=
  needAll x.needs (match x.call with
    | none => K x.s
    | some (g, f, aks, ks, xs) => .call g f aks ks xs (let l := x.s.news; assumeAll l (K (x.s.with l))))
/-- a step that writes -/
def estep (C : Cfg) (s : S) (o : Oper) : Option (List X × S) :=
  if o.guard.isSome then none else
  match o.op with
  | .store t p x =>
    match s.val C (.bl true) p, s.val C (.bl true) x, C.ty t with
    | some (.v (.sc (.c (.ptr b sz i f)))), some (.v v), some d =>
      if v.cells.length = d.size ∧ 0 < d.size then match s.storeAt b sz i f v.cells with
        | some (nd, s') => some (nd, s'.put o.dst { g := .bl true, v := .undef })
        | none => none
      else none
    | _, _, _ => none
  | .call { callee := .builtin .append, args := args, argTypes := ts } =>
    match args.toList, ts.toList with
    | [x, y], [t, t'] => if t = t' then match s.val C (.bl true) x, s.val C (.bl true) y with
      | some (.v (.sc x)), some (.v (.sc y)) => match appendAt C s t x y with
        | some (nd, v, s') => some (nd, s'.put o.dst { g := .bl true, v := .v (.sc v) })
        | none => none
      | _, _ => none
      else none
    | _, _ => none
  | _ => none

/-! which operations of a region whose order is open come first -/
def quietKind (C : Cfg) (o : Oper) : Bool :=
  match o.op with
  | .call { callee := .builtin .len, .. } | .call { callee := .builtin .min, .. } | .call { callee := .builtin .max, .. } | .call { callee := .builtin .append, .. } => true
  | .call { callee := .builtin _, .. } => false
  | .call { callee := .value (.func f), .. } => (C.con f).isSome
  | .call { callee := .value _, .. } => false
  | _ => true
def headN (C : Cfg) (l : List Oper) : Nat := (l.takeWhile (quietKind C)).length
def opTmps (o : Oper) : List Nat := o.op.operands.toList.filterMap fun | .tmp t => some t | _ => none
/-- the entries that an operation may look into or write -/
def SB.ent : SB → Nat
  | .blk k => k
  | .row k _ => k
def Sc0.ents : Sc0 → List Nat
  | .ptr b _ _ _ => [b.ent]
  | .slc b _ _ _ _ => [b.ent]
  | _ => []
def Sc.ents : Sc → List Nat
  | .c s => s.ents
  | .fn _ a b => (a ++ b).flatMap Sc0.ents
  | .nilf => []
def SV.ents : SV → List Nat
  | .v (.sc s) => s.ents
  | .v (.agg l) => l.flatMap Sc.ents
  | _ => []
def S.entsOf (C : Cfg) (s : S) (o : Operand) : List Nat := match s.opd C o with
  | some sl => sl.v.ents
  | none => []
def footOf (C : Cfg) (s : S) (o : Oper) : List Nat :=
  match o.op with
  | .load _ p => s.entsOf C p
  | .store _ p _ => s.entsOf C p
  | .call { callee := .builtin .append, args := args, .. } => args.toList.flatMap (s.entsOf C)
  | .call { callee := .value f, args := args, .. } => s.entsOf C f ++ args.toList.flatMap (s.entsOf C)
  | _ => []
/-- the entries of fs, and nothing of the others -/
def maskH (fs : List Nat) (l : List HE) : List HE := l.zipIdx.map fun (e, k) => if fs.contains k then e else { e with body := .gone }
/-- new entries; of the old ones those of fs anew, the others as they were -/
def mergeH (fs : List Nat) (old new : List HE) : List HE := new.zipIdx.map fun (n, k) => match old[k]? with
  | some o => if fs.contains k then n else o
  | none => n
def wrH (old new : List HE) : List Nat := (new.zipIdx.filter fun (n, k) => !decide (old[k]? = some n)).map (·.2)
def anyF (C : Cfg) (s : S) (ops : Array Oper) (o : Oper) (fs : List Nat) : Option (List Nat × St) :=
  let m : S := { s with heap := maskH fs s.heap }
  match qstep C m ops o with
  | some st => some (fs, { st with s := { st.s with heap := mergeH fs s.heap st.s.heap } })
  | none => match estep C m o with
    | some (nd, s') =>
      let nd := nd.filter fun x => !s.holds (.bl true) x
      some (fs, ⟨nd, none, { s'.with nd with heap := mergeH fs s.heap s'.heap }⟩)
    | none => none
def anyStep (C : Cfg) (s : S) (ops : Array Oper) (o : Oper) : Option (List Nat × St) := anyF C s ops o (footOf C s o)
def headRun (C : Cfg) (ops : Array Oper) : List Oper → S → Option (List (List Nat × St))
  | [], _ => some []
  | o :: l, s => match anyStep C s ops o with
    | none => none
    | some x => match headRun C ops l x.2.s with
      | none => none
      | some L => some (x :: L)
/-- what an operation looks into, what it writes, the slots that it reads and the one that it writes -/
structure Info where
  fs : List Nat
  wr : List Nat
  us : List Nat
  d : Option Nat
def usesOf (ops : Array Oper) (o : Oper) : List Nat := opTmps o ++ (match o.guard with | some (j, _) => ((ops[j]?).bind (·.dst)).toList | none => [])
def infosOf (ops : Array Oper) : List Oper → S → List (List Nat × St) → List Info
  | o :: l, s, x :: L => ⟨x.1, wrH s.heap x.2.s.heap, usesOf ops o, o.dst⟩ :: infosOf ops l x.2.s L
  | _, _, _ => []
def clash (a b : Info) : Bool :=
  (a.wr.any fun k => b.fs.contains k || b.wr.contains k) || (a.fs.any fun k => b.wr.contains k) ||
  (match a.d with | some t => b.us.contains t || decide (b.d = some t) | none => false) || (match b.d with | some t => a.us.contains t | none => false)
def addP (acc : List Nat) : List Nat → List Nat
  | [] => acc
  | x :: l => if acc.contains x then addP acc l else addP (x :: acc) l
def predsOne (acc : List (List Nat)) : List Edge → List Nat → List Nat
  | [], p => p
  | e :: l, p => if Region.binds .any e then (if p.contains e.on then predsOne acc l p else predsOne acc l (addP (e.on :: p) ((acc[e.on]?).getD []))) else predsOne acc l p
def predsOf : List (List Nat) → List Oper → List (List Nat)
  | acc, [] => acc
  | acc, o :: l => predsOf (acc ++ [predsOne acc o.after.toList.reverse []]) l
def orderB (ps : List (List Nat)) (is : List Info) : Bool :=
  is.zipIdx.all fun (b, j) => is.zipIdx.all fun (a, i) => !(decide (i < j) && clash a b) || ((ps[j]?).getD []).contains i
def tailB (pre tail : List Oper) : Bool :=
  (pre.zipIdx.all fun (o, i) => (o.after.all fun e => !Region.binds .any e || decide (e.on < i)) && match o.guard with | none => true | some (j, _) => decide (j < i)) &&
  (tail.all fun o => (List.range pre.length).all fun i => o.after.any fun e => Region.binds .any e && e.on == i) &&
  (tail.zipIdx.all fun (o, k) => (decide (k = 0) || o.after.any fun e => Region.binds .any e && e.on == pre.length + k - 1) && o.after.all fun e => !Region.binds .any e || decide (e.on < pre.length + k))

/-! what a loop's head is made general in: nothing of this is trusted, S.inst checks it -/
def getLoc (s : S) : LR → Option Sc
  | .slot t => match (s.tmps[t]?).bind id with
    | some { g := .bl true, v := .v (.sc c) } => some c
    | _ => none
  | .cell t j => match (s.tmps[t]?).bind id with
    | some { v := .v (.sc (.c (.ptr (.blk k) _ _ _))), .. } => match s.body (.bl true) k with
      | some { own := true, body := .cells l, .. } => l[j]?
      | _ => none
    | _ => none
def setLoc (s : S) (c : Sc) : LR → S
  | .slot t => s.put (some t) { g := .bl true, v := .v (.sc c) }
  | .cell t j => match (s.tmps[t]?).bind id with
    | some { v := .v (.sc (.c (.ptr (.blk k) _ _ _))), .. } => match s.body (.bl true) k with
      | some { own := true, body := .cells l, .. } => s.setBody k (.cells (l.set j c))
      | _ => s
    | _ => s
def entryOf : Sc → Option Nat
  | .c (.slc (.blk k) _ _ _ _) => some k
  | .c (.ptr (.blk k) _ _ _) => some k
  | _ => none
/-- the content of a list of our own -/
def ownOf (s : S) (sh : List FK) : Sc → Option (X × X)
  | .c (.slc (.blk k) sz (.lit 0) len none) => match s.body (.bl true) k with
    | some { own := true, body := .arr sh' a n, .. } => if sh = sh' ∧ len = n ∧ sz = sh.length then some (a, n) else none
    | _ => none
  | _ => none
/-- the content of a list that is only read -/
def lstOf (s : S) (sh : List FK) : Sc → Option (X × X)
  | .c (.slc (.blk k) sz (.lit 0) len none) => match s.body (.bl true) k with
    | some { own := false, body := .arr sh' a n, .. } => if sh = sh' ∧ len = n ∧ sz = sh.length then some (a, n) else none
    | _ => none
  | _ => none
structure Gen where
  s : S
  init : List X
  r : List Nat
def genOne (s : S) (q : LR × LM) (G : Gen) : Option Gen :=
  let n := G.s.ks.length
  match q.2 with
  | .sc => match getLoc s q.1 with
    | some (.c (.int k e)) => some { G with s := { setLoc G.s (.c (.int k (.var n))) q.1 with ks := G.s.ks ++ [.i] }, init := G.init ++ [e] }
    | some (.c (.bool e)) => some { G with s := { setLoc G.s (.c (.bool (.var n))) q.1 with ks := G.s.ks ++ [.b] }, init := G.init ++ [e] }
    | _ => none
  | .own sh => match (getLoc s q.1).bind (ownOf s sh) with
    | some (a, len) =>
      let k := G.s.heap.length
      let G' := match (getLoc s q.1).bind entryOf with | some k0 => G.s.setBody k0 .gone | none => G.s
      some { G with s := { setLoc (G'.add (ent true (.arr sh (.var n) (.var (n + 1))))) (.c (.slc (.blk k) sh.length (.lit 0) (.var (n + 1)) none)) q.1 with ks := G.s.ks ++ [.a, .i] }, init := G.init ++ [a, len] }
    | none => none
  | .lst sh => match (getLoc s q.1).bind (lstOf s sh) with
    | some _ =>
      let k := G.s.heap.length
      some { G with s := { setLoc (G.s.add ⟨false, .arr sh (.var n) (.var (n + 1)), .bl true⟩) (.c (.slc (.blk k) sh.length (.lit 0) (.var (n + 1)) none)) q.1 with ks := G.s.ks ++ [.a, .i] }, init := G.init ++ (((getLoc s q.1).bind (lstOf s sh)).elim [] fun x => [x.1, x.2]) }
    | none => none
  | .win => match getLoc s q.1 with
    | some (.c (.slc b sz off len none)) => some { G with s := { setLoc G.s (.c (.slc b sz (.var n) (.var (n + 1)) none)) q.1 with ks := G.s.ks ++ [.i, .i] }, init := G.init ++ [off, len] }
    | _ => none
  | .arr => match (getLoc s q.1).bind entryOf with
    | some k => match s.body (.bl true) k with
      | some { own := true, body := .arr sh a m, .. } => some { G with s := { G.s.setBody k (.arr sh (.var n) m) with ks := G.s.ks ++ [.a] }, init := G.init ++ [a] }
      | _ => none
    | none => none
  | .keep => some G
def genAll (s : S) : List (LR × LM) → Gen → Option Gen
  | [], G => some G
  | q :: l, G => match genOne s q G with
    | some G => genAll s l G
    | none => none
/-- what the places hold now: arguments and entries -/
def instOne (s : S) (q : LR × LM) : Option (List X × Option Nat) :=
  match q.2 with
  | .sc => match getLoc s q.1 with
    | some (.c (.int _ e)) | some (.c (.bool e)) => some ([e], none)
    | _ => none
  | .own sh => match getLoc s q.1 with
    | some c => match ownOf s sh c with
      | some (a, len) => some ([a, len], some ((entryOf c).getD 0))
      | none => none
    | none => none
  | .lst sh => match getLoc s q.1 with
    | some c => match lstOf s sh c with
      | some (a, len) => some ([a, len], some ((entryOf c).getD 0))
      | none => none
    | none => none
  | .win => match getLoc s q.1 with
    | some (.c (.slc _ _ off len none)) => some ([off, len], none)
    | _ => none
  | .arr => match (getLoc s q.1).bind entryOf with
    | some k => match s.body (.bl true) k with
      | some { own := true, body := .arr _ a _, .. } => some ([a], none)
      | _ => none
    | none => none
  | .keep => some ([], none)
def instAll (s : S) : List (LR × LM) → Option (List X × List Nat)
  | [] => some ([], [])
  | q :: l => match instOne s q, instAll s l with
    | some (a, k), some (b, ks) => some (a ++ b, k.toList ++ ks)
    | _, _ => none
/-- a place that holds a nil list holds a list of our own without elements -/
def normNil (s : S) (q : LR) (sh : List FK) : S :=
  let new : Sc := .c (.slc (.blk s.heap.length) sh.length (.lit 0) (.lit 0) none)
  match q with
  | .slot t => match s.tmps[t]? with
    | some (some { g := .bl true, v := .v (.sc (.c .nils)) }) => (s.add (ent true (.arr sh .zeros (.lit 0)))).put (some t) { g := .bl true, v := .v (.sc new) }
    | _ => s
  | .cell t j => match s.tmps[t]? with
    | some (some { v := .v (.sc (.c (.ptr (.blk k) _ _ _))), .. }) => match s.heap[k]? with
      | some ⟨true, .cells l, g⟩ => match l[j]? with
        | some (.c .nils) => { (s.add (ent true (.arr sh .zeros (.lit 0)))) with heap := (s.add (ent true (.arr sh .zeros (.lit 0)))).heap.set k ⟨true, .cells (l.set j new), g⟩ }
        | _ => s
      | _ => s
    | _ => s
/-- a list of our own that is only read from now on -/
def freezeAt (s : S) (q : LR) (sh : List FK) : S := match getLoc s q with
  | some (.c (.slc (.blk k) _ (.lit 0) len none)) => match s.heap[k]? with
    | some ⟨true, .arr sh' a n, .bl true⟩ => if sh = sh' ∧ len = n then { s with heap := s.heap.set k ⟨false, .arr sh' a n, .bl true⟩ } else s
    | _ => s
  | _ => s
def normOwn (s : S) : List (LR × LM) → S
  | [] => s
  | (q, .own sh) :: l => normOwn (normNil s q sh) l
  | (q, .lst sh) :: l => normOwn (freezeAt (normNil s q sh) q sh) l
  | _ :: l => normOwn s l

/-- the results of a function, off its frame -/
def resOf (C : Cfg) (s : S) : List ResultVar → Option (List V1)
  | [] => some []
  | .tmp t :: l => match (s.tmps[t]?).bind id, resOf C s l with
    | some { g := .bl true, v := .v v }, some m => some (v :: m)
    | _, _ => none
  | .cell a t :: l => match (s.tmps[a]?).bind id, C.ty t, resOf C s l with
    | some { g := .bl true, v := .v (.sc (.c (.ptr b sz i f))) }, some d, some m => match s.loadAt (.bl true) b sz i f d.size with
      | some ([], cs) => (v1Of d.dk.agg cs).map (· :: m)
      | _ => none
    | _, _, _ => none

/-- a Go call with its body walked into: set by fuel -/
abbrev CallF := FuncId → List SV → S → (SV → S → Tree) → Tree

def cloB (n : Nat) (x : X) : Bool := decide (x.sub n .var = some x)
def St.closed (x : St) (n : Nat) : Bool := x.needs.all (cloB n) && match x.call with
  | none => true
  | some (g, _, _, _, xs) => cloB n g && xs.all (cloB n)
def closedB : S → List (List Nat × St) → Bool
  | _, [] => true
  | s, x :: L => x.2.closed s.ks.length && closedB x.2.s L
def emitHead (K : S → Tree) : S → List (List Nat × St) → Tree
  | s, [] => K s
  | _, x :: L => needAll x.2.needs (match x.2.call with
    | none => emitHead K x.2.s L
    | some (g, f, aks, ks, xs) => .call g f aks ks xs (emitHead K x.2.s L))
/-- a step that writes, or walks into a callee -/
def stepW (C : Cfg) (callF : CallF) (o : Oper) (s : S) (K : S → Tree) : Tree :=
  match estep C s o with
  | some (nd, s') => let nd := nd.filter fun x => !s.holds (.bl true) x
    needAll nd (K (s'.with nd))
  | none => match o.op with
    | .binOp op t x (.const (.slice none 0 0)) _ =>
      match s.val C (.bl true) x, C.ty t, s.more [.b] with
      | some (.v (.sc (.c (.slc b sz off len cp)))), some { dk := .slice _, .. }, some s' =>
        let v := X.var s.ks.length
        let l := [imp v (xb .eq len (.lit 0))]
        match op with
        | .eql => .fresh .b (assumeAll l (K ((s'.with l).put o.dst { g := .bl true, v := .v (.sc (.c (.bool v))) })))
        | .neq => .fresh .b (assumeAll l (K ((s'.with l).put o.dst { g := .bl true, v := .v (.sc (.c (.bool (mkNot v)))) })))
        | _ => .fail ("operation " ++ o.pos)
      | _, _, _ => .fail ("operation " ++ o.pos)
    | .call { callee := .value f, args := args, .. } =>
      match s.val C (.bl true) f, mapOpt (s.val C (.bl true)) args.toList with
      | some (.v (.sc (.fn f first caps))), some vs =>
        callF f (first.map (fun c => SV.v (.sc (.c c))) ++ vs ++ caps.map (fun c => SV.v (.sc (.c c)))) s fun v s => K (s.put o.dst { g := .bl true, v := v })
      | _, _ => .fail ("callee " ++ o.pos)
    | _ => .fail ("operation " ++ o.pos)
def execOps (C : Cfg) (callF : CallF) (ops : Array Oper) : List Oper → S → (S → Tree) → Tree
  | [], s, K => K s
  | o :: rest, s, K => match qstep C s ops o with
    | some st => st.emit fun s => execOps C callF ops rest s K
    | none => match o.guard with
      | none => stepW C callF o s fun s => execOps C callF ops rest s K
      | some _ => match guardOf s ops o with
        | some g => if s.holds (.bl true) g then stepW C callF { o with guard := none } s fun s => execOps C callF ops rest s K else
          .cond g (stepW C callF { o with guard := none } (s.with [g]) fun s => execOps C callF ops rest s K)
            (execOps C callF ops rest ((s.with [mkNot g]).put o.dst { g := .bl true, v := .undef }) K)
        | none => .fail ("guard " ++ o.pos)

def nodupB : List Nat → Bool
  | [] => true
  | k :: l => !l.contains k && nodupB l
/-! regions whose order is open, with callees walked into: operations that only look around may come at any time -/
def pureKind (o : Oper) : Bool :=
  match o.op with
  | .load .. | .fieldAddr .. | .indexAddr .. | .move .. | .binOp .. | .unOp .. | .convert .. | .pick .. | .extract .. | .nilCheck .. | .index .. | .field .. | .slice .. => true
  | .call { callee := .builtin .len, .. } | .call { callee := .builtin .min, .. } | .call { callee := .builtin .max, .. } => true
  | _ => false
def floatB (ps : List (List Nat)) (ops : Array Oper) : Bool :=
  (ops.toList.zipIdx.all fun x => (x.1.after.all fun e => !Region.binds .any e || decide (e.on < x.2)) && match x.1.guard with | none => true | some (j, _) => decide (j < ops.size)) &&
  (ops.toList.zipIdx.all fun x => ops.toList.zipIdx.all fun y => !(pureKind x.1 && pureKind y.1) || (match x.1.dst with | some t => !(usesOf ops y.1).contains t | none => true) || ((ps[y.2]?).getD []).contains x.2)
def isAn (ops : Array Oper) (i : Nat) : Bool := match ops[i]? with
  | some o => !pureKind o
  | none => false
/-- the operations that do more and that i waits for are all done -/
def anDone (ops : Array Oper) (ps : List (List Nat)) (past : List Nat) (i : Nat) : Bool := ((ps[i]?).getD []).all fun j => !isAn ops j || past.contains j
def newPure (ops : Array Oper) (ps : List (List Nat)) (past : List Nat) : List Nat := (List.range ops.size).filter fun i => !isAn ops i && !past.contains i && anDone ops ps past i
def readyAn (ops : Array Oper) (ps : List (List Nat)) (past : List Nat) : List Nat := (List.range ops.size).filter fun i => isAn ops i && !past.contains i && anDone ops ps past i
def allT : List Tree → Tree
  | [] => .fail "none"
  | [t] => t
  | t :: l => .both t (allT l)
def pureRun (C : Cfg) (ops : Array Oper) (K : S → Tree) : List Nat → S → Tree
  | [], s => K s
  | i :: l, s => match ops[i]? with
    | none => .fail "look"
    | some o => match qstep C s ops o with
      | some st => if st.call.isNone && decide (st.s.heap.length = s.heap.length) then needAll st.needs (pureRun C ops K l st.s) else .fail "look"
      | none => .fail "look"
/-- a slot under what is known -/
def normS (s : S) (sl : Slot) : Slot := if s.holds (.bl true) sl.g then { sl with g := .bl true } else if s.holds (.bl true) (mkNot sl.g) then ⟨.bl true, .undef⟩ else sl
def stillB (C : Cfg) (ops : Array Oper) (s : S) (i : Nat) : Bool := match ops[i]? with
  | none => false
  | some o => match qstep C s ops o with
    | some st => (st.needs.all fun x => s.holds (.bl true) x) && st.call.isNone && decide (st.s.heap.length = s.heap.length) && match o.dst with
        | some d => match st.s.tmps[d]?, s.tmps[d]? with
          | some (some x), some (some y) => decide (normS s x = normS s y)
          | _, _ => false
        | none => true
    | none => false
def dstsOf (ops : Array Oper) (l : List Nat) : List Nat := l.filterMap fun i => (ops[i]?).bind (·.dst)
def maskT (s : S) (ds : List Nat) : S := { s with tmps := s.tmps.zipIdx.map fun x => if ds.contains x.2 then none else x.1 }
def unmaskT (old s : S) (ds : List Nat) : S := { s with tmps := s.tmps.zipIdx.map fun x => if ds.contains x.2 then (old.tmps[x.2]?).getD none else x.1 }
/-- a slot's names are all known -/
def scopedT (s : S) (t : Nat) : Bool := match s.tmps[t]? with
  | some (some sl) => decide (sl.sub ⟨s.ks.length, .var, s.heap.length, id⟩ = some sl)
  | _ => true
def execDy (C : Cfg) (callF : CallF) (ops : Array Oper) (ps : List (List Nat)) (K : S → Tree) : Nat → List Nat → List Nat → S → Tree
  | 0, past, _, s1 => if (List.range ops.size).all past.contains then K s1 else .fail "float"
  | f + 1, past, fl, s1 =>
    if (List.range ops.size).all past.contains then K s1
    else allT ((readyAn ops ps past).map fun i => match ops[i]? with
      | none => .fail "float"
      | some o =>
        let fl := fl.filter fun k => !((ps[i]?).getD []).contains k
        let ds := dstsOf ops fl
        if (ds.all (scopedT s1)) && !(match o.dst with | some d => ds.contains d | none => false) then
          execOps C callF ops [o] (maskT s1 ds) fun s' =>
            let l := newPure ops ps (i :: past)
            pureRun C ops (fun s2 => if (fl ++ l).all (stillB C ops s2) then execDy C callF ops ps K f (l ++ i :: past) (fl ++ l) s2 else .fail "float") l (unmaskT s1 s' ds)
        else .fail "float")
/-- a region whose order is open, where the plain way does not do -/
def floatT (C : Cfg) (callF : CallF) (id : Nat) (ops : Array Oper) (K : S → Tree) (s : S) : Tree :=
  let ps := predsOf [] ops.toList
  let l := newPure ops ps []
  if floatB ps ops then pureRun C ops (fun s2 => if l.all (stillB C ops s2) then execDy C callF ops ps K ops.size l l s2 else .fail "float") l s
  else .fail ("order " ++ toString id)

/-- operations that look only, and stores and appends that are in order with all others: then only the slots matter -/
def writeKind (o : Oper) : Bool := match o.op with
  | .store .. => true
  | .call { callee := .builtin .append, .. } => true
  | _ => false
def lookN (ops : Array Oper) : Nat := (ops.toList.takeWhile fun o => pureKind o || writeKind o).length
def walkB (ops : Array Oper) : Bool := ops.toList.any fun o => match o.op with
  | .call { callee := .value _, .. } => true
  | _ => false
def lookI (ops : Array Oper) (o : Oper) : Info := ⟨[0], if pureKind o then [] else [0], usesOf ops o, o.dst⟩
def lookB (ops : Array Oper) (n : Nat) : Bool :=
  tailB (ops.toList.take n) (ops.toList.drop n) && orderB (predsOf [] (ops.toList.take n)) ((ops.toList.take n).map (lookI ops))
def lookRun (C : Cfg) (ops : Array Oper) (K : S → Tree) : List Oper → S → Tree
  | [], s => K s
  | o :: l, s => match qstep C s ops o with
    | some st => if pureKind o && st.call.isNone && decide (st.s.heap.length = s.heap.length) then needAll st.needs (lookRun C ops K l st.s) else .fail "look"
    | none => match estep C s o with
      | some (nd, s') => if pureKind o then .fail "look" else
        let nd := nd.filter fun x => !s.holds (.bl true) x
        needAll nd (lookRun C ops K l (s'.with nd))
      | none => .fail "look"

/-- so many rounds -/
def roundsT (body : (Ex → S → Tree) → S → Tree) (K : Ex → S → Tree) : Nat → S → Tree
  | 0, _ => .fail "unroll"
  | n + 1, s => body (fun e s => match e with
    | .normal => roundsT body K n s
    | e => K e s) s

def execC (C : Cfg) (callF : CallF) (fn : FuncId) : Code → S → (Ex → S → Tree) → Tree
  | .skip, s, K => K .normal s
  | .ret, s, K => K .ret s
  | .exit id, s, K => K (.exit id) s
  | .region id ops draw, s, K =>
    let s := s.tidy
    if draw then
      if decide (0 < C.conc) && lookB ops (lookN ops) then lookRun C ops (fun s => execOps C callF ops (ops.toList.drop (lookN ops)) s fun s => K .normal s) (ops.toList.take (lookN ops)) s else
      if decide (0 < C.conc) && walkB ops then floatT C callF id ops (fun s => K .normal s) s else
      let n := if (headRun C ops ops.toList s).isSome then ops.toList.length else headN C ops.toList
      if tailB (ops.toList.take n) (ops.toList.drop n) then
        match headRun C ops (ops.toList.take n) s with
        | some L => if (s.more []).isSome && closedB s L then
            if orderB (predsOf [] (ops.toList.take n)) (infosOf ops (ops.toList.take n) s L) then
              emitHead (fun s => assumeAll (s.newsC C) (execOps C callF ops (ops.toList.drop n) (s.with (s.newsC C)) fun s => K .normal s)) s L
            else floatT C callF id ops (fun s => K .normal s) s
          else floatT C callF id ops (fun s => K .normal s) s
        | none => floatT C callF id ops (fun s => K .normal s) s
      else floatT C callF id ops (fun s => K .normal s) s
    else execOps C callF ops ops.toList s fun s => K .normal s
  | .seq a b, s, K => execC C callF fn a s fun e s => match e with
    | .normal => execC C callF fn b s K
    | e => K e s
  | .cond c a b, s, K => match s.bool C (.bl true) c with
    | none => .fail "cond"
    | some e =>
      if s.holds (.bl true) e then execC C callF fn a s K
      else if s.holds (.bl true) (mkNot e) then execC C callF fn b s K
      else assumeAll s.news (.cond e (execC C callF fn a ((s.with s.news).with [e]) K) (execC C callF fn b ((s.with s.news).with [mkNot e]) K))
  | .block id c, s, K => execC C callF fn c s fun e s => match e with
    | .exit i => if i = id then K .normal s else K (.exit i) s
    | e => K e s
  | .loop c, s, K =>
    match C.loops.find? fun l => l.fn = fn ∧ some l.rid = firstRid c with
    | some la => if la.unr = 0 then
      let s := normOwn s la.gens
      let n := s.ks.length
      let drop := asg c
      let s0 : S := { s with tmps := s.tmps.zipIdx.map fun (x, t) => if drop.contains t ∧ !(la.gens.any fun g => match g.1 with | .slot t' => decide (t' = t) | _ => false) then none else x }
      match genAll s la.gens ⟨s0, [], []⟩, instAll s la.gens with
      | some G, some (init, own) =>
        -- the entries that the general state has added, in order
        let r0 := List.range s.heap.length
        let h := { G.s with lvl := s.lvl + 1 }
        if s.inst h n init (r0 ++ own) (C.globL.map (·.2)) && decide (s.heap.length ≤ h.heap.length) then
          let l := h.news
          .loop (h.ks.drop n) init (assumeAll l (execC C callF fn c (h.with l) fun e s' => match e with
            | .normal => let s' := normOwn s' la.gens; match instAll s' la.gens with
              | some (args, own) => if s'.inst h n args (r0 ++ own) (C.globL.map (·.2)) then .next s.lvl (h.ks.drop n) args else .fail ("round's end " ++ toString la.rid)
              | none => .fail ("round's places " ++ toString la.rid)
            | e => K e s'))
        else .fail ("loop's start " ++ toString la.rid)
      | _, _ => .fail ("generalise " ++ toString la.rid)
      else
        roundsT (fun K s => execC C callF fn c s K) K la.unr s
    | none => if 0 < C.conc then roundsT (fun K s => execC C callF fn c s K) K C.conc s else .fail "loop"
  | _, _, _ => .fail "code"

def frameOf (args : List SV) (n : Nat) : List (Option Slot) :=
  args.map (fun v => some { g := .bl true, v := v : Slot }) ++ List.replicate (n - args.length) (some { g := .bl true, v := .undef : Slot })
def execF (C : Cfg) : Nat → CallF
  | 0 => fun _ _ _ _ => .fail "fuel"
  | n + 1 => fun f args s K =>
    match C.fn f with
    | some fn => match fn.body with
      | some c =>
        if args.length ≤ fn.ntmps then
        execC C (execF C n) f c { s with tmps := frameOf args fn.ntmps } fun e s' => match e with
          | .exit _ => .fail "exit"
          | _ => match resOf C s' fn.results.toList with
            | some vs => if s'.ks.length = s.ks.length then K (retV vs) { s' with tmps := s.tmps } else match s.more (s'.ks.drop s.ks.length) with
              | some s'' => K (retV vs) { s' with tmps := s''.tmps }
              | none => .fail "frame"
            | none => .fail ("results " ++ fn.name)
        else .fail "arguments"
      | none => .fail "no body"
    | none => .fail ("no function " ++ toString f)

/-- a result: its variables, and the entries that are handed over -/
def outOne (s : S) : Sh0 → Sc → Option (List X × List Nat)
  | .int k, .c (.int k' e) => if k = k' then some ([e], []) else none
  | .bool, .c (.bool e) => some ([e], [])
  | .slc _, .c .nils => some ([.zeros, .lit 0], [])
  | .slc sh, .c (.slc (.blk k) sz (.lit 0) len none) => match s.body (.bl true) k with
    | some { own := true, body := .arr sh' a n, .. } => if sh = sh' ∧ len = n ∧ sz = sh.length then some ([a, n], [k]) else none
    | _ => none
  | .slc sh, .c (.slc (.blk k) sz (.lit 0) (.lit n) (some (.lit n'))) => match s.body (.bl true) k with
    | some { own := true, body := .cells l, .. } => if n = n' ∧ sz = sh.length ∧ 0 < sh.length ∧ 0 ≤ n ∧ l.length = n.toNat * sh.length then (rowsOf sh .zeros l 0 n.toNat).map fun a => ([a, .lit n], [k]) else none
    | _ => none
  | _, _ => none
def outOnes (s : S) : List Sh0 → List Sc → Option (List X × List Nat)
  | [], [] => some ([], [])
  | h :: hs, c :: cs => match outOne s h c, outOnes s hs cs with
    | some a, some b => some (a.1 ++ b.1, a.2 ++ b.2)
    | _, _ => none
  | _, _ => none
def outV (s : S) (h : Sh) (v : V1) : Option (List X × List Nat) :=
  match v with
  | .agg l => if h.agg then outOnes s h.l l else none
  | .sc c => if h.agg then none else if h.l.length = 1 then outOnes s h.l [c] else none
def outVs (s : S) : List Sh → List V1 → Option (List X × List Nat)
  | [], [] => some ([], [])
  | h :: hs, c :: cs => match outV s h c, outVs s hs cs with
    | some a, some b => some (a.1 ++ b.1, a.2 ++ b.2)
    | _, _ => none
  | _, _ => none
/-- a value as the shapes of a contract's results name it -/
def outArgs (s : S) (sig : List Sh) (v : SV) : Option (List X) :=
  match v with
  | .v x => match outVs s sig [x] with
    | some r => if nodupB r.2 then some r.1 else none
    | none => none
  | .tup l => if l.length = 1 then none else match outVs s sig l with
    | some r => if nodupB r.2 then some r.1 else none
    | none => none
  | .undef => none
def Sh0.okB : Sh0 → Bool
  | .slc sh => decide (0 < sh.length)
  | _ => true
/-- parameters: variables from 0 on; the lists that come in are not ours -/
def startS (globs : List HE) (sig : CSig) : List SV × S :=
  let r := outsL 0 globs.length sig.ins
  (r.1.map SV.v, { tmps := [], heap := globs ++ r.2.1.map fun e => { e with own := false }, facts := [], ks := r.2.2, lvl := 0 })
def exec (C : Cfg) (globs : List HE) (fuel : Nat) (f : FuncId) (sig : CSig) : Tree :=
  if sig.ins.all (fun h => h.l.all Sh0.okB) then
    let r := startS globs sig
    let l := r.2.news
    assumeAll l (execF C fuel f r.1 (r.2.with l) fun v s => match outArgs s sig.outs v with
      | some xs => .done (insKs sig.outs) xs
      | none => .fail "outs")
  else .fail "shapes"
end
end Go.Proofs.Ytiiabaklipmbbaa.Vc
