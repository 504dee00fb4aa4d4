/- Contests in plain words: what a slot does. -/
import Derived.Test.YtkagcjibneigdaaDoorD
namespace Go.Proofs.YtkagcjibneigdaaDoor
open Go Go.RowKit Go.Proofs.YtkagcjibneigdaaDoor.Vc
def allN : Nat → (Int → Bool) → Bool
  | 0, _ => true
  | k + 1, p => allN k p && p k
def allI (p : Int → Bool) (i : Int) : Bool := allN i.toNat p
def cntN (p : Int → Bool) : Nat → Int
  | 0 => 0
  | k + 1 => if p k = true then cntN p k + 1 else cntN p k
def lstN (p : Int → Bool) : Nat → Int → Nat → Int
  | 0 => zA
  | k + 1 => if p k = true then appA (lstN p k) (cntN p k) (setA zA 0 0 k) else lstN p k
structure u8P (b : Int → Nat → Int) (n : Int) : Prop where
  h : ∀ i, 0 ≤ i → i < n → 0 ≤ b i 0 ∧ b i 0 ≤ 255
def inR (x lo hi : Int) : Bool := decide (lo ≤ x ∧ x ≤ hi)
/-- does station i hear station k? -/
def hrB (f : Int → Int → Nat → Int) (i k : Int) : Bool := !(decide (f i k 0 = 0))
/-- does station i send in slot t? (7: start, 8: end) -/
def sdB (a : Int → Nat → Int) (t i : Int) : Bool := decide (a i 7 ≤ t ∧ t < a i 8)
def okHr (a : Int → Nat → Int) (f : Int → Int → Nat → Int) (t i k : Int) : Bool := !(sdB a t k && hrB f i k)
/-- may station i begin to send? (4: frames, 11: reserved) -/
def freB (a : Int → Nat → Int) (f : Int → Int → Nat → Int) (n t i : Int) : Bool := !(sdB a t i) && (decide (¬ a i 4 = 0 ∧ a i 11 ≤ t) && allI (okHr a f t i) n)
/-- beginning to send (7: start, 8: end, 9: answered, 10: spoiled), or counting down -/
noncomputable def stpA (c : Int → Nat → Int) (i ev d : Int) : Int → Nat → Int :=
  setA (setA (setA (setA c i 0 (SC (c i 0) (c i 1) (c i 2) (c i 3) ev d)) i 1 (SW (c i 0) (c i 1) (c i 2) (c i 3) ev d)) i 2 (SN (c i 0) (c i 1) (c i 2) (c i 3) ev d)) i 3 (SR (c i 0) (c i 1) (c i 2) (c i 3) ev d)
def sndA (c : Int → Nat → Int) (ask : Bool) (t i : Int) : Int → Nat → Int :=
  if ask = true then setA (setA (setA (setA (setA c i 7 t) i 8 (t + c i 5)) i 9 0) i 10 0) i 8 (t + 1) else setA (setA (setA (setA c i 7 t) i 8 (t + c i 5)) i 9 0) i 10 0
noncomputable def begS (a : Int → Nat → Int) (f : Int → Int → Nat → Int) (n : Int) (ask : Bool) (t : Int) (c : Int → Nat → Int) (i : Int) : Int → Nat → Int :=
  if ((sdB a t i = true ∨ c i 4 = 0) ∨ t < c i 11) ∨ ¬ allI (okHr a f t i) n = true then c
  else if 0 < c i 2 then stpA c i 0 0 else sndA c ask t i
noncomputable def begN (a : Int → Nat → Int) (f : Int → Int → Nat → Int) (n : Int) (ask : Bool) (t : Int) : Nat → Int → Nat → Int
  | 0 => a
  | i + 1 => begS a f n ask t (begN a f n ask t i) i
/-- is the transmission of station i disturbed? (6: to) -/
def dsN (a : Int → Nat → Int) (f : Int → Int → Nat → Int) (t i k : Int) : Bool := !(!(decide (k = i)) && (hrB f (a i 6) k && sdB a t k))
def dsB (a : Int → Nat → Int) (f : Int → Int → Nat → Int) (n t i : Int) : Bool := !(hrB f (a i 6) i) || (sdB a t (a i 6) || !(allI (dsN a f t i) n))
def rqB (a : Int → Nat → Int) (ask : Bool) (t i : Int) : Bool := ask && decide (a i 7 = t)
def badB (a : Int → Nat → Int) (f : Int → Int → Nat → Int) (n : Int) (ask : Bool) (t i : Int) : Bool := sdB a t i && (dsB a f n t i || (rqB a ask t i && decide (t < a (a i 6) 11)))
def ansB (a : Int → Nat → Int) (f : Int → Int → Nat → Int) (n : Int) (ask : Bool) (t i : Int) : Bool := sdB a t i && (!(dsB a f n t i) && (rqB a ask t i && !(decide (t < a (a i 6) 11))))
def cntI (p : Int → Bool) (i : Int) : Int := cntN p i.toNat
def lstI (p : Int → Bool) (i : Int) : Int → Nat → Int := lstN p i.toNat
def spN (L : Int → Nat → Int) (c : Int → Nat → Int) : Nat → Int → Nat → Int
  | 0 => c
  | r + 1 => setA (spN L c r) (L r 0) 10 1
def anN (t : Int) (L : Int → Nat → Int) (c : Int → Nat → Int) : Nat → Int → Nat → Int
  | 0 => c
  | r + 1 => setA (setA (anN t L c r) (L r 0) 9 1) (L r 0) 8 ((t + 1) + anN t L c r (L r 0) 5)
/-- the reservations that station i's answered request makes -/
def rkN (f : Int → Int → Nat → Int) (i : Int) (c : Int → Nat → Int) : Nat → Int → Nat → Int
  | 0 => c
  | k + 1 => if ¬ (k : Int) = i ∧ ¬ f k (rkN f i c k i 6) 0 = 0 then setA (rkN f i c k) k 11 (max (rkN f i c k k 11) (rkN f i c k i 8)) else rkN f i c k
def rsN (f : Int → Int → Nat → Int) (n : Int) (L : Int → Nat → Int) (c : Int → Nat → Int) : Nat → Int → Nat → Int
  | 0 => c
  | r + 1 => rkN f (L r 0) (rsN f n L c r) n.toNat
/-- a contest that is being simulated: stations, draws used, bursts -/
structure FS where
  a : Int → Nat → Int
  u : Int
  o : Int → Nat → Int
  k : Int
def evI (r : Nat → Int) : Int := if r 10 = 0 then 2 else 3
def drI (d : Int → Nat → Int) (m u : Int) : Int := if u < m then d u 0 else 0
noncomputable def finA (c : Int → Nat → Int) (i d : Int) : Int → Nat → Int :=
  if SG (c i 0) (c i 1) (c i 2) (c i 3) (evI (c i)) d = true ∨ c i 10 = 0 then setA (setA (stpA c i (evI (c i)) d) i 4 (c i 4 - 1)) i 8 0 else setA (stpA c i (evI (c i)) d) i 8 0
def buA (c : Int → Nat → Int) (i : Int) : Int → Nat → Int :=
  setA (setA (setA (setA (setA zA 0 0 i) 0 1 (c i 7)) 0 2 (c i 8)) 0 3 (if (!(decide (c i 9 = 0))) = true then (1 : Int) else (0 : Int))) 0 4 (if (decide (c i 10 = 0)) = true then (1 : Int) else (0 : Int))
noncomputable def finS (d : Int → Nat → Int) (m t : Int) (s : FS) (i : Int) : FS :=
  if s.a i 8 = t + 1 then ⟨finA s.a i (drI d m s.u), if s.u < m then s.u + 1 else s.u, appA s.o s.k (buA s.a i), s.k + 1⟩ else s
noncomputable def finN (d : Int → Nat → Int) (m t : Int) (s : FS) : Nat → FS
  | 0 => s
  | i + 1 => finS d m t (finN d m t s i) i
/-- a slot -/
noncomputable def airA (f : Int → Int → Nat → Int) (n : Int) (ask : Bool) (t : Int) (b : Int → Nat → Int) : Int → Nat → Int :=
  rsN f n (lstI (ansB b f n ask t) n) (anN t (lstI (ansB b f n ask t) n) (spN (lstI (badB b f n ask t) n) b (cntI (badB b f n ask t) n).toNat) (cntI (ansB b f n ask t) n).toNat) (cntI (ansB b f n ask t) n).toNat
noncomputable def slotF (f : Int → Int → Nat → Int) (n : Int) (ask : Bool) (d : Int → Nat → Int) (m t : Int) (s : FS) : FS :=
  finN d m t { s with a := airA f n ask t (begN s.a f n ask t n.toNat) } n.toNat
noncomputable def crS (f : Int → Int → Nat → Int) (n : Int) (ask : Bool) (d : Int → Nat → Int) (m : Int) (s : FS) : Nat → FS
  | 0 => s
  | t + 1 => slotF f n ask d m t (crS f n ask d m s t)
def st0 (b : Int → Nat → Int) (n : Int) : FS := ⟨fun i g => if 0 ≤ i ∧ i < n ∧ g < 7 then b i g else 0, 0, zA, 0⟩
/-- validity -/
def ccS (b : Int → Nat → Int) (n : Int) (l : Int → Int) (f : Int → Int → Nat → Int) (i : Int) : Bool :=
  decide (l i = n ∧ f i i 0 = 0 ∧ chkE (b i 0) (b i 1) (b i 2) (b i 3) = 0 ∧ (0 ≤ b i 4 ∧ b i 4 ≤ 1000) ∧ (1 ≤ b i 5 ∧ b i 5 ≤ 200) ∧ (0 ≤ b i 6 ∧ b i 6 < n) ∧ ¬ b i 6 = i)
def ccE (b : Int → Nat → Int) (n : Int) (l : Int → Int) (f : Int → Int → Nat → Int) (m : Int) (_ask : Bool) (T : Int) : Int :=
  if (2 ≤ n ∧ n ≤ 16) ∧ m = n ∧ (0 ≤ T ∧ T ≤ 2000) ∧ allI (ccS b n l f) n = true then 0 else 8
def drB (d : Int → Nat → Int) (i : Int) : Bool := decide (0 ≤ d i 0 ∧ d i 0 ≤ 1099511627776)
def crE (b : Int → Nat → Int) (n : Int) (l : Int → Int) (f : Int → Int → Nat → Int) (m : Int) (ask : Bool) (T : Int) (d : Int → Nat → Int) (k : Int) : Int :=
  if ccE b n l f m ask T = 0 then if allI (drB d) k = true then 0 else 2 else 8
noncomputable def crF (b : Int → Nat → Int) (n : Int) (f : Int → Int → Nat → Int) (ask : Bool) (T : Int) (d : Int → Nat → Int) (k : Int) : FS := crS f n ask d k (st0 b n) T.toNat
noncomputable def crO (b : Int → Nat → Int) (n : Int) (_l : Int → Int) (f : Int → Int → Nat → Int) (_m : Int) (ask : Bool) (T : Int) (d : Int → Nat → Int) (k : Int) : Int → Nat → Int := (crF b n f ask T d k).o
noncomputable def crK (b : Int → Nat → Int) (n : Int) (l : Int → Int) (f : Int → Int → Nat → Int) (m : Int) (ask : Bool) (T : Int) (d : Int → Nat → Int) (k : Int) : Int := if crE b n l f m ask T d k = 0 then (crF b n f ask T d k).k else 0
noncomputable def crA (b : Int → Nat → Int) (n : Int) (_l : Int → Int) (f : Int → Int → Nat → Int) (_m : Int) (ask : Bool) (T : Int) (d : Int → Nat → Int) (k : Int) : Int → Nat → Int := (crF b n f ask T d k).a
def crN (b : Int → Nat → Int) (n : Int) (l : Int → Int) (f : Int → Int → Nat → Int) (m : Int) (ask : Bool) (T : Int) (d : Int → Nat → Int) (k x : Int) : Int := if crE b n l f m ask T d k = 0 then x else 0
end Go.Proofs.YtkagcjibneigdaaDoor
