/- Part 8 of what the law stands on: the abstract machine over the model, and what the functions answer. No condition. -/
import Derived.Test.YtiicbenhhdbnoaaDoorM7
set_option linter.unusedSimpArgs false
set_option linter.unusedVariables false

/- Chapter 09: the first ones of a list. -/
namespace Go.Proofs.YtiicbenhhdbnoaaDoor
open Go Go.AE
set_option maxRecDepth 100000
theorem u19 (L : List DV) (n : Nat) (c nl : Bool) (k : Int) : pureE aeC evA 30 19 Tryd.f19 [.sl L n 1 c nl, iD k] =
  bif nl || true then
    bif decide (0 ≤ if k < (↑n : Int) then k else (↑n : Int)) && decide ((if k < (↑n : Int) then k else (↑n : Int)) ≤ (↑n : Int)) then
      bif nl || true then
        bif Nat.ble (Int.toNat (if k < (↑n : Int) then k else (↑n : Int)) - 0) 1048576 then
          some (DV.sl (sub L 0 ((Int.toNat (if k < (↑n : Int) then k else (↑n : Int)) - 0) * 1)) (lenOf 1 (List.length (sub L 0 ((Int.toNat (if k < (↑n : Int) then k else (↑n : Int)) - 0) * 1)))) 1 false (true && Nat.beq (List.length (sub L 0 ((Int.toNat (if k < (↑n : Int) then k else (↑n : Int)) - 0) * 1))) 0))
        else
          none
      else
        none
    else
      none
  else
    none := by kernel_rfl

theorem sub_take (l : List Int) (j : Nat) : sub (ints l) 0 (j * 1) = ints (l.take j) := by
  unfold sub ints
  rw [Nat.mul_one, List.drop_zero, List.map_take]
theorem c19 (l : List Int) (c nl : Bool) (k : Nat) (hk : k ≤ 1000) : PureOK Tryd.prog 19 [ls l c nl, iD (k : Int)] (lsN (l.take k) false) := by
  refine walkA (by kernel_rfl : tget aeF 19 = some Tryd.f19) ((u19 (ints l) l.length c nl k).trans ?_)
  have e : (if (k : Int) < (l.length : Int) then (k : Int) else (l.length : Int)) = ((min k l.length : Nat) : Int) := by split <;> omega
  have h1 : (Nat.ble (min k l.length) 1048576) = true := Nat.ble_eq_true_of_le (by omega)
  rw [e]
  simp only [Int.toNat_natCast, Nat.sub_zero, Bool.or_true, cond_true, sub_take, h1, Bool.true_and, len_ints, Go.AE.lenOf_1]
  rw [decide_eq_true (p := (0 : Int) ≤ ((min k l.length : Nat) : Int)) (by omega), decide_eq_true (p := ((min k l.length : Nat) : Int) ≤ (l.length : Int)) (by omega)]
  simp only [Bool.and_self, cond_true]
  have e2 : l.take (min k l.length) = l.take k := by
    rcases Nat.le_total k l.length with h | h
    · rw [Nat.min_eq_left h]
    · rw [Nat.min_eq_right h, List.take_of_length_le (Nat.le_refl _), List.take_of_length_le h]
  rw [e2]
  have e3 : Nat.beq (l.take k).length 0 = (l.take k).isEmpty := by cases l.take k <;> rfl
  rw [e3]

end Go.Proofs.YtiicbenhhdbnoaaDoor

/- Chapter 09: the law of bounds, on data. -/
namespace Go.Proofs.YtiicbenhhdbnoaaDoor
open Go Go.AE
set_option maxRecDepth 100000
structure TbB where
  E : List DV → Int
  A : List DV → Bool
  A' : List DV → Bool
  C : Nat → List DV → List DV
  N : Nat → List DV → Nat
  S : List DV → Nat
  Z : List DV → Bool
  C5 : Nat → List DV → List DV
  N5 : Nat → List DV → Nat
  F : List DV → List DV
  M : List DV → Nat
  Sf : List DV → Nat
  Zf : List DV → Bool
  D : List DV → Bool
  U : List DV
  un : Nat
  V : List DV
  vn : Nat
  G : List DV
  gn : Nat
  gc : Bool
  P : List DV → List DV
  pn : List DV → Nat
  pz : List DV → Bool
def iB (T : TbB) (f : Nat) (ds : List DV) : DV :=
  match f with
  | 20 => iD (T.E ds)
  | 24 => iD (T.E ds)
  | 21 => .tup [.agg [.sl (T.C 0 ds) (T.N 0 ds) (T.S ds) false (T.Z ds), .sl (T.C 1 ds) (T.N 1 ds) (T.S ds) false (T.Z ds), .sl (T.C 2 ds) (T.N 2 ds) (T.S ds) false (T.Z ds), .sl (T.C 3 ds) (T.N 3 ds) (T.S ds) false (T.Z ds)], iD (T.E ds)]
  | 25 => .agg [.sl (T.C5 0 ds) (T.N5 0 ds) 1 false false, .sl (T.C5 1 ds) (T.N5 1 ds) 1 false false, .sl (T.C5 2 ds) (T.N5 2 ds) 1 false false, .sl (T.C5 3 ds) (T.N5 3 ds) 1 false false]
  | 27 => bD (T.A ds)
  | 22 => .tup [bD (T.A' ds), iD (T.E ds)]
  | 23 => .tup [.sl (T.F ds) (T.M ds) (T.Sf ds) false (T.Zf ds), bD (T.D ds), iD (T.E ds)]
  | 26 => bD true
  | 28 => bD true
  | 29 => bD false
  | 18 => bD true
  | 19 => .sl (T.P ds) (T.pn ds) 1 false (T.pz ds)
  | 30 => .tup [.sl T.U T.un 1 false false, .sl T.V T.vn 1 false false]
  | 31 => .sl T.G T.gn 1 T.gc false
  | _ => .nilp
noncomputable def evBn (ok : Nat → List DV → Bool) (T : TbB) : Ev := evT ok (iB T)
noncomputable def aeC4 : Ctx := { aeC with pol := fun f b => cond (Nat.beq f 4 && Nat.beq b 0) (some ⟨[0, 1, 5, 6, 7], [], [5, 6]⟩) (aeC.pol f b) }
theorem ae_fn4 {f : FuncId} {fn : Func} (h : tget aeF f = some fn) : FnOK Tryd.prog aeC4 f fn := (ae_fn h).same (show aeC4.plan = aeC.plan from rfl)
theorem ae_pure4 {E : Ev} (hE : EvOK Tryd.prog E) {f : FuncId} {fn : Func} {ids : List Nat} {ds : List DV} {d : DV} (ok : OkSeg fn none ids) (h : tget aeF f = some fn) (hb : (fn.body.isSome && Nat.ble ds.length fn.ntmps) = true)
    (e : startF aeC4 E f 0 fn none ⟨envOf 0 (ds.map .d), [], []⟩ (doneE aeC4 fn 0 fun v h => freezeV h 4 v) = some d) (hfr : freshF f = false := by rfl) : PureOK Tryd.prog f ds d :=
  pure_of_go (C := aeC4) ae_T ae_Q ae_mixed hE (ae_fn4 h) ok hb e hfr
def s4 (l m X Y : DV) (i : Int) : St := ⟨[(0, .d l), (1, .d m), (5, .d X), (6, .d Y), (7, .d (iD i))], [], []⟩
def s42 (l m X Y : DV) (i : Int) (a b : Bool) (p c0 c1 c2 c3 d0 d1 d2 d3 : DV) (k : Int) : St := ⟨[(0, .d l), (1, .d m), (5, .d X), (6, .d Y), (7, .d (iD i)), (9, AV.ref 0 0), (11, .d (bD a)), (13, .d p), (14, .d (bD b)), (16, AV.ref 1 0), (17, .d (iD k))], [.dc [c0, c1, c2, c3], .dc [d0, d1, d2, d3]], []⟩
def s42x (l m X Y : DV) (i : Int) (a b : Bool) (p : DV) : St := ⟨[(0, .d l), (1, .d m), (5, .d X), (6, .d Y), (7, .d (iD i)), (11, .d (bD a)), (13, .d p), (14, .d (bD b))], [], []⟩
def s44 (l m : DV) (G : List DV) (g : Nat) (H : List DV) (j : Int) : St := ⟨[(0, .d l), (1, .d m), (5, .d (.sl G g 1 false false)), (6, AV.grow 0 1 false), (7, .d (iD 1)), (19, .d (iD j))], [.dc H], []⟩
def s44x (l m : DV) (G : List DV) (g : Nat) (H : List DV) : St := ⟨[(0, .d l), (1, .d m), (5, .d (.sl G g 1 false false)), (6, AV.grow 0 1 false), (7, .d (iD 1))], [.dc H], []⟩
def badS : Ex × St := (.ret, ⟨[(4, .d (bD false))], [], []⟩)
/-- A round's calls. -/
def R4 {R : Type} (ok : Nat → List DV → Bool) (T : TbB) (X Y : DV) (bad K W : Option R) : Option R :=
  bif ok 20 [X, Y] then (bif ok 21 [X, Y] then (bif ok 22 [X, Y] then (bif ok 23 [X, Y] then (bif T.Zf [X, Y] || Nat.beq (T.Sf [X, Y]) 1 then (bif ok 24 [X, Y] then
    (bif !decide (T.E [X, Y] = T.E [X, Y]) then bad else bif !decide (T.E [X, Y] = T.E [X, Y]) then bad else bif !decide (T.E [X, Y] = T.E [X, Y]) then bad else bif !decide (T.E [X, Y] = T.E [X, Y]) then bad else
      bif !decide (T.E [X, Y] = 0) then (bif T.A' [X, Y] then bad else bif T.D [X, Y] then bad else
        bif !decide (IntKind.wrap IntKind.i64 (IntKind.wrap IntKind.i64 (IntKind.wrap IntKind.i64 (IntKind.wrap IntKind.i64 (((T.N 0 [X, Y] : Nat) : Int) + ((T.N 1 [X, Y] : Nat) : Int)) + ((T.N 2 [X, Y] : Nat) : Int)) + ((T.N 3 [X, Y] : Nat) : Int)) + ((T.M [X, Y] : Nat) : Int)) = 0) then bad else K)
      else bif ok 25 [X, Y] then W else none) else none) else none) else none) else none) else none) else none
def Q4 {R : Type} (ok : Nat → List DV → Bool) (T : TbB) (X Y : DV) (a b : Bool) (P : List DV) (pn s : Nat) (pz : Bool) (bad K : Option R) : Option R :=
  bif ok 27 [X, Y] then (bif !decide (a = T.A [X, Y]) then bad else bif decide (b = T.A [X, Y]) then bad else
    bif b then (bif ok 28 [X, Y, .sl P pn s false pz] then (bif ok 29 [.sl P pn s false pz] then (bif !b then (bif !decide ((pn : Int) = 0) then bad else K) else K) else none) else none)
    else (bif !b then (bif !decide ((pn : Int) = 0) then bad else K) else K)) else none
section
variable (ok : Nat → List DV → Bool) (T : TbB) (l m : DV) (X Y : List DV) (n k : Nat) (c z c2 z2 : Bool)
theorem b4h : startS aeC4 (evBn ok T) 4 0 Tryd.f4 none ⟨envOf 0 [.d l, .d m], [], []⟩ (heldD aeC4 4 0) =
  bif ok 19 [l, iD 8] then (bif T.pz [l, iD 8] || true then (bif ok 19 [m, iD 8] then (bif T.pz [m, iD 8] || true then
    some (0, s4 l m (.sl (T.P [l, iD 8]) (T.pn [l, iD 8]) 1 false (T.pz [l, iD 8])) (.sl (T.P [m, iD 8]) (T.pn [m, iD 8]) 1 false (T.pz [m, iD 8])) 0) else none) else none) else none) else none := by kernel_rfl
def w4s (T : TbB) (l m X Y : DV) (i : Int) (ds : List DV) (k : Int) : St := s42 l m X Y i (T.A' ds) (T.D ds) (.sl (T.F ds) (T.M ds) 1 false (T.Zf ds))
  (.sl (T.C 0 ds) (T.N 0 ds) (T.S ds) false (T.Z ds)) (.sl (T.C 1 ds) (T.N 1 ds) (T.S ds) false (T.Z ds)) (.sl (T.C 2 ds) (T.N 2 ds) (T.S ds) false (T.Z ds)) (.sl (T.C 3 ds) (T.N 3 ds) (T.S ds) false (T.Z ds))
  (.sl (T.C5 0 ds) (T.N5 0 ds) 1 false false) (.sl (T.C5 1 ds) (T.N5 1 ds) 1 false false) (.sl (T.C5 2 ds) (T.N5 2 ds) 1 false false) (.sl (T.C5 3 ds) (T.N5 3 ds) 1 false false) k
def nextB (T : TbB) (l m : DV) (i : Int) : St := s4 l m (.sl T.U T.un 1 false false) (.sl T.V T.vn 1 false false) i
theorem b4_0r : startS aeC4 (evBn ok T) 4 0 Tryd.f4 (some 0) (s4 l m (.sl X n 1 c z) (.sl Y k 1 c2 z2) 0) (roundD aeC4 4 0 0) = R4 ok T (.sl X n 1 c z) (.sl Y k 1 c2 z2) (some badS) (bif ok 30 [l, m] then some (.norm, nextB T l m 1) else none) none := by kernel_rfl
theorem b4_2r : startS aeC4 (evBn ok T) 4 0 Tryd.f4 (some 0) (s4 l m (.sl X n 1 c z) (.sl Y k 1 c2 z2) 2) (roundD aeC4 4 0 0) = R4 ok T (.sl X n 1 c z) (.sl Y k 1 c2 z2) (some badS) (bif ok 30 [l, m] then some (.norm, nextB T l m 3) else none) none := by kernel_rfl
theorem b4_0h : startS aeC4 (evBn ok T) 4 0 Tryd.f4 (some 0) (s4 l m (.sl X n 1 c z) (.sl Y k 1 c2 z2) 0) (heldD aeC4 4 0) = R4 ok T (.sl X n 1 c z) (.sl Y k 1 c2 z2) none (bif ok 30 [l, m] then none else none) (some (2, w4s T l m (.sl X n 1 c z) (.sl Y k 1 c2 z2) 0 [.sl X n 1 c z, .sl Y k 1 c2 z2] 0)) := by kernel_rfl
theorem b4_1h : startS aeC4 (evBn ok T) 4 0 Tryd.f4 (some 0) (s4 l m (.sl X n 1 c z) (.sl Y k 1 c2 z2) 1) (heldD aeC4 4 0) = R4 ok T (.sl X n 1 c z) (.sl Y k 1 c2 z2) none (bif ok 30 [l, m] then (bif ok 31 [l] then some (4, s44 l m T.G T.gn [] 0) else none) else none) (some (2, w4s T l m (.sl X n 1 c z) (.sl Y k 1 c2 z2) 1 [.sl X n 1 c z, .sl Y k 1 c2 z2] 0)) := by kernel_rfl
theorem b4_2h : startS aeC4 (evBn ok T) 4 0 Tryd.f4 (some 0) (s4 l m (.sl X n 1 c z) (.sl Y k 1 c2 z2) 2) (heldD aeC4 4 0) = R4 ok T (.sl X n 1 c z) (.sl Y k 1 c2 z2) none (bif ok 30 [l, m] then none else none) (some (2, w4s T l m (.sl X n 1 c z) (.sl Y k 1 c2 z2) 2 [.sl X n 1 c z, .sl Y k 1 c2 z2] 0)) := by kernel_rfl
variable (A B : DV) (i : Int) (a b : Bool) (p c0 c1 e2 c3 d0 d1 d2 d3 : DV)
theorem b42_0 : startS aeC4 (evBn ok T) 4 0 Tryd.f4 (some 2) (s42 l m A B i a b p c0 c1 e2 c3 d0 d1 d2 d3 0) (roundD aeC4 4 0 2) = bif ok 26 [c0, d0] then some (.norm, s42 l m A B i a b p c0 c1 e2 c3 d0 d1 d2 d3 1) else none := by kernel_rfl
theorem b42_1 : startS aeC4 (evBn ok T) 4 0 Tryd.f4 (some 2) (s42 l m A B i a b p c0 c1 e2 c3 d0 d1 d2 d3 1) (roundD aeC4 4 0 2) = bif ok 26 [c1, d1] then some (.norm, s42 l m A B i a b p c0 c1 e2 c3 d0 d1 d2 d3 2) else none := by kernel_rfl
theorem b42_2 : startS aeC4 (evBn ok T) 4 0 Tryd.f4 (some 2) (s42 l m A B i a b p c0 c1 e2 c3 d0 d1 d2 d3 2) (roundD aeC4 4 0 2) = bif ok 26 [e2, d2] then some (.norm, s42 l m A B i a b p c0 c1 e2 c3 d0 d1 d2 d3 3) else none := by kernel_rfl
theorem b42_3 : startS aeC4 (evBn ok T) 4 0 Tryd.f4 (some 2) (s42 l m A B i a b p c0 c1 e2 c3 d0 d1 d2 d3 3) (roundD aeC4 4 0 2) = bif ok 26 [c3, d3] then some (.norm, s42 l m A B i a b p c0 c1 e2 c3 d0 d1 d2 d3 4) else none := by kernel_rfl
theorem b42_4 : startS aeC4 (evBn ok T) 4 0 Tryd.f4 (some 2) (s42 l m A B i a b p c0 c1 e2 c3 d0 d1 d2 d3 4) (roundD aeC4 4 0 2) = some (.exit 2, s42x l m A B i a b p) := by kernel_rfl
variable (P : List DV) (pn s : Nat) (pz : Bool)
theorem b4_x0 : nextS aeC4 (evBn ok T) 4 0 Tryd.f4 (some 0) 2 (.exit 2) (s42x l m A B 0 a b (.sl P pn s false pz)) (roundD aeC4 4 0 0) = Q4 ok T A B a b P pn s pz (some badS) (bif ok 30 [l, m] then some (.norm, nextB T l m 1) else none) := by kernel_rfl
theorem b4_x2 : nextS aeC4 (evBn ok T) 4 0 Tryd.f4 (some 0) 2 (.exit 2) (s42x l m A B 2 a b (.sl P pn s false pz)) (roundD aeC4 4 0 0) = Q4 ok T A B a b P pn s pz (some badS) (bif ok 30 [l, m] then some (.norm, nextB T l m 3) else none) := by kernel_rfl
theorem b4_x1 : nextS aeC4 (evBn ok T) 4 0 Tryd.f4 (some 0) 2 (.exit 2) (s42x l m A B 1 a b (.sl P pn s false pz)) (heldD aeC4 4 0) = Q4 ok T A B a b P pn s pz none (bif ok 30 [l, m] then (bif ok 31 [l] then some (4, s44 l m T.G T.gn [] 0) else none) else none) := by kernel_rfl
theorem b4_3 : startS aeC4 (evBn ok T) 4 0 Tryd.f4 (some 0) (s4 l m A B 3) (roundD aeC4 4 0 0) = some (Ex.exit 0, ⟨[], [], []⟩) := by kernel_rfl
theorem b4_x : nextS aeC4 (evBn ok T) 4 0 Tryd.f4 none 0 (.exit 0) ⟨[], [], []⟩ (doneE aeC4 Tryd.f4 0 fun v h => freezeV h 4 v) = bif ok 18 [] then some (bD true) else none := by kernel_rfl
end
def up3 (x w : Int) : Int := if IntKind.wrap IntKind.i64 (x + w) < 30 then IntKind.wrap IntKind.i64 (x + w) else 30
theorem b44 (ok : Nat → List DV → Bool) (T : TbB) (l : DV) (W G H : List DV) (n g j : Nat) (c z : Bool) : startS aeC4 (evBn ok T) 4 0 Tryd.f4 (some 4) (s44 l (.sl W n 1 c z) G g H j) (roundD aeC4 4 0 4) =
  bif decide ((j : Int) < (g : Int)) then (bif decide ((j : Int) < (n : Int)) then (bif inRange (j : Int) n then (getI (nth W (Int.toNat (j : Int) * 1)) fun x0 => bif inRange (j : Int) g then (getI (nth G (Int.toNat (j : Int) * 1)) fun x1 =>
    bif Nat.ble (lenOf 1 H.length + 1) 1048576 then some (Ex.norm, s44 l (.sl W n 1 c z) G g (H ++ [iD (up3 x1 (IntKind.wrap IntKind.i64 (Int.tmod (IntKind.wrap IntKind.u64 x0) 3)))]) (IntKind.wrap IntKind.i64 ((j : Int) + 1))) else none) else none) else none)
    else bif inRange (j : Int) g then (getI (nth G (Int.toNat (j : Int) * 1)) fun x2 => bif Nat.ble (lenOf 1 H.length + 1) 1048576 then some (Ex.norm, s44 l (.sl W n 1 c z) G g (H ++ [iD (up3 x2 0)]) (IntKind.wrap IntKind.i64 ((j : Int) + 1))) else none) else none)
  else some (Ex.exit 4, s44x l (.sl W n 1 c z) G g H) := by kernel_rfl
theorem b44x (ok : Nat → List DV → Bool) (T : TbB) (l m : DV) (G H : List DV) (g : Nat) : nextS aeC4 (evBn ok T) 4 0 Tryd.f4 (some 0) 4 (.exit 4) (s44x l m G g H) (roundD aeC4 4 0 0) =
  some (Ex.norm, s4 l m (.sl G g 1 false false) (.sl H (lenOf 1 H.length) 1 false (true && Nat.beq H.length 0)) 2) := by kernel_rfl
end Go.Proofs.YtiicbenhhdbnoaaDoor

/- Chapter 09: polynomials that are products. Written by wip/tools/genW3.py. -/
namespace Go.Proofs.YtiicbenhhdbnoaaDoor
open Go Go.AE
set_option maxRecDepth 100000
def sh41 (P : List DV → List DV) (N : List DV → Nat) (O : List DV → Bool) : Nat → List DV → DV := fun _ ds => .tup [.sl (P ds) (N ds) 1 false false, bD (O ds)]
noncomputable def ev41 (ok : Nat → List DV → Bool) (P : List DV → List DV) (N : List DV → Nat) (O : List DV → Bool) : Ev := evT ok (sh41 P N O)
noncomputable def s31 (l : List Int) (c nl : Bool) (A : List DV) (m : Nat) (ca : Bool) (i : Int) : St := ⟨[(0, .d (.sl (ints l) l.length 1 c nl)), (3, .d (.sl A m 1 ca false)), (4, .d (iD i))], [], []⟩

theorem r31h (ok : Nat → List DV → Bool) (P : List DV → List DV) (N : List DV → Nat) (O : List DV → Bool) (L : List DV) (n : Nat) (c nl : Bool) : startS aeC (ev41 ok P N O) 31 0 Tryd.f31 none ⟨envOf 0 [.d (.sl L n 1 c nl)], [], []⟩ (heldD aeC 31 0) =
  some (0, ⟨[(0, .d (DV.sl L n 1 c nl)), (3, .d (DV.sl [iD 1] 1 1 true false)), (4, .d (iD 0))], [], []⟩) := by kernel_rfl

theorem r31_0 (ok : Nat → List DV → Bool) (P : List DV → List DV) (N : List DV → Nat) (O : List DV → Bool) (l : List Int) (c nl : Bool) (A : List DV) (m : Nat) (ca : Bool) (i : Int) : startS aeC (ev41 ok P N O) 31 0 Tryd.f31 (some 0) (s31 l c nl A m ca i) (roundD aeC 31 0 0) =
  bif decide (i < (↑(List.length l) : Int)) then
    bif decide (i < 5) then
      bif inRange i (List.length l) then
        getI (nth (ints l) (Int.toNat i * 1)) fun x0 =>
        bif inRange i (List.length l) then
          getI (nth (ints l) (Int.toNat i * 1)) fun x1 =>
          bif decide (Int.tmod x1 2 = 0) then
            bif inRange i (List.length l) then
              getI (nth (ints l) (Int.toNat i * 1)) fun x2 =>
              bif ok 41 [DV.sl A m 1 ca false, DV.sl [iD (IntKind.wrap IntKind.i64 (1 + IntKind.wrap IntKind.i64 (Int.tmod (IntKind.wrap IntKind.u64 x2) 2))), iD 1, iD 1] 3 1 true false] then
                bif O [DV.sl A m 1 ca false, DV.sl [iD (IntKind.wrap IntKind.i64 (1 + IntKind.wrap IntKind.i64 (Int.tmod (IntKind.wrap IntKind.u64 x2) 2))), iD 1, iD 1] 3 1 true false] then
                  some (Ex.norm, ⟨[(0, .d (DV.sl (ints l) (List.length l) 1 c nl)), (3, .d (DV.sl (P [DV.sl A m 1 ca false, DV.sl [iD (IntKind.wrap IntKind.i64 (1 + IntKind.wrap IntKind.i64 (Int.tmod (IntKind.wrap IntKind.u64 x2) 2))), iD 1, iD 1] 3 1 true false]) (N [DV.sl A m 1 ca false, DV.sl [iD (IntKind.wrap IntKind.i64 (1 + IntKind.wrap IntKind.i64 (Int.tmod (IntKind.wrap IntKind.u64 x2) 2))), iD 1, iD 1] 3 1 true false]) 1 false false)), (4, .d (iD (IntKind.wrap IntKind.i64 (i + 1))))], [], []⟩)
                else
                  some (Ex.norm, ⟨[(0, .d (DV.sl (ints l) (List.length l) 1 c nl)), (3, .d (DV.sl A m 1 ca false)), (4, .d (iD (IntKind.wrap IntKind.i64 (i + 1))))], [], []⟩)
              else
                none
            else
              none
          else
            bif ok 41 [DV.sl A m 1 ca false, DV.sl [iD (IntKind.wrap IntKind.i64 (1 + IntKind.wrap IntKind.i64 (Int.tmod (IntKind.wrap IntKind.u64 x0) 3))), iD 1] 2 1 true false] then
              bif O [DV.sl A m 1 ca false, DV.sl [iD (IntKind.wrap IntKind.i64 (1 + IntKind.wrap IntKind.i64 (Int.tmod (IntKind.wrap IntKind.u64 x0) 3))), iD 1] 2 1 true false] then
                some (Ex.norm, ⟨[(0, .d (DV.sl (ints l) (List.length l) 1 c nl)), (3, .d (DV.sl (P [DV.sl A m 1 ca false, DV.sl [iD (IntKind.wrap IntKind.i64 (1 + IntKind.wrap IntKind.i64 (Int.tmod (IntKind.wrap IntKind.u64 x0) 3))), iD 1] 2 1 true false]) (N [DV.sl A m 1 ca false, DV.sl [iD (IntKind.wrap IntKind.i64 (1 + IntKind.wrap IntKind.i64 (Int.tmod (IntKind.wrap IntKind.u64 x0) 3))), iD 1] 2 1 true false]) 1 false false)), (4, .d (iD (IntKind.wrap IntKind.i64 (i + 1))))], [], []⟩)
              else
                some (Ex.norm, ⟨[(0, .d (DV.sl (ints l) (List.length l) 1 c nl)), (3, .d (DV.sl A m 1 ca false)), (4, .d (iD (IntKind.wrap IntKind.i64 (i + 1))))], [], []⟩)
            else
              none
        else
          none
      else
        none
    else
      some (Ex.exit 0, ⟨[(3, .d (DV.sl A m 1 ca false))], [], []⟩)
  else
    some (Ex.exit 0, ⟨[(3, .d (DV.sl A m 1 ca false))], [], []⟩) := by kernel_rfl

theorem r31_x (ok : Nat → List DV → Bool) (P : List DV → List DV) (N : List DV → Nat) (O : List DV → Bool) (A : List DV) (m : Nat) (ca : Bool) : nextS aeC (ev41 ok P N O) 31 0 Tryd.f31 none 0 (.exit 0) ⟨[(3, .d (.sl A m 1 ca false))], [], []⟩ (doneE aeC Tryd.f31 0 fun v h => freezeV h 4 v) =
  some (DV.sl A m 1 ca false) := by kernel_rfl

def tP (ds : List DV) : List DV := match ds with
  | [a, b] => ints (mulL (unL a) (unL b))
  | _ => []
def tN (ds : List DV) : Nat := match ds with
  | [a, b] => (mulL (unL a) (unL b)).length
  | _ => 0
def tO (ds : List DV) : Bool := match ds with
  | [a, b] => decide ((unL a).length + (unL b).length ≤ 7) && withinB (mulL (unL a) (unL b))
  | _ => false
theorem tP_ls (x y : List Int) (c nl c2 nl2 : Bool) : tP [ls x c nl, ls y c2 nl2] = ints (mulL x y) := by show ints (mulL (unL _) (unL _)) = _; rw [unL_ints, unL_ints]
theorem tN_ls (x y : List Int) (c nl c2 nl2 : Bool) : tN [ls x c nl, ls y c2 nl2] = (mulL x y).length := by show (mulL (unL _) (unL _)).length = _; rw [unL_ints, unL_ints]
theorem tO_ls (x y : List Int) (c nl c2 nl2 : Bool) : tO [ls x c nl, ls y c2 nl2] = (decide (x.length + y.length ≤ 7) && withinB (mulL x y)) := by show (decide ((unL _).length + (unL _).length ≤ 7) && withinB (mulL (unL _) (unL _))) = _; rw [unL_ints, unL_ints]
theorem g41 {x y : List Int} {c nl c2 nl2 : Bool} (h1 : 1 ≤ x.length) (h2 : x.length ≤ 6) (h3 : 1 ≤ y.length) (h4 : y.length ≤ 6) : okS (sh41 tP tN tO) 41 [ls x c nl, ls y c2 nl2] = true := by
  refine okS_is ?_
  show PureOK Tryd.prog 41 _ (.tup [.sl (tP [ls x c nl, ls y c2 nl2]) (tN [ls x c nl, ls y c2 nl2]) 1 false false, bD (tO [ls x c nl, ls y c2 nl2])])
  rw [tP_ls, tN_ls, tO_ls]
  exact c41 x y c nl c2 nl2 h1 h2 h3 h4

theorem k31 : OkSeg Tryd.f31 none [0] := ⟨by kernel_rfl, by kernel_rfl, by decide⟩
theorem k31_0 : OkSeg Tryd.f31 (some 0) [] := ⟨by kernel_rfl, by kernel_rfl, by decide⟩
noncomputable abbrev evG : Ev := ev41 (okS (sh41 tP tN tO)) tP tN tO
theorem evG_ok : EvOK Tryd.prog evG := evT_ok (sh41 tP tN tO)

/-- What is kept. -/
def goodB (a : List Int) : Prop := 1 ≤ a.length ∧ a.length ≤ 6 ∧ withinB a = true

/-- One round: a factor more, or none. -/
theorem step31 {l : List Int} {c nl : Bool} {A : List Int} {ca : Bool} {i : Nat} {b : List Int} {res : Option (Ex × St)} (hA : goodB A) (hb1 : 2 ≤ b.length) (hb : b.length ≤ 3) (hi : i < 5)
    (h : res = bif okS (sh41 tP tN tO) 41 [ls A ca false, ls b true false] then
      (bif tO [ls A ca false, ls b true false] then some (Ex.norm, ⟨[(0, .d (DV.sl (ints l) l.length 1 c nl)), (3, .d (DV.sl (tP [ls A ca false, ls b true false]) (tN [ls A ca false, ls b true false]) 1 false false)), (4, .d (iD (IntKind.wrap IntKind.i64 ((i : Int) + 1))))], [], []⟩)
      else some (Ex.norm, ⟨[(0, .d (DV.sl (ints l) l.length 1 c nl)), (3, .d (DV.sl (ints A) A.length 1 ca false)), (4, .d (iD (IntKind.wrap IntKind.i64 ((i : Int) + 1))))], [], []⟩)) else none) :
    ∃ A' ca', goodB A' ∧ res = some (.norm, s31 l c nl (ints A') A'.length ca' ((i + 1 : Nat) : Int)) := by
  subst h
  rw [cond_is (g41 hA.1 hA.2.1 (by omega) (by omega)), wrap64_o (by omega) (by omega), tO_ls, tP_ls, tN_ls]
  cases h7 : (decide (A.length + b.length ≤ 7) && withinB (mulL A b)) with
  | true =>
    simp only [Bool.and_eq_true, decide_eq_true_eq] at h7
    exact ⟨mulL A b, false, ⟨by rw [mulL_len]; omega, by rw [mulL_len]; omega, h7.2⟩, rfl⟩
  | false => exact ⟨A, ca, hA, rfl⟩

theorem l31 (l : List Int) (c nl : Bool) : ∀ (r A : List Int) (ca : Bool) (i : Nat), i ≤ l.length → l.drop i = r → goodB A →
    ∃ A' ca', goodB A' ∧ LoopAt aeC evG 31 0 Tryd.f31 0 (s31 l c nl (ints A) A.length ca i) (.exit 0) ⟨[(3, .d (ls A' ca' false))], [], []⟩
  | [], A, ca, i, hi, hr, hA => by
    have q1 := drop_nil_o hr
    exact ⟨A, ca, hA, .out k31_0 (by simp) ((r31_0 ..).trans (cnd_neg (by omega)))⟩
  | x :: r, A, ca, i, hi, hr, hA => by
    obtain ⟨q1, q2, q3⟩ := drop_cons_o (d := 0) hr
    have res := r31_0 (okS (sh41 tP tN tO)) tP tN tO l c nl (ints A) A.length ca i
    rw [cnd_pos (p := (i : Int) < (l.length : Int)) (by omega)] at res
    by_cases h5 : i < 5
    · rw [cnd_pos (p := (i : Int) < 5) (by omega)] at res
      simp (disch := omega) only [inR_pos, cond_true, getI_some, nth_ints_o, Int.toNat_natCast, Nat.mul_one, q2] at res
      have fin : ∃ A' ca', goodB A' ∧ startS aeC evG 31 0 Tryd.f31 (some 0) (s31 l c nl (ints A) A.length ca i) (roundD aeC 31 0 0) = some (.norm, s31 l c nl (ints A') A'.length ca' ((i + 1 : Nat) : Int)) := by
        by_cases e : Int.tmod x 2 = 0
        · rw [cnd_pos e] at res
          exact step31 (b := [_, 1, 1]) hA (by simp) (by simp) h5 res
        · rw [cnd_neg e] at res
          exact step31 (b := [_, 1]) hA (by simp) (by simp) h5 res
      obtain ⟨A1, ca1, hA1, res1⟩ := fin
      obtain ⟨A', ca', hA', ih⟩ := l31 l c nl r A1 ca1 (i + 1) q1 q3 hA1
      exact ⟨A', ca', hA', .next k31_0 res1 ih⟩
    · rw [cnd_neg (p := (i : Int) < 5) (by omega)] at res
      exact ⟨A, ca, hA, .out k31_0 (by simp) res⟩

/-- A polynomial of at most six coefficients is made of any numbers. -/
theorem c31 (l : List Int) (c nl : Bool) : ∃ A ca, goodB A ∧ PureOK Tryd.prog 31 [ls l c nl] (ls A ca false) := by
  obtain ⟨A, ca, hA, loop⟩ := l31 l c nl l [1] true 0 (by omega) rfl ⟨by simp, by simp, by decide⟩
  refine ⟨A, ca, hA, ae_pure evG_ok (fn := Tryd.f31) k31 (by kernel_rfl) (by kernel_rfl) ?_⟩
  refine Eq.trans (startF_seg k31 (r31h ..) loop) ?_
  exact nextF_done k31 done_plain (r31_x ..)
end Go.Proofs.YtiicbenhhdbnoaaDoor

/- Chapter 09: the law of bounds: all rounds. -/
namespace Go.Proofs.YtiicbenhhdbnoaaDoor
open Go Go.AE
set_option maxRecDepth 100000
theorem R4_eq {R : Type} {ok : Nat → List DV → Bool} {T : TbB} {X Y : DV} {bad K W : Option R} (h20 : ok 20 [X, Y] = true) (h21 : ok 21 [X, Y] = true) (h22 : ok 22 [X, Y] = true) (h23 : ok 23 [X, Y] = true) (h24 : ok 24 [X, Y] = true)
    (hz : (T.Zf [X, Y] || Nat.beq (T.Sf [X, Y]) 1) = true) (hn : T.E [X, Y] ≠ 0 → T.A' [X, Y] = false ∧ T.D [X, Y] = false ∧ (∀ k, T.N k [X, Y] = 0) ∧ T.M [X, Y] = 0) (h25 : T.E [X, Y] = 0 → ok 25 [X, Y] = true) :
    R4 ok T X Y bad K W = bif decide (T.E [X, Y] = 0) then W else K := by
  unfold R4
  rw [h20, h21, h22, h23, h24, hz, decide_eq_true (p := T.E [X, Y] = T.E [X, Y]) rfl]
  by_cases h : T.E [X, Y] = 0
  · rw [decide_eq_true h, h25 h]; rfl
  · obtain ⟨e1, e2, e3, e4⟩ := hn h
    rw [decide_eq_false h, e1, e2, e3, e3, e3, e3, e4]
    rfl
theorem Q4_eq {R : Type} {ok : Nat → List DV → Bool} {T : TbB} {X Y : DV} {a b : Bool} {P : List DV} {pn s : Nat} {pz : Bool} {bad K : Option R} (h27 : ok 27 [X, Y] = true) (ha : a = T.A [X, Y]) (hb : b = !T.A [X, Y])
    (h28 : b = true → ok 28 [X, Y, .sl P pn s false pz] = true ∧ ok 29 [.sl P pn s false pz] = true) (h0 : b = false → pn = 0) : Q4 ok T X Y a b P pn s pz bad K = K := by
  unfold Q4
  rw [h27, ha]
  cases hA : T.A [X, Y] with
  | true =>
    rw [hA] at hb
    subst hb
    rw [h0 rfl]
    rfl
  | false =>
    rw [hA] at hb
    subst hb
    obtain ⟨e1, e2⟩ := h28 rfl
    rw [e1, e2]
    rfl
theorem k4 : OkSeg Tryd.f4 none [0] := ⟨by kernel_rfl, by kernel_rfl, by decide⟩
theorem k4_0 : OkSeg Tryd.f4 (some 0) [2, 4] := ⟨by kernel_rfl, by kernel_rfl, by decide⟩
theorem k4_2 : OkSeg Tryd.f4 (some 2) [] := ⟨by kernel_rfl, by kernel_rfl, by decide⟩
theorem k4_4 : OkSeg Tryd.f4 (some 4) [] := ⟨by kernel_rfl, by kernel_rfl, by decide⟩
theorem loop42 {ok : Nat → List DV → Bool} {T : TbB} {l m A B : DV} {i : Int} {a b : Bool} {p c0 c1 e2 c3 d0 d1 d2 d3 : DV} (h0 : ok 26 [c0, d0] = true) (h1 : ok 26 [c1, d1] = true) (h2 : ok 26 [e2, d2] = true) (h3 : ok 26 [c3, d3] = true) :
    LoopAt aeC4 (evBn ok T) 4 0 Tryd.f4 2 (s42 l m A B i a b p c0 c1 e2 c3 d0 d1 d2 d3 0) (.exit 2) (s42x l m A B i a b p) :=
  .next k4_2 ((b42_0 ..).trans (cond_is h0)) (.next k4_2 ((b42_1 ..).trans (cond_is h1)) (.next k4_2 ((b42_2 ..).trans (cond_is h2)) (.next k4_2 ((b42_3 ..).trans (cond_is h3)) (.out k4_2 (by simp) (b42_4 ..)))))
theorem loop44 {ok : Nat → List DV → Bool} {T : TbB} {l : DV} {w g : List Int} {c z : Bool} (hg : g.length ≤ 10) : ∀ (k j : Nat) (hs : List Int), hs.length = j → j + k = g.length →
    ∃ hs' : List Int, hs'.length = g.length ∧ LoopAt aeC4 (evBn ok T) 4 0 Tryd.f4 4 (s44 l (ls w c z) (ints g) g.length (ints hs) j) (.exit 4) (s44x l (ls w c z) (ints g) g.length (ints hs'))
  | 0, j, hs, hj, hk => ⟨hs, by omega, .out k4_4 (by simp) ((b44 ..).trans (cnd_neg (by omega)))⟩
  | k + 1, j, hs, hj, hk => by
    have hb : Nat.ble (lenOf 1 (ints hs).length + 1) 1048576 = true := Nat.ble_eq_true_of_le (by rw [len_ints]; show hs.length + 1 ≤ _; omega)
    have hw : IntKind.wrap .i64 ((j : Int) + 1) = ((j + 1 : Nat) : Int) := by rw [wrap64_o (by omega) (by omega)]; rfl
    have hj1 : (Int.toNat (j : Int) * 1) = j := by simp
    have step : ∃ v, startS aeC4 (evBn ok T) 4 0 Tryd.f4 (some 4) (s44 l (ls w c z) (ints g) g.length (ints hs) j) (roundD aeC4 4 0 4) = some (.norm, s44 l (ls w c z) (ints g) g.length (ints (hs ++ [v])) ((j + 1 : Nat) : Int)) := by
      by_cases h : j < w.length
      · refine ⟨up3 (g.getD j 0) (IntKind.wrap IntKind.i64 (Int.tmod (IntKind.wrap IntKind.u64 (w.getD j 0)) 3)), (b44 ..).trans ?_⟩
        refine (cnd_pos (by omega)).trans ((cnd_pos (by omega)).trans ((inR_pos (by omega) (by omega)).trans ?_))
        rw [hj1, nth_ints_o h, getI_some]
        refine (inR_pos (by omega) (by omega)).trans ?_
        rw [nth_ints_o (l := g) (by omega), getI_some, hb, hw, ints_app1]
        rfl
      · refine ⟨up3 (g.getD j 0) 0, (b44 ..).trans ?_⟩
        refine (cnd_pos (by omega)).trans ((cnd_neg (by omega)).trans ((inR_pos (by omega) (by omega)).trans ?_))
        rw [hj1, nth_ints_o (l := g) (by omega), getI_some, hb, hw, ints_app1]
        rfl
    obtain ⟨v, hv⟩ := step
    obtain ⟨hs', h1, h2⟩ := loop44 hg k (j + 1) (hs ++ [v]) (by simp [hj]) (by omega)
    exact ⟨hs', h1, .next k4_4 hv h2⟩
/-! ### What is told -/
def vB (x y : List Int) : Bool := decide (boundsI x y = 0)
noncomputable def bdB (x y : List Int) : Bool := vB x y && !allB x y
noncomputable def tbB (lo hi g : List Int) (gc : Bool) : TbB where
  E := fun ds => boundsI (two1 ds) (two2 ds)
  A := fun ds => allB (two1 ds) (two2 ds)
  A' := fun ds => vB (two1 ds) (two2 ds) && allB (two1 ds) (two2 ds)
  C := fun k ds => bif vB (two1 ds) (two2 ds) then ints (corn k (two1 ds) (two2 ds)) else []
  N := fun k ds => bif vB (two1 ds) (two2 ds) then (corn k (two1 ds) (two2 ds)).length else 0
  S := fun ds => bif vB (two1 ds) (two2 ds) then 1 else 0
  Z := fun ds => !vB (two1 ds) (two2 ds)
  C5 := fun k ds => ints (corn k (two1 ds) (two2 ds))
  N5 := fun k ds => (corn k (two1 ds) (two2 ds)).length
  F := fun ds => bif bdB (two1 ds) (two2 ds) then ints (corn (faultK (two1 ds) (two2 ds)) (two1 ds) (two2 ds)) else []
  M := fun ds => bif bdB (two1 ds) (two2 ds) then (corn (faultK (two1 ds) (two2 ds)) (two1 ds) (two2 ds)).length else 0
  Sf := fun ds => bif bdB (two1 ds) (two2 ds) then 1 else 0
  Zf := fun ds => !bdB (two1 ds) (two2 ds)
  D := fun ds => bdB (two1 ds) (two2 ds)
  U := ints lo
  un := lo.length
  V := ints hi
  vn := hi.length
  G := ints g
  gn := g.length
  gc := gc
  P := fun ds => ints ((two1 ds).take 8)
  pn := fun ds => ((two1 ds).take 8).length
  pz := fun ds => ((two1 ds).take 8).isEmpty
def corD (x y : List Int) : DV := .tup [.agg [.sl (bif vB x y then ints (corn 0 x y) else []) (bif vB x y then (corn 0 x y).length else 0) (bif vB x y then 1 else 0) false (!vB x y), .sl (bif vB x y then ints (corn 1 x y) else []) (bif vB x y then (corn 1 x y).length else 0) (bif vB x y then 1 else 0) false (!vB x y),
  .sl (bif vB x y then ints (corn 2 x y) else []) (bif vB x y then (corn 2 x y).length else 0) (bif vB x y then 1 else 0) false (!vB x y), .sl (bif vB x y then ints (corn 3 x y) else []) (bif vB x y then (corn 3 x y).length else 0) (bif vB x y then 1 else 0) false (!vB x y)], iD (boundsI x y)]
noncomputable def fltD (x y : List Int) : DV := .tup [.sl (bif bdB x y then ints (corn (faultK x y) x y) else []) (bif bdB x y then (corn (faultK x y) x y).length else 0) (bif bdB x y then 1 else 0) false (!bdB x y), bD (bdB x y), iD (boundsI x y)]
section
variable {lo hi g : List Int} {gc : Bool} {x y : List Int} {c z c2 z2 : Bool}
theorem btE : (tbB lo hi g gc).E [ls x c z, ls y c2 z2] = boundsI x y := by show boundsI (two1 _) (two2 _) = _; rw [two1_ls, two2_ls]
theorem btA : (tbB lo hi g gc).A [ls x c z, ls y c2 z2] = allB x y := by show allB (two1 _) (two2 _) = _; rw [two1_ls, two2_ls]
theorem btA' : (tbB lo hi g gc).A' [ls x c z, ls y c2 z2] = (vB x y && allB x y) := by show (vB (two1 _) (two2 _) && allB (two1 _) (two2 _)) = _; rw [two1_ls, two2_ls]
theorem btC (k : Nat) : (tbB lo hi g gc).C k [ls x c z, ls y c2 z2] = bif vB x y then ints (corn k x y) else [] := by show (bif vB (two1 _) (two2 _) then ints (corn k (two1 _) (two2 _)) else []) = _; rw [two1_ls, two2_ls]
theorem btN (k : Nat) : (tbB lo hi g gc).N k [ls x c z, ls y c2 z2] = bif vB x y then (corn k x y).length else 0 := by show (bif vB (two1 _) (two2 _) then (corn k (two1 _) (two2 _)).length else 0) = _; rw [two1_ls, two2_ls]
theorem btS : (tbB lo hi g gc).S [ls x c z, ls y c2 z2] = bif vB x y then 1 else 0 := by show (bif vB (two1 _) (two2 _) then 1 else 0) = _; rw [two1_ls, two2_ls]
theorem btZ : (tbB lo hi g gc).Z [ls x c z, ls y c2 z2] = !vB x y := by show (!vB (two1 _) (two2 _)) = _; rw [two1_ls, two2_ls]
theorem btC5 (k : Nat) : (tbB lo hi g gc).C5 k [ls x c z, ls y c2 z2] = ints (corn k x y) := by show ints (corn k (two1 _) (two2 _)) = _; rw [two1_ls, two2_ls]
theorem btN5 (k : Nat) : (tbB lo hi g gc).N5 k [ls x c z, ls y c2 z2] = (corn k x y).length := by show (corn k (two1 _) (two2 _)).length = _; rw [two1_ls, two2_ls]
theorem btF : (tbB lo hi g gc).F [ls x c z, ls y c2 z2] = bif bdB x y then ints (corn (faultK x y) x y) else [] := by show (bif bdB (two1 _) (two2 _) then ints (corn (faultK (two1 _) (two2 _)) (two1 _) (two2 _)) else []) = _; rw [two1_ls, two2_ls]
theorem btM : (tbB lo hi g gc).M [ls x c z, ls y c2 z2] = bif bdB x y then (corn (faultK x y) x y).length else 0 := by show (bif bdB (two1 _) (two2 _) then (corn (faultK (two1 _) (two2 _)) (two1 _) (two2 _)).length else 0) = _; rw [two1_ls, two2_ls]
theorem btSf : (tbB lo hi g gc).Sf [ls x c z, ls y c2 z2] = bif bdB x y then 1 else 0 := by show (bif bdB (two1 _) (two2 _) then 1 else 0) = _; rw [two1_ls, two2_ls]
theorem btZf : (tbB lo hi g gc).Zf [ls x c z, ls y c2 z2] = !bdB x y := by show (!bdB (two1 _) (two2 _)) = _; rw [two1_ls, two2_ls]
theorem btD : (tbB lo hi g gc).D [ls x c z, ls y c2 z2] = bdB x y := by show bdB (two1 _) (two2 _) = _; rw [two1_ls, two2_ls]
theorem okB {f : Nat} {ds : List DV} {d : DV} (h : iB (tbB lo hi g gc) f ds = d) (p : PureOK Tryd.prog f ds d) : okS (iB (tbB lo hi g gc)) f ds = true := okS_is (h ▸ p)
theorem o20 : okS (iB (tbB lo hi g gc)) 20 [ls x c z, ls y c2 z2] = true := okB (congrArg iD btE) (c20 x y c z c2 z2)
theorem o24 : okS (iB (tbB lo hi g gc)) 24 [ls x c z, ls y c2 z2] = true := okB (congrArg iD btE) (c24 x y c z c2 z2)
theorem o21 : okS (iB (tbB lo hi g gc)) 21 [ls x c z, ls y c2 z2] = true := by
  refine okB (d := corD x y) (by show corD (two1 _) (two2 _) = _; rw [two1_ls, two2_ls]) ?_
  unfold corD vB
  by_cases h : boundsI x y = 0
  · rw [decide_eq_true h, h]; exact c21 x y c z c2 z2 h
  · rw [decide_eq_false h]; exact c21n x y c z c2 z2 h
theorem o22 : okS (iB (tbB lo hi g gc)) 22 [ls x c z, ls y c2 z2] = true := by
  refine okB (d := .tup [bD (vB x y && allB x y), iD (boundsI x y)]) (by show DV.tup [bD ((tbB lo hi g gc).A' _), iD ((tbB lo hi g gc).E _)] = _; rw [btA', btE]) ?_
  unfold vB
  by_cases h : boundsI x y = 0
  · rw [decide_eq_true h, h]; exact c22 x y c z c2 z2 h
  · rw [decide_eq_false h]; exact c22n x y c z c2 z2 h
theorem o23 : okS (iB (tbB lo hi g gc)) 23 [ls x c z, ls y c2 z2] = true := by
  refine okB (d := fltD x y) (by show fltD (two1 _) (two2 _) = _; rw [two1_ls, two2_ls]) ?_
  unfold fltD bdB vB
  by_cases h : boundsI x y = 0
  · rw [decide_eq_true h, h]
    have := c23 x y c z c2 z2 h
    unfold faultD at this
    revert this
    cases allB x y <;> exact fun h => h
  · rw [decide_eq_false h]; exact c23n x y c z c2 z2 h
theorem o25 (h : boundsI x y = 0) : okS (iB (tbB lo hi g gc)) 25 [ls x c z, ls y c2 z2] = true := okB (d := cs4 x y) (by show cs4 (two1 _) (two2 _) = _; rw [two1_ls, two2_ls]) (c25 x y c z c2 z2 h)
theorem o27 (h : boundsI x y = 0) : okS (iB (tbB lo hi g gc)) 27 [ls x c z, ls y c2 z2] = true := okB (congrArg bD btA) (c27 x y c z c2 z2 h)
theorem o26b (h : boundsI x y = 0) (k : Nat) : okS (iB (tbB lo hi g gc)) 26 [.sl ((tbB lo hi g gc).C k [ls x c z, ls y c2 z2]) ((tbB lo hi g gc).N k [ls x c z, ls y c2 z2]) ((tbB lo hi g gc).S [ls x c z, ls y c2 z2]) false ((tbB lo hi g gc).Z [ls x c z, ls y c2 z2]), .sl ((tbB lo hi g gc).C5 k [ls x c z, ls y c2 z2]) ((tbB lo hi g gc).N5 k [ls x c z, ls y c2 z2]) 1 false false] = true := by
  obtain ⟨h1, h2, h3, _⟩ := boundsI_0 h
  have hl := corn_len k h1 h3
  refine okB (d := bD true) rfl ?_
  rw [btC, btN, btS, btZ, btC5, btN5]
  unfold vB
  rw [decide_eq_true h]
  have := c26 (corn k x y) (corn k x y) false false false false (by omega)
  rw [decide_eq_true (p := corn k x y = corn k x y) rfl] at this
  exact this
theorem o28 (h : boundsI x y = 0) (hb : bdB x y = true) : okS (iB (tbB lo hi g gc)) 28 [ls x c z, ls y c2 z2, .sl ((tbB lo hi g gc).F [ls x c z, ls y c2 z2]) ((tbB lo hi g gc).M [ls x c z, ls y c2 z2]) 1 false ((tbB lo hi g gc).Zf [ls x c z, ls y c2 z2])] = true := by
  refine okB (d := bD true) rfl ?_
  rw [btF, btM, btZf, hb]
  exact c28 x y c z c2 z2 _ h
theorem o29 (h : boundsI x y = 0) (hb : bdB x y = true) : okS (iB (tbB lo hi g gc)) 29 [.sl ((tbB lo hi g gc).F [ls x c z, ls y c2 z2]) ((tbB lo hi g gc).M [ls x c z, ls y c2 z2]) 1 false ((tbB lo hi g gc).Zf [ls x c z, ls y c2 z2])] = true := by
  obtain ⟨h1, h2, h3, _⟩ := boundsI_0 h
  have hl := corn_len (faultK x y) h1 h3
  refine okB (d := bD false) rfl ?_
  rw [btF, btM, btZf, hb]
  have hA : allB x y = false := by
    unfold bdB at hb
    simpa using (Bool.and_eq_true_iff.1 hb).2
  have := c29 (corn (faultK x y) x y) false false (by omega) (by omega)
  rw [faultK_not hA] at this
  exact this
theorem bd_len (hb : bdB x y = false) : (tbB lo hi g gc).M [ls x c z, ls y c2 z2] = 0 := by rw [btM, hb]; rfl
theorem R4_all {R : Type} {bad K W : Option R} : R4 (okS (iB (tbB lo hi g gc))) (tbB lo hi g gc) (ls x c z) (ls y c2 z2) bad K W = bif vB x y then W else K := by
  refine (R4_eq o20 o21 o22 o23 o24 ?_ ?_ ?_).trans ?_
  · rw [btZf, btSf]; cases bdB x y <;> rfl
  · intro h
    rw [btE] at h
    have hv : vB x y = false := decide_eq_false h
    have hd : bdB x y = false := by unfold bdB; rw [hv]; rfl
    refine ⟨by rw [btA', hv]; rfl, by rw [btD, hd], fun k => by rw [btN, hv]; rfl, bd_len hd⟩
  · intro h; rw [btE] at h; exact o25 h
  · rw [btE]; rfl
theorem Q4_all {R : Type} {bad K : Option R} (h : boundsI x y = 0) : Q4 (okS (iB (tbB lo hi g gc))) (tbB lo hi g gc) (ls x c z) (ls y c2 z2) ((tbB lo hi g gc).A' [ls x c z, ls y c2 z2]) ((tbB lo hi g gc).D [ls x c z, ls y c2 z2]) ((tbB lo hi g gc).F [ls x c z, ls y c2 z2]) ((tbB lo hi g gc).M [ls x c z, ls y c2 z2]) 1 ((tbB lo hi g gc).Zf [ls x c z, ls y c2 z2]) bad K = K := by
  have hv : vB x y = true := decide_eq_true h
  refine Q4_eq (o27 h) (by rw [btA', btA, hv]; rfl) (by rw [btD, btA]; unfold bdB; rw [hv]; rfl) (fun hb => ?_) (fun hb => ?_)
  · rw [btD] at hb; exact ⟨o28 h hb, o29 h hb⟩
  · rw [btD] at hb; exact bd_len hb
variable {l m : DV} {i i' : Int}
theorem loop42_all (h : boundsI x y = 0) {X Y : DV} : LoopAt aeC4 (evBn (okS (iB (tbB lo hi g gc))) (tbB lo hi g gc)) 4 0 Tryd.f4 2 (w4s (tbB lo hi g gc) l m X Y i [ls x c z, ls y c2 z2] 0) (.exit 2)
    (s42x l m X Y i ((tbB lo hi g gc).A' [ls x c z, ls y c2 z2]) ((tbB lo hi g gc).D [ls x c z, ls y c2 z2]) (.sl ((tbB lo hi g gc).F [ls x c z, ls y c2 z2]) ((tbB lo hi g gc).M [ls x c z, ls y c2 z2]) 1 false ((tbB lo hi g gc).Zf [ls x c z, ls y c2 z2]))) :=
  loop42 (o26b h 0) (o26b h 1) (o26b h 2) (o26b h 3)
theorem round_even (h30 : okS (iB (tbB lo hi g gc)) 30 [l, m] = true)
    (hr : startS aeC4 (evBn (okS (iB (tbB lo hi g gc))) (tbB lo hi g gc)) 4 0 Tryd.f4 (some 0) (s4 l m (ls x c z) (ls y c2 z2) i) (roundD aeC4 4 0 0) = R4 (okS (iB (tbB lo hi g gc))) (tbB lo hi g gc) (ls x c z) (ls y c2 z2) (some badS) (bif okS (iB (tbB lo hi g gc)) 30 [l, m] then some (.norm, nextB (tbB lo hi g gc) l m i') else none) none)
    (hh : startS aeC4 (evBn (okS (iB (tbB lo hi g gc))) (tbB lo hi g gc)) 4 0 Tryd.f4 (some 0) (s4 l m (ls x c z) (ls y c2 z2) i) (heldD aeC4 4 0) = R4 (okS (iB (tbB lo hi g gc))) (tbB lo hi g gc) (ls x c z) (ls y c2 z2) none (bif okS (iB (tbB lo hi g gc)) 30 [l, m] then none else none) (some (2, w4s (tbB lo hi g gc) l m (ls x c z) (ls y c2 z2) i [ls x c z, ls y c2 z2] 0)))
    (hx : nextS aeC4 (evBn (okS (iB (tbB lo hi g gc))) (tbB lo hi g gc)) 4 0 Tryd.f4 (some 0) 2 (.exit 2) (s42x l m (ls x c z) (ls y c2 z2) i ((tbB lo hi g gc).A' [ls x c z, ls y c2 z2]) ((tbB lo hi g gc).D [ls x c z, ls y c2 z2]) (.sl ((tbB lo hi g gc).F [ls x c z, ls y c2 z2]) ((tbB lo hi g gc).M [ls x c z, ls y c2 z2]) 1 false ((tbB lo hi g gc).Zf [ls x c z, ls y c2 z2]))) (roundD aeC4 4 0 0) =
      Q4 (okS (iB (tbB lo hi g gc))) (tbB lo hi g gc) (ls x c z) (ls y c2 z2) ((tbB lo hi g gc).A' [ls x c z, ls y c2 z2]) ((tbB lo hi g gc).D [ls x c z, ls y c2 z2]) ((tbB lo hi g gc).F [ls x c z, ls y c2 z2]) ((tbB lo hi g gc).M [ls x c z, ls y c2 z2]) 1 ((tbB lo hi g gc).Zf [ls x c z, ls y c2 z2]) (some badS) (bif okS (iB (tbB lo hi g gc)) 30 [l, m] then some (.norm, nextB (tbB lo hi g gc) l m i') else none)) :
    startF aeC4 (evBn (okS (iB (tbB lo hi g gc))) (tbB lo hi g gc)) 4 0 Tryd.f4 (some 0) (s4 l m (ls x c z) (ls y c2 z2) i) (roundD aeC4 4 0 0) = some (.norm, nextB (tbB lo hi g gc) l m i') := by
  rw [h30] at hr hh hx
  by_cases h : boundsI x y = 0
  · have hv : vB x y = true := decide_eq_true h
    exact (startF_seg k4_0 (hh.trans (R4_all.trans (cond_is hv))) (loop42_all h)).trans (nextF_done k4_0 roundD_plain (hx.trans (Q4_all h)))
  · have hv : vB x y = false := decide_eq_false h
    exact startF_done k4_0 roundD_plain (hr.trans (R4_all.trans (by rw [hv]; rfl)))
theorem round_one {w : List Int} {cw zw : Bool} (hm : m = ls w cw zw) (hg : g.length ≤ 10) (h30 : okS (iB (tbB lo hi g gc)) 30 [l, m] = true) (h31 : okS (iB (tbB lo hi g gc)) 31 [l] = true) : ∃ hs : List Int, ∃ zz, 
    startF aeC4 (evBn (okS (iB (tbB lo hi g gc))) (tbB lo hi g gc)) 4 0 Tryd.f4 (some 0) (s4 l m (ls x c z) (ls y c2 z2) 1) (roundD aeC4 4 0 0) = some (.norm, s4 l m (ls g false false) (ls hs false zz) 2) := by
  subst hm
  obtain ⟨hs, _, hL⟩ := loop44 (ok := okS (iB (tbB lo hi g gc))) (T := tbB lo hi g gc) (l := l) (w := w) (g := g) (c := cw) (z := zw) hg g.length 0 [] rfl (by omega)
  refine ⟨hs, Nat.beq hs.length 0, ?_⟩
  have hend : nextS aeC4 (evBn (okS (iB (tbB lo hi g gc))) (tbB lo hi g gc)) 4 0 Tryd.f4 (some 0) 4 (.exit 4) (s44x l (ls w cw zw) (ints g) g.length (ints hs)) (roundD aeC4 4 0 0) = some (.norm, s4 l (ls w cw zw) (ls g false false) (ls hs false (Nat.beq hs.length 0)) 2) := by
    refine (b44x ..).trans ?_
    rw [len_ints, lenOf_1, Bool.true_and]
  have hh := b4_1h (okS (iB (tbB lo hi g gc))) (tbB lo hi g gc) l (ls w cw zw) (ints x) (ints y) x.length y.length c z c2 z2
  rw [h30, h31] at hh
  by_cases h : boundsI x y = 0
  · have hv : vB x y = true := decide_eq_true h
    have hx := b4_x1 (okS (iB (tbB lo hi g gc))) (tbB lo hi g gc) l (ls w cw zw) (ls x c z) (ls y c2 z2) ((tbB lo hi g gc).A' [ls x c z, ls y c2 z2]) ((tbB lo hi g gc).D [ls x c z, ls y c2 z2]) ((tbB lo hi g gc).F [ls x c z, ls y c2 z2]) ((tbB lo hi g gc).M [ls x c z, ls y c2 z2]) 1 ((tbB lo hi g gc).Zf [ls x c z, ls y c2 z2])
    rw [h30, h31] at hx
    exact (startF_seg k4_0 (hh.trans (R4_all.trans (cond_is hv))) (loop42_all h)).trans ((nextF_seg k4_0 (by decide) (exit_small (by decide)) (hx.trans (Q4_all h)) hL).trans (nextF_done k4_0 roundD_plain hend))
  · have hv : vB x y = false := decide_eq_false h
    exact (startF_seg k4_0 (hh.trans (R4_all.trans (by rw [hv]; rfl))) hL).trans (nextF_done k4_0 roundD_plain hend)
end
/-- The law on data: bounds, their corners, whether all within are steady, and one that is not. -/
theorem bounds_pure (l m : List Int) (c1 z1 c2 z2 : Bool) : PureOK Tryd.prog 4 [ls l c1 z1, ls m c2 z2] (bD true) := by
  obtain ⟨lo, hi, _, h30⟩ := c30 l m c1 z1 c2 z2
  obtain ⟨g, gc, hg, h31⟩ := c31 l c1 z1
  have g30 : okS (iB (tbB lo hi g gc)) 30 [ls l c1 z1, ls m c2 z2] = true := okS_is h30
  have g31 : okS (iB (tbB lo hi g gc)) 31 [ls l c1 z1] = true := okS_is h31
  have g18 : okS (iB (tbB lo hi g gc)) 18 [] = true := okS_is awake_ok
  have g19 : ∀ (p : List Int) (c z : Bool), okS (iB (tbB lo hi g gc)) 19 [ls p c z, iD 8] = true := fun p c z => okS_is (by
    show PureOK Tryd.prog 19 _ (.sl (ints ((two1 [ls p c z, iD 8]).take 8)) ((two1 [ls p c z, iD 8]).take 8).length 1 false ((two1 [ls p c z, iD 8]).take 8).isEmpty)
    rw [two1_ls]
    exact c19 p c z 8 (by omega))
  have hh : startS aeC4 (evBn (okS (iB (tbB lo hi g gc))) (tbB lo hi g gc)) 4 0 Tryd.f4 none ⟨envOf 0 [.d (ls l c1 z1), .d (ls m c2 z2)], [], []⟩ (heldD aeC4 4 0) = some (0, s4 (ls l c1 z1) (ls m c2 z2) (ls (l.take 8) false (l.take 8).isEmpty) (ls (m.take 8) false (m.take 8).isEmpty) 0) := by
    refine (b4h ..).trans ((cond_is (g19 l c1 z1)).trans ((cond_is (by simp)).trans ((cond_is (g19 m c2 z2)).trans ((cond_is (by simp)).trans ?_))))
    show some (0, s4 (ls l c1 z1) (ls m c2 z2) (.sl (ints ((two1 [ls l c1 z1, iD 8]).take 8)) ((two1 [ls l c1 z1, iD 8]).take 8).length 1 false ((two1 [ls l c1 z1, iD 8]).take 8).isEmpty) (.sl (ints ((two1 [ls m c2 z2, iD 8]).take 8)) ((two1 [ls m c2 z2, iD 8]).take 8).length 1 false ((two1 [ls m c2 z2, iD 8]).take 8).isEmpty) 0) = _
    rw [two1_ls, two1_ls]
  obtain ⟨hs, zz, r1⟩ := round_one (lo := lo) (hi := hi) (g := g) (gc := gc) (x := lo) (y := hi) (c := false) (z := false) (c2 := false) (z2 := false) (l := ls l c1 z1) (m := ls m c2 z2) rfl (by have := hg.2.1; omega) g30 g31
  have r0 := round_even (i := 0) (i' := 1) (x := l.take 8) (y := m.take 8) (c := false) (z := (l.take 8).isEmpty) (c2 := false) (z2 := (m.take 8).isEmpty) g30 (b4_0r ..) (b4_0h ..) (b4_x0 ..)
  have r2 := round_even (i := 2) (i' := 3) (x := g) (y := hs) (c := false) (z := false) (c2 := false) (z2 := zz) g30 (b4_2r ..) (b4_2h ..) (b4_x2 ..)
  refine ae_pure4 (evT_ok (iB (tbB lo hi g gc))) (fn := Tryd.f4) k4 (by kernel_rfl) (by kernel_rfl) ?_
  refine Eq.trans (startF_seg k4 hh (.nextF k4_0 r0 (.nextF k4_0 r1 (.nextF k4_0 r2 (.out k4_0 (by simp) (b4_3 ..)))))) ?_
  exact nextF_done k4 done_plain ((b4_x ..).trans (cond_is g18))
end Go.Proofs.YtiicbenhhdbnoaaDoor
