/- Part 8 of what the law stands on: the abstract machine over the model, and what the functions answer. No condition. -/
import Derived.Test.YtiicbenhhdbnoaaDoorM7
set_option linter.unusedSimpArgs false
set_option linter.unusedVariables false

/- Chapter 09: the first ones of a list. -/
namespace Go.Proofs.YtiicbenhhdbnoaaDoor
open Go Go.AE
set_option maxRecDepth 100000
theorem u19 (L : List DV) (n : Nat) (c nl : Bool) (k : Int) : pureE aeC evA 30 19 Tryd.f19 [.sl L n 1 c nl, iD k] =
  bif nl || true then
    bif decide (0 ≤ if k < (↑n : Int) then k else (↑n : Int)) && decide ((if k < (↑n : Int) then k else (↑n : Int)) ≤ (↑n : Int)) then
      bif nl || true then
        bif Nat.ble (Int.toNat (if k < (↑n : Int) then k else (↑n : Int)) - 0) 1048576 then
          some (DV.sl (sub L 0 ((Int.toNat (if k < (↑n : Int) then k else (↑n : Int)) - 0) * 1)) (lenOf 1 (List.length (sub L 0 ((Int.toNat (if k < (↑n : Int) then k else (↑n : Int)) - 0) * 1)))) 1 false (true && Nat.beq (List.length (sub L 0 ((Int.toNat (if k < (↑n : Int) then k else (↑n : Int)) - 0) * 1))) 0))
        else
          none
      else
        none
    else
      none
  else
    none := by kernel_rfl


theorem sub_take (l : List Int) (j : Nat) : sub (ints l) 0 (j * 1) = ints (l.take j) := by
  unfold sub ints
  rw [Nat.mul_one, List.drop_zero, List.map_take]
theorem c19 (l : List Int) (c nl : Bool) (k : Nat) (hk : k ≤ 1000) : PureOK Tryd.prog 19 [ls l c nl, iD (k : Int)] (lsN (l.take k) false) := by
  refine walkA (by kernel_rfl : tget aeF 19 = some Tryd.f19) ((u19 (ints l) l.length c nl k).trans ?_)
  have e : (if (k : Int) < (l.length : Int) then (k : Int) else (l.length : Int)) = ((min k l.length : Nat) : Int) := by split <;> omega
  have h1 : (Nat.ble (min k l.length) 1048576) = true := Nat.ble_eq_true_of_le (by omega)
  rw [e]
  simp only [Int.toNat_natCast, Nat.sub_zero, Bool.or_true, cond_true, sub_take, h1, Bool.true_and, len_ints, Go.AE.lenOf_1]
  rw [decide_eq_true (p := (0 : Int) ≤ ((min k l.length : Nat) : Int)) (by omega), decide_eq_true (p := ((min k l.length : Nat) : Int) ≤ (l.length : Int)) (by omega)]
  simp only [Bool.and_self, cond_true]
  have e2 : l.take (min k l.length) = l.take k := by
    rcases Nat.le_total k l.length with h | h
    · rw [Nat.min_eq_left h]
    · rw [Nat.min_eq_right h, List.take_of_length_le (Nat.le_refl _), List.take_of_length_le h]
  rw [e2]
  have e3 : Nat.beq (l.take k).length 0 = (l.take k).isEmpty := by cases l.take k <;> rfl
  rw [e3]

end Go.Proofs.YtiicbenhhdbnoaaDoor

/- Chapter 09: the law on what is woven, on data. Written by wip/tools/genT3.py. -/
namespace Go.Proofs.YtiicbenhhdbnoaaDoor
open Go Go.AE
set_option maxRecDepth 100000
structure TbW where
  W : List DV → Bool
  E : List DV → Int
  H : List DV → Bool
  R : List DV → Bool
  F : List DV → List DV
  N : List DV → Nat
  Z : List DV → Bool
  A : List DV
  m : Nat
  A2 : List DV
  m2 : Nat
  g2 : Bool
  P : List DV → List DV
  pn : List DV → Nat
  Q : List DV → List DV
  qn : List DV → Nat
  qz : List DV → Bool
def shW (T : TbW) : Nat → List DV → DV := fun f ds =>
  cond (Nat.beq f 19) (.sl (T.F ds) (T.N ds) 1 false (T.Z ds)) <| cond (Nat.beq f 36) (.tup [bD (T.W ds), iD (T.E ds)]) <| cond (Nat.beq f 37) (bD (T.H ds)) <| cond (Nat.beq f 38) (bD (T.R ds)) <|
  cond (Nat.beq f 12) (.sl T.A T.m 1 false false) <| cond (Nat.beq f 31) (.sl T.A2 T.m2 1 T.g2 false) <| cond (Nat.beq f 39) (.agg [.sl (T.P ds) (T.pn ds) 1 false false, .sl (T.Q ds) (T.qn ds) 1 false (T.qz ds)]) <| bD true
noncomputable def ev7w (ok : Nat → List DV → Bool) (T : TbW) : Ev := evT ok (shW T)
noncomputable def s7 (L : List DV) (n : Nat) (c nl : Bool) (X : List DV) (nx : Nat) (zx : Bool) (Y : List DV) (ny : Nat) (zy : Bool) (i : Int) : St := ⟨[(2, .d (.sl L n 1 c nl)), (7, .d (.sl X nx 1 false zx)), (8, .d (.sl Y ny 1 false zy)), (9, .d (iD i))], [], []⟩

theorem r7h (ok : Nat → List DV → Bool) (T : TbW) (X Y L : List DV) (n1 n2 n : Nat) (c1 z1 c2 z2 c nl : Bool) : startS aeC (ev7w ok T) 7 0 Tryd.f7 none ⟨envOf 0 [.d (.sl X n1 1 c1 z1), .d (.sl Y n2 1 c2 z2), .d (.sl L n 1 c nl)], [], []⟩ (heldD aeC 7 0) =
  bif ok 19 [DV.sl X n1 1 c1 z1, iD 5] then
    bif TbW.Z T [DV.sl X n1 1 c1 z1, iD 5] || true then
      bif ok 19 [DV.sl Y n2 1 c2 z2, iD 5] then
        bif TbW.Z T [DV.sl Y n2 1 c2 z2, iD 5] || true then
          some (0, ⟨[(2, .d (DV.sl L n 1 c nl)), (7, .d (DV.sl (TbW.F T [DV.sl X n1 1 c1 z1, iD 5]) (TbW.N T [DV.sl X n1 1 c1 z1, iD 5]) 1 false (TbW.Z T [DV.sl X n1 1 c1 z1, iD 5]))), (8, .d (DV.sl (TbW.F T [DV.sl Y n2 1 c2 z2, iD 5]) (TbW.N T [DV.sl Y n2 1 c2 z2, iD 5]) 1 false (TbW.Z T [DV.sl Y n2 1 c2 z2, iD 5]))), (9, .d (iD 0))], [], []⟩)
        else
          none
      else
        none
    else
      none
  else
    none := by kernel_rfl

theorem r7_0 (ok : Nat → List DV → Bool) (T : TbW) (X Y L : List DV) (nx ny n : Nat) (zx zy c nl : Bool) : startS aeC (ev7w ok T) 7 0 Tryd.f7 (some 0) (s7 L n c nl X nx zx Y ny zy 0) (roundD aeC 7 0 0) =
  bif ok 36 [DV.sl X nx 1 false zx, DV.sl Y ny 1 false zy] then
    bif ok 37 [DV.sl X nx 1 false zx] then
      bif !TbW.H T [DV.sl X nx 1 false zx] then
        bif !decide (TbW.E T [DV.sl X nx 1 false zx, DV.sl Y ny 1 false zy] = 1) then
          some (Ex.ret, ⟨[(6, .d (bD false))], [], []⟩)
        else
          bif TbW.W T [DV.sl X nx 1 false zx, DV.sl Y ny 1 false zy] then
            some (Ex.ret, ⟨[(6, .d (bD false))], [], []⟩)
          else
            bif ok 12 [DV.sl L n 1 c nl] then
              bif ok 39 [DV.sl (TbW.A T) (TbW.m T) 1 false false] then
                some (Ex.norm, ⟨[(2, .d (DV.sl L n 1 c nl)), (7, .d (DV.sl (TbW.P T [DV.sl (TbW.A T) (TbW.m T) 1 false false]) (TbW.pn T [DV.sl (TbW.A T) (TbW.m T) 1 false false]) 1 false false)), (8, .d (DV.sl (TbW.Q T [DV.sl (TbW.A T) (TbW.m T) 1 false false]) (TbW.qn T [DV.sl (TbW.A T) (TbW.m T) 1 false false]) 1 false (TbW.qz T [DV.sl (TbW.A T) (TbW.m T) 1 false false]))), (9, .d (iD 1))], [], []⟩)
              else
                none
            else
              none
      else
        bif ok 37 [DV.sl Y ny 1 false zy] then
          bif !TbW.H T [DV.sl Y ny 1 false zy] then
            bif !decide (TbW.E T [DV.sl X nx 1 false zx, DV.sl Y ny 1 false zy] = 1) then
              some (Ex.ret, ⟨[(6, .d (bD false))], [], []⟩)
            else
              bif TbW.W T [DV.sl X nx 1 false zx, DV.sl Y ny 1 false zy] then
                some (Ex.ret, ⟨[(6, .d (bD false))], [], []⟩)
              else
                bif ok 12 [DV.sl L n 1 c nl] then
                  bif ok 39 [DV.sl (TbW.A T) (TbW.m T) 1 false false] then
                    some (Ex.norm, ⟨[(2, .d (DV.sl L n 1 c nl)), (7, .d (DV.sl (TbW.P T [DV.sl (TbW.A T) (TbW.m T) 1 false false]) (TbW.pn T [DV.sl (TbW.A T) (TbW.m T) 1 false false]) 1 false false)), (8, .d (DV.sl (TbW.Q T [DV.sl (TbW.A T) (TbW.m T) 1 false false]) (TbW.qn T [DV.sl (TbW.A T) (TbW.m T) 1 false false]) 1 false (TbW.qz T [DV.sl (TbW.A T) (TbW.m T) 1 false false]))), (9, .d (iD 1))], [], []⟩)
                  else
                    none
                else
                  none
          else
            bif !decide (TbW.E T [DV.sl X nx 1 false zx, DV.sl Y ny 1 false zy] = 0) then
              some (Ex.ret, ⟨[(6, .d (bD false))], [], []⟩)
            else
              bif ok 38 [DV.sl X nx 1 false zx, DV.sl Y ny 1 false zy] then
                bif !decide (TbW.W T [DV.sl X nx 1 false zx, DV.sl Y ny 1 false zy] = TbW.R T [DV.sl X nx 1 false zx, DV.sl Y ny 1 false zy]) then
                  some (Ex.ret, ⟨[(6, .d (bD false))], [], []⟩)
                else
                  bif ok 12 [DV.sl L n 1 c nl] then
                    bif ok 39 [DV.sl (TbW.A T) (TbW.m T) 1 false false] then
                      some (Ex.norm, ⟨[(2, .d (DV.sl L n 1 c nl)), (7, .d (DV.sl (TbW.P T [DV.sl (TbW.A T) (TbW.m T) 1 false false]) (TbW.pn T [DV.sl (TbW.A T) (TbW.m T) 1 false false]) 1 false false)), (8, .d (DV.sl (TbW.Q T [DV.sl (TbW.A T) (TbW.m T) 1 false false]) (TbW.qn T [DV.sl (TbW.A T) (TbW.m T) 1 false false]) 1 false (TbW.qz T [DV.sl (TbW.A T) (TbW.m T) 1 false false]))), (9, .d (iD 1))], [], []⟩)
                    else
                      none
                  else
                    none
              else
                none
        else
          none
    else
      none
  else
    none := by kernel_rfl

theorem r7_1 (ok : Nat → List DV → Bool) (T : TbW) (X Y L : List DV) (nx ny n : Nat) (zx zy c nl : Bool) : startS aeC (ev7w ok T) 7 0 Tryd.f7 (some 0) (s7 L n c nl X nx zx Y ny zy 1) (roundD aeC 7 0 0) =
  bif ok 36 [DV.sl X nx 1 false zx, DV.sl Y ny 1 false zy] then
    bif ok 37 [DV.sl X nx 1 false zx] then
      bif !TbW.H T [DV.sl X nx 1 false zx] then
        bif !decide (TbW.E T [DV.sl X nx 1 false zx, DV.sl Y ny 1 false zy] = 1) then
          some (Ex.ret, ⟨[(6, .d (bD false))], [], []⟩)
        else
          bif TbW.W T [DV.sl X nx 1 false zx, DV.sl Y ny 1 false zy] then
            some (Ex.ret, ⟨[(6, .d (bD false))], [], []⟩)
          else
            bif ok 12 [DV.sl L n 1 c nl] then
              bif ok 39 [DV.sl (TbW.A T) (TbW.m T) 1 false false] then
                bif ok 31 [DV.sl L n 1 c nl] then
                  bif ok 39 [DV.sl (TbW.A2 T) (TbW.m2 T) 1 false false] then
                    some (Ex.norm, ⟨[(2, .d (DV.sl L n 1 c nl)), (7, .d (DV.sl (TbW.P T [DV.sl (TbW.A2 T) (TbW.m2 T) 1 false false]) (TbW.pn T [DV.sl (TbW.A2 T) (TbW.m2 T) 1 false false]) 1 false false)), (8, .d (DV.sl (TbW.Q T [DV.sl (TbW.A2 T) (TbW.m2 T) 1 false false]) (TbW.qn T [DV.sl (TbW.A2 T) (TbW.m2 T) 1 false false]) 1 false (TbW.qz T [DV.sl (TbW.A2 T) (TbW.m2 T) 1 false false]))), (9, .d (iD 2))], [], []⟩)
                  else
                    none
                else
                  none
              else
                none
            else
              none
      else
        bif ok 37 [DV.sl Y ny 1 false zy] then
          bif !TbW.H T [DV.sl Y ny 1 false zy] then
            bif !decide (TbW.E T [DV.sl X nx 1 false zx, DV.sl Y ny 1 false zy] = 1) then
              some (Ex.ret, ⟨[(6, .d (bD false))], [], []⟩)
            else
              bif TbW.W T [DV.sl X nx 1 false zx, DV.sl Y ny 1 false zy] then
                some (Ex.ret, ⟨[(6, .d (bD false))], [], []⟩)
              else
                bif ok 12 [DV.sl L n 1 c nl] then
                  bif ok 39 [DV.sl (TbW.A T) (TbW.m T) 1 false false] then
                    bif ok 31 [DV.sl L n 1 c nl] then
                      bif ok 39 [DV.sl (TbW.A2 T) (TbW.m2 T) 1 false false] then
                        some (Ex.norm, ⟨[(2, .d (DV.sl L n 1 c nl)), (7, .d (DV.sl (TbW.P T [DV.sl (TbW.A2 T) (TbW.m2 T) 1 false false]) (TbW.pn T [DV.sl (TbW.A2 T) (TbW.m2 T) 1 false false]) 1 false false)), (8, .d (DV.sl (TbW.Q T [DV.sl (TbW.A2 T) (TbW.m2 T) 1 false false]) (TbW.qn T [DV.sl (TbW.A2 T) (TbW.m2 T) 1 false false]) 1 false (TbW.qz T [DV.sl (TbW.A2 T) (TbW.m2 T) 1 false false]))), (9, .d (iD 2))], [], []⟩)
                      else
                        none
                    else
                      none
                  else
                    none
                else
                  none
          else
            bif !decide (TbW.E T [DV.sl X nx 1 false zx, DV.sl Y ny 1 false zy] = 0) then
              some (Ex.ret, ⟨[(6, .d (bD false))], [], []⟩)
            else
              bif ok 38 [DV.sl X nx 1 false zx, DV.sl Y ny 1 false zy] then
                bif !decide (TbW.W T [DV.sl X nx 1 false zx, DV.sl Y ny 1 false zy] = TbW.R T [DV.sl X nx 1 false zx, DV.sl Y ny 1 false zy]) then
                  some (Ex.ret, ⟨[(6, .d (bD false))], [], []⟩)
                else
                  bif ok 12 [DV.sl L n 1 c nl] then
                    bif ok 39 [DV.sl (TbW.A T) (TbW.m T) 1 false false] then
                      bif ok 31 [DV.sl L n 1 c nl] then
                        bif ok 39 [DV.sl (TbW.A2 T) (TbW.m2 T) 1 false false] then
                          some (Ex.norm, ⟨[(2, .d (DV.sl L n 1 c nl)), (7, .d (DV.sl (TbW.P T [DV.sl (TbW.A2 T) (TbW.m2 T) 1 false false]) (TbW.pn T [DV.sl (TbW.A2 T) (TbW.m2 T) 1 false false]) 1 false false)), (8, .d (DV.sl (TbW.Q T [DV.sl (TbW.A2 T) (TbW.m2 T) 1 false false]) (TbW.qn T [DV.sl (TbW.A2 T) (TbW.m2 T) 1 false false]) 1 false (TbW.qz T [DV.sl (TbW.A2 T) (TbW.m2 T) 1 false false]))), (9, .d (iD 2))], [], []⟩)
                        else
                          none
                      else
                        none
                    else
                      none
                  else
                    none
              else
                none
        else
          none
    else
      none
  else
    none := by kernel_rfl

theorem r7_2 (ok : Nat → List DV → Bool) (T : TbW) (X Y L : List DV) (nx ny n : Nat) (zx zy c nl : Bool) : startS aeC (ev7w ok T) 7 0 Tryd.f7 (some 0) (s7 L n c nl X nx zx Y ny zy 2) (roundD aeC 7 0 0) =
  bif ok 36 [DV.sl X nx 1 false zx, DV.sl Y ny 1 false zy] then
    bif ok 37 [DV.sl X nx 1 false zx] then
      bif !TbW.H T [DV.sl X nx 1 false zx] then
        bif !decide (TbW.E T [DV.sl X nx 1 false zx, DV.sl Y ny 1 false zy] = 1) then
          some (Ex.ret, ⟨[(6, .d (bD false))], [], []⟩)
        else
          bif TbW.W T [DV.sl X nx 1 false zx, DV.sl Y ny 1 false zy] then
            some (Ex.ret, ⟨[(6, .d (bD false))], [], []⟩)
          else
            bif ok 12 [DV.sl L n 1 c nl] then
              bif ok 39 [DV.sl (TbW.A T) (TbW.m T) 1 false false] then
                some (Ex.norm, ⟨[(2, .d (DV.sl L n 1 c nl)), (7, .d (DV.sl (TbW.P T [DV.sl (TbW.A T) (TbW.m T) 1 false false]) (TbW.pn T [DV.sl (TbW.A T) (TbW.m T) 1 false false]) 1 false false)), (8, .d (DV.sl (TbW.Q T [DV.sl (TbW.A T) (TbW.m T) 1 false false]) (TbW.qn T [DV.sl (TbW.A T) (TbW.m T) 1 false false]) 1 false (TbW.qz T [DV.sl (TbW.A T) (TbW.m T) 1 false false]))), (9, .d (iD 3))], [], []⟩)
              else
                none
            else
              none
      else
        bif ok 37 [DV.sl Y ny 1 false zy] then
          bif !TbW.H T [DV.sl Y ny 1 false zy] then
            bif !decide (TbW.E T [DV.sl X nx 1 false zx, DV.sl Y ny 1 false zy] = 1) then
              some (Ex.ret, ⟨[(6, .d (bD false))], [], []⟩)
            else
              bif TbW.W T [DV.sl X nx 1 false zx, DV.sl Y ny 1 false zy] then
                some (Ex.ret, ⟨[(6, .d (bD false))], [], []⟩)
              else
                bif ok 12 [DV.sl L n 1 c nl] then
                  bif ok 39 [DV.sl (TbW.A T) (TbW.m T) 1 false false] then
                    some (Ex.norm, ⟨[(2, .d (DV.sl L n 1 c nl)), (7, .d (DV.sl (TbW.P T [DV.sl (TbW.A T) (TbW.m T) 1 false false]) (TbW.pn T [DV.sl (TbW.A T) (TbW.m T) 1 false false]) 1 false false)), (8, .d (DV.sl (TbW.Q T [DV.sl (TbW.A T) (TbW.m T) 1 false false]) (TbW.qn T [DV.sl (TbW.A T) (TbW.m T) 1 false false]) 1 false (TbW.qz T [DV.sl (TbW.A T) (TbW.m T) 1 false false]))), (9, .d (iD 3))], [], []⟩)
                  else
                    none
                else
                  none
          else
            bif !decide (TbW.E T [DV.sl X nx 1 false zx, DV.sl Y ny 1 false zy] = 0) then
              some (Ex.ret, ⟨[(6, .d (bD false))], [], []⟩)
            else
              bif ok 38 [DV.sl X nx 1 false zx, DV.sl Y ny 1 false zy] then
                bif !decide (TbW.W T [DV.sl X nx 1 false zx, DV.sl Y ny 1 false zy] = TbW.R T [DV.sl X nx 1 false zx, DV.sl Y ny 1 false zy]) then
                  some (Ex.ret, ⟨[(6, .d (bD false))], [], []⟩)
                else
                  bif ok 12 [DV.sl L n 1 c nl] then
                    bif ok 39 [DV.sl (TbW.A T) (TbW.m T) 1 false false] then
                      some (Ex.norm, ⟨[(2, .d (DV.sl L n 1 c nl)), (7, .d (DV.sl (TbW.P T [DV.sl (TbW.A T) (TbW.m T) 1 false false]) (TbW.pn T [DV.sl (TbW.A T) (TbW.m T) 1 false false]) 1 false false)), (8, .d (DV.sl (TbW.Q T [DV.sl (TbW.A T) (TbW.m T) 1 false false]) (TbW.qn T [DV.sl (TbW.A T) (TbW.m T) 1 false false]) 1 false (TbW.qz T [DV.sl (TbW.A T) (TbW.m T) 1 false false]))), (9, .d (iD 3))], [], []⟩)
                    else
                      none
                  else
                    none
              else
                none
        else
          none
    else
      none
  else
    none := by kernel_rfl

theorem r7_3 (ok : Nat → List DV → Bool) (T : TbW) (X Y L : List DV) (nx ny n : Nat) (zx zy c nl : Bool) : startS aeC (ev7w ok T) 7 0 Tryd.f7 (some 0) (s7 L n c nl X nx zx Y ny zy 3) (roundD aeC 7 0 0) =
  some (Ex.exit 0, ⟨[], [], []⟩) := by kernel_rfl

theorem r7_x (ok : Nat → List DV → Bool) (T : TbW) : nextS aeC (ev7w ok T) 7 0 Tryd.f7 none 0 (.exit 0) ⟨[], [], []⟩ (doneE aeC Tryd.f7 0 fun v h => freezeV h 4 v) =
  bif ok 18 [] then
    some (bD true)
  else
    none := by kernel_rfl


def pairB (f : List Int → List Int → Bool) (ds : List DV) : Bool := match ds with
  | [x, y] => f (unL x) (unL y)
  | _ => false
def hdL (ds : List DV) : List Int := match ds with
  | d :: _ => unL d
  | _ => []
theorem hdL_ls (l : List Int) (n : Nat) (c nl : Bool) (r : List DV) : hdL (.sl (ints l) n 1 c nl :: r) = l := unL_ints l n c nl
theorem pairB_ls (f : List Int → List Int → Bool) (x y : List Int) (n m : Nat) (c nl c2 nl2 : Bool) : pairB f [.sl (ints x) n 1 c nl, .sl (ints y) m 1 c2 nl2] = f x y := by show f (unL _) (unL _) = _; rw [unL_ints, unL_ints]
noncomputable def weB (x y : List Int) : Bool := (halfB x && halfB y) && wB (six x y)
noncomputable def tbW (a g : List Int) (ca : Bool) : TbW where
  W := pairB weB
  E := fun ds => bif pairB (fun x y => halfB x && halfB y) ds then 0 else 1
  H := fun ds => halfB (hdL ds)
  R := pairB fun x y => wB (six x y)
  F := fun ds => ints ((hdL ds).take 5)
  N := fun ds => ((hdL ds).take 5).length
  Z := fun ds => ((hdL ds).take 5).isEmpty
  A := ints a
  m := a.length
  A2 := ints g
  m2 := g.length
  g2 := ca
  P := fun ds => ints (trimL (evens (hdL ds)))
  pn := fun ds => (trimL (evens (hdL ds))).length
  Q := fun ds => ints (trimL (odds (hdL ds)))
  qn := fun ds => (trimL (odds (hdL ds))).length
  qz := fun ds => decide ((hdL ds).length = 1)

section
variable {a g : List Int} {ca : Bool} {x y : List Int} {c nl c2 nl2 : Bool}
theorem o36 (hx : x.length ≤ 5) (hy : y.length ≤ 5) : okS (shW (tbW a g ca)) 36 [ls x c nl, ls y c2 nl2] = true := by
  refine okS_is ?_
  show PureOK Tryd.prog 36 _ (.tup [bD (pairB weB [ls x c nl, ls y c2 nl2]), iD (bif pairB (fun x y => halfB x && halfB y) [ls x c nl, ls y c2 nl2] then 0 else 1)])
  rw [pairB_ls, pairB_ls]
  have := c36 x y c nl c2 nl2 hx hy
  unfold weaveD at this
  unfold weB
  revert this
  cases (halfB x && halfB y) <;> exact fun h => h
theorem o37 (hx : x.length ≤ 5) : okS (shW (tbW a g ca)) 37 [ls x c nl] = true := by
  refine okS_is ?_
  show PureOK Tryd.prog 37 _ (bD (halfB (hdL [ls x c nl])))
  rw [hdL_ls]
  exact c37 x c nl hx
theorem o38 (hx : x.length ≤ 3) (hy : y.length ≤ 3) : okS (shW (tbW a g ca)) 38 [ls x c nl, ls y c2 nl2] = true := by
  refine okS_is ?_
  show PureOK Tryd.prog 38 _ (bD (pairB (fun x y => wB (six x y)) [ls x c nl, ls y c2 nl2]))
  rw [pairB_ls]
  exact c38 x y c nl c2 nl2 hx hy
theorem o39 (h1 : 1 ≤ x.length) (h6 : x.length ≤ 6) : okS (shW (tbW a g ca)) 39 [ls x c false] = true := by
  refine okS_is ?_
  show PureOK Tryd.prog 39 _ (.agg [.sl (ints (trimL (evens (hdL [ls x c false])))) (trimL (evens (hdL [ls x c false]))).length 1 false false, .sl (ints (trimL (odds (hdL [ls x c false])))) (trimL (odds (hdL [ls x c false]))).length 1 false (decide ((hdL [ls x c false]).length = 1))])
  rw [hdL_ls]
  exact c39 x c h1 h6
theorem o19 : okS (shW (tbW a g ca)) 19 [ls x c nl, iD 5] = true := by
  refine okS_is ?_
  show PureOK Tryd.prog 19 _ (.sl (ints ((hdL [ls x c nl, iD 5]).take 5)) ((hdL [ls x c nl, iD 5]).take 5).length 1 false ((hdL [ls x c nl, iD 5]).take 5).isEmpty)
  rw [hdL_ls]
  exact c19 x c nl 5 (by omega)
theorem half_len (h : halfB x = true) : x.length ≤ 3 := by
  unfold halfB at h
  simp only [Bool.and_eq_true, decide_eq_true_eq] at h
  exact h.1
/-- A round compares, and goes on. -/
theorem pick {R : Type} {bad K : Option R} (hx : x.length ≤ 5) (hy : y.length ≤ 5) :
    (bif okS (shW (tbW a g ca)) 36 [ls x c nl, ls y c2 nl2] then (bif okS (shW (tbW a g ca)) 37 [ls x c nl] then
      (bif !(tbW a g ca).H [ls x c nl] then (bif !decide ((tbW a g ca).E [ls x c nl, ls y c2 nl2] = 1) then bad else bif (tbW a g ca).W [ls x c nl, ls y c2 nl2] then bad else K)
      else (bif okS (shW (tbW a g ca)) 37 [ls y c2 nl2] then
        (bif !(tbW a g ca).H [ls y c2 nl2] then (bif !decide ((tbW a g ca).E [ls x c nl, ls y c2 nl2] = 1) then bad else bif (tbW a g ca).W [ls x c nl, ls y c2 nl2] then bad else K)
        else (bif !decide ((tbW a g ca).E [ls x c nl, ls y c2 nl2] = 0) then bad else bif okS (shW (tbW a g ca)) 38 [ls x c nl, ls y c2 nl2] then (bif !decide ((tbW a g ca).W [ls x c nl, ls y c2 nl2] = (tbW a g ca).R [ls x c nl, ls y c2 nl2]) then bad else K) else none))
        else none)) else none) else none) = K := by
  rw [o36 hx hy, o37 hx, o37 hy]
  have eH : (tbW a g ca).H [ls x c nl] = halfB x := by show halfB (hdL _) = _; rw [hdL_ls]
  have eH2 : (tbW a g ca).H [ls y c2 nl2] = halfB y := by show halfB (hdL _) = _; rw [hdL_ls]
  have eE : (tbW a g ca).E [ls x c nl, ls y c2 nl2] = bif halfB x && halfB y then 0 else 1 := by show (bif pairB _ _ then _ else _) = _; rw [pairB_ls]
  have eW : (tbW a g ca).W [ls x c nl, ls y c2 nl2] = ((halfB x && halfB y) && wB (six x y)) := pairB_ls weB x y _ _ _ _ _ _
  have eR : (tbW a g ca).R [ls x c nl, ls y c2 nl2] = wB (six x y) := pairB_ls (fun x y => wB (six x y)) x y _ _ _ _ _ _
  rw [eH, eH2, eE, eW, eR]
  cases h1 : halfB x with
  | false => rfl
  | true =>
    cases h2 : halfB y with
    | false => rfl
    | true =>
      rw [o38 (half_len h1) (half_len h2)]
      simp
end

theorem trimL_le : ∀ l : List Int, (trimL l).length ≤ l.length
  | [] => by simp [trimL]
  | x :: r => by
    have ih := trimL_le r
    unfold trimL
    cases h : trimL r with
    | nil => simp only []; split <;> simp
    | cons y s => rw [h] at ih; simp only [List.length_cons] at ih ⊢; omega
theorem evens_two : ∀ l : List Int, 2 * (evens l).length ≤ l.length + 1
  | [] => by simp [evens]
  | [x] => by simp [evens]
  | x :: y :: r => by have := evens_two r; simp only [evens, List.length_cons]; omega
theorem odds_two : ∀ l : List Int, 2 * (odds l).length ≤ l.length
  | [] => by simp [odds]
  | [x] => by simp [odds]
  | x :: y :: r => by have := odds_two r; simp only [odds, List.length_cons]; omega

theorem k7 : OkSeg Tryd.f7 none [0] := ⟨by kernel_rfl, by kernel_rfl, by decide⟩
theorem k7_0 : OkSeg Tryd.f7 (some 0) [] := ⟨by kernel_rfl, by kernel_rfl, by decide⟩
theorem ev7w_ok (T : TbW) : EvOK Tryd.prog (ev7w (okS (shW T)) T) := evT_ok (shW T)

/-- The law on data: whether any two lists are the halves of a steady polynomial. -/
theorem weaves_pure (p q l : List Int) (c1 z1 c2 z2 c nl : Bool) : PureOK Tryd.prog 7 [ls p c1 z1, ls q c2 z2, ls l c nl] (bD true) := by
  obtain ⟨a, hp, h12⟩ := c12 l c nl
  obtain ⟨h1, h6, _, _⟩ := polyB_at hp
  obtain ⟨g, ca, hg, h31⟩ := c31 l c nl
  have g12 : okS (shW (tbW a g ca)) 12 [ls l c nl] = true := okS_is h12
  have g31 : okS (shW (tbW a g ca)) 31 [ls l c nl] = true := okS_is h31
  have g18 : okS (shW (tbW a g ca)) 18 [] = true := okS_is awake_ok
  have ga : okS (shW (tbW a g ca)) 39 [.sl (tbW a g ca).A (tbW a g ca).m 1 false false] = true := o39 (x := a) h1 h6
  have gg : okS (shW (tbW a g ca)) 39 [.sl (tbW a g ca).A2 (tbW a g ca).m2 1 false false] = true := o39 (x := g) hg.1 hg.2.1
  have ea : ∀ r : List DV, hdL (.sl (tbW a g ca).A (tbW a g ca).m 1 false false :: r) = a := fun r => hdL_ls a _ _ _ r
  have eg : ∀ r : List DV, hdL (.sl (tbW a g ca).A2 (tbW a g ca).m2 1 false false :: r) = g := fun r => hdL_ls g _ _ _ r
  have tk : ∀ s : List Int, (s.take 5).length ≤ 5 := fun s => by simp; omega
  have hea : ∀ s : List Int, s.length ≤ 6 → (trimL (evens s)).length ≤ 5 := fun s hs => by have := trimL_le (evens s); have := evens_two s; omega
  have hoa : ∀ s : List Int, s.length ≤ 6 → (trimL (odds s)).length ≤ 5 := fun s hs => by have := trimL_le (odds s); have := odds_two s; omega
  -- the state of a round
  let S : List Int → Bool → List Int → Bool → Int → St := fun x zx y zy i => s7 (ints l) l.length c nl (ints x) x.length zx (ints y) y.length zy i
  have hh : startS aeC (ev7w (okS (shW (tbW a g ca))) (tbW a g ca)) 7 0 Tryd.f7 none ⟨envOf 0 [.d (ls p c1 z1), .d (ls q c2 z2), .d (ls l c nl)], [], []⟩ (heldD aeC 7 0) = some (0, S (p.take 5) (p.take 5).isEmpty (q.take 5) (q.take 5).isEmpty 0) := by
    refine (r7h ..).trans ?_
    refine (cond_is o19).trans ((cond_is (by simp)).trans ((cond_is o19).trans ((cond_is (by simp)).trans ?_)))
    show some (0, (⟨[(2, .d (ls l c nl)), (7, .d (.sl (ints ((hdL [ls p c1 z1, iD 5]).take 5)) ((hdL [ls p c1 z1, iD 5]).take 5).length 1 false ((hdL [ls p c1 z1, iD 5]).take 5).isEmpty)), (8, .d (.sl (ints ((hdL [ls q c2 z2, iD 5]).take 5)) ((hdL [ls q c2 z2, iD 5]).take 5).length 1 false ((hdL [ls q c2 z2, iD 5]).take 5).isEmpty)), (9, .d (iD 0))], [], []⟩ : St)) = _
    rw [hdL_ls, hdL_ls]
    rfl
  have tame : ∀ {j : Int}, (bif okS (shW (tbW a g ca)) 12 [ls l c nl] then bif okS (shW (tbW a g ca)) 39 [DV.sl (tbW a g ca).A (tbW a g ca).m 1 false false] then
      some (Ex.norm, (⟨[(2, .d (ls l c nl)), (7, .d (DV.sl ((tbW a g ca).P [DV.sl (tbW a g ca).A (tbW a g ca).m 1 false false]) ((tbW a g ca).pn [DV.sl (tbW a g ca).A (tbW a g ca).m 1 false false]) 1 false false)), (8, .d (DV.sl ((tbW a g ca).Q [DV.sl (tbW a g ca).A (tbW a g ca).m 1 false false]) ((tbW a g ca).qn [DV.sl (tbW a g ca).A (tbW a g ca).m 1 false false]) 1 false ((tbW a g ca).qz [DV.sl (tbW a g ca).A (tbW a g ca).m 1 false false]))), (9, .d (iD j))], [], []⟩ : St)) else none else none) =
      some (Ex.norm, S (trimL (evens a)) false (trimL (odds a)) (decide (a.length = 1)) j) := by
    intro j
    refine (cond_is g12).trans ((cond_is ga).trans ?_)
    show some (Ex.norm, (⟨[(2, .d (ls l c nl)), (7, .d (.sl (ints (trimL (evens (hdL [DV.sl (tbW a g ca).A (tbW a g ca).m 1 false false])))) (trimL (evens (hdL [DV.sl (tbW a g ca).A (tbW a g ca).m 1 false false]))).length 1 false false)), (8, .d (.sl (ints (trimL (odds (hdL [DV.sl (tbW a g ca).A (tbW a g ca).m 1 false false])))) (trimL (odds (hdL [DV.sl (tbW a g ca).A (tbW a g ca).m 1 false false]))).length 1 false (decide ((hdL [DV.sl (tbW a g ca).A (tbW a g ca).m 1 false false]).length = 1)))), (9, .d (iD j))], [], []⟩ : St)) = _
    rw [ea]
    rfl
  have R0 : startS aeC (ev7w (okS (shW (tbW a g ca))) (tbW a g ca)) 7 0 Tryd.f7 (some 0) (S (p.take 5) (p.take 5).isEmpty (q.take 5) (q.take 5).isEmpty 0) (roundD aeC 7 0 0) = some (.norm, S (trimL (evens a)) false (trimL (odds a)) (decide (a.length = 1)) 1) :=
    (r7_0 ..).trans ((pick (tk p) (tk q)).trans tame)
  have R1 : startS aeC (ev7w (okS (shW (tbW a g ca))) (tbW a g ca)) 7 0 Tryd.f7 (some 0) (S (trimL (evens a)) false (trimL (odds a)) (decide (a.length = 1)) 1) (roundD aeC 7 0 0) = some (.norm, S (trimL (evens g)) false (trimL (odds g)) (decide (g.length = 1)) 2) := by
    refine (r7_1 ..).trans ((pick (hea a h6) (hoa a h6)).trans ?_)
    refine (cond_is g12).trans ((cond_is ga).trans ((cond_is g31).trans ((cond_is gg).trans ?_)))
    show some (Ex.norm, (⟨[(2, .d (ls l c nl)), (7, .d (.sl (ints (trimL (evens (hdL [DV.sl (tbW a g ca).A2 (tbW a g ca).m2 1 false false])))) (trimL (evens (hdL [DV.sl (tbW a g ca).A2 (tbW a g ca).m2 1 false false]))).length 1 false false)), (8, .d (.sl (ints (trimL (odds (hdL [DV.sl (tbW a g ca).A2 (tbW a g ca).m2 1 false false])))) (trimL (odds (hdL [DV.sl (tbW a g ca).A2 (tbW a g ca).m2 1 false false]))).length 1 false (decide ((hdL [DV.sl (tbW a g ca).A2 (tbW a g ca).m2 1 false false]).length = 1)))), (9, .d (iD 2))], [], []⟩ : St)) = _
    rw [eg]
    rfl
  have R2 : startS aeC (ev7w (okS (shW (tbW a g ca))) (tbW a g ca)) 7 0 Tryd.f7 (some 0) (S (trimL (evens g)) false (trimL (odds g)) (decide (g.length = 1)) 2) (roundD aeC 7 0 0) = some (.norm, S (trimL (evens a)) false (trimL (odds a)) (decide (a.length = 1)) 3) :=
    (r7_2 ..).trans ((pick (hea g hg.2.1) (hoa g hg.2.1)).trans tame)
  refine ae_pure (ev7w_ok (tbW a g ca)) (fn := Tryd.f7) k7 (by kernel_rfl) (by kernel_rfl) ?_
  refine Eq.trans (startF_seg k7 hh (.next k7_0 R0 (.next k7_0 R1 (.next k7_0 R2 (.out k7_0 (by simp) (r7_3 ..)))))) ?_
  exact nextF_done k7 done_plain ((r7_x ..).trans (cond_is g18))
end Go.Proofs.YtiicbenhhdbnoaaDoor
