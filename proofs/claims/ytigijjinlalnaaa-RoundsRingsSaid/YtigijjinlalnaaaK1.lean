/- Part 1 of what the law stands on: the abstract machine over the model, and what the functions answer. No condition. -/
import Derived.CallsIn
import Derived.RangeFuncLeaves
import Derived.Below
import Derived.Deep.MidRow
import Derived.Deep.AppendSrc
import Derived.Laws.Entries
import Derived.IntWalk
import Derived.MapKept
set_option linter.unusedSimpArgs false
set_option linter.unusedVariables false

/- The abstract machine: data. -/
namespace Go.AE
open Go

/-- Data in memory that nobody writes any more. 'sl': a slice's cells, its length, the size of an element, whether its capacity is its length, whether it is nil. -/
inductive DV where
  | bool (b : Bool)
  | int (k : IntKind) (n : Int)
  | str (s : ByteArray)
  | sl (cells : List DV) (len sz : Nat) (closed nl : Bool)
  | nilp
  | ptr (cells : List DV) (off : Nat)
  | agg (cells : List DV)
  | tup (vs : List DV)
  | fn (f : FuncId) (first captured : List DV)
  | nilf
  | nilm
  | nili
/-- It hands on one thing, whatever comes behind; or nothing. -/
def Fac {X : Type} (f : (R : Type) → (X → Option R) → Option R) : Prop := (∃ x, ∀ R K, f R K = K x) ∨ (∀ R K, f R K = none)

/-- The same, of two things. -/
def Fac2 {X Y : Type} (f : (R : Type) → (X → Y → Option R) → Option R) : Prop := (∃ x y, ∀ R K, f R K = K x y) ∨ (∀ R K, f R K = none)

end Go.AE

/- The abstract machine: the package's variables that are told: none. -/
namespace Go.AE
open Go
def globOf (_ : Nat) : Option (List DV) := none
/-- Functions that leave the memory of those who call them as it was. -/
def calmF (_ : Nat) : Bool := false
/-- Functions whose answers lie in new memory only. -/
def freshF (f : Nat) : Bool := false
end Go.AE

/- The abstract machine: values, blocks, and the evaluator. It draws nothing, knows no capacities and no orders; what it answers is proved of the model in the texts beside this one. -/
namespace Go.AE
open Go

/-- Values: data, and what lies in the memory of this call. 'grow': the whole of a block that append has made; while it is empty and 'nn' is false: nil. -/
inductive AV where
  | undef
  | d (v : DV)
  | ref (b off : Nat)
  | row (b off len cap sz : Nat) (exact : Bool)
  | grow (b sz : Nat) (nn : Bool)
  | agg (cells : List AV)
  | tup (vs : List AV)
  | fn (f : FuncId) (first captured : List AV)
  | yld (l : Nat)
  | mp (b : Nat)

/-- Blocks of this call's own. -/
inductive Blk where
  | dc (cs : List DV)
  | ac (cs : List AV)
  | dead
  | defr
  | mp (es : List (DV × DV))
  | sit (s : ByteArray) (pos : Nat)
  | mit (m n : Nat) (seen : List Nat)
  | loop (st : LoopState) (pending : Option Code) (fn : FuncId) (nt : Nat) (env : List (Nat × AV)) (params : List Tmp) (assign body : Code) (defers : Nat)

/-- A table by numbers, as a tree. -/
inductive Tab (α : Type) where
  | leaf
  | node (k : Nat) (v : α) (l r : Tab α)

def tget {α : Type} : Tab α → Nat → Option α
  | .leaf, _ => none
  | .node k v l r, t => cond (Nat.beq t k) (some v) (cond (Nat.blt t k) (tget l t) (tget r t))

/-- What holds of all that a table tells. -/
def Tab.All {α : Type} (p : Nat → α → Prop) : Tab α → Prop
  | .leaf => True
  | .node k v l r => p k v ∧ l.All p ∧ r.All p

def Tab.all {α : Type} (p : Nat → α → Bool) : Tab α → Bool
  | .leaf => true
  | .node k v l r => p k v && (l.all p && r.all p)

/-- What is known of a type. -/
inductive Tag where
  | bool
  | int (k : IntKind)
  | str
  | slice (e : Nat)
  | array (n e : Nat)
  | struct (fs : List (Nat × Nat))
  | ptr (e : Nat)
  | map (k e : Nat)
  | other

structure TI where
  tag : Tag
  size : Nat
  bytes : Nat
  zero : List DV

def TI.agg (t : TI) : Bool :=
  match t.tag with
  | .array _ _ => true
  | .struct _ => true
  | _ => false

/-- 'keep': the slots that are kept; 'grow': nil slices that are about to grow; 'rest': slots whose value nobody writes any more: it becomes data. -/
structure Pol where
  keep : List Nat
  grow : List (Nat × Nat)
  rest : List Nat

/-- One step of a plan: an operation, whether it turns memory, and, if it does not, which that do so may come before it or behind it. 'flt': a variable is laid that is not told before it is first written; 'ini': this writes it first. -/
structure PStep where
  j : Nat
  eff : Bool
  fl : List Nat
  flt : Bool
  ini : Option Nat

/-- A region that draws its order: in which order it is walked, and which operations come ahead of each in every order. -/
structure Plan where
  steps : List PStep
  anc : List (List Nat)

/-- What is told of a program: its types, the results of its functions, which of them are called alone, and how states are tidied. -/
structure Ctx where
  T : Tab TI
  rets : Tab (List Nat)
  iso : FuncId → Bool
  pol : FuncId → Nat → Option Pol
  xpol : FuncId → Nat → Option Pol
  plan : FuncId → Nat → Option Plan
  /-- Whether rows of the call's own that come into a list are data from then on. -/
  settle : Bool := true

structure St where
  env : List (Nat × AV)
  heap : List Blk
  marks : List Nat

inductive Ex where
  | norm
  | exit (id : Nat)
  | ret

def look : List (Nat × AV) → Nat → AV
  | [], _ => .undef
  | (s, v) :: r, t => cond (Nat.beq s t) v (look r t)

def nth {α : Type} : List α → Nat → Option α
  | [], _ => none
  | x :: _, 0 => some x
  | _ :: r, n + 1 => nth r n

def setNth {α : Type} : List α → Nat → α → List α
  | [], _, _ => []
  | _ :: r, 0, v => v :: r
  | x :: r, n + 1, v => x :: setNth r n v

/-- n elements from the begin of a list, if there are so many. -/
def takeN {α : Type} : Nat → List α → Option (List α)
  | 0, _ => some []
  | _ + 1, [] => none
  | n + 1, x :: r => (takeN n r).map (x :: ·)

def setMany {α : Type} (l : List α) (off : Nat) : List α → List α
  | [] => l
  | v :: r => setMany (setNth l off v) (off + 1) r

def allD : List AV → Option (List DV)
  | [] => some []
  | .d x :: r => (allD r).map (x :: ·)
  | _ :: _ => none

def mkAgg (l : List AV) : AV :=
  match allD l with
  | some ds => .d (.agg ds)
  | none => .agg l

def mkTup (l : List AV) : AV :=
  match allD l with
  | some ds => .d (.tup ds)
  | none => .tup l

def mkFn (f : FuncId) (a b : List AV) : AV :=
  match allD a, allD b with
  | some x, some y => .d (.fn f x y)
  | _, _ => .fn f a b

/-- A constant of the text. -/
def dvConst : Value → Option DV
  | .bool b => some (.bool b)
  | .int k n => some (.int k n)
  | .string s => some (.str s)
  | .pointer none => some .nilp
  | .slice none 0 0 => some (.sl [] 0 0 false true)
  | .nilFunc => some .nilf
  | .map none => some .nilm
  | .nilIface => some .nili
  | _ => none

def dvConsts : List Value → Option (List DV)
  | [] => some []
  | v :: r => (dvConst v).bind fun d => (dvConsts r).map (d :: ·)

def ofConst : Value → AV
  | .agg cs => match dvConsts cs.toList with
    | some ds => .d (.agg ds)
    | none => .undef
  | v => match dvConst v with
    | some d => .d d
    | none => .undef

def ev (env : List (Nat × AV)) : Operand → AV
  | .tmp t => look env t
  | .const v => ofConst v
  | .global g => match globOf g with
    | some cs => .d (.ptr cs 0)
    | none => .undef
  | .func f => .d (.fn f [] [])

/-- The cells of a value of an aggregate type. -/
def cellsD : DV → List DV
  | .agg cs => cs
  | v => [v]

def cellsA : AV → List AV
  | .d v => (cellsD v).map .d
  | .agg cs => cs
  | v => [v]

def lenOf : Nat → Nat → Nat
  | 1, n => n
  | s, n => n / s

section
variable {R : Type}

/-- A value of which only the type is known is laid open by its type. -/
def reveal (T : Tab TI) (t : Nat) (d : DV) (K : DV → Option R) : Option R :=
  match tget T t with
  | none => K d
  | some ti => match ti.tag with
    | .int k => match d with
      | .int k' n => cond (decide (k' = k)) (K (.int k n)) none
      | _ => none
    | .bool => match d with
      | .bool b => K (.bool b)
      | _ => none
    | .str => match d with
      | .str s => K (.str s)
      | _ => none
    | _ => K d

/-- The same, slices too: that the capacity is the length is forgotten. -/
def revealW (T : Tab TI) (t : Nat) (d : DV) (K : DV → Option R) : Option R :=
  match tget T t with
  | none => K d
  | some ti => match ti.tag with
    | .slice e => match tget T e with
      | none => none
      | some te => match d with
        | .sl cs n s _ nl => cond (nl || Nat.beq s te.size) (K (.sl cs n te.size false nl)) none
        | _ => none
    | _ => reveal T t d K

def revealL (T : Tab TI) : List Nat → List DV → (List DV → Option R) → Option R
  | [], [], K => K []
  | t :: ts, d :: ds, K => revealW T t d fun x => revealL T ts ds fun xs => K (x :: xs)
  | _, _, _ => none

/-- The result of a call, laid open by the types of the results. -/
def revealR (T : Tab TI) (ts : List Nat) (d : DV) (K : DV → Option R) : Option R :=
  match ts with
  | [t] => revealW T t d K
  | ts => match d with
    | .tup ds => revealL T ts ds fun xs => K (.tup xs)
    | _ => none

/-- The cells of a variable of an aggregate type, one by one. -/
def readL (T : Tab TI) (leaf : List Nat) (cs : List DV) (off : Nat) (K : List DV → Option R) : Option R :=
  match leaf with
  | [] => K []
  | t :: ts => (nth cs off).bind fun d => reveal T t d fun d' => readL T ts cs (off + 1) fun l => K (d' :: l)

/-- The types of the cells of a small aggregate. -/
def leaves (T : Tab TI) : Nat → Nat → List Nat
  | 0, _ => []
  | n + 1, t => match tget T t with
    | none => []
    | some ti => match ti.tag with
      | .array m e => (List.replicate m (leaves T n e)).flatten
      | .struct fs => (fs.map fun f => leaves T n f.2).flatten
      | _ => [t]

def readD (T : Tab TI) (t : Nat) (ti : TI) (cs : List DV) (off : Nat) (K : DV → Option R) : Option R :=
  cond ti.agg
    (cond (Nat.ble ti.size 6 && Nat.beq (leaves T 4 t).length ti.size) (readL T (leaves T 4 t) cs off fun l => K (.agg l))
      ((takeN ti.size (cs.drop off)).bind fun l => K (.agg l)))
    ((nth cs off).bind fun d => reveal T t d K)

def readA (ti : TI) (cs : List AV) (off : Nat) (K : AV → Option R) : Option R :=
  cond ti.agg ((takeN ti.size (cs.drop off)).bind fun l => K (mkAgg l)) ((nth cs off).bind K)

def loadE (T : Tab TI) (t : Nat) (h : List Blk) (a : AV) (K : AV → Option R) : Option R :=
  match tget T t with
  | none => none
  | some ti => match a with
    | .d (.ptr cs off) => cond ti.agg (readD T t ti cs off fun d => K (.d d)) ((nth cs off).bind fun d => revealW T t d fun d' => K (.d d'))
    | .ref b off => match nth h b with
      | some (.dc cs) => readD T t ti cs off fun d => K (.d d)
      | some (.ac cs) => readA ti cs off K
      | _ => none
    | _ => none

/-- Whether data fits into one cell. -/
def oneD : DV → Bool
  | .agg _ => false
  | .tup _ => false
  | _ => true

def oneA : AV → Bool
  | .d x => oneD x
  | .agg _ => false
  | .tup _ => false
  | .undef => false
  | _ => true

/-- Writing a value's cells into a block; there must be so many. -/
def putCells (blk : Blk) (off : Nat) (v : AV) (K : Blk → Option R) : Option R :=
  match blk with
  | .dc cs => match v with
    | .d (.agg ds) => cond (Nat.ble (off + ds.length) cs.length) (K (.dc (setMany cs off ds))) none
    | .d x => cond (Nat.ble (off + 1) cs.length && oneD x) (K (.dc (setNth cs off x))) none
    | v => cond (Nat.ble 1 (cellsA v).length && (Nat.ble (off + (cellsA v).length) cs.length && (cellsA v).all oneA)) (K (.ac (setMany (cs.map .d) off (cellsA v)))) none
  | .ac cs => cond (Nat.ble (off + (cellsA v).length) cs.length && (cellsA v).all oneA) (K (.ac (setMany cs off (cellsA v)))) none
  | _ => none

def storeE (T : Tab TI) (t : Nat) (h : List Blk) (a v : AV) (K : List Blk → Option R) : Option R :=
  match tget T t with
  | none => none
  | some ti => match a with
    | .ref b off => match nth h b with
      | some blk => cond (Nat.beq (cellsA v).length ti.size) (putCells blk off v fun blk' => K (setNth h b blk')) none
      | none => none
    | _ => none

/-- A value's cells, if each of them fits into one. -/
def cellsC (v : AV) : Option (List AV) :=
  match v with
  | .d (.agg ds) => some (ds.map .d)
  | v => cond ((cellsA v).all oneA) (some (cellsA v)) none

def blkOf (l : List AV) : Blk :=
  match allD l with
  | some ds => .dc ds
  | none => .ac l

/-- The parts of a composite literal, laid over zero. -/
def fillE {α : Type} (cellsOf : AV → Option (List α)) (place : Nat → Option (Nat × Nat)) : List α → List (Nat × AV) → Option (List α)
  | cs, [] => some cs
  | cs, (i, v) :: r => match place i, cellsOf v with
    | some (off, size), some l => cond (Nat.beq l.length size && Nat.ble (off + size) cs.length) (fillE cellsOf place (setMany cs off l) r) none
    | _, _ => none

def fillAny (place : Nat → Option (Nat × Nat)) (zero : List DV) (parts : List (Nat × AV)) (K : List AV → Option R) : Option R :=
  match fillE cellsC place (zero.map .d) parts with
  | some l => K l
  | none => none

def placeS (T : Tab TI) (fs : List (Nat × Nat)) (i : Nat) : Option (Nat × Nat) :=
  match nth fs i with
  | some (off, t) => match tget T t with
    | some ti => some (off, ti.size)
    | none => none
  | none => none

def buildE (T : Tab TI) (t : Nat) (parts : List (Nat × AV)) (K : AV → Option R) : Option R :=
  match tget T t with
  | none => none
  | some ti => match ti.tag with
    | .struct fs => cond (Nat.beq ti.zero.length ti.size && fs.all fun f => (tget T f.2).isSome) (fillAny (placeS T fs) ti.zero parts fun l => K (mkAgg l)) none
    | .array _ e => match tget T e with
      | some te => cond (Nat.beq ti.zero.length ti.size) (fillAny (fun i => some (i * te.size, te.size)) ti.zero parts fun l => K (mkAgg l)) none
      | none => none
    | _ => none

def buildSliceE (T : Tab TI) (t len : Nat) (parts : List (Nat × AV)) (h : List Blk) (K : AV → List Blk → Option R) : Option R :=
  match tget T t with
  | none => none
  | some ti => match ti.tag with
    | .slice e => match tget T e with
      | none => none
      | some te => cond (Nat.ble len 4096 && Nat.ble te.size 64 && Nat.ble 1 te.size && Nat.beq te.zero.length te.size)
          (fillAny (fun i => some (i * te.size, te.size)) ((List.replicate len te.zero).flatten) parts fun l => match allD l with
            | some ds => K (.d (.sl ds len te.size true false)) h
            | none => K (.row h.length 0 len len te.size true) (h ++ [.ac l])) none
    | _ => none

/-- A part of a slice's or row's cells. -/
def sub {α : Type} (cs : List α) (off n : Nat) : List α := (cs.drop off).take n

end

def mapO {α β : Type} (f : α → Option β) : List α → Option (List β)
  | [] => some []
  | x :: r => match f x, mapO f r with
    | some y, some l => some (y :: l)
    | _, _ => none

/-- What an own value is for those who only read it. -/
def freezeV (h : List Blk) : Nat → AV → Option DV
  | 0, v => match v with
    | .d x => some x
    | _ => none
  | n + 1, v => match v with
    | .d x => some x
    | .row b off len _ sz _ => match nth h b with
      | some (.dc cs) => cond (Nat.ble (off + len * sz) cs.length) (some (.sl (sub cs off (len * sz)) len sz false false)) none
      | some (.ac cs) => cond (Nat.ble (off + len * sz) cs.length) ((mapO (freezeV h n) (sub cs off (len * sz))).map fun l => .sl l len sz false false) none
      | _ => none
    | .grow b sz nn => match nth h b with
      | some (.dc cs) => some (.sl cs (lenOf sz cs.length) sz false (!nn && Nat.beq cs.length 0))
      | some (.ac cs) => (mapO (freezeV h n) cs).map fun l => .sl l (lenOf sz cs.length) sz false (!nn && Nat.beq cs.length 0)
      | _ => none
    | .ref b off => match nth h b with
      | some (.dc cs) => some (.ptr cs off)
      | some (.ac cs) => (mapO (freezeV h n) cs).map fun l => .ptr l off
      | _ => none
    | .agg l => (mapO (freezeV h n) l).map .agg
    | .tup l => (mapO (freezeV h n) l).map .tup
    | .fn f a b => match mapO (freezeV h n) a, mapO (freezeV h n) b with
      | some x, some y => some (.fn f x y)
      | _, _ => none
    | _ => none

/-- The blocks whose cells become data when a value does. -/
def idsF (h : List Blk) : Nat → AV → List Nat
  | 0, _ => []
  | n + 1, v => match v with
    | .row b _ _ _ _ _ => b :: (match nth h b with | some (.ac cs) => cs.flatMap (idsF h n) | _ => [])
    | .grow b _ _ => b :: (match nth h b with | some (.ac cs) => cs.flatMap (idsF h n) | _ => [])
    | .ref b _ => b :: (match nth h b with | some (.ac cs) => cs.flatMap (idsF h n) | _ => [])
    | .agg l => l.flatMap (idsF h n)
    | .tup l => l.flatMap (idsF h n)
    | .fn _ a b => a.flatMap (idsF h n) ++ b.flatMap (idsF h n)
    | _ => []

/-- The blocks that a value names. -/
def idsA : Nat → AV → List Nat
  | 0, _ => []
  | n + 1, v => match v with
    | .ref b _ => [b]
    | .row b _ _ _ _ _ => [b]
    | .grow b _ _ => [b]
    | .yld l => [l]
    | .mp b => [b]
    | .agg l => l.flatMap (idsA n)
    | .tup l => l.flatMap (idsA n)
    | .fn _ a b => a.flatMap (idsA n) ++ b.flatMap (idsA n)
    | _ => []

def idsB : Blk → List Nat
  | .ac cs => cs.flatMap (idsA 4)
  | .mit m _ _ => [m]
  | .loop _ _ _ _ env _ _ _ df => df :: env.flatMap fun p => idsA 4 p.2
  | _ => []

def reach (h : List Blk) : Nat → List Nat → List Nat → List Nat
  | 0, _, seen => seen
  | _ + 1, [], seen => seen
  | n + 1, b :: todo, seen => cond (seen.contains b) (reach h n todo seen)
      (reach h n ((match nth h b with | some x => idsB x | none => []) ++ todo) (seen ++ [b]))

def idxOf (b : Nat) : List Nat → Option Nat
  | [] => none
  | x :: r => cond (Nat.beq x b) (some 0) ((idxOf b r).map (· + 1))

/-- A value under other names of the blocks; what names a block that has none now is forgotten. -/
def renA (f : Nat → Option Nat) : Nat → AV → AV
  | 0, v => match v with
    | .d x => .d x
    | _ => .undef
  | n + 1, v => match v with
    | .d x => .d x
    | .ref b off => match f b with
      | some c => .ref c off
      | none => .undef
    | .row b off len cap sz ex => match f b with
      | some c => .row c off len cap sz ex
      | none => .undef
    | .grow b sz nn => match f b with
      | some c => .grow c sz nn
      | none => .undef
    | .yld l => match f l with
      | some c => .yld c
      | none => .undef
    | .mp l => match f l with
      | some c => .mp c
      | none => .undef
    | .agg l => .agg (l.map (renA f n))
    | .tup l => .tup (l.map (renA f n))
    | .fn g a b => .fn g (a.map (renA f n)) (b.map (renA f n))
    | .undef => .undef

def renB (f : Nat → Option Nat) : Blk → Blk
  | .ac cs => .ac (cs.map (renA f 4))
  | .loop st pe fn nt env ps as bo df => match f df with
    | some c => .loop st pe fn nt (env.map fun p => (p.1, renA f 4 p.2)) ps as bo c
    | none => .dead
  | .mit m n s => match f m with
    | some c => .mit c n s
    | none => .dead
  | b => b

/-- Cells that grow, their blocks one behind the other. -/
def growC (sz : Nat) : Nat → Nat → List AV
  | 0, _ => []
  | k + 1, s => .grow s sz false :: growC sz k (s + 1)

/-- Whether cells are nil slices. -/
def nilsD : List DV → Bool
  | [] => true
  | .sl _ _ _ _ true :: r => nilsD r
  | _ => false

/-- A nil slice that is about to grow gets an empty block; so do the cells of a block that are. -/
def sprout : List (Nat × Nat) → List (Nat × AV) → List Blk → List (Nat × AV) × List Blk
  | [], env, h => (env, h)
  | (t, sz) :: r, env, h => match look env t with
    | .d (.sl _ _ _ _ true) => sprout r ((t, .grow h.length sz false) :: env) (h ++ [.dc []])
    | .row b _ _ _ _ _ => match nth h b with
      | some (.dc (d :: cs)) => cond (nilsD (d :: cs)) (sprout r env (setNth (h ++ List.replicate (cs.length + 1) (.dc [])) b (.ac (growC sz (cs.length + 1) h.length)))) (sprout r env h)
      | _ => sprout r env h
    | _ => sprout r env h

/-- Blocks that nobody may use any more. -/
def killB : List Nat → List Blk → List Blk
  | [], h => h
  | b :: r, h => killB r (setNth h b .dead)

/-- Values that nobody writes any more become data. -/
def restE : List Nat → List (Nat × AV) → List Blk → List (Nat × AV) × List Blk
  | [], env, h => (env, h)
  | t :: r, env, h => match look env t with
    | .d _ => restE r env h
    | v => match freezeV h 4 v with
      | some d => restE r ((t, .d d) :: env) (killB (idsF h 4 v) h)
      | none => restE r env h

/-- A state without what is no longer wanted: the names of the blocks from base on are given anew. -/
def tidy (base : Nat) (p : Pol) (s : St) : Option St :=
  let es := restE p.rest s.env s.heap
  let eh := sprout p.grow es.1 es.2
  let env := p.keep.map fun t => (t, look eh.1 t)
  let old := eh.2.take base
  let ids := (reach eh.2 (eh.2.length * eh.2.length + env.length + 20) (env.flatMap (fun q => idsA 4 q.2) ++ old.flatMap idsB ++ s.marks) []).filter fun b => Nat.ble base b
  let f : Nat → Option Nat := fun b => cond (Nat.blt b base) (some b) ((idxOf b ids).map (base + ·))
  match mapO f s.marks, mapO (nth eh.2) ids with
  | some ms, some bs => some { env := env.map fun q => (q.1, renA f 4 q.2), heap := (old ++ bs).map (renB f), marks := ms }
  | _, _ => none

/-- An answer, by cases. -/
inductive Tr (α : Type) : Type 1 where
  | leaf (x : α)
  | node (b : Bool) (l r : Tr α)
  | fail
  | cps (f : (R : Type) → (α → Option R) → Option R) (h : Fac f)

def Tr.val {α : Type} : Tr α → Option α
  | .leaf x => some x
  | .node b l r => cond b l.val r.val
  | .fail => none
  | .cps f _ => f α some

def Tr.run {α R : Type} : Tr α → (α → Option R) → Option R
  | .leaf x, K => K x
  | .node b l r, K => cond b (l.run K) (r.run K)
  | .fail, _ => none
  | .cps f _, K => f R K

def Tr.of {α : Type} : Option α → Tr α
  | some x => .leaf x
  | none => .fail

theorem Tr.run_eq {α R : Type} (K : α → Option R) : ∀ t : Tr α, t.run K = t.val.bind K
  | .leaf _ => rfl
  | .node b l r => by
    simp only [Tr.run, Tr.val]
    cases b with
    | true => exact Tr.run_eq K l
    | false => exact Tr.run_eq K r
  | .fail => rfl
  | .cps f h => by
    simp only [Tr.run, Tr.val]
    rcases h with ⟨x, h⟩ | h
    · rw [h, h]; rfl
    · rw [h, h]; rfl

theorem Tr.val_of {α : Type} (o : Option α) : (Tr.of o).val = o := by cases o <;> rfl

/-- A call's ways. 'pure': alone, from data to data; 'fn': in the memory of the caller. -/
structure Ev where
  pure : FuncId → List DV → Tr DV
  fn : FuncId → List AV → List Blk → Tr (AV × List Blk)
  round : Nat → List AV → List Blk → Tr (AV × List Blk)

section
variable {R : Type}

def pickE (c a b : AV) (K : AV → Option R) : Option R :=
  match c with
  | .d (.bool x) => match a, b with
    | .d (.bool p), .d (.bool q) => K (.d (.bool (cond x p q)))
    | _, _ => cond x (K a) (K b)
  | _ => none

def intOp (op : BinOp) (k : IntKind) (a b : Int) (K : DV → Option R) : Option R :=
  match op with
  | .add => K (.int k (k.wrap (a + b)))
  | .sub => K (.int k (k.wrap (a - b)))
  | .mul => K (.int k (k.wrap (a * b)))
  | .quo => cond (decide (b = 0)) none (K (.int k (k.wrap (a.tdiv b))))
  | .rem => cond (decide (b = 0)) none (K (.int k (a.tmod b)))
  | .and => K (.int k (k.wrap (BitVec.ofInt k.bits a &&& BitVec.ofInt k.bits b).toNat))
  | .or => K (.int k (k.wrap (BitVec.ofInt k.bits a ||| BitVec.ofInt k.bits b).toNat))
  | .xor => K (.int k (k.wrap (BitVec.ofInt k.bits a ^^^ BitVec.ofInt k.bits b).toNat))
  | .andNot => K (.int k (k.wrap (BitVec.ofInt k.bits a &&& ~~~ BitVec.ofInt k.bits b).toNat))
  | .eql => K (.bool (decide (a = b)))
  | .neq => K (.bool (!decide (a = b)))
  | .lss => K (.bool (decide (a < b)))
  | .leq => K (.bool (decide (a ≤ b)))
  | .gtr => K (.bool (decide (b < a)))
  | .geq => K (.bool (decide (b ≤ a)))
  | _ => none

def shiftOp (op : BinOp) (k : IntKind) (a b : Int) (K : DV → Option R) : Option R :=
  cond (decide (b < 0)) none
    (match op with
    | .shl => K (.int k (k.wrap (a * 2 ^ (min b.toNat k.bits))))
    | .shr => K (.int k (a.fdiv (2 ^ (min b.toNat k.bits))))
    | _ => none)

/-- Equality of scalars; of lists of them. -/
def eqD : DV → DV → Option Bool
  | .bool a, .bool b => some (a == b)
  | .int j a, .int k b => cond (decide (j = k)) (some (decide (a = b))) none
  | .str a, .str b => some (a == b)
  | _, _ => none

/-- Equality of lists of scalars, by the types of the cells. -/
def eqLT (T : Tab TI) : List Nat → List DV → List DV → Option Bool
  | [], [], [] => some true
  | t :: ts, x :: xs, y :: ys => (reveal T t x fun x' => reveal T t y fun y' => eqD x' y').bind fun b => (eqLT T ts xs ys).map (b && ·)
  | _, _, _ => none

def nilD : DV → Option Bool
  | .sl _ _ _ _ nl => some nl
  | _ => none

/-- Whether a slice is nil. -/
def nilS (h : List Blk) : AV → Option Bool
  | .d x => nilD x
  | .row b _ _ _ _ _ => match nth h b with
    | some (.dc _) => some false
    | some (.ac _) => some false
    | _ => none
  | .grow b _ nn => match nth h b with
    | some (.dc cs) => some (!nn && Nat.beq cs.length 0)
    | some (.ac cs) => some (!nn && Nat.beq cs.length 0)
    | _ => none
  | _ => none

/-- Whether a pointer is nil. -/
def nilP (h : List Blk) : AV → Option Bool
  | .d .nilp => some true
  | .d (.ptr _ _) => some false
  | .ref b _ => match nth h b with
    | some (.dc _) => some false
    | some (.ac _) => some false
    | _ => none
  | _ => none

def isNilS : AV → Bool
  | .d (.sl _ _ _ _ true) => true
  | _ => false

def isNilP : AV → Bool
  | .d .nilp => true
  | _ => false

/-- A block of cells that is still in use. -/
def aliveB (h : List Blk) (b : Nat) : Bool :=
  match nth h b with
  | some (.dc _) => true
  | some (.ac _) => true
  | _ => false

def leafScalar (T : Tab TI) (t : Nat) : Bool :=
  match tget T t with
  | some ti => match ti.tag with
    | .int _ => true
    | .bool => true
    | .str => true
    | _ => false
  | none => false

/-- Types whose values are compared cell by cell. -/
def flatTy (T : Tab TI) (t : Nat) : Bool := (leaves T 4 t).all (leafScalar T)

def eqAgg (T : Tab TI) (t : Nat) (a b : AV) (K : Bool → Option R) : Option R :=
  match a, b with
  | .d (.agg xs), .d (.agg ys) => cond (flatTy T t) ((eqLT T (leaves T 4 t) xs ys).bind K) none
  | _, _ => none

def eqlE (T : Tab TI) (t : Nat) (h : List Blk) (a b : AV) (K : Bool → Option R) : Option R :=
  match tget T t with
  | none => none
  | some ti => match ti.tag with
    | .bool => match a, b with
      | .d (.bool p), .d (.bool q) => K (p == q)
      | _, _ => none
    | .str => match a, b with
      | .d (.str p), .d (.str q) => K (p.toList == q.toList)
      | _, _ => none
    | .slice _ => cond (isNilS b) ((nilS h a).bind K) (cond (isNilS a) ((nilS h b).bind K) none)
    | .ptr _ => cond (isNilP b) ((nilP h a).bind K) (cond (isNilP a) ((nilP h b).bind K) none)
    | .other => none
    | _ => cond ti.agg (eqAgg T t a b K) none

def addStr (a b : AV) (K : AV → Option R) : Option R :=
  match a, b with
  | .d (.str p), .d (.str q) => cond (Nat.ble (p.size + q.size) 1048576) (K (.d (.str (p ++ q)))) none
  | _, _ => none

def binE (T : Tab TI) (op : BinOp) (t : Nat) (h : List Blk) (a b : AV) (K : AV → Option R) : Option R :=
  match a, b with
  | .d (.int j x), .d (.int k y) => match op with
    | .shl => shiftOp .shl j x y fun d => K (.d d)
    | .shr => shiftOp .shr j x y fun d => K (.d d)
    | op => cond (decide (j = k)) (intOp op j x y fun d => K (.d d)) none
  | a, b => match op with
    | .eql => eqlE T t h a b fun r => K (.d (.bool r))
    | .neq => eqlE T t h a b fun r => K (.d (.bool (!r)))
    | .add => addStr a b K
    | _ => none

def unE (op : UnOp) (a : AV) (K : AV → Option R) : Option R :=
  match op, a with
  | .not, .d (.bool b) => K (.d (.bool (!b)))
  | .neg, .d (.int k n) => K (.d (.int k (k.wrap (0 - n))))
  | .xor, .d (.int k n) => K (.d (.int k (k.wrap (BitVec.ofInt k.bits (if k.signed then -1 else k.max) ^^^ BitVec.ofInt k.bits n).toNat)))
  | _, _ => none

def convE (T : Tab TI) (dst : Nat) (a : AV) (K : AV → Option R) : Option R :=
  match tget T dst with
  | none => none
  | some ti => match ti.tag, a with
    | .int k, .d (.int _ n) => K (.d (.int k (k.wrap n)))
    | .str, .d (.str s) => K (.d (.str s))
    | _, _ => none

def makeSliceE (T : Tab TI) (t : Nat) (len cap : AV) (h : List Blk) (K : AV → List Blk → Option R) : Option R :=
  match tget T t with
  | none => none
  | some ti => match ti.tag with
    | .slice e => match tget T e with
      | none => none
      | some te => match len, cap with
        | .d (.int .i64 l), .d (.int .i64 c) => cond (decide (0 ≤ l) && decide (l ≤ c) && decide (c ≤ 1048576) && (Nat.ble te.bytes 1048576 && Nat.ble 1 te.size && Nat.beq te.zero.length te.size))
            (K (.row h.length 0 l.toNat c.toNat te.size true) (h ++ [.dc (List.replicate c.toNat te.zero).flatten])) none
        | _, _ => none
    | _ => none

def lowE (lo : Option AV) (K : Nat → Nat → Nat → Option R) (h m : Nat) : Option R :=
  match lo with
  | none => K 0 h m
  | some (.d (.int _ i)) => cond (decide (0 ≤ i) && decide (i ≤ (h : Int))) (K i.toNat h m) none
  | _ => none

/-- Bounds of a slice expression: low, high, new capacity's end. -/
def boundsE (len cap : Nat) (lo hi mx : Option AV) (K : Nat → Nat → Nat → Option R) : Option R :=
  match mx with
  | none => match hi with
    | none => lowE lo K len cap
    | some (.d (.int _ i)) => cond (decide (0 ≤ i) && decide (i ≤ (cap : Int))) (lowE lo K i.toNat cap) none
    | _ => none
  | some (.d (.int _ m)) => cond (decide (0 ≤ m) && decide (m ≤ (cap : Int)))
    (match hi with
    | some (.d (.int _ i)) => cond (decide (0 ≤ i) && decide (i ≤ m)) (lowE lo K i.toNat m.toNat) none
    | _ => none) none
  | _ => none

/-- A part of a row; where nothing is left of it, not even capacity, its address is not told. -/
def rowPart (b off l u m sz : Nat) (ex : Bool) (K : AV → Option R) : Option R :=
  cond (Nat.beq l 0 || Nat.blt l m) (K (.row b (off + l * sz) (u - l) (m - l) sz ex)) (cond (Nat.beq u l) (K (.d (.sl [] 0 sz false false))) none)

def sliceE (T : Tab TI) (t : Nat) (x : AV) (lo hi mx : Option AV) (h : List Blk) (K : AV → Option R) : Option R :=
  match tget T t with
  | none => none
  | some ti => match ti.tag with
    | .slice e => match tget T e with
      | none => none
      | some te => match x with
        | .d (.sl cs n sz _ nl) => cond (nl || Nat.beq sz te.size)
            (boundsE n n lo hi mx fun l u m => K (.d (.sl (sub cs (l * te.size) ((u - l) * te.size)) (u - l) te.size (mx.isSome && Nat.beq m u) nl))) none
        | .row b off n c sz ex => cond (Nat.beq sz te.size && aliveB h b)
            (boundsE n c lo hi mx fun l u m => rowPart b off l u m sz (ex || mx.isSome) K) none
        | .grow b sz nn => match nth h b with
          | some (.dc cs) => cond (Nat.beq sz te.size) (cond (Nat.beq cs.length 0) (boundsE 0 0 lo hi mx fun _ _ _ => K (.d (.sl [] 0 sz nn (!nn))))
              (boundsE (lenOf sz cs.length) (lenOf sz cs.length) lo hi mx fun l u m => rowPart b 0 l u m sz mx.isSome K)) none
          | some (.ac cs) => cond (Nat.beq sz te.size) (cond (Nat.beq cs.length 0) (boundsE 0 0 lo hi mx fun _ _ _ => K (.d (.sl [] 0 sz nn (!nn))))
              (boundsE (lenOf sz cs.length) (lenOf sz cs.length) lo hi mx fun l u m => rowPart b 0 l u m sz mx.isSome K)) none
          | _ => none
        | _ => none
    | .array n e => match tget T e with
      | none => none
      | some te => match x with
        | .d (.ptr cs off) => boundsE n n lo hi mx fun l u _ => cond (Nat.ble (off + u * te.size) cs.length) (K (.d (.sl (sub cs (off + l * te.size) ((u - l) * te.size)) (u - l) te.size false false))) none
        | .ref b off => match nth h b with
          | some (.dc cs) => cond (Nat.ble (off + n * te.size) cs.length) (boundsE n n lo hi mx fun l u m => rowPart b off l u m te.size true K) none
          | some (.ac cs) => cond (Nat.ble (off + n * te.size) cs.length) (boundsE n n lo hi mx fun l u m => rowPart b off l u m te.size true K) none
          | _ => none
        | _ => none
    | .str => match x with
      | .d (.str s) => boundsE s.size s.size lo hi none fun l u _ => cond mx.isSome none (K (.d (.str (s.extract l u))))
      | _ => none
    | _ => none

def fieldAddrE (T : Tab TI) (t : Nat) (x : AV) (f : Nat) (h : List Blk) (K : AV → Option R) : Option R :=
  match tget T t with
  | none => none
  | some ti => match ti.tag with
    | .struct fs => match nth fs f with
      | none => none
      | some (o, ft) => match tget T ft with
        | none => none
        | some tf => cond (Nat.beq tf.size 0) none (match x with
          | .d (.ptr cs off) => K (.d (.ptr cs (off + o)))
          | .ref b off => match nth h b with
            | some .dead => none
            | some _ => K (.ref b (off + o))
            | none => none
          | _ => none)
    | _ => none

def fieldE (T : Tab TI) (t : Nat) (x : AV) (f : Nat) (K : AV → Option R) : Option R :=
  match tget T t with
  | none => none
  | some ti => match ti.tag with
    | .struct fs => match nth fs f with
      | none => none
      | some (o, ft) => match tget T ft with
        | none => none
        | some tf => match x with
          | .d (.agg cs) => readD T ft tf cs o fun d => K (.d d)
          | .agg cs => readA tf cs o K
          | _ => none
    | _ => none

def inRange (i : Int) (n : Nat) : Bool := decide (0 ≤ i) && decide (i < (n : Int))

def indexAddrE (T : Tab TI) (t : Nat) (x i : AV) (h : List Blk) (K : AV → Option R) : Option R :=
  match tget T t, i with
  | some ti, .d (.int _ i) => match ti.tag with
    | .array n e => match tget T e with
      | none => none
      | some te => cond (inRange i n)
        (match x with
        | .d (.ptr cs off) => K (.d (.ptr cs (off + i.toNat * te.size)))
        | .ref b off => cond (aliveB h b) (K (.ref b (off + i.toNat * te.size))) none
        | _ => none) none
    | .slice e => match tget T e with
      | none => none
      | some te => match x with
        | .d (.sl cs n sz _ _) => cond (Nat.beq sz te.size) (cond (inRange i n) (K (.d (.ptr cs (i.toNat * sz)))) none) none
        | .row b off n _ sz _ => cond (Nat.beq sz te.size) (cond (inRange i n && aliveB h b) (K (.ref b (off + i.toNat * sz))) none) none
        | .grow b sz _ => match nth h b with
          | some (.dc cs) => cond (Nat.beq sz te.size) (cond (inRange i (lenOf sz cs.length)) (K (.ref b (i.toNat * sz))) none) none
          | some (.ac cs) => cond (Nat.beq sz te.size) (cond (inRange i (lenOf sz cs.length)) (K (.ref b (i.toNat * sz))) none) none
          | _ => none
        | _ => none
    | _ => none
  | _, _ => none

def indexE (T : Tab TI) (t : Nat) (x i : AV) (K : AV → Option R) : Option R :=
  match tget T t, i with
  | some ti, .d (.int _ i) => match ti.tag with
    | .array n e => match tget T e with
      | none => none
      | some te => cond (inRange i n)
        (match x with
        | .d (.agg cs) => readD T e te cs (i.toNat * te.size) fun d => K (.d d)
        | .agg cs => readA te cs (i.toNat * te.size) K
        | _ => none) none
    | .str => match x with
      | .d (.str s) => cond (decide (0 ≤ i)) ((s.data.toList[i.toNat]?).bind fun b => K (.d (.int .u8 b.toNat))) none
      | _ => none
    | _ => none
  | _, _ => none

def extractE (x : AV) (i : Nat) (K : AV → Option R) : Option R :=
  match x with
  | .d (.tup vs) => (nth vs i).bind fun d => K (.d d)
  | .tup vs => (nth vs i).bind K
  | _ => none

def lenE (T : Tab TI) (t : Nat) (x : AV) (h : List Blk) (K : AV → Option R) : Option R :=
  match tget T t with
  | none => none
  | some ti => match ti.tag with
    | .str => match x with
      | .d (.str s) => K (.d (.int .i64 s.size))
      | _ => none
    | .array n _ => K (.d (.int .i64 n))
    | .slice _ => match x with
      | .d (.sl _ n _ _ _) => K (.d (.int .i64 n))
      | .row b _ n _ _ _ => cond (aliveB h b) (K (.d (.int .i64 n))) none
      | .grow b sz _ => match nth h b with
        | some (.dc cs) => K (.d (.int .i64 (lenOf sz cs.length)))
        | some (.ac cs) => K (.d (.int .i64 (lenOf sz cs.length)))
        | _ => none
      | _ => none
    | .map _ _ => match x with
      | .mp b => match nth h b with
        | some (.mp es) => K (.d (.int .i64 es.length))
        | _ => none
      | _ => none
    | _ => none

def minmaxE (mx : Bool) : List AV → (AV → Option R) → Option R
  | [], _ => none
  | x :: r, K => go x r K
where
  go : AV → List AV → (AV → Option R) → Option R
  | x, [], K => K x
  | .d (.int k a), .d (.int j b) :: r, K => cond (decide (j = k)) (go (.d (.int k (cond mx (if b > a then b else a) (if b < a then b else a)))) r K) none
  | _, _, _ => none

/-- A block's cells, and a part of them; one behind the other. -/
def subB : Blk → Nat → Nat → Option Blk
  | .dc cs, off, n => cond (Nat.ble (off + n) cs.length) (some (.dc (sub cs off n))) none
  | .ac cs, off, n => cond (Nat.ble (off + n) cs.length) (some (.ac (sub cs off n))) none
  | _, _, _ => none

def appB : Blk → Blk → Option Blk
  | .dc a, .dc b => some (.dc (a ++ b))
  | .dc a, .ac b => some (.ac (a.map .d ++ b))
  | .ac a, .dc b => some (.ac (a ++ b.map .d))
  | .ac a, .ac b => some (.ac (a ++ b))
  | _, _ => none

/-- What is appended: its cells and how many elements. -/
def srcE (sz : Nat) (x : AV) (h : List Blk) (K : Blk → Nat → Option R) : Option R :=
  match x with
  | .d (.sl cs n sz' _ nl) => cond (nl || Nat.beq sz' sz) (K (.dc cs) n) none
  | .row b off n _ sz' _ => cond (Nat.beq sz' sz) (match nth h b with
    | some blk => (subB blk off (n * sz)).bind fun c => K c n
    | none => none) none
  | .grow b sz' _ => cond (Nat.beq sz' sz) (match nth h b with
    | some (.dc cs) => K (.dc cs) (lenOf sz cs.length)
    | some (.ac cs) => K (.ac cs) (lenOf sz cs.length)
    | _ => none) none
  | _ => none

/-- Elements that are slices of the call's own are data from now on. -/
def settleE (on : Bool) (c : Blk) (h : List Blk) (K : Blk → List Blk → Option R) : Option R :=
  match c with
  | .ac l => cond on (match mapO (freezeV h 4) l with
    | some ds => K (.dc ds) (killB (l.flatMap (idsF h 4)) h)
    | none => K c h) (K c h)
  | _ => K c h

def room (n : Nat) : Bool := Nat.ble n 1048576

/-- A block's cells as a value of an aggregate type. -/
def aggB : Blk → AV
  | .dc ds => .d (.agg ds)
  | .ac l => .agg l
  | _ => .undef

/-- Behind the cells of a block that may have room: the block dies, and comes again with the new cells behind. -/
def extendE (h : List Blk) (b m sz : Nat) (nn : Bool) (a c : Blk) (n : Nat) (K : AV → List Blk → Option R) : Option R :=
  match appB a c with
  | some x => cond (room (m + n)) (K (.grow h.length sz nn) (setNth h b .dead ++ [x])) none
  | none => none

def appendTo (sz : Nat) (s : AV) (c : Blk) (n : Nat) (h : List Blk) (K : AV → List Blk → Option R) : Option R :=
  match s with
  | .d (.sl cs m sz' closed nl) => cond nl
      (cond (room n) (K (.grow h.length sz false) (h ++ [c])) none)
      (cond (Nat.beq sz' sz && (closed && room (m + n)))
        (cond (Nat.beq m 0) (K (.grow h.length sz true) (h ++ [c]))
          (cond (Nat.beq n 0) (K (.d (.sl cs m sz' closed nl)) h) (match appB (.dc cs) c with
            | some b => K (.grow h.length sz true) (h ++ [b])
            | none => none))) none)
  | .row b off m cap sz' ex => match nth h b with
    | none => none
    | some blk => cond (Nat.beq sz' sz)
      (cond (Nat.ble (m + n) cap) (putCells blk (off + m * sz) (aggB c) fun blk' => K (.row b off (m + n) cap sz ex) (setNth h b blk'))
        (cond (Nat.beq off 0) (match subB blk 0 (m * sz) with
          | some a => cond ex (match appB a c with
            | some x => cond (room (m + n)) (K (.grow h.length sz true) (h ++ [x])) none
            | none => none) (cond (Nat.ble 1 m) (extendE h b m sz true a c n K) none)
          | none => none) none)) none
  | .grow b sz' nn => match nth h b with
    | some (.dc cs) => cond (Nat.beq sz' sz) (extendE h b (lenOf sz cs.length) sz nn (.dc cs) c n K) none
    | some (.ac cs) => cond (Nat.beq sz' sz) (extendE h b (lenOf sz cs.length) sz nn (.ac cs) c n K) none
    | _ => none
  | _ => none

def appendE (T : Tab TI) (on : Bool) (st xt : Nat) (s x : AV) (h : List Blk) (K : AV → List Blk → Option R) : Option R :=
  match tget T st, tget T xt with
  | some ti, some tx => match ti.tag, tx.tag with
    | .slice e, .slice _ => match tget T e with
      | none => none
      | some te => cond (Nat.ble 1 te.size && Nat.ble te.bytes 1048576 && Nat.beq te.zero.length te.size)
          (srcE te.size x h fun c0 n => settleE on c0 h fun c h => appendTo te.size s c n h K) none
    | _, _ => none
  | _, _ => none

/-- Whether nothing in a value lies in memory. -/
def flatN : Nat → DV → Bool
  | 0, d => match d with
    | .bool _ => true
    | .int _ _ => true
    | .str _ => true
    | .sl _ _ _ _ nl => nl
    | .nilp => true
    | _ => false
  | n + 1, d => match d with
    | .bool _ => true
    | .int _ _ => true
    | .str _ => true
    | .sl _ _ _ _ nl => nl
    | .nilp => true
    | .agg cs => cs.all (flatN n)
    | .tup vs => vs.all (flatN n)
    | _ => false

def flatD (d : DV) : Bool := flatN 2 d

/-- Whether all data that a value of the call's own leads to is such. -/
def leafOK (p : DV → Bool) (h : List Blk) : Nat → AV → Bool
  | 0, v => match v with
    | .d x => p x
    | _ => true
  | n + 1, v => match v with
    | .d x => p x
    | .row b _ _ _ _ _ => (match nth h b with | some (.dc cs) => cs.all p | some (.ac cs) => cs.all (leafOK p h n) | _ => true)
    | .grow b _ _ => (match nth h b with | some (.dc cs) => cs.all p | some (.ac cs) => cs.all (leafOK p h n) | _ => true)
    | .ref b _ => (match nth h b with | some (.dc cs) => cs.all p | some (.ac cs) => cs.all (leafOK p h n) | _ => true)
    | .agg l => l.all (leafOK p h n)
    | .tup l => l.all (leafOK p h n)
    | .fn _ a b => a.all (leafOK p h n) && b.all (leafOK p h n)
    | _ => true

/-- A function's answer, as data; those of functions that answer in new memory only are own rows of numbers. -/
def freezeP (f : Nat) (h : List Blk) (v : AV) : Option DV := cond (freshF f) (cond (leafOK flatD h 4 v) (freezeV h 4 v) none) (freezeV h 4 v)

def isD : AV → Bool
  | .d _ => true
  | _ => false

/-- Names that are known only in some part. -/
def above (m n : Nat) : Nat → Option Nat := fun b => cond (Nat.blt b m) none (cond (Nat.blt b n) (some b) none)

def callE (C : Ctx) (E : Ev) (g : FuncId) (args : List AV) (h : List Blk) (K : AV → List Blk → Option R) : Option R :=
  cond (C.iso g)
    (match mapO (freezeV h 4) args with
    | none => none
    | some ds => (E.pure g ds).run fun d => revealR C.T ((tget C.rets g).getD []) d fun d =>
        cond (freshF g || (args.all isD || flatD d)) (K (.d d) h) (K (.d d) (killB (args.flatMap (idsF h 4)) h)))
    (cond (args.all isD)
      ((E.fn g args (List.replicate h.length .dead)).run fun p => K (renA (above h.length p.2.length) 4 p.1) (h ++ (p.2.drop h.length).map (renB (above h.length p.2.length))))
      ((E.fn g args h).run fun p => K p.1 (cond (calmF g) h p.2)))

def boxE (v : AV) (h : List Blk) (K : AV → List Blk → Option R) : Option R :=
  match v with
  | .d (.agg ds) => K (.ref h.length 0) (h ++ [.dc ds])
  | v => match cellsC v with
    | some l => K (.ref h.length 0) (h ++ [blkOf l])
    | none => none

/-- The value itself, and not how it is reached. -/
def forceE (v : AV) (K : AV → Option R) : Option R :=
  match v with
  | .undef => K .undef
  | .d x => K (.d x)
  | .ref b off => K (.ref b off)
  | .row b off n c sz ex => K (.row b off n c sz ex)
  | .grow b sz nn => K (.grow b sz nn)
  | .agg l => K (.agg l)
  | .tup l => K (.tup l)
  | .fn f a b => K (.fn f a b)
  | .yld l => K (.yld l)
  | .mp b => K (.mp b)

/-- A row's cells become zero. -/
def clearE (T : Tab TI) (t : Nat) (x : AV) (h : List Blk) (K : AV → List Blk → Option R) : Option R :=
  match tget T t with
  | none => none
  | some ti => match ti.tag with
    | .slice e => match tget T e with
      | none => none
      | some te => match x with
        | .d (.sl _ n _ _ _) => cond (Nat.beq n 0) (K (.d (.tup [])) h) none
        | .row b off n _ sz _ => cond (Nat.beq n 0) (cond (aliveB h b) (K (.d (.tup [])) h) none) (cond (Nat.beq sz te.size && (Nat.beq te.zero.length te.size && Nat.ble 1 te.size)) (match nth h b with
          | some blk => putCells blk off (.d (.agg (List.replicate n te.zero).flatten)) fun blk' => K (.d (.tup [])) (setNth h b blk')
          | none => none) none)
        | _ => none
    | _ => none

/-- A string is walked from its begin on; a map with one entry at most, too. -/
def rangeS (T : Tab TI) (t : Nat) (x : AV) (h : List Blk) (K : AV → List Blk → Option R) : Option R :=
  match tget T t with
  | none => none
  | some ti => match ti.tag with
    | .str => match x with
      | .d (.str s) => K (.ref h.length 0) (h ++ [.sit s 0])
      | _ => none
    | .map _ _ => match x with
      | .mp b => match nth h b with
        | some (.mp es) => K (.ref h.length 0) (h ++ [.mit b es.length []])
        | _ => none
      | _ => none
    | _ => none

def nextME (x : AV) (h : List Blk) (K : AV → List Blk → Option R) : Option R :=
  match x with
  | .ref b off => match nth h b with
    | some (.mit m n begun) => match nth h m with
      | some (.mp es) => cond (Nat.beq off 0 && (Nat.beq es.length n && Nat.ble n 1)) (match es, begun with
        | [e], [] => K (.d (.tup [.bool true, e.1, e.2])) (setNth h b (.mit m n [0]))
        | _, _ => K (.d (.tup [.bool false])) h) none
      | _ => none
    | _ => none
  | _ => none

/-- The entry at which an iterator over a map stands. -/
def entryE (x : AV) (h : List Blk) (K : AV → Option R) : Option R :=
  match x with
  | .ref b off => match nth h b with
    | some (.mit m n seen) => match nth h m with
      | some (.mp es) => cond (Nat.beq off 0 && Nat.beq es.length n) (match seen.getLast? with
        | some i => match nth es i with
          | some e => K (.d (.tup [e.1, e.2]))
          | none => none
        | none => none) none
      | _ => none
    | _ => none
  | _ => none

def nextSE (x : AV) (h : List Blk) (K : AV → List Blk → Option R) : Option R :=
  match x with
  | .ref b off => match nth h b with
    | some (.sit s pos) => cond (Nat.beq off 0) (cond (Nat.blt pos s.size)
        (K (.d (.tup [.bool true, .int .i64 pos, .int .i32 (Utf8.decode s pos).1])) (setNth h b (.sit s (pos + (Utf8.decode s pos).2))))
        (K (.d (.tup [.bool false])) h)) none
    | _ => none
  | _ => none

/-- Whether two keys are the same, by their type. -/
def keyEq (T : Tab TI) (t : Nat) (k d : DV) : Option Bool :=
  match tget T t with
  | none => none
  | some ti => match ti.tag with
    | .int _ => match k, d with
      | .int j a, .int j' b => cond (decide (j = j')) (some (decide (a = b))) none
      | _, _ => none
    | _ => cond (ti.agg && flatTy T t) (match k, d with
      | .agg xs, .agg ys => eqLT T (leaves T 4 t) xs ys
      | _, _ => none) none

/-- Whether a key is of its type. -/
def keyOK (T : Tab TI) (t : Nat) (k : DV) : Bool :=
  match tget T t with
  | none => false
  | some ti => match ti.tag with
    | .int kd => match k with
      | .int j _ => decide (j = kd)
      | _ => false
    | _ => cond (ti.agg && flatTy T t) (match k with
      | .agg xs => Nat.beq xs.length (leaves T 4 t).length
      | _ => false) false

/-- Whether values of a type are scalars. -/
def TI.plain (t : TI) : Bool :=
  match t.tag with
  | .bool => true
  | .int _ => true
  | .str => true
  | _ => false

/-- Where a key is. -/
def findM (T : Tab TI) (t : Nat) (k : DV) : List (DV × DV) → Option (Option Nat)
  | [] => some none
  | e :: r => (keyEq T t k e.1).bind fun b => cond b (some (some 0)) ((findM T t k r).map fun o => o.map (· + 1))

/-- What a key has, or what is told for none. -/
def findV (T : Tab TI) (t : Nat) (k z : DV) (es : List (DV × DV)) : Option DV :=
  (findM T t k es).bind fun o => match o with
    | some i => (nth es i).map (·.2)
    | none => some z

/-- A key is given a value. -/
def putM (T : Tab TI) (t : Nat) (k v : DV) (es : List (DV × DV)) : Option (List (DV × DV)) :=
  (findM T t k es).bind fun o => match o with
    | some i => (nth es i).map fun e => setNth es i (e.1, v)
    | none => some (es ++ [(k, v)])

def lookupE (T : Tab TI) (t : Nat) (x i : AV) (ok : Bool) (h : List Blk) (K : AV → Option R) : Option R :=
  match tget T t with
  | none => none
  | some ti => match ti.tag with
    | .map kt et => match tget T et with
      | none => none
      | some te => match te.zero, x, i with
        | [z], .mp b, .d k => match nth h b with
          | some (.mp es) => cond (te.plain && !ok && (keyOK T kt k && Nat.beq te.zero.length te.size)) ((findV T kt k z es).bind fun d => reveal T et d fun d' => K (.d d')) none
          | _ => none
        | _, _, _ => none
    | _ => none

def updateE (T : Tab TI) (t : Nat) (x i v : AV) (h : List Blk) (K : AV → List Blk → Option R) : Option R :=
  match tget T t with
  | none => none
  | some ti => match ti.tag with
    | .map kt _ => match x, i, v with
      | .mp b, .d k, .d d => match nth h b with
        | some (.mp es) => cond (oneD d && keyOK T kt k) ((putM T kt k d es).bind fun es' => K (.d (.tup [])) (setNth h b (.mp es'))) none
        | _ => none
      | _, _, _ => none
    | _ => none

/-- The place of a key, with what it has; a new key gets one. -/
def mapEntryE (T : Tab TI) (t : Nat) (x i : AV) (h : List Blk) (K : AV → List Blk → Option R) : Option R :=
  match tget T t with
  | none => none
  | some ti => match ti.tag with
    | .map kt et => match tget T et with
      | none => none
      | some te => match te.zero, x, i with
        | [z], .mp b, .d k => match nth h b with
          | some (.mp es) => cond (te.plain && (oneD z && (keyOK T kt k && Nat.beq te.zero.length te.size))) ((findM T kt k es).bind fun o => match o with
            | some i => (nth es i).bind fun e => reveal T et e.2 fun d => K (.d (.tup [d, .int .i64 i])) h
            | none => K (.d (.tup [z, .int .i64 es.length])) (setNth h b (.mp (es ++ [(k, z)])))) none
          | _ => none
        | _, _, _ => none
    | _ => none

/-- An entry by its place gets a value. -/
def entryStoreE (x s v : AV) (h : List Blk) (K : AV → List Blk → Option R) : Option R :=
  match x, s, v with
  | .mp b, .d (.int .i64 n), .d d => match nth h b with
    | some (.mp es) => cond (oneD d && decide (0 ≤ n)) ((nth es n.toNat).bind fun e => K (.d (.tup [])) (setNth h b (.mp (setNth es n.toNat (e.1, d))))) none
    | _ => none
  | _, _, _ => none

def opE (C : Ctx) (E : Ev) (op : Op) (env : List (Nat × AV)) (h : List Blk) (K : AV → List Blk → Option R) : Option R :=
  match op with
  | .move x => forceE (ev env x) fun v => K v h
  | .assign x => forceE (ev env x) fun v => K v h
  | .pick c a b => pickE (ev env c) (ev env a) (ev env b) fun v => K v h
  | .alloc t => match tget C.T t with
    | some ti => cond (Nat.beq ti.zero.length ti.size && Nat.ble 1 ti.size) (K (.ref h.length 0) (h ++ [.dc ti.zero])) none
    | none => none
  | .box _ x => boxE (ev env x) h K
  | .build t parts => buildE C.T t (parts.toList.map fun p => (p.1, ev env p.2)) fun v => K v h
  | .buildSlice t n parts => buildSliceE C.T t n (parts.toList.map fun p => (p.1, ev env p.2)) h K
  | .load t a => loadE C.T t h (ev env a) fun v => K v h
  | .store t a v => storeE C.T t h (ev env a) (ev env v) fun h' => K (.d (.tup [])) h'
  | .nilCheck x => match ev env x with
    | .ref b off => cond (aliveB h b) (K (.ref b off) h) none
    | .d (.ptr cs off) => K (.d (.ptr cs off)) h
    | .d (.fn f a b) => K (.d (.fn f a b)) h
    | .fn f a b => K (.fn f a b) h
    | _ => none
  | .binOp op t x y _ => binE C.T op t h (ev env x) (ev env y) fun v => K v h
  | .unOp op _ x => unE op (ev env x) fun v => K v h
  | .convert src dst x => cond (tget C.T src).isSome (convE C.T dst (ev env x) fun v => K v h) none
  | .makeFunc f first captured => match f with
    | .func g => K (mkFn g (first.toList.map (ev env)) (captured.toList.map (ev env))) h
    | _ => none
  | .makeSlice t l c => makeSliceE C.T t (ev env l) (ev env c) h K
  | .slice t x lo hi mx => sliceE C.T t (ev env x) (lo.map (ev env)) (hi.map (ev env)) (mx.map (ev env)) h fun v => K v h
  | .fieldAddr t x f => fieldAddrE C.T t (ev env x) f h fun v => K v h
  | .field t x f => fieldE C.T t (ev env x) f fun v => K v h
  | .indexAddr t x i => indexAddrE C.T t (ev env x) (ev env i) h fun v => K v h
  | .index t x i => indexE C.T t (ev env x) (ev env i) fun v => K v h
  | .extract x i => extractE (ev env x) i fun v => K v h
  | .range t x => rangeS C.T t (ev env x) h K
  | .next x str => cond str (nextSE (ev env x) h K) (nextME (ev env x) h K)
  | .entry x => entryE (ev env x) h fun v => K v h
  | .makeMap t res => match res with
    | none => K (.mp h.length) (h ++ [.mp []])
    | some x => match ev env x with
      | .d (.int _ _) => match tget C.T t with
        | some ti => match ti.tag with
          | .map _ _ => K (.mp h.length) (h ++ [.mp []])
          | _ => none
        | none => none
      | _ => none
  | .lookup t x i ok => lookupE C.T t (ev env x) (ev env i) ok h fun v => K v h
  | .mapUpdate t x i v => updateE C.T t (ev env x) (ev env i) (ev env v) h K
  | .insert t x i v => updateE C.T t (ev env x) (ev env i) (ev env v) h K
  | .mapEntry t x i => mapEntryE C.T t (ev env x) (ev env i) h K
  | .entryStore _ x s v => entryStoreE (ev env x) (ev env s) (ev env v) h K
  | .call c => match c.callee with
    | .builtin b => match b, c.args.toList.map (ev env), c.argTypes.toList with
      | .len, [x], [t] => lenE C.T t x h fun v => K v h
      | .append, [s, x], [st, xt] => appendE C.T C.settle st xt s x h K
      | .clear, [x], [t] => clearE C.T t x h K
      | .max, x :: l, _ => minmaxE.go true x l fun v => K v h
      | .min, x :: l, _ => minmaxE.go false x l fun v => K v h
      | _, _, _ => none
    | .value f => match ev env f with
      | .d (.fn g a b) => callE C E g (a.map .d ++ c.args.toList.map (ev env) ++ b.map .d) h K
      | .fn g a b => callE C E g (a ++ c.args.toList.map (ev env) ++ b) h K
      | .yld l => (E.round l (c.args.toList.map (ev env)) h).run fun p => K p.1 p.2
      | _ => none
    | .invoke _ _ => none
  | _ => none

def putE (dst : Option Tmp) (v : AV) (env : List (Nat × AV)) : List (Nat × AV) :=
  match dst with
  | some t => (t, v) :: env
  | none => env

/-- The slot that an operation fills. -/
def dstOf (all : List Oper) (j : Nat) : Option Nat :=
  match nth all j with
  | some o => o.dst
  | none => none

def runE (C : Ctx) (E : Ev) (all : List Oper) : List Oper → List (Nat × AV) → List Blk → (List (Nat × AV) → List Blk → Option R) → Option R
  | [], env, h, K => K env h
  | ⟨dst, op, _, _, _, guard⟩ :: r, env, h, K => match guard with
    | none => opE C E op env h fun v h => runE C E all r (putE dst v env) h K
    | some (j, want) => match dstOf all j with
      | none => none
      | some t => match look env t with
        | .d (.bool b) => cond b
            (cond want (opE C E op ((t, .d (.bool true)) :: env) h fun v h => runE C E all r (putE dst v ((t, .d (.bool true)) :: env)) h K)
              (runE C E all r (putE dst (.d (.tup [])) ((t, .d (.bool true)) :: env)) h K))
            (cond want (runE C E all r (putE dst (.d (.tup [])) ((t, .d (.bool false)) :: env)) h K)
              (opE C E op ((t, .d (.bool false)) :: env) h fun v h => runE C E all r (putE dst v ((t, .d (.bool false)) :: env)) h K))
        | .d (.tup []) => runE C E all r (putE dst (.d (.tup [])) env) h K
        | _ => none

/-- A call that leaves the caller's memory as it is. -/
def callQ (C : Ctx) (E : Ev) (g : FuncId) (args : List AV) (h : List Blk) (K : AV → Option R) : Option R :=
  cond (C.iso g)
    (match mapO (freezeV h 4) args with
    | none => none
    | some ds => (E.pure g ds).run fun d => revealR C.T ((tget C.rets g).getD []) d fun d =>
        cond (freshF g || (args.all isD || flatD d)) (K (.d d)) none) none

/-- An operation that leaves memory as it is. -/
def opQ (C : Ctx) (E : Ev) (op : Op) (env : List (Nat × AV)) (h : List Blk) (K : AV → Option R) : Option R :=
  match op with
  | .entry _ => none
  | .call c => match c.callee with
    | .value f => match ev env f with
      | .d (.fn g a b) => callQ C E g (a.map .d ++ c.args.toList.map (ev env) ++ b.map .d) h K
      | _ => none
    | .builtin b => match b with
      | .append => none
      | .clear => none
      | _ => opE C E (.call c) env h fun v _ => K v
    | _ => none
  | .store _ _ _ => none
  | .alloc _ => none
  | .box _ _ => none
  | .buildSlice t n parts => buildSliceE C.T t n (parts.toList.map fun p => (p.1, ev env p.2)) h fun v _ => match v with
    | .d x => K (.d x)
    | _ => none
  | .makeSlice _ _ _ => none
  | .range _ _ => none
  | .next _ _ => none
  | .makeMap _ _ => none
  | .mapUpdate _ _ _ _ => none
  | .insert _ _ _ _ => none
  | .mapEntry _ _ _ => none
  | .entryStore _ _ _ _ => none
  | op => opE C E op env h fun v _ => K v

/-- The block that a slice of one's own lies in. -/
def rowOf : AV → List Nat
  | .row b _ _ _ _ _ => [b]
  | .grow b _ _ => [b]
  | _ => []

/-- The blocks that an operation may turn; h, h': memory ahead and behind. -/
def touchE (C : Ctx) (op : Op) (env : List (Nat × AV)) (h h' : List Blk) : List Nat :=
  match op with
  | .store _ a _ => (match ev env a with
    | .ref b _ => [b]
    | _ => [])
  | .alloc _ => [h.length]
  | .box _ _ => [h.length]
  | .buildSlice _ _ _ => [h.length]
  | .makeSlice _ _ _ => [h.length]
  | .call c => (match c.callee with
    | .builtin .append => (match c.args.toList.map (ev env) with
      | [s, .d _] => rowOf s ++ [h.length]
      | _ => List.range (max h.length h'.length))
    | .value f => (match ev env f with
      | .d (.fn g a b) => cond (C.iso g) ((a.map AV.d ++ c.args.toList.map (ev env) ++ b.map AV.d).flatMap (idsF h 4)) (cond ((a.map AV.d ++ c.args.toList.map (ev env) ++ b.map AV.d).all isD) ((List.range (max h.length h'.length)).drop h.length) (List.range (max h.length h'.length)))
      | .fn g a b => cond (!C.iso g && (!((a ++ c.args.toList.map (ev env) ++ b).all isD) && calmF g)) [] (List.range (max h.length h'.length))
      | _ => List.range (max h.length h'.length))
    | _ => List.range (max h.length h'.length))
  | _ => List.range (max h.length h'.length)

def logOf : List (Nat × List Nat) → Nat → List Nat
  | [], _ => []
  | (i, l) :: r, j => cond (Nat.beq i j) l (logOf r j)

/-- An operation that asks of a block only that it is there: what it answers, and which block. -/
def opAE (T : Tab TI) (op : Op) (env : List (Nat × AV)) (N : Option R) (K : AV → Nat → Option R) : Option R :=
  match op with
  | .nilCheck x => match ev env x with
    | .ref b off => K (.ref b off) b
    | _ => N
  | .fieldAddr t x f => match ev env x with
    | .ref b off => match tget T t with
      | none => none
      | some ti => match ti.tag with
        | .struct fs => match nth fs f with
          | none => none
          | some (o, ft) => match tget T ft with
            | none => none
            | some tf => cond (Nat.beq tf.size 0) none (K (.ref b (off + o)) b)
        | _ => none
    | _ => N
  | .indexAddr t x i => match ev env x with
    | .ref b off => match tget T t with
      | none => none
      | some ti => match ev env i with
        | .d (.int _ i) => match ti.tag with
          | .array n e => match tget T e with
            | none => none
            | some te => cond (inRange i n) (K (.ref b (off + i.toNat * te.size)) b) none
          | _ => none
        | _ => none
    | _ => N
  | _ => N

/-- Whether an operation is the laying of that slot. -/
def laysSlot (s : Nat) : Oper → Bool
  | ⟨some d, .alloc _, _, _, _, _⟩ => Nat.beq d s
  | _ => false

/-- Whether an operation of the region writes into a variable that is there already. -/
def isSt (all : List Oper) (i : Nat) : Bool :=
  match nth all i with
  | some ⟨_, .store _ (.tmp s) _, _, _, _, _⟩ => !all.any (laysSlot s)
  | _ => false

/-- Whether a block is still there, whatever of some steps has come. -/
def staysB (all : List Oper) (fl : List Nat) (log : List (Nat × List Nat)) (b : Nat) : Bool := fl.all fun i => isSt all i || !(logOf log i).contains b

/-- Whether an operation of the region asks for a key's place in a map of that type. -/
def isME (all : List Oper) (t i : Nat) : Bool :=
  match nth all i with
  | some ⟨_, .mapEntry t' _ _, _, _, _, _⟩ => Nat.beq t' t
  | _ => false

/-- Whether a map is as it was but for keys that have got a place. -/
def staysM (all : List Oper) (t : Nat) (fl : List Nat) (log : List (Nat × List Nat)) (b : Nat) : Bool := fl.all fun i => isME all t i || !(logOf log i).contains b

/-- What a key has: the same, whether keys have got a place or not. -/
def opLE (T : Tab TI) (op : Op) (env : List (Nat × AV)) (h : List Blk) (N : Option R) (K : AV → Nat → Nat → Option R) : Option R :=
  match op with
  | .lookup t x i ok => match ev env x with
    | .mp b => lookupE T t (.mp b) (ev env i) ok h fun v => K v b t
    | _ => N
  | _ => N

/-- One step of a plan: an operation that turns memory, or one that doesn't, and then without the blocks that may have turned. -/
def stepE (C : Ctx) (E : Ev) (all : List Oper) (st : PStep) (log : List (Nat × List Nat)) (op : Op) (env : List (Nat × AV)) (h : List Blk) (K : AV → List Blk → List (Nat × List Nat) → Option R) : Option R :=
  cond st.eff (opE C E op env h fun v h' => K v h' ((st.j, touchE C op env h h') :: log))
    (opAE C.T op env (opLE C.T op env h (opQ C E op env (killB (st.fl.flatMap (logOf log)) h) fun v => K v h log) fun v b t =>
        cond (staysM all t st.fl log b) (K v h log) (opQ C E op env (killB (st.fl.flatMap (logOf log)) h) fun v => K v h log)) fun v b =>
      cond (aliveB h b && staysB all st.fl log b) (K v h log) (opQ C E op env (killB (st.fl.flatMap (logOf log)) h) fun v => K v h log))

/-- A variable that an operation lays: its slot, and what it holds. -/
def layE (C : Ctx) (all : List Oper) (a : Nat) : Option (Nat × List DV) :=
  match nth all a with
  | some ⟨some s, .alloc t, _, _, _, none⟩ => match tget C.T t with
    | some ti => cond (Nat.beq ti.zero.length ti.size && Nat.ble 1 ti.size) (some (s, ti.zero)) none
    | none => none
  | _ => none

def drawS (C : Ctx) (E : Ev) (all : List Oper) : List PStep → List (Nat × List Nat) → List (Nat × AV) → List Blk → (List (Nat × AV) → List Blk → Option R) → Option R
  | [], _, env, h, K => K env h
  | st :: r, log, env, h, K => match nth all st.j with
    | none => none
    | some ⟨dst, op, _, _, _, guard⟩ => cond st.flt
      (match layE C all st.j with
      | some _ => cond st.eff none (drawS C E all r log env h K)
      | none => none)
      (match st.ini with
      | some a => match layE C all a, guard, dst, op with
        | some (s, z), none, none, .store _ (.tmp s') _ => cond (Nat.beq s' s && st.eff)
            (opE C E op ((s, .ref h.length 0) :: env) (h ++ [.dc z]) fun _ h' =>
              drawS C E all r ((st.j, h.length :: touchE C op ((s, .ref h.length 0) :: env) (h ++ [.dc z]) h') :: log) ((s, .ref h.length 0) :: env) h' K) none
        | _, _, _, _ => none
      | none => match guard with
        | none => stepE C E all st log op env h fun v h log => drawS C E all r log (putE dst v env) h K
        | some (j, want) => match dstOf all j with
          | none => none
          | some t => match look env t with
            | .d (.bool b) => cond b
                (cond want (stepE C E all st log op ((t, .d (.bool true)) :: env) h fun v h log => drawS C E all r log (putE dst v ((t, .d (.bool true)) :: env)) h K)
                  (drawS C E all r log (putE dst (.d (.tup [])) ((t, .d (.bool true)) :: env)) h K))
                (cond want (drawS C E all r log (putE dst (.d (.tup [])) ((t, .d (.bool false)) :: env)) h K)
                  (stepE C E all st log op ((t, .d (.bool false)) :: env) h fun v h log => drawS C E all r log (putE dst v ((t, .d (.bool false)) :: env)) h K))
            | .d (.tup []) => drawS C E all r log (putE dst (.d (.tup [])) env) h K
            | _ => none)

/-- The slots of the variables that are not told yet. -/
def fltSlots (all : List Oper) (steps : List PStep) : List Nat := steps.filterMap fun st => cond st.flt (dstOf all st.j) none

/-- A region that draws its order. -/
def drawE (C : Ctx) (E : Ev) (fid id : Nat) (ops : Array Oper) (env : List (Nat × AV)) (h : List Blk) (K : List (Nat × AV) → List Blk → Option R) : Option R :=
  match C.plan fid id with
  | some p => drawS C E ops.toList p.steps [] ((fltSlots ops.toList p.steps).map (fun t => (t, AV.undef)) ++ env) h K
  | none => none

def iterE (body : St → (Ex → St → Option R) → Option R) (tid : St → Option St) : Nat → St → (Ex → St → Option R) → Option R
  | 0, _, _ => none
  | k + 1, s, K => (tid s).bind fun s' => body s' fun ex s'' => match ex with
    | .norm => iterE body tid k s'' K
    | e => K e s''

def tidyP (base : Nat) (p : Option Pol) (s : St) : Option St :=
  match p with
  | none => some s
  | some p => tidy base p s

/-- Behind a range over a function: the record is given up; the jump that a round has left by is made. -/
def backE (base : Nat) (res : List Nat) (l d : Nat) (env : List (Nat × AV)) (marks : List Nat) (h : List Blk) (K : Ex → St → Option R) : Option R :=
  match nth h l with
  | some (.loop st pe _ _ _ _ _ _ _) => match st with
    | .busy => none
    | _ => match pe with
      | none => K .norm ⟨env, setNth h l .dead, d :: marks⟩
      | some .ret => (tidy base ⟨res, [], []⟩ ⟨env, setNth h l .dead, d :: marks⟩).bind fun s' => K .ret s'
      | some (.exit id) => K (.exit id) ⟨env, setNth h l .dead, d :: marks⟩
      | some _ => none
  | _ => none

/-- A range over a function: the block for its rounds' deferred calls and the record are laid; the function is called with yield. -/
def rangeE (E : Ev) (base : Nat) (res : List Nat) (fid N : Nat) (ps : List Tmp) (as bo : Code) (s : St) (gf : FuncId) (b : List AV) (K : Ex → St → Option R) : Option R :=
  (E.fn gf (.yld (s.heap.length + 1) :: b) (s.heap ++ [.defr, .loop .ready none fid N s.env ps as bo s.heap.length])).run fun p =>
    backE base res (s.heap.length + 1) s.heap.length s.env s.marks p.2 K

def codeE (C : Ctx) (E : Ev) (fid base k : Nat) (res : List Nat) (out : Option Nat) : Nat → Code → St → (Ex → St → Option R) → Option R
  | _, .skip, s, K => K .norm s
  | _, .region id ops drawn, s, K => cond drawn (drawE C E fid id ops s.env s.heap fun env h => K .norm ⟨env, h, s.marks⟩) (runE C E ops.toList ops.toList s.env s.heap fun env h => K .norm ⟨env, h, s.marks⟩)
  | bid, .seq a b, s, K => codeE C E fid base k res out bid a s fun ex s' => match ex with
    | .norm => codeE C E fid base k res out bid b s' K
    | e => K e s'
  | bid, .cond c a b, s, K => match ev s.env c with
    | .d (.bool x) => cond x (codeE C E fid base k res out bid a s K) (codeE C E fid base k res out bid b s K)
    | _ => none
  | _, .block id b, s, K => codeE C E fid base k res out id b s fun ex s' => match ex with
    | .exit i => cond (Nat.beq i id) (K .norm s') (K (.exit i) s')
    | e => K e s'
  | bid, .loop b, s, K => iterE (fun s K => codeE C E fid base k res out bid b s K) (tidyP base (C.pol fid bid)) k s K
  | _, .exit id, s, K => (tidyP base (C.xpol fid id) s).bind fun s' => K (.exit id) s'
  | bid, .scope b, s, K => codeE C E fid base k res out bid b s K
  | _, .label _, s, K => K .norm s
  | _, .ret, s, K => (tidy base ⟨res, [], []⟩ s).bind fun s' => K .ret s'
  | _, .rangeFunc g ps as bo, s, K => match out with
    | none => none
    | some N => match ev s.env g with
      | .d (.fn gf [] b) => rangeE E base res fid N ps.toList as bo s gf (b.map .d) K
      | .fn gf [] b => rangeE E base res fid N ps.toList as bo s gf b K
      | _ => none
  | _, _, _, _ => none

/-- The results of a function. -/
def resultsE (T : Tab TI) (s : St) : List ResultVar → (List AV → Option R) → Option R
  | [], K => K []
  | .tmp t :: r, K => resultsE T s r fun l => K (look s.env t :: l)
  | .cell a t :: r, K => loadE T t s.heap (look s.env a) fun v => resultsE T s r fun l => K (v :: l)

def edgesOf (o : Oper) : List Nat := (o.after.toList.filter fun e => Region.binds .any e).map (·.on)

def tmpOf : Operand → Option Nat
  | .tmp t => some t
  | _ => none

/-- The slots that an operation looks at. -/
def looksOf (all : List Oper) (o : Oper) : List Nat :=
  (o.op.operands.toList.filterMap tmpOf) ++ (match o.guard with
    | some (j, _) => (dstOf all j).toList
    | none => [])

/-- Whether x is ahead of y in every order. -/
def ahead (p : Plan) (x y : Nat) : Bool := ((nth p.anc y).getD []).contains x

/-- A plan's steps, one by one; 'done': those behind us, the last first. -/
def okSteps (all : List Oper) (p : Plan) : List PStep → List PStep → Bool
  | [], _ => true
  | st :: r, done => (match nth all st.j with
    | none => false
    | some o =>
      -- not yet done; what it waits for is done, and what is ahead of it
      !(done.any fun q => Nat.beq q.j st.j) && (edgesOf o).all (fun i => done.any fun q => Nat.beq q.j i) &&
      ((nth p.anc st.j).getD []).all (fun x => (done.any fun q => Nat.beq q.j x) && (edgesOf o).any fun i => Nat.beq x i || ahead p x i) &&
      -- memory: all that turn it are ahead, or are named
      done.all (fun q => !(st.eff || q.eff) || (ahead p q.j st.j || (!st.eff && st.fl.contains q.j)))) && okSteps all p r (st :: done)

/-- The slot that a step fills; those that it looks at. -/
def slotP (all : List Oper) (st : PStep) : Option Nat :=
  cond st.flt none (match st.ini with
  | some a => dstOf all a
  | none => dstOf all st.j)

def looksP (all : List Oper) (st : PStep) (o : Oper) : List Nat :=
  cond st.flt [] (match st.ini with
  | some _ => match o.op with
    | .store _ _ v => (tmpOf v).toList
    | _ => looksOf all o
  | none => looksOf all o)

/-- Slots: each is filled once, and who looks at it is ahead of who fills it, or behind. -/
def okSlots (all : List Oper) (p : Plan) : Bool :=
  p.steps.all fun st => match nth all st.j with
    | none => false
    | some o => p.steps.all fun st' => match slotP all st' with
      | none => true
      | some t => (Nat.beq st'.j st.j || (match slotP all st with
          | some t' => !Nat.beq t t'
          | none => true)) && (!(looksP all st o).contains t || ahead p st'.j st.j || ahead p st.j st'.j)

/-- Variables that are not told yet: each is written first by one step, behind. -/
def okFlt (p : Plan) : Bool :=
  p.steps.all fun st => (!st.flt || (p.steps.any fun q => match q.ini with
      | some a => Nat.beq a st.j
      | none => false)) && (match st.ini with
    | some a => !st.flt && ahead p a st.j && p.steps.any fun q => q.flt && Nat.beq q.j a
    | none => true)

def okPlan (ops : Array Oper) (p : Plan) : Bool := ((List.range ops.toList.length).all fun i => p.steps.any fun q => Nat.beq q.j i) && okSteps ops.toList p p.steps [] && (okSlots ops.toList p && okFlt p)

/-- Whether all slots of the code are among the first N, and the plans of its regions hold. -/
def okCode (C : Ctx) (fid N : Nat) : Code → Bool
  | .region id ops drawn => (ops.toList.all fun o => match o.dst with
    | some t => Nat.blt t N
    | none => true) && (!drawn || (match C.plan fid id with
      | some p => okPlan ops p
      | none => true))
  | .seq a b => okCode C fid N a && okCode C fid N b
  | .cond _ a b => okCode C fid N a && okCode C fid N b
  | .block _ b => okCode C fid N b
  | .loop b => okCode C fid N b
  | .scope b => okCode C fid N b
  | _ => true

def resTmps : List ResultVar → List Nat
  | [] => []
  | .tmp t :: r => t :: resTmps r
  | .cell a _ :: r => a :: resTmps r

def packR : List AV → AV
  | [v] => v
  | l => mkTup l

def envOf : Nat → List AV → List (Nat × AV)
  | _, [] => []
  | i, v :: r => (i, v) :: envOf (i + 1) r

/-- The blocks of the marks are shut. -/
def shutE : List Nat → List Blk → Option (List Blk)
  | [], h => some h
  | b :: r, h => match nth h b with
    | some .defr => shutE r (setNth h b .dead)
    | _ => none

def doneE (C : Ctx) (fn : Func) (base : Nat) (K : AV → List Blk → Option R) (ex : Ex) (s : St) : Option R :=
  match ex with
  | .exit _ => none
  | .ret => (shutE s.marks s.heap).bind fun h => resultsE C.T ⟨s.env, h, []⟩ fn.results.toList fun l => K (packR l) h
  | .norm => (tidy base ⟨resTmps fn.results.toList, [], []⟩ s).bind fun s => (shutE s.marks s.heap).bind fun h => resultsE C.T ⟨s.env, h, []⟩ fn.results.toList fun l => K (packR l) h

def bodyE (C : Ctx) (E : Ev) (k : Nat) (fid : FuncId) (fn : Func) (args : List AV) (h : List Blk) (K : AV → List Blk → Option R) : Option R :=
  match fn.body with
  | some c => cond (Nat.ble args.length fn.ntmps) (codeE C E fid h.length k (resTmps fn.results.toList) (some fn.ntmps) 0 c ⟨envOf 0 args, h, []⟩ (doneE C fn h.length K)) none
  | none => none

def putAll : List Tmp → List AV → List (Nat × AV) → List (Nat × AV)
  | t :: ts, v :: vs, env => putAll ts vs ((t, v) :: env)
  | _, _, env => env

/-- The end of a round: the record is ready for the next one, or keeps the jump. -/
def endE (base l : Nat) (ex : Ex) (s : St) : Option (AV × List Blk) :=
  (tidy base ⟨[], [], []⟩ s).bind fun s => match nth s.heap l with
  | some (.loop _ _ f n e p a b d) => match ex with
    | .norm => some (.d (.bool true), setNth s.heap l (.loop .ready none f n e p a b d))
    | .ret => some (.d (.bool false), setNth s.heap l (.loop .done (some .ret) f n e p a b d))
    | .exit id => some (.d (.bool false), setNth s.heap l (.loop .done (some (.exit id)) f n e p a b d))
  | _ => none

/-- A round of a range over a function. -/
def roundE (C : Ctx) (E : Ev) (k l : Nat) (args : List AV) (h : List Blk) : Option (AV × List Blk) :=
  match nth h l with
  | some (.loop .ready _ fid nt env ps as bo _) =>
    cond (Nat.beq args.length ps.length && (okCode C fid nt as && (okCode C fid nt bo && ps.all fun t => Nat.blt t nt)))
      (codeE C E fid h.length k [] none 0 as ⟨putAll ps args env, h, []⟩ fun ex s1 => match ex with
        | .norm => match nth s1.heap l with
          | some (.loop .ready pe f n e p a b d) => codeE C E fid h.length k [] none 0 bo ⟨s1.env, setNth s1.heap l (.loop .busy pe f n e p a b d), s1.marks⟩ fun ex s2 => endE h.length l ex s2
          | _ => none
        | _ => none) none
  | _ => none

def pureE (C : Ctx) (E : Ev) (k : Nat) (fid : FuncId) (fn : Func) (args : List DV) : Option DV :=
  bodyE C E k fid fn (args.map .d) [] fun v h => freezeP fid h v
end

end Go.AE

/- What the abstract machine's values, blocks and states mean in the model's worlds; and that this abides when other memory turns. -/
namespace Go.AE
open Go

mutual
/-- Data as a value; G: the blocks in which data may lie. -/
def DRel (w : World) (G : Nat → Prop) : DV → Value → Prop
  | .bool b, v => v = .bool b
  | .int k n, v => v = .int k n
  | .str s, v => v = .string s
  | .sl cs n sz cl nl, v => cs.length = n * sz ∧ cond nl (n = 0 ∧ v = .slice none 0 0)
      (∃ b off cap sp, v = .slice (some ⟨b, off, sp⟩) n cap ∧ n ≤ cap ∧ (cl = true → cap = n) ∧ (0 < cap → sp = none) ∧ DCells w G cs b off)
  | .nilp, v => v = .pointer none
  | .ptr cs off, v => ∃ b o, v = .pointer (some ⟨b, o + off, none⟩) ∧ DCells w G cs b o
  | .agg cs, v => ∃ vs : Array Value, v = .agg vs ∧ DVals w G cs vs.toList ∧ ∀ x ∈ vs.toList, x.oneCell' = true
  | .tup ds, v => ∃ vs : Array Value, v = .tuple vs ∧ DVals w G ds vs.toList
  | .fn f a b, v => ∃ x y : Array Value, v = .func (.func f) x y ∧ DVals w G a x.toList ∧ DVals w G b y.toList
  | .nilf, v => v = .nilFunc
  | .nilm, v => v = .map none
  | .nili, v => v = .nilIface
/-- Data in the cells of a block from some place on. -/
def DCells (w : World) (G : Nat → Prop) : List DV → Nat → Nat → Prop
  | [], _, _ => True
  | d :: ds, b, off => G b ∧ (∃ x, w.cell? ⟨b, off, none⟩ = some x ∧ x.oneCell' = true ∧ DRel w G d x) ∧ DCells w G ds b (off + 1)
def DVals (w : World) (G : Nat → Prop) : List DV → List Value → Prop
  | [], vs => vs = []
  | d :: ds, vs => ∃ v r, vs = v :: r ∧ DRel w G d v ∧ DVals w G ds r
end

section
variable {w w' : World} {G G' : Nat → Prop}

theorem cell?_congr {a : Addr} (h : w'.heap[a.block]? = w.heap[a.block]?) : w'.cell? a = w.cell? a := by
  unfold World.cell?; rw [h]

mutual
theorem DRel.mono (hG : ∀ b, G b → G' b ∧ w'.heap[b]? = w.heap[b]?) : ∀ (d : DV) (v : Value), DRel w G d v → DRel w' G' d v
  | .bool _, _, h => by simpa [DRel] using h
  | .int _ _, _, h => by simpa [DRel] using h
  | .str _, _, h => by simpa [DRel] using h
  | .sl cs n sz cl nl, v, h => by
    simp only [DRel] at h ⊢
    refine ⟨h.1, ?_⟩
    cases nl with
    | true => exact h.2
    | false =>
      obtain ⟨b, off, cap, sp, e, h1, h2, hp, h3⟩ := h.2
      exact ⟨b, off, cap, sp, e, h1, h2, hp, DCells.mono hG cs b off h3⟩
  | .nilp, _, h => by simpa [DRel] using h
  | .ptr cs off, v, h => by
    simp only [DRel] at h ⊢
    obtain ⟨b, o, e, h1⟩ := h
    exact ⟨b, o, e, DCells.mono hG cs b o h1⟩
  | .agg cs, v, h => by
    simp only [DRel] at h ⊢
    obtain ⟨vs, e, h1, h2⟩ := h
    exact ⟨vs, e, DVals.mono hG cs _ h1, h2⟩
  | .tup ds, v, h => by
    simp only [DRel] at h ⊢
    obtain ⟨vs, e, h1⟩ := h
    exact ⟨vs, e, DVals.mono hG ds _ h1⟩
  | .fn f a b, v, h => by
    simp only [DRel] at h ⊢
    obtain ⟨x, y, e, h1, h2⟩ := h
    exact ⟨x, y, e, DVals.mono hG a _ h1, DVals.mono hG b _ h2⟩
  | .nilf, _, h => by simpa [DRel] using h
  | .nilm, _, h => by simpa [DRel] using h
  | .nili, _, h => by simpa [DRel] using h
theorem DCells.mono (hG : ∀ b, G b → G' b ∧ w'.heap[b]? = w.heap[b]?) : ∀ (ds : List DV) (b off : Nat), DCells w G ds b off → DCells w' G' ds b off
  | [], _, _, _ => by simp [DCells]
  | d :: ds, b, off, h => by
    simp only [DCells] at h ⊢
    obtain ⟨h1, ⟨x, h2, h3, h4⟩, h5⟩ := h
    exact ⟨(hG b h1).1, ⟨x, by rw [cell?_congr (hG b h1).2]; exact h2, h3, DRel.mono hG d x h4⟩, DCells.mono hG ds b (off + 1) h5⟩
theorem DVals.mono (hG : ∀ b, G b → G' b ∧ w'.heap[b]? = w.heap[b]?) : ∀ (ds : List DV) (vs : List Value), DVals w G ds vs → DVals w' G' ds vs
  | [], _, h => by simpa [DVals] using h
  | d :: ds, vs, h => by
    simp only [DVals] at h ⊢
    obtain ⟨v, r, e, h1, h2⟩ := h
    exact ⟨v, r, e, DRel.mono hG d v h1, DVals.mono hG ds r h2⟩
end

/-- A map's entries, in the order in which they came. -/
def MVals (w : World) (G : Nat → Prop) : Nat → List (DV × DV) → List MapEntry → Prop
  | _, [], ms => ms = []
  | i, e :: es, ms => ∃ m r, ms = m :: r ∧ m.born = i ∧ DRel w G e.1 m.key ∧ DRel w G e.2 m.val ∧ m.val.oneCell' = true ∧ MVals w G (i + 1) es r

theorem MVals.mono (hG : ∀ b, G b → G' b ∧ w'.heap[b]? = w.heap[b]?) : ∀ (es : List (DV × DV)) (i : Nat) (ms : List MapEntry), MVals w G i es ms → MVals w' G' i es ms
  | [], _, _, h => h
  | e :: es, i, ms, h => by
    obtain ⟨m, r, h1, h2, h3, h4, h5, h6⟩ := h
    exact ⟨m, r, h1, h2, DRel.mono hG _ _ h3, DRel.mono hG _ _ h4, h5, MVals.mono hG es (i + 1) r h6⟩

theorem MVals.len : ∀ {es : List (DV × DV)} {i : Nat} {ms : List MapEntry}, MVals w G i es ms → ms.length = es.length
  | [], _, _, h => by simp only [MVals] at h; subst h; rfl
  | e :: es, i, ms, h => by
    obtain ⟨m, r, rfl, _, _, _, _, h6⟩ := h
    simp [h6.len]

/-- The package's variables that are told hold what is told of them, and nobody writes them. -/
def GlobOK (w : World) (G : Nat → Prop) : Prop := ∀ g cs, globOf g = some cs → DCells w G cs g 0

theorem GlobOK.mono (hg : GlobOK w G) (hG : ∀ b, G b → G' b ∧ w'.heap[b]? = w.heap[b]?) : GlobOK w' G' := fun g cs e => DCells.mono hG cs g 0 (hg g cs e)
end

/-- How many cells a block of cells has. -/
def clen : Blk → Option Nat
  | .dc cs => some cs.length
  | .ac cs => some cs.length
  | _ => none

/-- What the names of the abstract machine's blocks stand for (the block, how many cells it has), and where data may lie. -/
structure Sg where
  G : Nat → Prop
  ι : List (Nat × Nat)

def isDead (h : List Blk) (b : Nat) : Prop := nth h b = some .dead

mutual
/-- An abstract value as a value. -/
def ARel (w : World) (σ : Sg) (h : List Blk) : AV → Value → Prop
  | .undef, _ => True
  | .d x, v => DRel w σ.G x v
  | .ref b off, v => v.oneCell' = true ∧ (isDead h b ∨ ∃ c, nth σ.ι b = some c ∧ v = .pointer (some ⟨c.1, off, none⟩))
  | .row b off n cap sz ex, v => v.oneCell' = true ∧ (isDead h b ∨ ∃ c cap', nth σ.ι b = some c ∧ v = .slice (some ⟨c.1, off, none⟩) n cap' ∧ n ≤ cap ∧ cap ≤ cap' ∧ (ex = true → cap' = cap) ∧ off + cap' * sz ≤ c.2)
  | .grow b sz nn, v => v.oneCell' = true ∧ (isDead h b ∨ ∃ blk m, nth h b = some blk ∧ clen blk = some m ∧
      ((m = 0 ∧ cond nn (∃ a, v = .slice (some a) 0 0) (v = .slice none 0 0)) ∨
       (0 < m ∧ ∃ c n cap', nth σ.ι b = some c ∧ v = .slice (some ⟨c.1, 0, none⟩) n cap' ∧ m = n * sz ∧ n ≤ cap' ∧ cap' * sz ≤ c.2)))
  | .agg l, v => ∃ vs : Array Value, v = .agg vs ∧ AVals w σ h l vs.toList ∧ ∀ x ∈ vs.toList, x.oneCell' = true
  | .tup l, v => ∃ vs : Array Value, v = .tuple vs ∧ AVals w σ h l vs.toList
  | .fn f a b, v => ∃ x y : Array Value, v = .func (.func f) x y ∧ AVals w σ h a x.toList ∧ AVals w σ h b y.toList
  | .yld l, v => v.oneCell' = true ∧ (isDead h l ∨ ∃ c, nth σ.ι l = some c ∧ v = .func (.yield c.1) #[] #[])
  | .mp l, v => v.oneCell' = true ∧ (isDead h l ∨ ∃ c, nth σ.ι l = some c ∧ v = .map (some c.1))
def AVals (w : World) (σ : Sg) (h : List Blk) : List AV → List Value → Prop
  | [], vs => vs = []
  | d :: ds, vs => ∃ v r, vs = v :: r ∧ ARel w σ h d v ∧ AVals w σ h ds r
end

/-- What was told of a name is still true: its block is dead, or has as many cells as it had and stands for the same. -/
def Keeps (ι : List (Nat × Nat)) (h : List Blk) (ι' : List (Nat × Nat)) (h' : List Blk) : Prop :=
  ∀ b blk, nth h b = some blk → ∃ blk', nth h' b = some blk' ∧ (blk' = .dead ∨ (blk ≠ .dead ∧ clen blk' = clen blk ∧ nth ι' b = nth ι b))

theorem Keeps.refl (ι : List (Nat × Nat)) (h : List Blk) : Keeps ι h ι h := fun b blk hb => ⟨blk, hb, by
  by_cases e : blk = .dead
  · exact .inl e
  · exact .inr ⟨e, rfl, rfl⟩⟩

theorem Keeps.trans {ι ι' ι'' : List (Nat × Nat)} {h h' h'' : List Blk} (p : Keeps ι h ι' h') (q : Keeps ι' h' ι'' h'') : Keeps ι h ι'' h'' := by
  intro b blk hb
  obtain ⟨b1, h1, k1⟩ := p b blk hb
  obtain ⟨b2, h2, k2⟩ := q b b1 h1
  refine ⟨b2, h2, ?_⟩
  rcases k2 with k2 | ⟨n2, c2, i2⟩
  · exact .inl k2
  · rcases k1 with k1 | ⟨n1, c1, i1⟩
    · exact absurd k1 n2
    · exact .inr ⟨n1, c2.trans c1, i2.trans i1⟩

section
variable {w w' : World} {σ σ' : Sg} {h h' : List Blk}

/-- Names that have a block. -/
def within (ι : List (Nat × Nat)) (h : List Blk) : Prop := ι.length = h.length

theorem nth_some_lt {α : Type} : ∀ {l : List α} {n : Nat} {x : α}, nth l n = some x → n < l.length
  | [], _, _, h => by simp [nth] at h
  | _ :: _, 0, _, _ => by simp
  | _ :: r, n + 1, x, h => by
    simp only [nth] at h
    have := nth_some_lt h
    simp; omega

theorem nth_of_lt {α : Type} : ∀ {l : List α} {n : Nat}, n < l.length → ∃ x, nth l n = some x
  | [], _, h => by simp at h
  | x :: _, 0, _ => ⟨x, rfl⟩
  | _ :: r, n + 1, h => by simp only [nth]; exact nth_of_lt (by simpa using h)

theorem nth_eq {α : Type} : ∀ (l : List α) (n : Nat), nth l n = l[n]?
  | [], _ => by simp [nth]
  | _ :: _, 0 => by simp [nth]
  | _ :: r, n + 1 => by simp [nth, nth_eq r n]

theorem Keeps.dead (hk : Keeps σ.ι h σ'.ι h') {b : Nat} (hd : isDead h b) : isDead h' b := by
  obtain ⟨blk', h1, h2⟩ := hk b _ hd
  rcases h2 with h2 | ⟨h2, _⟩
  · rw [h2] at h1; exact h1
  · exact absurd rfl h2

theorem Keeps.name (hk : Keeps σ.ι h σ'.ι h') (hl : σ.ι.length = h.length) {b : Nat} {c : Nat × Nat} (hb : nth σ.ι b = some c) : isDead h' b ∨ (nth σ'.ι b = some c) := by
  obtain ⟨blk, hblk⟩ := nth_of_lt (l := h) (n := b) (by have := nth_some_lt hb; omega)
  obtain ⟨blk', h1, h2⟩ := hk b blk hblk
  rcases h2 with h2 | ⟨_, _, h3⟩
  · left; rw [h2] at h1; exact h1
  · right; rw [h3]; exact hb

mutual
theorem ARel.mono (hG : ∀ b, σ.G b → σ'.G b ∧ w'.heap[b]? = w.heap[b]?) (hk : Keeps σ.ι h σ'.ι h') (hl : σ.ι.length = h.length) :
    ∀ (a : AV) (v : Value), ARel w σ h a v → ARel w' σ' h' a v
  | .undef, _, _ => by simp [ARel]
  | .d x, v, q => by simp only [ARel] at q ⊢; exact DRel.mono hG x v q
  | .ref b off, v, q => by
    simp only [ARel] at q ⊢
    refine ⟨q.1, ?_⟩
    rcases q.2 with q | ⟨c, hc, e⟩
    · exact .inl (hk.dead q)
    · exact (hk.name hl hc).imp id fun k => ⟨c, k, e⟩
  | .row b off n cap sz ex, v, q => by
    simp only [ARel] at q ⊢
    refine ⟨q.1, ?_⟩
    rcases q.2 with q | ⟨c, cap', hc, rest⟩
    · exact .inl (hk.dead q)
    · exact (hk.name hl hc).imp id fun k => ⟨c, cap', k, rest⟩
  | .grow b sz nn, v, q => by
    simp only [ARel] at q ⊢
    refine ⟨q.1, ?_⟩
    rcases q.2 with q | ⟨blk, m, hb, hm, rest⟩
    · exact .inl (hk.dead q)
    · obtain ⟨blk', h1, h2⟩ := hk b blk hb
      rcases h2 with h2 | ⟨_, h3, h4⟩
      · left; rw [h2] at h1; exact h1
      · right
        refine ⟨blk', m, h1, h3.trans hm, ?_⟩
        rcases rest with rest | ⟨hm0, c, n, cap', hc, rest⟩
        · exact .inl rest
        · exact .inr ⟨hm0, c, n, cap', h4.trans hc, rest⟩
  | .agg l, v, q => by
    simp only [ARel] at q ⊢
    obtain ⟨vs, e, h1, h2⟩ := q
    exact ⟨vs, e, AVals.mono hG hk hl l _ h1, h2⟩
  | .tup l, v, q => by
    simp only [ARel] at q ⊢
    obtain ⟨vs, e, h1⟩ := q
    exact ⟨vs, e, AVals.mono hG hk hl l _ h1⟩
  | .fn f a b, v, q => by
    simp only [ARel] at q ⊢
    obtain ⟨x, y, e, h1, h2⟩ := q
    exact ⟨x, y, e, AVals.mono hG hk hl a _ h1, AVals.mono hG hk hl b _ h2⟩
  | .yld l, v, q => by
    simp only [ARel] at q ⊢
    refine ⟨q.1, ?_⟩
    rcases q.2 with q | ⟨c, hc, e⟩
    · exact .inl (hk.dead q)
    · exact (hk.name hl hc).imp id fun k => ⟨c, k, e⟩
  | .mp l, v, q => by
    simp only [ARel] at q ⊢
    refine ⟨q.1, ?_⟩
    rcases q.2 with q | ⟨c, hc, e⟩
    · exact .inl (hk.dead q)
    · exact (hk.name hl hc).imp id fun k => ⟨c, k, e⟩
theorem AVals.mono (hG : ∀ b, σ.G b → σ'.G b ∧ w'.heap[b]? = w.heap[b]?) (hk : Keeps σ.ι h σ'.ι h') (hl : σ.ι.length = h.length) :
    ∀ (l : List AV) (vs : List Value), AVals w σ h l vs → AVals w' σ' h' l vs
  | [], _, q => by simpa [AVals] using q
  | a :: l, vs, q => by
    simp only [AVals] at q ⊢
    obtain ⟨v, r, e, h1, h2⟩ := q
    exact ⟨v, r, e, ARel.mono hG hk hl a v h1, AVals.mono hG hk hl l r h2⟩
end
end
end Go.AE

/- The invariant that ties a world to the abstract machine's heap; one step of it; new blocks, blocks that die, cells that are written. -/
namespace Go.AE
open Go

def solid : Blk → Bool
  | .dc [] => false
  | .dc _ => true
  | .ac [] => false
  | .ac _ => true
  | .dead => false
  | .defr => true
  | .mp _ => true
  | .sit _ _ => true
  | .mit _ _ _ => true
  | .loop .. => true

def Live (h : List Blk) (b : Nat) : Prop := ∃ x, nth h b = some x ∧ solid x = true

/-- The concrete blocks that are this call's own. -/
def Mine (σ : Sg) (h : List Blk) (k : Nat) : Prop := ∃ b c, Live h b ∧ nth σ.ι b = some c ∧ c.1 = k

def ArrD (w : World) (G : Nat → Prop) (cs : List DV) (C : Array Value) : Prop :=
  ∀ i d, nth cs i = some d → ∃ x, C[i]? = some x ∧ x.oneCell' = true ∧ DRel w G d x

def ArrA (w : World) (σ : Sg) (h : List Blk) (cs : List AV) (C : Array Value) : Prop :=
  ∀ i d, nth cs i = some d → ∃ x, C[i]? = some x ∧ x.oneCell' = true ∧ ARel w σ h d x

def EnvRel (w : World) (σ : Sg) (h : List Blk) (env : List (Nat × AV)) (tm : Array Value) : Prop :=
  ∀ t, ARel w σ h (look env t) (tm.getD t undef)

def BRel (w : World) (σ : Sg) (h : List Blk) (b : Nat) : Blk → Prop
  | .dc cs => cs = [] ∨ ∃ c C E, nth σ.ι b = some c ∧ w.heap[c.1]? = some (.cells C E (0, 0)) ∧ C.size = c.2 ∧ ArrD w σ.G cs C
  | .ac cs => cs = [] ∨ ∃ c C E, nth σ.ι b = some c ∧ w.heap[c.1]? = some (.cells C E (0, 0)) ∧ C.size = c.2 ∧ ArrA w σ h cs C
  | .dead => True
  | .defr => ∃ c, nth σ.ι b = some c ∧ w.heap[c.1]? = some (.deferred (some []))
  | .mp es => ∃ c E, nth σ.ι b = some c ∧ w.heap[c.1]? = some (.map E es.length) ∧ MVals w σ.G 0 es E.toList
  | .sit s pos => ∃ c, nth σ.ι b = some c ∧ w.heap[c.1]? = some (.stringIter s pos)
  | .mit m n begun => ∃ c cm, nth σ.ι b = some c ∧ nth σ.ι m = some cm ∧ w.heap[c.1]? = some (.mapIter (some cm.1) n begun.toArray n) ∧ ∀ i ∈ begun, i < n
  | .loop st pe _ nt env ps as bo df => ∃ c cd tm fn, nth σ.ι b = some c ∧ nth σ.ι df = some cd ∧
      w.heap[c.1]? = some (.loop ⟨st, pe, fn, tm, ps.toArray, as, bo, cd.1⟩) ∧ tm.size = nt ∧ EnvRel w σ h env tm

structure HInv (w : World) (σ : Sg) (h : List Blk) : Prop where
  len : σ.ι.length = h.length
  blk : ∀ b x, nth h b = some x → BRel w σ h b x
  inj : ∀ b1 b2 c1 c2, Live h b1 → Live h b2 → nth σ.ι b1 = some c1 → nth σ.ι b2 = some c2 → c1.1 = c2.1 → b1 = b2
  sep : ∀ k, Mine σ h k → ¬ σ.G k
  bound : ∀ k, σ.G k → k < w.heap.size
  glob : GlobOK w σ.G

structure Step (w : World) (σ : Sg) (h : List Blk) (w' : World) (σ' : Sg) (h' : List Blk) : Prop where
  os : w'.os = w.os
  tape : w'.tape = w.tape
  output : w'.output = w.output
  size : w.heap.size ≤ w'.heap.size
  other : ∀ k, k < w.heap.size → ¬ Mine σ h k → w'.heap[k]? = w.heap[k]?
  mine : ∀ k, Mine σ' h' k → Mine σ h k ∨ w.heap.size ≤ k
  data : ∀ k, σ.G k → σ'.G k
  keeps : Keeps σ.ι h σ'.ι h'
  more : ∀ k, σ'.G k → σ.G k ∨ Mine σ h k ∨ w.heap.size ≤ k

section
variable {w w' w'' : World} {σ σ' σ'' : Sg} {h h' h'' : List Blk}

theorem Step.refl (w : World) (σ : Sg) (h : List Blk) : Step w σ h w σ h :=
  ⟨rfl, rfl, rfl, Nat.le_refl _, fun _ _ _ => rfl, fun _ hk => .inl hk, fun _ hk => hk, Keeps.refl _ _, fun _ hk => .inl hk⟩

theorem Step.trans (p : Step w σ h w' σ' h') (q : Step w' σ' h' w'' σ'' h'') : Step w σ h w'' σ'' h'' where
  os := q.os.trans p.os
  tape := q.tape.trans p.tape
  output := q.output.trans p.output
  size := Nat.le_trans p.size q.size
  other := fun k hk hm => by
    have hm' : ¬ Mine σ' h' k := fun m => by
      rcases p.mine k m with m | m
      · exact hm m
      · omega
    rw [q.other k (Nat.lt_of_lt_of_le hk p.size) hm', p.other k hk hm]
  mine := fun k m => by
    rcases q.mine k m with m | m
    · exact p.mine k m
    · exact .inr (Nat.le_trans p.size m)
  data := fun k hk => q.data k (p.data k hk)
  keeps := p.keeps.trans q.keeps
  more := fun k hk => by
    rcases q.more k hk with m | m | m
    · exact p.more k m
    · exact .inr (p.mine k m)
    · exact .inr (.inr (Nat.le_trans p.size m))

/-- Data is as it was. -/
theorem Step.dataSame (hi : HInv w σ h) (p : Step w σ h w' σ' h') : ∀ b, σ.G b → σ'.G b ∧ w'.heap[b]? = w.heap[b]? :=
  fun b hb => ⟨p.data b hb, p.other b (hi.bound b hb) fun m => hi.sep b m hb⟩

theorem Step.arel (hi : HInv w σ h) (p : Step w σ h w' σ' h') {a : AV} {v : Value} (q : ARel w σ h a v) : ARel w' σ' h' a v :=
  ARel.mono (p.dataSame hi) p.keeps hi.len a v q

theorem Step.env (hi : HInv w σ h) (p : Step w σ h w' σ' h') {env : List (Nat × AV)} {tm : Array Value} (q : EnvRel w σ h env tm) : EnvRel w' σ' h' env tm :=
  fun t => p.arel hi (q t)

/-- The other block that a block names. -/
def refs : Blk → Nat → Prop
  | .loop _ _ _ _ _ _ _ _ df, d => d = df
  | .mit m _ _, d => d = m
  | _, _ => False

/-- A block that has not been touched still is what it was. -/
theorem BRel.keep {b : Nat} {x : Blk} (hb : nth h b = some x) (q : BRel w σ h b x) (hG : ∀ b, σ.G b → σ'.G b ∧ w'.heap[b]? = w.heap[b]?) (hk : Keeps σ.ι h σ'.ι h') (hl : σ.ι.length = h.length)
    (hb' : nth h' b = some x) (hn : nth σ'.ι b = nth σ.ι b) (hw : ∀ c, solid x = true → nth σ.ι b = some c → w'.heap[c.1]? = w.heap[c.1]?)
    (hdf : ∀ df cd, refs x df → nth σ.ι df = some cd → nth σ'.ι df = some cd) : BRel w' σ' h' b x := by
  cases x with
  | dc cs =>
    simp only [BRel] at q ⊢
    rcases q with q | ⟨c, C, E, h1, h2, h3, h4⟩
    · exact .inl q
    · cases cs with
      | nil => exact .inl rfl
      | cons d cs =>
        refine .inr ⟨c, C, E, hn.trans h1, (hw c rfl h1).trans h2, h3, fun i d' hd => ?_⟩
        obtain ⟨x, k1, k2, k3⟩ := h4 i d' hd
        exact ⟨x, k1, k2, DRel.mono hG d' x k3⟩
  | ac cs =>
    simp only [BRel] at q ⊢
    rcases q with q | ⟨c, C, E, h1, h2, h3, h4⟩
    · exact .inl q
    · cases cs with
      | nil => exact .inl rfl
      | cons d cs =>
        refine .inr ⟨c, C, E, hn.trans h1, (hw c rfl h1).trans h2, h3, fun i d' hd => ?_⟩
        obtain ⟨x, k1, k2, k3⟩ := h4 i d' hd
        exact ⟨x, k1, k2, ARel.mono hG hk hl d' x k3⟩
  | dead => trivial
  | defr =>
    simp only [BRel] at q ⊢
    obtain ⟨c, h1, h2⟩ := q
    exact ⟨c, hn.trans h1, (hw c rfl h1).trans h2⟩
  | sit s pos =>
    simp only [BRel] at q ⊢
    obtain ⟨c, h1, h2⟩ := q
    exact ⟨c, hn.trans h1, (hw c rfl h1).trans h2⟩
  | mp es =>
    simp only [BRel] at q ⊢
    obtain ⟨c, E, h1, h2, h3⟩ := q
    exact ⟨c, E, hn.trans h1, (hw c rfl h1).trans h2, h3.mono hG⟩
  | mit m n begun =>
    simp only [BRel] at q ⊢
    obtain ⟨c, cm, h1, h2, h3, h4⟩ := q
    exact ⟨c, cm, hn.trans h1, hdf _ cm rfl h2, (hw c rfl h1).trans h3, h4⟩
  | loop st pe fn nt env ps as bo df =>
    simp only [BRel] at q ⊢
    obtain ⟨c, cd, tm, fn', h1, h2, h3, h4, h5⟩ := q
    exact ⟨c, cd, tm, fn', hn.trans h1, hdf _ cd rfl h2, (hw c rfl h1).trans h3, h4, fun t => ARel.mono hG hk hl _ _ (h5 t)⟩

/-! ### Lists -/
theorem nth_append_lt {α : Type} : ∀ {l r : List α} {n : Nat}, n < l.length → nth (l ++ r) n = nth l n
  | [], _, _, h => by simp at h
  | _ :: _, _, 0, _ => rfl
  | _ :: l, r, n + 1, h => by simp only [List.cons_append, nth]; exact nth_append_lt (by simpa using h)

theorem nth_append_len {α : Type} : ∀ (l r : List α), nth (l ++ r) l.length = nth r 0
  | [], _ => rfl
  | _ :: l, r => by simp only [List.cons_append, List.length_cons, nth]; exact nth_append_len l r

theorem nth_setNth_same {α : Type} : ∀ {l : List α} {n : Nat} {v : α}, n < l.length → nth (setNth l n v) n = some v
  | [], _, _, h => by simp at h
  | _ :: _, 0, _, _ => rfl
  | _ :: l, n + 1, v, h => by simp only [setNth, nth]; exact nth_setNth_same (by simpa using h)

theorem nth_setNth_other {α : Type} : ∀ {l : List α} {n m : Nat} {v : α}, m ≠ n → nth (setNth l n v) m = nth l m
  | [], _, _, _, _ => rfl
  | _ :: _, 0, 0, _, h => absurd rfl h
  | _ :: _, 0, _ + 1, _, _ => rfl
  | _ :: _, _ + 1, 0, _, _ => rfl
  | _ :: l, n + 1, m + 1, v, h => by simp only [setNth, nth]; exact nth_setNth_other (by omega)

theorem length_setNth {α : Type} : ∀ (l : List α) (n : Nat) (v : α), (setNth l n v).length = l.length
  | [], _, _ => rfl
  | _ :: _, 0, _ => rfl
  | _ :: l, n + 1, v => by simp [setNth, length_setNth l n v]

theorem Live.bound {b : Nat} (hb : Live h b) : b < h.length := by obtain ⟨x, hx, _⟩ := hb; exact nth_some_lt hx

/-- The concrete block of a live one exists. -/
theorem HInv.lt (hi : HInv w σ h) {k : Nat} (hm : Mine σ h k) : k < w.heap.size := by
  obtain ⟨b, c, ⟨x, hx, hs⟩, hc, rfl⟩ := hm
  have q := hi.blk b x hx
  have key : ∀ (o : Obj), w.heap[c.1]? = some o → c.1 < w.heap.size := fun o ho => (Array.getElem?_eq_some_iff.1 ho).1
  cases x with
  | dc cs =>
    simp only [BRel] at q
    rcases q with q | ⟨c', C, E, h1, h2, _⟩
    · subst q; simp [solid] at hs
    · rw [hc] at h1; cases h1; exact key _ h2
  | ac cs =>
    simp only [BRel] at q
    rcases q with q | ⟨c', C, E, h1, h2, _⟩
    · subst q; simp [solid] at hs
    · rw [hc] at h1; cases h1; exact key _ h2
  | dead => simp [solid] at hs
  | defr =>
    simp only [BRel] at q
    obtain ⟨c', h1, h2⟩ := q
    rw [hc] at h1; cases h1; exact key _ h2
  | sit s pos =>
    simp only [BRel] at q
    obtain ⟨c', h1, h2⟩ := q
    rw [hc] at h1; cases h1; exact key _ h2
  | mp es =>
    simp only [BRel] at q
    obtain ⟨c', E, h1, h2, _⟩ := q
    rw [hc] at h1; cases h1; exact key _ h2
  | mit m n begun =>
    simp only [BRel] at q
    obtain ⟨c', cm, h1, _, h2, _⟩ := q
    rw [hc] at h1; cases h1; exact key _ h2
  | loop st pe fn nt env ps as bo df =>
    simp only [BRel] at q
    obtain ⟨c', cd, tm, fn', h1, h2, h3, _⟩ := q
    rw [hc] at h1; cases h1; exact key _ h3

theorem Keeps.push (ι : List (Nat × Nat)) (h : List Blk) (c : Nat × Nat) (x : Blk) (hl : ι.length = h.length) : Keeps ι h (ι ++ [c]) (h ++ [x]) := by
  intro b blk hb
  have hlt := nth_some_lt hb
  refine ⟨blk, by rw [nth_append_lt hlt]; exact hb, ?_⟩
  by_cases e : blk = .dead
  · exact .inl e
  · exact .inr ⟨e, rfl, nth_append_lt (by omega)⟩

theorem Live.push {x : Blk} {b : Nat} (hb : Live (h ++ [x]) b) : Live h b ∨ (b = h.length ∧ solid x = true) := by
  obtain ⟨y, hy, hs⟩ := hb
  rcases Nat.lt_trichotomy b h.length with k | k | k
  · exact .inl ⟨y, by rw [nth_append_lt k] at hy; exact hy, hs⟩
  · subst k
    rw [nth_append_len] at hy
    simp [nth] at hy; subst hy
    exact .inr ⟨rfl, hs⟩
  · have := nth_some_lt hy; simp at this; omega

/-- A new block, of whatever kind; what it holds is told in the new world. -/
theorem HInv.push (hi : HInv w σ h) (o : Obj) (n : Nat) (x : Blk)
    (hx : BRel (w.alloc o) ⟨σ.G, σ.ι ++ [(w.heap.size, n)]⟩ (h ++ [x]) h.length x) :
    HInv (w.alloc o) ⟨σ.G, σ.ι ++ [(w.heap.size, n)]⟩ (h ++ [x]) ∧ Step w σ h (w.alloc o) ⟨σ.G, σ.ι ++ [(w.heap.size, n)]⟩ (h ++ [x]) := by
  have hold : ∀ k, k < w.heap.size → (w.alloc o).heap[k]? = w.heap[k]? := fun k hk => Go.RowKit.Below.heap_alloc w o k hk
  have hkeep := Keeps.push σ.ι h (w.heap.size, n) x hi.len
  have hG : ∀ b, σ.G b → σ.G b ∧ (w.alloc o).heap[b]? = w.heap[b]? := fun b hb => ⟨hb, hold b (hi.bound b hb)⟩
  have hmine : ∀ k, Mine ⟨σ.G, σ.ι ++ [(w.heap.size, n)]⟩ (h ++ [x]) k → Mine σ h k ∨ k = w.heap.size := by
    rintro k ⟨b, c, hb, hc, rfl⟩
    rcases hb.push with hb | ⟨rfl, _⟩
    · have := hb.bound
      rw [nth_append_lt (by have := hi.len; omega)] at hc
      exact .inl ⟨b, c, hb, hc, rfl⟩
    · have e : nth (σ.ι ++ [(w.heap.size, n)]) h.length = some (w.heap.size, n) := by rw [← hi.len, nth_append_len]; rfl
      rw [e] at hc; cases hc; exact .inr rfl
  refine ⟨⟨by simp [hi.len], ?_, ?_, ?_, ?_, hi.glob.mono hG⟩, ⟨rfl, rfl, rfl, by simp, fun k hk _ => hold k hk, ?_, fun k hk => hk, hkeep, fun k hk => .inl hk⟩⟩
  · intro b y hy
    rcases Nat.lt_trichotomy b h.length with k | k | k
    · have hy' : nth h b = some y := by rw [nth_append_lt k] at hy; exact hy
      refine BRel.keep hy' (hi.blk b y hy') hG hkeep hi.len hy (nth_append_lt (by have := hi.len; omega)) (fun c hs hc => hold c.1 (hi.lt ⟨b, c, ⟨y, hy', hs⟩, hc, rfl⟩)) ?_
      intro df cd _ hcd
      show nth (σ.ι ++ [(w.heap.size, n)]) df = some cd
      rw [nth_append_lt (nth_some_lt hcd)]; exact hcd
    · subst k
      rw [nth_append_len] at hy
      simp [nth] at hy; subst hy
      exact hx
    · have := nth_some_lt hy; simp at this; omega
  · intro b1 b2 c1 c2 l1 l2 n1 n2 e
    have old : ∀ {b c}, Live h b → nth (σ.ι ++ [(w.heap.size, n)]) b = some c → nth σ.ι b = some c ∧ c.1 < w.heap.size := by
      intro b c hb hc
      rw [nth_append_lt (by have := hb.bound; have := hi.len; omega)] at hc
      exact ⟨hc, hi.lt ⟨b, c, hb, hc, rfl⟩⟩
    have new : nth (σ.ι ++ [(w.heap.size, n)]) h.length = some (w.heap.size, n) := by rw [← hi.len, nth_append_len]; rfl
    rcases l1.push with l1 | ⟨rfl, _⟩ <;> rcases l2.push with l2 | ⟨rfl, _⟩
    · exact hi.inj b1 b2 c1 c2 l1 l2 (old l1 n1).1 (old l2 n2).1 e
    · have k1 := (old l1 n1).2
      have k2 : c2 = (w.heap.size, n) := Option.some.inj (n2.symm.trans new)
      subst k2; simp at e; omega
    · have k1 := (old l2 n2).2
      have k2 : c1 = (w.heap.size, n) := Option.some.inj (n1.symm.trans new)
      subst k2; simp at e; omega
    · rfl
  · intro k hm hg
    rcases hmine k hm with hm | rfl
    · exact hi.sep k hm hg
    · have := hi.bound _ hg; omega
  · intro k hk; have := hi.bound k hk; simp; omega
  · intro k hm
    rcases hmine k hm with hm | rfl
    · exact .inl hm
    · exact .inr (Nat.le_refl _)

theorem Live.kill {b0 b : Nat} (hb : Live (setNth h b0 .dead) b) : Live h b ∧ b ≠ b0 := by
  obtain ⟨y, hy, hs⟩ := hb
  by_cases e : b = b0
  · subst e
    have := nth_some_lt hy
    rw [nth_setNth_same (by rw [length_setNth] at this; exact this)] at hy
    cases hy; simp [solid] at hs
  · rw [nth_setNth_other e] at hy
    exact ⟨⟨y, hy, hs⟩, e⟩

theorem Keeps.kill (ι : List (Nat × Nat)) (h : List Blk) (b0 : Nat) : Keeps ι h ι (setNth h b0 .dead) := by
  intro b blk hb
  by_cases e : b = b0
  · subst e
    exact ⟨.dead, nth_setNth_same (nth_some_lt hb), .inl rfl⟩
  · refine ⟨blk, by rw [nth_setNth_other e]; exact hb, ?_⟩
    by_cases e : blk = .dead
    · exact .inl e
    · exact .inr ⟨e, rfl, rfl⟩

/-- A block is given up; its cells may be data from now on, if they hold data. -/
theorem HInv.kill (hi : HInv w σ h) (b0 : Nat) : HInv w σ (setNth h b0 .dead) ∧ Step w σ h w σ (setNth h b0 .dead) := by
  have hmine : ∀ k, Mine σ (setNth h b0 .dead) k → Mine σ h k := by
    rintro k ⟨b, c, hb, hc, rfl⟩
    exact ⟨b, c, hb.kill.1, hc, rfl⟩
  refine ⟨⟨by simp [length_setNth, hi.len], ?_, ?_, fun k hm => hi.sep k (hmine k hm), hi.bound, hi.glob⟩, ⟨rfl, rfl, rfl, Nat.le_refl _, fun _ _ _ => rfl, fun k hm => .inl (hmine k hm), fun _ hk => hk, Keeps.kill _ _ _, fun _ hk => .inl hk⟩⟩
  · intro b y hy
    by_cases e : b = b0
    · subst e
      have := nth_some_lt hy
      rw [nth_setNth_same (by rw [length_setNth] at this; exact this)] at hy
      cases hy; trivial
    · have hy' : nth h b = some y := by rw [nth_setNth_other e] at hy; exact hy
      exact BRel.keep hy' (hi.blk b y hy') (fun b hb => ⟨hb, rfl⟩) (Keeps.kill _ _ _) hi.len hy rfl (fun _ _ _ => rfl) (fun _ _ _ hcd => hcd)
  · intro b1 b2 c1 c2 l1 l2 n1 n2 e
    exact hi.inj b1 b2 c1 c2 l1.kill.1 l2.kill.1 n1 n2 e
end
end Go.AE

/- Cells that are written; what other calls leave behind; what becomes data. -/
namespace Go.AE
open Go

section
variable {w w' : World} {σ : Sg} {h : List Blk}

theorem Keeps.set (ι : List (Nat × Nat)) (h : List Blk) (b0 : Nat) {x0 x : Blk} (h0 : nth h b0 = some x0) (hd : x0 ≠ .dead) (hl : clen x = clen x0) : Keeps ι h ι (setNth h b0 x) := by
  intro b blk hb
  by_cases e : b = b0
  · subst e
    rw [h0] at hb; cases hb
    exact ⟨x, nth_setNth_same (nth_some_lt h0), .inr ⟨hd, hl, rfl⟩⟩
  · refine ⟨blk, by rw [nth_setNth_other e]; exact hb, ?_⟩
    by_cases e : blk = .dead
    · exact .inl e
    · exact .inr ⟨e, rfl, rfl⟩

theorem solid_ne_dead {x : Blk} (hs : solid x = true) : x ≠ .dead := by rintro rfl; simp [solid] at hs

/-- One own block of cells holds something else now. -/
theorem HInv.write (hi : HInv w σ h) {b0 : Nat} {x0 x : Blk} {c : Nat × Nat} (h0 : nth h b0 = some x0) (hs : solid x0 = true) (hc : nth σ.ι b0 = some c) (hl : clen x = clen x0)
    (hos : w'.os = w.os) (htape : w'.tape = w.tape) (hout : w'.output = w.output) (hsize : w'.heap.size = w.heap.size) (hother : ∀ k, k ≠ c.1 → w'.heap[k]? = w.heap[k]?)
    (hb : BRel w' σ (setNth h b0 x) b0 x) : HInv w' σ (setNth h b0 x) ∧ Step w σ h w' σ (setNth h b0 x) := by
  have hlive0 : Live h b0 := ⟨x0, h0, hs⟩
  have hm0 : Mine σ h c.1 := ⟨b0, c, hlive0, hc, rfl⟩
  have hlive : ∀ b, Live (setNth h b0 x) b → Live h b := by
    rintro b ⟨y, hy, hys⟩
    by_cases e : b = b0
    · subst e; exact hlive0
    · rw [nth_setNth_other e] at hy; exact ⟨y, hy, hys⟩
  have hmine : ∀ k, Mine σ (setNth h b0 x) k → Mine σ h k := by
    rintro k ⟨b, c', hb, hc', rfl⟩
    exact ⟨b, c', hlive b hb, hc', rfl⟩
  have hG : ∀ b, σ.G b → σ.G b ∧ w'.heap[b]? = w.heap[b]? := fun b hb => ⟨hb, hother b (by rintro rfl; exact hi.sep _ hm0 hb)⟩
  have hk := Keeps.set σ.ι h b0 h0 (solid_ne_dead hs) hl
  refine ⟨⟨by simp [length_setNth, hi.len], ?_, ?_, fun k hm => hi.sep k (hmine k hm), fun k hk => by rw [hsize]; exact hi.bound k hk, hi.glob.mono hG⟩,
    ⟨hos, htape, hout, by omega, fun k _ hm => hother k (by rintro rfl; exact hm hm0), fun k hm => .inl (hmine k hm), fun _ hk => hk, hk, fun _ hk => .inl hk⟩⟩
  · intro b y hy
    by_cases e : b = b0
    · subst e
      rw [nth_setNth_same (nth_some_lt h0)] at hy
      cases hy; exact hb
    · have hy' : nth h b = some y := by rw [nth_setNth_other e] at hy; exact hy
      refine BRel.keep hy' (hi.blk b y hy') hG hk hi.len hy rfl (fun c' hs' hc' => hother _ ?_) (fun _ _ _ hcd => hcd)
      intro e'
      exact e (hi.inj b b0 c' c ⟨y, hy', hs'⟩ hlive0 hc' hc e')
  · intro b1 b2 c1 c2 l1 l2 n1 n2 e
    exact hi.inj b1 b2 c1 c2 (hlive _ l1) (hlive _ l2) n1 n2 e

/-- Something else has happened in other memory: new blocks, which may hold data. -/
theorem HInv.outside (hi : HInv w σ h) (hb : Go.RowKit.Below w.heap.size w w') :
    HInv w' ⟨fun k => σ.G k ∨ (w.heap.size ≤ k ∧ k < w'.heap.size), σ.ι⟩ h ∧ Step w σ h w' ⟨fun k => σ.G k ∨ (w.heap.size ≤ k ∧ k < w'.heap.size), σ.ι⟩ h := by
  have hG : ∀ b, σ.G b → (σ.G b ∨ (w.heap.size ≤ b ∧ b < w'.heap.size)) ∧ w'.heap[b]? = w.heap[b]? := fun b hb' => ⟨.inl hb', hb.block b (hi.bound b hb')⟩
  refine ⟨⟨hi.len, ?_, hi.inj, ?_, ?_, hi.glob.mono hG⟩, ⟨hb.os, hb.tape, hb.output, hb.size, fun k hk _ => hb.block k hk, fun k hm => .inl hm, fun k hk => .inl hk, Keeps.refl _ _, fun k hk => hk.imp id fun q => .inr q.1⟩⟩
  · intro b y hy
    exact BRel.keep hy (hi.blk b y hy) hG (Keeps.refl _ _) hi.len hy rfl (fun c hs hc => hb.block _ (hi.lt ⟨b, c, ⟨y, hy, hs⟩, hc, rfl⟩)) (fun _ _ _ hcd => hcd)
  · intro k hm hg
    rcases hg with hg | hg
    · exact hi.sep k hm hg
    · have := hi.lt (k := k) hm; omega
  · intro k hk
    rcases hk with hk | hk
    · exact Nat.lt_of_lt_of_le (hi.bound k hk) hb.size
    · exact hk.2

/-- The concrete blocks of a list of names. -/
def Of (σ : Sg) (h : List Blk) (ids : List Nat) (k : Nat) : Prop := ∃ b c, b ∈ ids ∧ Live h b ∧ nth σ.ι b = some c ∧ c.1 = k

theorem killB_live : ∀ (ids : List Nat) (h : List Blk) (b : Nat), Live (killB ids h) b → Live h b ∧ b ∉ ids
  | [], _, _, hb => ⟨hb, by simp⟩
  | i :: r, h, b, hb => by
    obtain ⟨h1, h2⟩ := killB_live r (setNth h i .dead) b hb
    obtain ⟨h3, h4⟩ := h1.kill
    exact ⟨h3, by simp [h2, h4]⟩

theorem killB_inv : ∀ (ids : List Nat) (h : List Blk), HInv w σ h → HInv w σ (killB ids h) ∧ Step w σ h w σ (killB ids h)
  | [], h, hi => ⟨hi, Step.refl _ _ _⟩
  | i :: r, h, hi => by
    obtain ⟨h1, s1⟩ := hi.kill i
    obtain ⟨h2, s2⟩ := killB_inv r _ h1
    exact ⟨h2, s1.trans s2⟩

/-- What is given up is data from now on. -/
theorem HInv.settle (hi : HInv w σ h) (ids : List Nat) :
    HInv w ⟨fun k => σ.G k ∨ Of σ h ids k, σ.ι⟩ (killB ids h) ∧ Step w σ h w ⟨fun k => σ.G k ∨ Of σ h ids k, σ.ι⟩ (killB ids h) := by
  obtain ⟨h1, s1⟩ := killB_inv (w := w) (σ := σ) ids h hi
  have hG : ∀ b, σ.G b → (σ.G b ∨ Of σ h ids b) ∧ w.heap[b]? = w.heap[b]? := fun b hb => ⟨.inl hb, rfl⟩
  refine ⟨⟨h1.len, ?_, h1.inj, ?_, ?_, hi.glob.mono hG⟩, ⟨rfl, rfl, rfl, Nat.le_refl _, fun _ _ _ => rfl, s1.mine, fun k hk => .inl hk, s1.keeps, fun k hk => hk.imp id fun ⟨b, c, _, hb, hc, e⟩ => .inl ⟨b, c, hb, hc, e⟩⟩⟩
  · intro b y hy
    exact BRel.keep hy (h1.blk b y hy) hG (Keeps.refl _ _) h1.len hy rfl (fun _ _ _ => rfl) (fun _ _ _ hcd => hcd)
  · rintro k ⟨b, c, hb, hc, rfl⟩ hg
    obtain ⟨hb1, hb2⟩ := killB_live ids h b hb
    rcases hg with hg | ⟨b', c', h1', h2', h3', h4'⟩
    · exact hi.sep _ ⟨b, c, hb1, hc, rfl⟩ hg
    · exact hb2 (hi.inj b' b c' c h2' hb1 h3' hc h4' ▸ h1')
  · intro k hk
    rcases hk with hk | ⟨b, c, _, hb, hc, rfl⟩
    · exact hi.bound k hk
    · exact hi.lt ⟨b, c, hb, hc, rfl⟩

/-! ### Freezing -/
theorem cell_row {b i : Nat} {C : Array Value} {E : TypeId} {fr : Nat × Nat} (hb : w.heap[b]? = some (.cells C E fr)) : w.cell? ⟨b, i, none⟩ = C[i]? := cell_of_row w b i C E fr hb

theorem dcells_of {G : Nat → Prop} {b : Nat} {C : Array Value} {E : TypeId} {fr : Nat × Nat} (hb : w.heap[b]? = some (.cells C E fr)) (hg : G b) :
    ∀ (ds : List DV) (off : Nat), (∀ i d, nth ds i = some d → ∃ x, C[off + i]? = some x ∧ x.oneCell' = true ∧ DRel w G d x) → DCells w G ds b off
  | [], _, _ => by simp [DCells]
  | d :: ds, off, q => by
    simp only [DCells]
    obtain ⟨x, h1, h2, h3⟩ := q 0 d rfl
    refine ⟨hg, ⟨x, by rw [cell_row hb]; simpa using h1, h2, h3⟩, dcells_of hb hg ds (off + 1) fun i e he => ?_⟩
    obtain ⟨y, k1, k2, k3⟩ := q (i + 1) e (by simpa [nth] using he)
    exact ⟨y, by rw [show off + 1 + i = off + (i + 1) by omega]; exact k1, k2, k3⟩

theorem nth_sub {α : Type} (cs : List α) (off n i : Nat) {d : α} (h : nth (sub cs off n) i = some d) : nth cs (off + i) = some d := by
  rw [nth_eq] at h ⊢
  unfold sub at h
  rw [List.getElem?_take] at h
  split at h
  · rw [List.getElem?_drop] at h; exact h
  · cases h

theorem length_sub {α : Type} (cs : List α) (off n : Nat) (h : off + n ≤ cs.length) : (sub cs off n).length = n := by
  unfold sub; rw [List.length_take, List.length_drop]; omega

theorem mapO_nth {α β : Type} {f : α → Option β} : ∀ {l : List α} {r : List β}, mapO f l = some r → r.length = l.length ∧ ∀ i y, nth r i = some y → ∃ x, nth l i = some x ∧ f x = some y
  | [], r, h => by simp [mapO] at h; subst h; simp [nth]
  | x :: l, r, h => by
    simp only [mapO] at h
    split at h
    · rename_i y l' h1 h2
      cases h
      obtain ⟨k1, k2⟩ := mapO_nth h2
      refine ⟨by simp [k1], fun i z hz => ?_⟩
      cases i with
      | zero => simp [nth] at hz; subst hz; exact ⟨x, rfl, h1⟩
      | succ i => simp only [nth] at hz ⊢; exact k2 i z hz
    · cases h

theorem AVals.of_frozen {P : AV → DV → Prop} {G' : Nat → Prop} (hP : ∀ a d x, P a d → ARel w σ h a x → DRel w G' d x) :
    ∀ (l : List AV) (ds : List DV) (vs : List Value), ds.length = l.length → (∀ i d, nth ds i = some d → ∃ a, nth l i = some a ∧ P a d) → AVals w σ h l vs → DVals w G' ds vs
  | [], [], vs, _, _, q => by simpa [AVals, DVals] using q
  | [], _ :: _, _, e, _, _ => by simp at e
  | _ :: _, [], _, e, _, _ => by simp at e
  | a :: l, d :: ds, vs, e, hp, q => by
    simp only [AVals] at q
    obtain ⟨v, r, rfl, h1, h2⟩ := q
    simp only [DVals]
    obtain ⟨a', ha, hpa⟩ := hp 0 d rfl
    simp [nth] at ha; subst ha
    exact ⟨v, r, rfl, hP _ _ _ hpa h1, AVals.of_frozen hP l ds r (by simpa using e) (fun i d' hd' => by
      obtain ⟨a', k1, k2⟩ := hp (i + 1) d' (by simpa [nth] using hd')
      exact ⟨a', by simpa [nth] using k1, k2⟩) h2⟩

theorem Of.mono {ids ids' : List Nat} (hs : ∀ b, b ∈ ids → b ∈ ids') {k : Nat} (q : Of σ h ids k) : Of σ h ids' k := by
  obtain ⟨b, c, h1, h2, h3, h4⟩ := q
  exact ⟨b, c, hs b h1, h2, h3, h4⟩

theorem DRel.wider {G G' : Nat → Prop} (hG : ∀ b, G b → G' b) {d : DV} {v : Value} (q : DRel w G d v) : DRel w G' d v := DRel.mono (fun b hb => ⟨hG b hb, rfl⟩) d v q

theorem mem_of_nth {α : Type} {l : List α} {i : Nat} {x : α} (h : nth l i = some x) : x ∈ l := by
  rw [nth_eq] at h; exact List.mem_of_getElem? h

/-- A value that is frozen: what it reads as, over what its data lies in and the blocks that it names. -/
theorem freeze_relG (hi : HInv w σ h) {Gd : Nat → Prop} {p : DV → Bool} (hp : ∀ d x, p d = true → DRel w σ.G d x → DRel w Gd d x) :
    ∀ (n : Nat) (v : AV) (d : DV) (x : Value), leafOK p h n v = true → freezeV h n v = some d → ARel w σ h v x → DRel w (fun k => Gd k ∨ Of σ h (idsF h n v) k) d x := by
  intro n
  induction n with
  | zero =>
    intro v d x hLf hf q
    cases v <;> simp [freezeV] at hf
    subst hf
    simp only [ARel] at q
    exact (hp _ _ hLf q).wider fun b hb => .inl hb
  | succ n ih =>
    -- the cells of a block, frozen
    have key : ∀ (b : Nat) (cs : List AV) (ds : List DV) (c : Nat × Nat) (C : Array Value) (E : TypeId) (off m : Nat) (hcs : nth h b = some (.ac cs)) (hc : nth σ.ι b = some c) (hC : w.heap[c.1]? = some (.cells C E (0, 0)))
        (hA : ArrA w σ h cs C) (sel : List AV) (hsel : ∀ i a, nth sel i = some a → nth cs (off + i) = some a) (hds : mapO (freezeV h n) sel = some ds) (hne : cs ≠ []) (hl : cs.all (leafOK p h n) = true),
        DCells w (fun k => Gd k ∨ Of σ h (b :: cs.flatMap (idsF h n)) k) ds c.1 off := by
      intro b cs ds c C E off m hcs hc hC hA sel hsel hds hne hl
      have hlive : Live h b := ⟨.ac cs, hcs, by cases cs with | nil => exact absurd rfl hne | cons _ _ => rfl⟩
      refine dcells_of hC (.inr ⟨b, c, by simp, hlive, hc, rfl⟩) ds off fun i d hd => ?_
      obtain ⟨a, ha, hfa⟩ := (mapO_nth hds).2 i d hd
      have ha' := hsel i a ha
      obtain ⟨x, h1, h2, h3⟩ := hA (off + i) a ha'
      refine ⟨x, h1, h2, (ih a d x (List.all_eq_true.1 hl a (mem_of_nth ha')) hfa h3).wider fun k hk => hk.imp id fun o => o.mono fun b' hb' => ?_⟩
      simp only [List.mem_cons, List.mem_flatMap]
      exact .inr ⟨a, mem_of_nth ha', hb'⟩
    have keyD : ∀ (b : Nat) (cs : List DV) (c : Nat × Nat) (C : Array Value) (E : TypeId) (off : Nat) (sel : List DV) (hcs : nth h b = some (.dc cs)) (hc : nth σ.ι b = some c) (hC : w.heap[c.1]? = some (.cells C E (0, 0)))
        (hA : ArrD w σ.G cs C) (hsel : ∀ i a, nth sel i = some a → nth cs (off + i) = some a) (hne : cs ≠ []) (ids : List Nat) (hb : b ∈ ids) (hl : cs.all p = true),
        DCells w (fun k => Gd k ∨ Of σ h ids k) sel c.1 off := by
      intro b cs c C E off sel hcs hc hC hA hsel hne ids hb hl
      have hlive : Live h b := ⟨.dc cs, hcs, by cases cs with | nil => exact absurd rfl hne | cons _ _ => rfl⟩
      refine dcells_of hC (.inr ⟨b, c, hb, hlive, hc, rfl⟩) sel off fun i d hd => ?_
      obtain ⟨x, h1, h2, h3⟩ := hA (off + i) d (hsel i d hd)
      exact ⟨x, h1, h2, (hp d x (List.all_eq_true.1 hl d (mem_of_nth (hsel i d hd))) h3).wider fun k hk => .inl hk⟩
    intro v d x hLf hf q
    cases v with
    | undef => simp [freezeV] at hf
    | yld l => simp [freezeV] at hf
    | mp l => simp [freezeV] at hf
    | d y =>
      simp [freezeV] at hf; subst hf
      simp only [ARel] at q
      exact (hp _ _ hLf q).wider fun b hb => .inl hb
    | row b off len cap sz ex =>
      simp only [freezeV] at hf
      simp only [ARel] at q
      replace q := q.2
      split at hf
      · rename_i cs hb
        rcases q with q | ⟨c, cap', hc, rfl, h1, h2, h3, h4⟩
        · unfold isDead at q; rw [q] at hb; cases hb
        · cases hle : Nat.ble (off + len * sz) cs.length with
          | false => simp [hle] at hf
          | true =>
            simp [hle] at hf; subst hf
            have hle' : off + len * sz ≤ cs.length := Nat.le_of_ble_eq_true hle
            simp only [DRel, cond]
            refine ⟨length_sub cs off _ hle', c.1, off, cap', none, rfl, by omega, by simp, fun _ => rfl, ?_⟩
            have hB := hi.blk b _ hb
            simp only [BRel] at hB
            rcases hB with hB | ⟨c', C, E, g1, g2, g3, g4⟩
            · subst hB; simp [sub, DCells]
            · rw [hc] at g1; cases g1
              cases cs with
              | nil => simp [sub, DCells]
              | cons d0 cs => exact keyD b _ c C E off _ hb hc g2 g4 (fun i a ha => nth_sub _ _ _ _ ha) (by simp) _ (by simp [idsF]) (by simpa only [leafOK, hb] using hLf)
      · rename_i cs hb
        rcases q with q | ⟨c, cap', hc, rfl, h1, h2, h3, h4⟩
        · unfold isDead at q; rw [q] at hb; cases hb
        · cases hle : Nat.ble (off + len * sz) cs.length with
          | false => simp [hle] at hf
          | true =>
            simp only [hle, cond] at hf
            have hle' : off + len * sz ≤ cs.length := Nat.le_of_ble_eq_true hle
            cases hm : mapO (freezeV h n) (sub cs off (len * sz)) with
            | none => simp [hm] at hf
            | some ds =>
              simp [hm] at hf; subst hf
              simp only [DRel, cond]
              refine ⟨by rw [(mapO_nth hm).1, length_sub cs off _ hle'], c.1, off, cap', none, rfl, by omega, by simp, fun _ => rfl, ?_⟩
              have hB := hi.blk b _ hb
              simp only [BRel] at hB
              rcases hB with hB | ⟨c', C, E, g1, g2, g3, g4⟩
              · subst hB; simp [sub, mapO] at hm; subst hm; simp [DCells]
              · rw [hc] at g1; cases g1
                cases cs with
                | nil => simp [sub, mapO] at hm; subst hm; simp [DCells]
                | cons d0 cs =>
                  have := key b _ ds c C E off 0 hb hc g2 g4 _ (fun i a ha => nth_sub _ _ _ _ ha) hm (by simp) (by simpa only [leafOK, hb] using hLf)
                  simpa [idsF, hb] using this
      · cases hf
    | grow b sz nn =>
      simp only [freezeV] at hf
      simp only [ARel] at q
      replace q := q.2
      split at hf
      · rename_i cs hb
        simp at hf; subst hf
        rcases q with q | ⟨blk, m, hblk, hm, q⟩
        · unfold isDead at q; rw [q] at hb; cases hb
        · rw [hb] at hblk; cases hblk
          simp [clen] at hm; subst hm
          simp only [DRel]
          rcases q with ⟨h0, q⟩ | ⟨h0, c, n', cap', hc, rfl, h1, h2, h3⟩
          · have hz : cs = [] := List.length_eq_zero_iff.1 h0
            subst hz
            have hl : lenOf sz 0 = 0 := by unfold lenOf; split <;> simp
            cases nn with
            | false => simp only [cond] at q; subst q; simp [hl, cond]
            | true =>
              simp only [cond] at q
              obtain ⟨a', rfl⟩ := q
              refine ⟨by simp [hl], ?_⟩
              simp only [hl, cond, Bool.not_true, Bool.false_and]
              exact ⟨a'.block, a'.off, 0, a'.spot, by rw [show lenOf sz ([] : List DV).length = 0 from hl], Nat.le_of_eq hl, fun _ => hl.symm, fun e => absurd e (by omega), trivial⟩
          · have hne : cs ≠ [] := by rintro rfl; simp at h0
            have hsz : 0 < sz := by
              rcases Nat.eq_zero_or_pos sz with e | e
              · subst e; rw [Nat.mul_zero] at h1; omega
              · exact e
            have hlen : lenOf sz cs.length = n' := by
              rw [h1]; unfold lenOf; split
              · simp
              · exact Nat.mul_div_cancel n' hsz
            have hbeq : Nat.beq cs.length 0 = false := by
              rw [Bool.eq_false_iff]; intro e; have := Nat.eq_of_beq_eq_true e; omega
            simp only [hlen, hbeq, Bool.and_false, cond]
            refine ⟨h1, c.1, 0, cap', none, rfl, h2, by simp, fun _ => rfl, ?_⟩
            have hB := hi.blk b _ hb
            simp only [BRel] at hB
            rcases hB with hB | ⟨c', C, E, g1, g2, g3, g4⟩
            · exact absurd hB hne
            · rw [hc] at g1; cases g1
              exact keyD b _ c C E 0 _ hb hc g2 g4 (fun i a ha => by simpa using ha) hne _ (by simp [idsF]) (by simpa only [leafOK, hb] using hLf)
      · rename_i cs hb
        cases hm : mapO (freezeV h n) cs with
        | none => simp [hm] at hf
        | some ds =>
          simp [hm] at hf; subst hf
          have hdl := (mapO_nth hm).1
          rcases q with q | ⟨blk, m, hblk, hmm, q⟩
          · unfold isDead at q; rw [q] at hb; cases hb
          · rw [hb] at hblk; cases hblk
            simp [clen] at hmm; subst hmm
            simp only [DRel]
            rcases q with ⟨h0, q⟩ | ⟨h0, c, n', cap', hc, rfl, h1, h2, h3⟩
            · have hz : cs = [] := List.length_eq_zero_iff.1 h0
              subst hz
              simp [mapO] at hm; subst hm
              have hl : lenOf sz 0 = 0 := by unfold lenOf; split <;> simp
              cases nn with
              | false => simp only [cond] at q; subst q; simp [hl, cond]
              | true =>
                simp only [cond] at q
                obtain ⟨a', rfl⟩ := q
                refine ⟨by simp [hl], ?_⟩
                simp only [hl, cond, Bool.not_true, Bool.false_and]
                exact ⟨a'.block, a'.off, 0, a'.spot, by rw [show lenOf sz ([] : List AV).length = 0 from hl], Nat.le_of_eq hl, fun _ => hl.symm, fun e => absurd e (by omega), trivial⟩
            · have hne : cs ≠ [] := by rintro rfl; simp at h0
              have hsz : 0 < sz := by
                rcases Nat.eq_zero_or_pos sz with e | e
                · subst e; rw [Nat.mul_zero] at h1; omega
                · exact e
              have hlen : lenOf sz cs.length = n' := by
                rw [h1]; unfold lenOf; split
                · simp
                · exact Nat.mul_div_cancel n' hsz
              have hbeq : Nat.beq cs.length 0 = false := by
                rw [Bool.eq_false_iff]; intro e; have := Nat.eq_of_beq_eq_true e; omega
              simp only [hlen, hbeq, Bool.and_false, cond]
              refine ⟨by omega, c.1, 0, cap', none, rfl, h2, by simp, fun _ => rfl, ?_⟩
              have hB := hi.blk b _ hb
              simp only [BRel] at hB
              rcases hB with hB | ⟨c', C, E, g1, g2, g3, g4⟩
              · exact absurd hB hne
              · rw [hc] at g1; cases g1
                have := key b _ ds c C E 0 0 hb hc g2 g4 cs (fun i a ha => by simpa using ha) hm hne (by simpa only [leafOK, hb] using hLf)
                simpa [idsF, hb] using this
      · cases hf
    | ref b off =>
      simp only [freezeV] at hf
      simp only [ARel] at q
      replace q := q.2
      split at hf
      · rename_i cs hb
        simp at hf; subst hf
        rcases q with q | ⟨c, hc, rfl⟩
        · unfold isDead at q; rw [q] at hb; cases hb
        · simp only [DRel]
          refine ⟨c.1, 0, by simp, ?_⟩
          have hB := hi.blk b _ hb
          simp only [BRel] at hB
          rcases hB with hB | ⟨c', C, E, g1, g2, g3, g4⟩
          · subst hB; simp [DCells]
          · rw [hc] at g1; cases g1
            cases cs with
            | nil => simp [DCells]
            | cons d0 cs => exact keyD b _ c C E 0 _ hb hc g2 g4 (fun i a ha => by simpa using ha) (by simp) _ (by simp [idsF]) (by simpa only [leafOK, hb] using hLf)
      · rename_i cs hb
        cases hm : mapO (freezeV h n) cs with
        | none => simp [hm] at hf
        | some ds =>
          simp [hm] at hf; subst hf
          rcases q with q | ⟨c, hc, rfl⟩
          · unfold isDead at q; rw [q] at hb; cases hb
          · simp only [DRel]
            refine ⟨c.1, 0, by simp, ?_⟩
            have hB := hi.blk b _ hb
            simp only [BRel] at hB
            rcases hB with hB | ⟨c', C, E, g1, g2, g3, g4⟩
            · subst hB; simp [mapO] at hm; subst hm; simp [DCells]
            · rw [hc] at g1; cases g1
              cases cs with
              | nil => simp [mapO] at hm; subst hm; simp [DCells]
              | cons d0 cs =>
                have := key b _ ds c C E 0 0 hb hc g2 g4 _ (fun i a ha => by simpa using ha) hm (by simp) (by simpa only [leafOK, hb] using hLf)
                simpa [idsF, hb] using this
      · cases hf
    | agg l =>
      simp only [freezeV] at hf
      have hl' : ∀ a ∈ l, leafOK p h n a = true := by simpa only [leafOK, List.all_eq_true] using hLf
      simp only [ARel] at q
      cases hm : mapO (freezeV h n) l with
      | none => simp [hm] at hf
      | some ds =>
        simp [hm] at hf; subst hf
        obtain ⟨vs, rfl, h1, h2⟩ := q
        simp only [DRel]
        refine ⟨vs, rfl, ?_, h2⟩
        refine AVals.of_frozen (P := fun a d => freezeV h n a = some d ∧ a ∈ l) (fun a d y hp hy => (ih a d y (hl' a hp.2) hp.1 hy).wider fun k hk => hk.imp id fun o => o.mono fun b hb => ?_) l ds _ (mapO_nth hm).1 (fun i d hd => ?_) h1
        · obtain ⟨a, k1, k2⟩ := (mapO_nth hm).2 i d hd
          exact ⟨a, k1, k2, mem_of_nth k1⟩
        · simp only [idsF, List.mem_flatMap]; exact ⟨a, hp.2, hb⟩
    | tup l =>
      simp only [freezeV] at hf
      have hl' : ∀ a ∈ l, leafOK p h n a = true := by simpa only [leafOK, List.all_eq_true] using hLf
      simp only [ARel] at q
      cases hm : mapO (freezeV h n) l with
      | none => simp [hm] at hf
      | some ds =>
        simp [hm] at hf; subst hf
        obtain ⟨vs, rfl, h1⟩ := q
        simp only [DRel]
        refine ⟨vs, rfl, ?_⟩
        refine AVals.of_frozen (P := fun a d => freezeV h n a = some d ∧ a ∈ l) (fun a d y hp hy => (ih a d y (hl' a hp.2) hp.1 hy).wider fun k hk => hk.imp id fun o => o.mono fun b hb => ?_) l ds _ (mapO_nth hm).1 (fun i d hd => ?_) h1
        · obtain ⟨a, k1, k2⟩ := (mapO_nth hm).2 i d hd
          exact ⟨a, k1, k2, mem_of_nth k1⟩
        · simp only [idsF, List.mem_flatMap]; exact ⟨a, hp.2, hb⟩
    | fn f l1 l2 =>
      simp only [freezeV] at hf
      have hl0 : (∀ a ∈ l1, leafOK p h n a = true) ∧ ∀ a ∈ l2, leafOK p h n a = true := by simpa only [leafOK, Bool.and_eq_true, List.all_eq_true] using hLf
      have hl' : ∀ a, a ∈ l1 ∨ a ∈ l2 → leafOK p h n a = true := fun a ha => ha.elim (hl0.1 a) (hl0.2 a)
      simp only [ARel] at q
      cases hm1 : mapO (freezeV h n) l1 with
      | none => simp [hm1] at hf
      | some ds1 =>
        cases hm2 : mapO (freezeV h n) l2 with
        | none => simp [hm1, hm2] at hf
        | some ds2 =>
          simp [hm1, hm2] at hf; subst hf
          obtain ⟨y, z, rfl, h1, h2⟩ := q
          simp only [DRel]
          refine ⟨y, z, rfl, ?_, ?_⟩
          · refine AVals.of_frozen (P := fun a d => freezeV h n a = some d ∧ a ∈ l1) (fun a d y hp hy => (ih a d y (hl' a (.inl hp.2)) hp.1 hy).wider fun k hk => hk.imp id fun o => o.mono fun b hb => ?_) l1 ds1 _ (mapO_nth hm1).1 (fun i d hd => ?_) h1
            · obtain ⟨a, k1, k2⟩ := (mapO_nth hm1).2 i d hd
              exact ⟨a, k1, k2, mem_of_nth k1⟩
            · simp only [idsF, List.mem_append, List.mem_flatMap]; exact .inl ⟨a, hp.2, hb⟩
          · refine AVals.of_frozen (P := fun a d => freezeV h n a = some d ∧ a ∈ l2) (fun a d y hp hy => (ih a d y (hl' a (.inr hp.2)) hp.1 hy).wider fun k hk => hk.imp id fun o => o.mono fun b hb => ?_) l2 ds2 _ (mapO_nth hm2).1 (fun i d hd => ?_) h2
            · obtain ⟨a, k1, k2⟩ := (mapO_nth hm2).2 i d hd
              exact ⟨a, k1, k2, mem_of_nth k1⟩
            · simp only [idsF, List.mem_append, List.mem_flatMap]; exact .inr ⟨a, hp.2, hb⟩

theorem leafOK_true {h : List Blk} : ∀ (n : Nat) (v : AV), leafOK (fun _ => true) h n v = true := by
  intro n
  induction n with
  | zero => intro v; cases v <;> rfl
  | succ n ih =>
    have hd : ∀ cs : List DV, (cs.all fun _ => true) = true := fun cs => List.all_eq_true.2 fun _ _ => rfl
    have ha : ∀ cs : List AV, (cs.all (leafOK (fun _ => true) h n)) = true := fun cs => List.all_eq_true.2 fun a _ => ih a
    intro v
    cases v <;> simp only [leafOK, ha, Bool.and_true]
    all_goals (split <;> simp only [hd, ha])

/-- A value that is frozen: what it reads as, over the data and the blocks that it names. -/
theorem freeze_rel (hi : HInv w σ h) (n : Nat) (v : AV) (d : DV) (x : Value) (hf : freezeV h n v = some d) (q : ARel w σ h v x) : DRel w (fun k => σ.G k ∨ Of σ h (idsF h n v) k) d x :=
  freeze_relG hi (p := fun _ => true) (fun _ _ _ q => q) n v d x (leafOK_true n v) hf q

theorem flatN_rel {G G' : Nat → Prop} : ∀ (n : Nat) (d : DV) (v : Value), flatN n d = true → DRel w G d v → DRel w G' d v := by
  have base : ∀ (d : DV) (v : Value), flatN 0 d = true → DRel w G d v → DRel w G' d v := by
    intro d v hf q
    cases d <;> simp [flatN] at hf <;> simp only [DRel] at q ⊢ <;> try exact q
    subst hf
    simp only [cond_true] at q ⊢
    exact q
  intro n
  induction n with
  | zero => exact base
  | succ n ih =>
    intro d v hf q
    have many : ∀ ds : List DV, ds.all (flatN n) = true → ∀ vs, DVals w G ds vs → DVals w G' ds vs := by
      intro ds
      induction ds with
      | nil => intro _ vs q; simp only [DVals] at q ⊢; exact q
      | cons d ds ihd =>
        intro hf vs q
        simp only [List.all_cons, Bool.and_eq_true] at hf
        simp only [DVals] at q ⊢
        obtain ⟨v, r, e, q1, q2⟩ := q
        exact ⟨v, r, e, ih d v hf.1 q1, ihd hf.2 r q2⟩
    cases d with
    | agg cs =>
      simp only [DRel] at q ⊢
      obtain ⟨vs, e, q1, q2⟩ := q
      exact ⟨vs, e, many cs (by simpa only [flatN] using hf) _ q1, q2⟩
    | tup ds =>
      simp only [DRel] at q ⊢
      obtain ⟨vs, e, q1⟩ := q
      exact ⟨vs, e, many ds (by simpa only [flatN] using hf) _ q1⟩
    | _ => exact base _ v hf q

theorem flat_rel {G G' : Nat → Prop} {d : DV} (hf : flatD d = true) {v : Value} (q : DRel w G d v) : DRel w G' d v := flatN_rel 2 d v hf q

/-- What a function answers, as data: what lies in memory of the caller's is there only where the function is none of those that answer in new memory. -/
theorem freezeP_rel (hi : HInv w σ h) {f : Nat} {v : AV} {d : DV} {x : Value} (hf : freezeP f h v = some d) (q : ARel w σ h v x) : DRel w (fun k => (freshF f = false ∧ σ.G k) ∨ Of σ h (idsF h 4 v) k) d x := by
  unfold freezeP at hf
  cases c : freshF f with
  | false =>
    rw [c] at hf
    exact (freeze_rel hi 4 v d x hf q).wider fun k hk => hk.imp (fun hk => ⟨rfl, hk⟩) id
  | true =>
    rw [c] at hf
    obtain ⟨hl, hf⟩ : leafOK flatD h 4 v = true ∧ freezeV h 4 v = some d := by
      cases l : leafOK flatD h 4 v with
      | true => rw [l] at hf; exact ⟨rfl, hf⟩
      | false => rw [l] at hf; cases hf
    exact (freeze_relG hi (Gd := fun _ => False) (fun d x hd q => flat_rel hd q) 4 v d x hl hf q).wider fun k hk => hk.imp (fun hk => hk.elim) id
end
end Go.AE

/- The table of types is the program's: a check by computation, and what it gives. -/
namespace Go.AE
open Go

def isLit (d : DV) (v : Value) : Bool :=
  match d, v with
  | .bool a, .bool b => a == b
  | .int j a, .int k b => decide (j = k) && decide (a = b)
  | .str a, .string b => decide (a = b)
  | .sl [] 0 _ _ true, .slice none 0 0 => true
  | .nilp, .pointer none => true
  | .nilf, .nilFunc => true
  | .nilm, .map none => true
  | .nili, .nilIface => true
  | _, _ => false

theorem isLit_sound {w : World} {G : Nat → Prop} {d : DV} {v : Value} (h : isLit d v = true) : DRel w G d v ∧ v.oneCell' = true := by
  unfold isLit at h
  split at h <;> first
    | (simp only [Bool.false_eq_true] at h; done)
    | (simp at h; subst h; simp [DRel, Value.oneCell'])
    | (simp at h; obtain ⟨rfl, rfl⟩ := h; simp [DRel, Value.oneCell'])
    | (simp [DRel, Value.oneCell', cond])

def litL : List DV → List Value → Bool
  | [], [] => true
  | d :: ds, v :: vs => isLit d v && litL ds vs
  | _, _ => false

theorem litL_sound : ∀ {ds : List DV} {vs : List Value}, litL ds vs = true → ds.length = vs.length ∧ ∀ i d, nth ds i = some d → ∃ x, nth vs i = some x ∧ isLit d x = true
  | [], [], _ => by simp [nth]
  | [], _ :: _, h => by simp [litL] at h
  | _ :: _, [], h => by simp [litL] at h
  | d :: ds, v :: vs, h => by
    simp only [litL, Bool.and_eq_true] at h
    obtain ⟨k1, k2⟩ := litL_sound h.2
    refine ⟨by simp [k1], fun i e he => ?_⟩
    cases i with
    | zero => simp [nth] at he ⊢; subst he; exact h.1
    | succ i => simp only [nth] at he ⊢; exact k2 i e he

def tagOK (P : Program) (t : TypeId) : Tag → Bool
  | .bool => match P.underlying t with | some .bool => true | _ => false
  | .int k => match P.underlying t with | some (.int j) => decide (j = k) | _ => false
  | .str => match P.underlying t with | some .string => true | _ => false
  | .slice e => match P.underlying t with | some (.slice f) => decide (f = e) | _ => false
  | .array n e => match P.underlying t with | some (.array m f) => decide (m = n) && decide (f = e) | _ => false
  | .struct fs => match P.underlying t with | some (.struct F) => decide (F.toList.map (fun f => (f.offset, f.type)) = fs) | _ => false
  | .ptr e => match P.underlying t with | some (.pointer f) => decide (f = e) | _ => false
  | .map k e => match P.underlying t with | some (.map j f) => decide (j = k) && decide (f = e) | _ => false
  | .other => match P.underlying t with | some d => !d.isRow | none => false

def tiOK (P : Program) (t : TypeId) (ti : TI) : Bool :=
  match P.info? t with
  | some i => decide (i.size = ti.size) && decide (i.bytes = ti.bytes) && tagOK P t ti.tag &&
      (match ti.zero with
      | [] => true
      | _ => match i.zero with | some z => litL ti.zero z.cells.toList && decide (ti.zero.length = ti.size) | none => false) &&
      (match ti.tag with | .other => true | _ => decide (ti.zero.length = ti.size) && (match i.zero with | some z => decide (z.cells.size = ti.size) | none => false))
  | none => false

/-- Whether the zero of a scalar type is no aggregate. -/
def oneOK (P : Program) (t : TypeId) (ti : TI) : Bool :=
  !ti.plain || (match P.info? t with
  | some i => match i.zero with
    | some (.agg _) => false
    | _ => true
  | none => true)

def tableOK (P : Program) (T : Tab TI) : Bool := T.all (tiOK P) && T.all (oneOK P)

theorem Tab.get_all {α : Type} {p : Nat → α → Bool} : ∀ {T : Tab α}, T.all p = true → ∀ t v, tget T t = some v → p t v = true
  | .leaf, _, t, v, h => by simp [tget] at h
  | .node k x l r, ha, t, v, h => by
    simp only [Tab.all, Bool.and_eq_true] at ha
    simp only [tget] at h
    cases e : Nat.beq t k with
    | true => rw [e] at h; cases h; rw [Nat.eq_of_beq_eq_true e]; exact ha.1
    | false =>
      rw [e] at h
      cases e2 : Nat.blt t k with
      | true => rw [e2] at h; exact Tab.get_all ha.2.1 t v h
      | false => rw [e2] at h; exact Tab.get_all ha.2.2 t v h

theorem Tab.get_All {α : Type} {p : Nat → α → Prop} : ∀ {T : Tab α}, T.All p → ∀ t v, tget T t = some v → p t v
  | .leaf, _, t, v, h => by simp [tget] at h
  | .node k x l r, ha, t, v, h => by
    simp only [Tab.All] at ha
    simp only [tget] at h
    cases e : Nat.beq t k with
    | true => rw [e] at h; cases h; rw [Nat.eq_of_beq_eq_true e]; exact ha.1
    | false =>
      rw [e] at h
      cases e2 : Nat.blt t k with
      | true => rw [e2] at h; exact Tab.get_All ha.2.1 t v h
      | false => rw [e2] at h; exact Tab.get_All ha.2.2 t v h

structure TOK (P : Program) (T : Tab TI) : Prop where
  ok : ∀ t ti, tget T t = some ti → tiOK P t ti = true
  one : ∀ t ti, tget T t = some ti → oneOK P t ti = true

theorem TOK.of_check {P : Program} {T : Tab TI} (h : tableOK P T = true) : TOK P T := by
  simp only [tableOK, Bool.and_eq_true] at h
  exact ⟨fun t ti ht => Tab.get_all h.1 t ti ht, fun t ti ht => Tab.get_all h.2 t ti ht⟩

section
variable {P : Program} {T : Tab TI}

theorem TOK.info (hT : TOK P T) {t : Nat} {ti : TI} (ht : tget T t = some ti) : ∃ i, P.info? t = some i ∧ i.size = ti.size ∧ i.bytes = ti.bytes := by
  have := hT.ok t ti ht
  unfold tiOK at this
  split at this
  · rename_i i hi
    simp only [Bool.and_eq_true, decide_eq_true_eq] at this
    exact ⟨i, hi, this.1.1.1.1, this.1.1.1.2⟩
  · cases this

theorem TOK.tag (hT : TOK P T) {t : Nat} {ti : TI} (ht : tget T t = some ti) : tagOK P t ti.tag = true := by
  have := hT.ok t ti ht
  unfold tiOK at this
  split at this
  · simp only [Bool.and_eq_true] at this; exact this.1.1.2
  · cases this

theorem TOK.slice (hT : TOK P T) {t e : Nat} {ti : TI} (ht : tget T t = some ti) (hg : ti.tag = .slice e) : P.underlying t = some (.slice e) := by
  have := hT.tag ht
  rw [hg] at this; simp only [tagOK] at this
  split at this
  · rename_i f hf; simp at this; subst this; exact hf
  · cases this

theorem TOK.array (hT : TOK P T) {t n e : Nat} {ti : TI} (ht : tget T t = some ti) (hg : ti.tag = .array n e) : P.underlying t = some (.array n e) := by
  have := hT.tag ht
  rw [hg] at this; simp only [tagOK] at this
  split at this
  · rename_i m f hf; simp at this; obtain ⟨rfl, rfl⟩ := this; exact hf
  · cases this

theorem TOK.struct (hT : TOK P T) {t : Nat} {fs : List (Nat × Nat)} {ti : TI} (ht : tget T t = some ti) (hg : ti.tag = .struct fs) :
    ∃ F : Array Field, P.underlying t = some (.struct F) ∧ F.toList.map (fun f => (f.offset, f.type)) = fs := by
  have := hT.tag ht
  rw [hg] at this; simp only [tagOK] at this
  split at this
  · rename_i F hf; simp at this; exact ⟨F, hf, this⟩
  · cases this

theorem TOK.int (hT : TOK P T) {t : Nat} {k : IntKind} {ti : TI} (ht : tget T t = some ti) (hg : ti.tag = .int k) : P.underlying t = some (.int k) := by
  have := hT.tag ht
  rw [hg] at this; simp only [tagOK] at this
  split at this
  · rename_i f hf; simp at this; subst this; exact hf
  · cases this

theorem TOK.str (hT : TOK P T) {t : Nat} {ti : TI} (ht : tget T t = some ti) (hg : ti.tag = .str) : P.underlying t = some .string := by
  have := hT.tag ht
  rw [hg] at this; simp only [tagOK] at this
  split at this
  · rename_i hf; exact hf
  · cases this

theorem TOK.zeroOne (hT : TOK P T) {t : Nat} {ti : TI} {i : TypeInfo} {z : Value} (ht : tget T t = some ti) (hp : ti.plain = true) (hi : P.info? t = some i) (hz : i.zero = some z) : z.cells.toList = [z] := by
  have := hT.one t ti ht
  unfold oneOK at this
  rw [hp, hi] at this
  simp only [hz] at this
  cases z <;> first | rfl | (simp at this; done)

theorem TOK.map (hT : TOK P T) {t k e : Nat} {ti : TI} (ht : tget T t = some ti) (hg : ti.tag = .map k e) : P.underlying t = some (.map k e) := by
  have := hT.tag ht
  rw [hg] at this; simp only [tagOK] at this
  split at this
  · rename_i m f hf; simp at this; obtain ⟨rfl, rfl⟩ := this; exact hf
  · cases this

/-- A type that is an aggregate by the table, or is none, is one, or none. -/
theorem TOK.row (hT : TOK P T) {t : Nat} {ti : TI} (ht : tget T t = some ti) : ∃ d, P.underlying t = some d ∧ d.isRow = ti.agg := by
  have := hT.tag ht
  unfold TI.agg
  cases hg : ti.tag with
  | bool => rw [hg] at this; simp only [tagOK] at this; split at this <;> first | (rename_i hf; exact ⟨_, hf, rfl⟩) | cases this
  | int k => exact ⟨_, hT.int ht hg, rfl⟩
  | str => exact ⟨_, hT.str ht hg, rfl⟩
  | slice e => exact ⟨_, hT.slice ht hg, rfl⟩
  | array n e => exact ⟨_, hT.array ht hg, rfl⟩
  | struct fs => obtain ⟨F, hF, _⟩ := hT.struct ht hg; exact ⟨_, hF, rfl⟩
  | ptr e => rw [hg] at this; simp only [tagOK] at this; split at this <;> first | (rename_i hf; exact ⟨_, hf, rfl⟩) | cases this
  | map k e => exact ⟨_, hT.map ht hg, rfl⟩
  | other =>
    rw [hg] at this; simp only [tagOK] at this
    split at this
    · rename_i d hd; exact ⟨d, hd, by simpa using this⟩
    · cases this

theorem TOK.zero (hT : TOK P T) {t : Nat} {ti : TI} (ht : tget T t = some ti) (hne : ti.zero.length = ti.size) (h0 : ti.tag ≠ .other ∨ ti.zero ≠ []) :
    ∃ i z, P.info? t = some i ∧ i.zero = some z ∧ z.cells.size = ti.size ∧ litL ti.zero z.cells.toList = true := by
  have := hT.ok t ti ht
  unfold tiOK at this
  split at this
  · rename_i i hi
    simp only [Bool.and_eq_true, decide_eq_true_eq] at this
    obtain ⟨⟨⟨⟨h1, h2⟩, h3⟩, h4⟩, h5⟩ := this
    cases hz : i.zero with
    | none =>
      rw [hz] at h4 h5
      rcases h0 with h0 | h0
      · split at h5
        · rename_i hg; exact absurd hg h0
        · simp at h5
      · split at h4
        · rename_i hg; exact absurd hg h0
        · simp at h4
    | some z =>
      refine ⟨i, z, hi, hz, ?_⟩
      rw [hz] at h4 h5
      cases hzz : ti.zero with
      | nil =>
        have hs : ti.size = 0 := by rw [hzz] at hne; simpa using hne.symm
        rcases h0 with h0 | h0
        · split at h5
          · rename_i hg; exact absurd hg h0
          · simp at h5
            have hcs : z.cells.size = 0 := by omega
            refine ⟨by omega, ?_⟩
            have : z.cells.toList = [] := by rw [← List.length_eq_zero_iff]; simpa using hcs
            rw [this]; rfl
        · exact absurd hzz h0
      | cons a b =>
        rw [hzz] at h4
        simp only [Bool.and_eq_true] at h4
        refine ⟨?_, h4.1⟩
        have := (litL_sound h4.1).1
        rw [hzz] at hne
        rw [← hne, this]; simp
  · cases this
end
end Go.AE

/- Reading: laying open, loading variables, from data and from own blocks. -/
namespace Go.AE
open Go

section
variable {P : Program} {T : Tab TI} {w : World} {σ : Sg} {h : List Blk} {G : Nat → Prop} {R : Type} {r : R}

theorem reveal_sound {t : Nat} {d : DV} {K : DV → Option R} (hK : reveal T t d K = some r) : K d = some r := by
  unfold reveal at hK
  split at hK
  · exact hK
  · split at hK
    · split at hK
      · rename_i k' n
        cases hb : decide (k' = _) with
        | false => rw [hb] at hK; simp [cond] at hK
        | true =>
          rw [hb] at hK; simp only [cond] at hK
          have := of_decide_eq_true hb; subst this; exact hK
      · cases hK
    · split at hK
      · exact hK
      · cases hK
    · split at hK
      · exact hK
      · cases hK
    · exact hK

theorem revealW_sound {t : Nat} {d : DV} {K : DV → Option R} (hK : revealW T t d K = some r) : ∃ d', K d' = some r ∧ ∀ w G v, DRel w G d v → DRel w G d' v := by
  unfold revealW at hK
  split at hK
  · exact ⟨d, hK, fun _ _ _ h => h⟩
  · split at hK
    · split at hK
      · cases hK
      · rename_i te hte
        split at hK
        · rename_i cs n s cl nl
          cases hb : (nl || Nat.beq s te.size) with
          | false => rw [hb] at hK; simp [cond] at hK
          | true =>
            rw [hb] at hK; simp only [cond] at hK
            refine ⟨_, hK, fun w G v q => ?_⟩
            simp only [DRel] at q ⊢
            obtain ⟨q1, q2⟩ := q
            cases nl with
            | true =>
              simp only [cond] at q2 ⊢
              obtain ⟨rfl, q3⟩ := q2
              exact ⟨by simpa using q1, rfl, q3⟩
            | false =>
              simp only [cond] at q2 ⊢
              have hs : s = te.size := Nat.eq_of_beq_eq_true (by simpa using hb)
              obtain ⟨b, off, cap, sp, e, k1, k2, k3⟩ := q2
              exact ⟨by rw [← hs]; exact q1, b, off, cap, sp, e, k1, by simp, k3⟩
        · cases hK
    · exact ⟨d, reveal_sound hK, fun _ _ _ h => h⟩

theorem revealL_sound : ∀ {ts : List Nat} {ds : List DV} {K : List DV → Option R}, revealL T ts ds K = some r →
    ∃ ds', K ds' = some r ∧ ∀ w G vs, DVals w G ds vs → DVals w G ds' vs
  | [], [], K, hK => ⟨[], hK, fun _ _ _ h => h⟩
  | [], _ :: _, _, hK => by simp [revealL] at hK
  | _ :: _, [], _, hK => by simp [revealL] at hK
  | t :: ts, d :: ds, K, hK => by
    simp only [revealL] at hK
    obtain ⟨d', h1, h2⟩ := revealW_sound hK
    obtain ⟨ds', h3, h4⟩ := revealL_sound h1
    refine ⟨d' :: ds', h3, fun w G vs q => ?_⟩
    simp only [DVals] at q ⊢
    obtain ⟨v, rr, e, q1, q2⟩ := q
    exact ⟨v, rr, e, h2 w G v q1, h4 w G rr q2⟩

theorem takeN_some {α : Type} : ∀ {n : Nat} {l l' : List α}, takeN n l = some l' → l'.length = n ∧ ∀ i x, nth l' i = some x → nth l i = some x
  | 0, l, l', h => by simp [takeN] at h; subst h; simp [nth]
  | n + 1, [], _, h => by simp [takeN] at h
  | n + 1, x :: l, l', h => by
    simp only [takeN, Option.map_eq_some_iff] at h
    obtain ⟨l1, h1, rfl⟩ := h
    obtain ⟨k1, k2⟩ := takeN_some h1
    refine ⟨by simp [k1], fun i y hy => ?_⟩
    cases i with
    | zero => simpa [nth] using hy
    | succ i => simp only [nth] at hy ⊢; exact k2 i y hy

theorem nth_drop {α : Type} : ∀ (l : List α) (n i : Nat), nth (l.drop n) i = nth l (n + i)
  | l, n, i => by rw [nth_eq, nth_eq, List.getElem?_drop]

theorem DVals.get : ∀ {ds : List DV} {vs : List Value}, DVals w G ds vs → ds.length = vs.length ∧ ∀ i d, nth ds i = some d → ∃ x, nth vs i = some x ∧ DRel w G d x
  | [], vs, h => by simp [DVals] at h; subst h; simp [nth]
  | d :: ds, vs, h => by
    simp only [DVals] at h
    obtain ⟨v, rr, rfl, h1, h2⟩ := h
    obtain ⟨k1, k2⟩ := DVals.get h2
    refine ⟨by simp [k1], fun i e he => ?_⟩
    cases i with
    | zero => simp [nth] at he ⊢; subst he; exact h1
    | succ i => simp only [nth] at he ⊢; exact k2 i e he

theorem DVals.of_nth : ∀ {ds : List DV} {vs : List Value}, ds.length = vs.length → (∀ i d, nth ds i = some d → ∃ x, nth vs i = some x ∧ DRel w G d x) → DVals w G ds vs
  | [], [], _, _ => by simp [DVals]
  | [], _ :: _, e, _ => by simp at e
  | _ :: _, [], e, _ => by simp at e
  | d :: ds, v :: vs, e, q => by
    simp only [DVals]
    obtain ⟨x, h1, h2⟩ := q 0 d rfl
    simp [nth] at h1; subst h1
    refine ⟨v, vs, rfl, h2, DVals.of_nth (by simpa using e) fun i d' hd => ?_⟩
    obtain ⟨x, k1, k2⟩ := q (i + 1) d' (by simpa [nth] using hd)
    exact ⟨x, by simpa [nth] using k1, k2⟩

theorem AVals.get : ∀ {ds : List AV} {vs : List Value}, AVals w σ h ds vs → ds.length = vs.length ∧ ∀ i d, nth ds i = some d → ∃ x, nth vs i = some x ∧ ARel w σ h d x
  | [], vs, q => by simp [AVals] at q; subst q; simp [nth]
  | d :: ds, vs, q => by
    simp only [AVals] at q
    obtain ⟨v, rr, rfl, h1, h2⟩ := q
    obtain ⟨k1, k2⟩ := AVals.get h2
    refine ⟨by simp [k1], fun i e he => ?_⟩
    cases i with
    | zero => simp [nth] at he ⊢; subst he; exact h1
    | succ i => simp only [nth] at he ⊢; exact k2 i e he

theorem AVals.of_nth : ∀ {ds : List AV} {vs : List Value}, ds.length = vs.length → (∀ i d, nth ds i = some d → ∃ x, nth vs i = some x ∧ ARel w σ h d x) → AVals w σ h ds vs
  | [], [], _, _ => by simp [AVals]
  | [], _ :: _, e, _ => by simp at e
  | _ :: _, [], e, _ => by simp at e
  | d :: ds, v :: vs, e, q => by
    simp only [AVals]
    obtain ⟨x, h1, h2⟩ := q 0 d rfl
    simp [nth] at h1; subst h1
    refine ⟨v, vs, rfl, h2, AVals.of_nth (by simpa using e) fun i d' hd => ?_⟩
    obtain ⟨x, k1, k2⟩ := q (i + 1) d' (by simpa [nth] using hd)
    exact ⟨x, by simpa [nth] using k1, k2⟩

theorem AVals.of_D : ∀ {l : List AV} {ds : List DV} {vs : List Value}, allD l = some ds → AVals w σ h l vs → DVals w σ.G ds vs
  | [], ds, vs, e, q => by simp [allD] at e; subst e; simpa [AVals, DVals] using q
  | a :: l, ds, vs, e, q => by
    cases a with
    | d x =>
      simp only [allD, Option.map_eq_some_iff] at e
      obtain ⟨ds', e1, rfl⟩ := e
      simp only [AVals] at q
      obtain ⟨v, rr, rfl, h1, h2⟩ := q
      simp only [DVals]
      exact ⟨v, rr, rfl, by simpa [ARel] using h1, AVals.of_D e1 h2⟩
    | _ => simp [allD] at e

theorem AVals.to_D : ∀ {ds : List DV} {vs : List Value}, DVals w σ.G ds vs → AVals w σ h (ds.map .d) vs
  | [], vs, q => by simpa [AVals, DVals] using q
  | d :: ds, vs, q => by
    simp only [DVals] at q
    obtain ⟨v, rr, rfl, h1, h2⟩ := q
    simp only [List.map_cons, AVals]
    exact ⟨v, rr, rfl, by simpa [ARel] using h1, AVals.to_D h2⟩

theorem ARel.mkAgg {l : List AV} {vs : List Value} (q : AVals w σ h l vs) (h1 : ∀ x ∈ vs, x.oneCell' = true) : ARel w σ h (mkAgg l) (.agg vs.toArray) := by
  unfold Go.AE.mkAgg
  split
  · rename_i ds e
    simp only [ARel, DRel]
    exact ⟨vs.toArray, rfl, by simpa using AVals.of_D e q, by simpa using h1⟩
  · simp only [ARel]
    exact ⟨vs.toArray, rfl, by simpa using q, by simpa using h1⟩

theorem ARel.mkTup {l : List AV} {vs : List Value} (q : AVals w σ h l vs) : ARel w σ h (mkTup l) (.tuple vs.toArray) := by
  unfold Go.AE.mkTup
  split
  · rename_i ds e
    simp only [ARel, DRel]
    exact ⟨vs.toArray, rfl, by simpa using AVals.of_D e q⟩
  · simp only [ARel]
    exact ⟨vs.toArray, rfl, by simpa using q⟩

theorem DCells.get : ∀ {ds : List DV} {b o : Nat}, DCells w G ds b o → ∀ i d, nth ds i = some d → G b ∧ ∃ x, w.cell? ⟨b, o + i, none⟩ = some x ∧ x.oneCell' = true ∧ DRel w G d x
  | [], _, _, _, i, d, hd => by simp [nth] at hd
  | e :: ds, b, o, q, i, d, hd => by
    simp only [DCells] at q
    obtain ⟨h1, ⟨x, h2, h3, h4⟩, h5⟩ := q
    cases i with
    | zero => simp [nth] at hd; subst hd; exact ⟨h1, x, by simpa using h2, h3, h4⟩
    | succ i =>
      simp only [nth] at hd
      obtain ⟨k1, y, k2, k3⟩ := DCells.get h5 i d hd
      exact ⟨k1, y, by rw [show o + (i + 1) = o + 1 + i by omega]; exact k2, k3⟩

/-- Cells one behind the other, read. -/
theorem collectD {b : Nat} : ∀ (l : List DV) (o : Nat), (∀ i d, nth l i = some d → ∃ x, w.cell? ⟨b, o + i, none⟩ = some x ∧ x.oneCell' = true ∧ DRel w G d x) →
    ∃ vs : List Value, vs.length = l.length ∧ w.rangeAt b o vs ∧ DVals w G l vs ∧ ∀ x ∈ vs, x.oneCell' = true
  | [], o, _ => ⟨[], rfl, by intro j v hv; simp at hv, by simp [DVals], by simp⟩
  | d :: l, o, q => by
    obtain ⟨x, h1, h2, h3⟩ := q 0 d rfl
    obtain ⟨vs, k1, k2, k3, k4⟩ := collectD l (o + 1) fun i e he => by
      obtain ⟨y, g1, g2⟩ := q (i + 1) e (by simpa [nth] using he)
      exact ⟨y, by rw [show o + 1 + i = o + (i + 1) by omega]; exact g1, g2⟩
    refine ⟨x :: vs, by simp [k1], ?_, ?_, ?_⟩
    · intro j v hv
      cases j with
      | zero => simp at hv; subst hv; simpa using h1
      | succ j => simp at hv; have := k2 j v hv; rw [show o + (j + 1) = o + 1 + j by omega]; exact this
    · simp only [DVals]; exact ⟨x, vs, rfl, h3, k3⟩
    · intro y hy; simp at hy; rcases hy with rfl | hy
      · exact h2
      · exact k4 y hy

theorem collectA {b : Nat} : ∀ (l : List AV) (o : Nat), (∀ i d, nth l i = some d → ∃ x, w.cell? ⟨b, o + i, none⟩ = some x ∧ x.oneCell' = true ∧ ARel w σ h d x) →
    ∃ vs : List Value, vs.length = l.length ∧ w.rangeAt b o vs ∧ AVals w σ h l vs ∧ ∀ x ∈ vs, x.oneCell' = true
  | [], o, _ => ⟨[], rfl, by intro j v hv; simp at hv, by simp [AVals], by simp⟩
  | d :: l, o, q => by
    obtain ⟨x, h1, h2, h3⟩ := q 0 d rfl
    obtain ⟨vs, k1, k2, k3, k4⟩ := collectA l (o + 1) fun i e he => by
      obtain ⟨y, g1, g2⟩ := q (i + 1) e (by simpa [nth] using he)
      exact ⟨y, by rw [show o + 1 + i = o + (i + 1) by omega]; exact g1, g2⟩
    refine ⟨x :: vs, by simp [k1], ?_, ?_, ?_⟩
    · intro j v hv
      cases j with
      | zero => simp at hv; subst hv; simpa using h1
      | succ j => simp at hv; have := k2 j v hv; rw [show o + (j + 1) = o + 1 + j by omega]; exact this
    · simp only [AVals]; exact ⟨x, vs, rfl, h3, k3⟩
    · intro y hy; simp at hy; rcases hy with rfl | hy
      · exact h2
      · exact k4 y hy

theorem readL_sound : ∀ {leaf : List Nat} {cs : List DV} {off : Nat} {K : List DV → Option R}, readL T leaf cs off K = some r →
    ∃ l, K l = some r ∧ l.length = leaf.length ∧ ∀ i d, nth l i = some d → nth cs (off + i) = some d
  | [], cs, off, K, hK => ⟨[], hK, rfl, by simp [nth]⟩
  | t :: ts, cs, off, K, hK => by
    simp only [readL, Option.bind_eq_some_iff] at hK
    obtain ⟨d, h1, h2⟩ := hK
    obtain ⟨l, k1, k2, k3⟩ := readL_sound (reveal_sound h2)
    refine ⟨d :: l, k1, by simp [k2], fun i e he => ?_⟩
    cases i with
    | zero => simp [nth] at he; subst he; simpa using h1
    | succ i =>
      simp only [nth] at he
      have := k3 i e he
      rw [show off + (i + 1) = off + 1 + i by omega]; exact this

/-- A variable that is no aggregate: one cell. -/
theorem run_loadVar_one {t : TypeId} {d : TypeDesc} {a : Addr} {x : Value} (hu : P.underlying t = some d) (hd : d.isRow = false) (hc : w.cell? a = some x) : (loadVar t a).run P w = .ok x w := by
  have hagg : (isAgg t).run P w = .ok false w := by
    unfold isAgg
    rw [Sem.run_bind, run_underlying hu w]
    cases d <;> simp_all [TypeDesc.isRow]
  simp [loadVar, hagg, hc]

theorem readD_sound (hT : TOK P T) {t : Nat} {ti : TI} (ht : tget T t = some ti) {cs : List DV} {off b o : Nat} {K : DV → Option R} (hK : readD T t ti cs off K = some r)
    (hcs : ∀ i d, nth cs i = some d → ∃ x, w.cell? ⟨b, o + i, none⟩ = some x ∧ x.oneCell' = true ∧ DRel w G d x) :
    ∃ d, K d = some r ∧ ∃ x, (loadVar t ⟨b, o + off, none⟩).run P w = .ok x w ∧ DRel w G d x := by
  obtain ⟨de, hu, hrow⟩ := hT.row ht
  obtain ⟨i0, hi0, hsz, _⟩ := hT.info ht
  unfold readD at hK
  cases hagg : ti.agg with
  | false =>
    rw [hagg] at hK hrow
    simp only [cond, Option.bind_eq_some_iff] at hK
    obtain ⟨d, h1, h2⟩ := hK
    obtain ⟨x, k1, k2, k3⟩ := hcs off d h1
    exact ⟨d, reveal_sound h2, x, run_loadVar_one hu hrow k1, k3⟩
  | true =>
    rw [hagg] at hK hrow
    simp only [cond] at hK
    have fin : ∀ l : List DV, l.length = ti.size → (∀ i d, nth l i = some d → nth cs (off + i) = some d) → K (.agg l) = some r →
        ∃ d, K d = some r ∧ ∃ x, (loadVar t ⟨b, o + off, none⟩).run P w = .ok x w ∧ DRel w G d x := by
      intro l hl hn hKl
      obtain ⟨vs, k1, k2, k3, k4⟩ := collectD (w := w) (G := G) (b := b) l (o + off) fun i d hd => by
        obtain ⟨x, g1, g2⟩ := hcs (off + i) d (hn i d hd)
        exact ⟨x, by rw [show o + off + i = o + (off + i) by omega]; exact g1, g2⟩
      refine ⟨.agg l, hKl, .agg vs.toArray, ?_, ?_⟩
      · exact run_loadVar_mid w b (o + off) t vs de k2 hu hrow (by rw [hi0]; simp [hsz, k1, hl])
      · simp only [DRel]; exact ⟨vs.toArray, rfl, by simpa using k3, by simpa using k4⟩
    cases hb : (Nat.ble ti.size 6 && Nat.beq (leaves T 4 t).length ti.size) with
    | true =>
      rw [hb] at hK; simp only at hK
      obtain ⟨l, h1, h2, h3⟩ := readL_sound hK
      simp only [Bool.and_eq_true] at hb
      have hlen := Nat.eq_of_beq_eq_true hb.2
      exact fin l (by omega) h3 h1
    | false =>
      rw [hb] at hK; simp only [Option.bind_eq_some_iff] at hK
      obtain ⟨l, h1, h2⟩ := hK
      obtain ⟨k1, k2⟩ := takeN_some h1
      exact fin l k1 (fun i d hd => by have := k2 i d hd; rwa [nth_drop] at this) h2

theorem readA_sound (hT : TOK P T) {t : Nat} {ti : TI} (ht : tget T t = some ti) {cs : List AV} {off b : Nat} {K : AV → Option R} (hK : readA ti cs off K = some r)
    (hcs : ∀ i d, nth cs i = some d → ∃ x, w.cell? ⟨b, i, none⟩ = some x ∧ x.oneCell' = true ∧ ARel w σ h d x) :
    ∃ d, K d = some r ∧ ∃ x, (loadVar t ⟨b, off, none⟩).run P w = .ok x w ∧ ARel w σ h d x := by
  obtain ⟨de, hu, hrow⟩ := hT.row ht
  obtain ⟨i0, hi0, hsz, _⟩ := hT.info ht
  unfold readA at hK
  cases hagg : ti.agg with
  | false =>
    rw [hagg] at hK hrow
    simp only [cond, Option.bind_eq_some_iff] at hK
    obtain ⟨d, h1, h2⟩ := hK
    obtain ⟨x, k1, k2, k3⟩ := hcs off d h1
    exact ⟨d, h2, x, run_loadVar_one hu hrow k1, k3⟩
  | true =>
    rw [hagg] at hK hrow
    simp only [cond, Option.bind_eq_some_iff] at hK
    obtain ⟨l, h1, h2⟩ := hK
    obtain ⟨k1, k2⟩ := takeN_some h1
    obtain ⟨vs, g1, g2, g3, g4⟩ := collectA (w := w) (σ := σ) (h := h) (b := b) l off fun i d hd => by
      have := k2 i d hd; rw [nth_drop] at this
      exact hcs (off + i) d this
    exact ⟨_, h2, .agg vs.toArray, run_loadVar_mid w b off t vs de g2 hu hrow (by rw [hi0]; simp [hsz, g1, k1]), ARel.mkAgg g3 g4⟩

/-- The cells of an own block, in the world. -/
theorem HInv.cellsD (hi : HInv w σ h) {b : Nat} {cs : List DV} (hb : nth h b = some (.dc cs)) {c : Nat × Nat} (hc : nth σ.ι b = some c) :
    ∀ i d, nth cs i = some d → ∃ x, w.cell? ⟨c.1, i, none⟩ = some x ∧ x.oneCell' = true ∧ DRel w σ.G d x := by
  intro i d hd
  have q := hi.blk b _ hb
  simp only [BRel] at q
  rcases q with q | ⟨c', C, E, h1, h2, h3, h4⟩
  · subst q; simp [nth] at hd
  · rw [hc] at h1; cases h1
    obtain ⟨x, k1, k2, k3⟩ := h4 i d hd
    exact ⟨x, by rw [cell_row h2]; exact k1, k2, k3⟩

theorem HInv.cellsA (hi : HInv w σ h) {b : Nat} {cs : List AV} (hb : nth h b = some (.ac cs)) {c : Nat × Nat} (hc : nth σ.ι b = some c) :
    ∀ i d, nth cs i = some d → ∃ x, w.cell? ⟨c.1, i, none⟩ = some x ∧ x.oneCell' = true ∧ ARel w σ h d x := by
  intro i d hd
  have q := hi.blk b _ hb
  simp only [BRel] at q
  rcases q with q | ⟨c', C, E, h1, h2, h3, h4⟩
  · subst q; simp [nth] at hd
  · rw [hc] at h1; cases h1
    obtain ⟨x, k1, k2, k3⟩ := h4 i d hd
    exact ⟨x, by rw [cell_row h2]; exact k1, k2, k3⟩

theorem loadE_sound (hT : TOK P T) (hi : HInv w σ h) {t : Nat} {a : AV} {x : Value} {K : AV → Option R} (ha : ARel w σ h a x) (hK : loadE T t h a K = some r) :
    ∃ v, K v = some r ∧ ∃ y, (Instr.loadAt t x).run P w = .ok y w ∧ ARel w σ h v y := by
  unfold loadE at hK
  split at hK
  · cases hK
  · rename_i ti ht
    split at hK
    · rename_i cs off
      simp only [ARel, DRel] at ha
      obtain ⟨b, o, rfl, hcs⟩ := ha
      have hcs' : ∀ i d, nth cs i = some d → ∃ x, w.cell? ⟨b, o + i, none⟩ = some x ∧ x.oneCell' = true ∧ DRel w σ.G d x := fun i d hd => (hcs.get i d hd).2
      cases hagg : ti.agg with
      | true =>
        rw [hagg] at hK; simp only [cond] at hK
        obtain ⟨d, h1, y, h2, h3⟩ := readD_sound hT ht hK hcs'
        exact ⟨.d d, h1, y, by simp [Instr.loadAt, Instr.sureAddr, h2], by simpa [ARel] using h3⟩
      | false =>
        rw [hagg] at hK; simp only [cond, Option.bind_eq_some_iff] at hK
        obtain ⟨d, h1, h2⟩ := hK
        obtain ⟨d', k1, k2⟩ := revealW_sound h2
        obtain ⟨de, hu, hrow⟩ := hT.row ht
        obtain ⟨y, g1, g2, g3⟩ := hcs' off d h1
        exact ⟨.d d', k1, y, by simp [Instr.loadAt, Instr.sureAddr, run_loadVar_one hu (by rw [hrow, hagg]) g1], by simpa [ARel] using k2 _ _ _ g3⟩
    · rename_i b off
      simp only [ARel] at ha
      replace ha := ha.2
      split at hK
      · rename_i cs hb
        rcases ha with ha | ⟨c, hc, rfl⟩
        · unfold isDead at ha; rw [ha] at hb; cases hb
        · obtain ⟨d, h1, y, h2, h3⟩ := readD_sound (G := σ.G) hT ht (b := c.1) (o := 0) hK (by simpa using hi.cellsD hb hc)
          exact ⟨.d d, h1, y, by simpa [Instr.loadAt, Instr.sureAddr] using h2, by simpa [ARel] using h3⟩
      · rename_i cs hb
        rcases ha with ha | ⟨c, hc, rfl⟩
        · unfold isDead at ha; rw [ha] at hb; cases hb
        · obtain ⟨d, h1, y, h2, h3⟩ := readA_sound hT ht (b := c.1) hK (hi.cellsA hb hc)
          exact ⟨d, h1, y, by simpa [Instr.loadAt, Instr.sureAddr] using h2, h3⟩
      · cases hK
    · cases hK
end
end Go.AE

/- Writing: stores into own blocks, and new variables. -/
namespace Go.AE
open Go

section
variable {P : Program} {T : Tab TI} {w : World} {σ : Sg} {h : List Blk} {G : Nat → Prop} {R : Type} {r : R}

theorem cells_one {y : Value} (h1 : y.oneCell' = true) : y.cells = #[y] := by cases y <;> simp_all [Value.cells, Value.oneCell']

theorem oneD_one {d : DV} {y : Value} (hd : oneD d = true) (q : DRel w G d y) : y.oneCell' = true := by
  cases d <;> simp only [DRel] at q <;> first
    | (subst q; rfl)
    | (simp [oneD] at hd; done)
    | skip
  case sl cs n sz cl nl =>
    obtain ⟨_, q⟩ := q
    cases nl with
    | true => simp only [cond] at q; rw [q.2]; rfl
    | false => simp only [cond] at q; obtain ⟨_, _, _, _, rfl, _⟩ := q; rfl
  case ptr cs off => obtain ⟨_, _, rfl, _⟩ := q; rfl
  case fn f a b => obtain ⟨_, _, rfl, _⟩ := q; rfl

theorem oneA_one {a : AV} {y : Value} (ha : oneA a = true) (q : ARel w σ h a y) : y.oneCell' = true := by
  cases a with
  | d x => exact oneD_one (by simpa [oneA] using ha) (by simpa [ARel] using q)
  | undef => simp [oneA] at ha
  | agg l => simp [oneA] at ha
  | tup l => simp [oneA] at ha
  | ref b off => simp only [ARel] at q; exact q.1
  | row b off n c sz ex => simp only [ARel] at q; exact q.1
  | grow b sz nn => simp only [ARel] at q; exact q.1
  | yld l => simp only [ARel] at q; exact q.1
  | mp l => simp only [ARel] at q; exact q.1
  | fn f a b => simp only [ARel] at q; obtain ⟨_, _, rfl, _⟩ := q; rfl

/-- A value's cells, one for one. -/
theorem cells_rel {v : AV} {y : Value} (q : ARel w σ h v y) (hv : (cellsA v).all oneA = true ∨ ∃ ds, v = .d (.agg ds)) :
    AVals w σ h (cellsA v) y.cells.toList ∧ ∀ x ∈ y.cells.toList, x.oneCell' = true := by
  have single : ∀ (a : AV), cellsA v = [a] → a = v → oneA v = true → AVals w σ h (cellsA v) y.cells.toList ∧ ∀ x ∈ y.cells.toList, x.oneCell' = true := by
    intro a e1 e2 e3
    have h1 := oneA_one e3 q
    rw [cells_one h1, e1, e2]
    simp only [AVals]
    exact ⟨⟨y, [], rfl, q, rfl⟩, by simpa using h1⟩
  cases v with
  | undef => rcases hv with hv | ⟨_, hv⟩ <;> simp [cellsA, oneA] at hv
  | tup l => rcases hv with hv | ⟨_, hv⟩ <;> simp [cellsA, oneA] at hv
  | agg l =>
    simp only [ARel] at q
    obtain ⟨vs, rfl, h1, h2⟩ := q
    exact ⟨by simpa [cellsA, Value.cells] using h1, by simpa [Value.cells] using h2⟩
  | d x =>
    cases x with
    | agg ds =>
      simp only [ARel, DRel] at q
      obtain ⟨vs, rfl, h1, h2⟩ := q
      exact ⟨by simpa [cellsA, cellsD, Value.cells] using AVals.to_D h1, by simpa [Value.cells] using h2⟩
    | _ =>
      rcases hv with hv | ⟨_, hv⟩
      · simp [cellsA, cellsD] at hv
        exact single _ rfl rfl hv
      · cases hv
  | _ => exact single _ rfl rfl rfl

/-! ### Arrays with a part replaced -/
def setArr (C : Array Value) (off : Nat) : List Value → Array Value
  | [] => C
  | v :: vs => setArr (C.setIfInBounds off v) (off + 1) vs

theorem size_setArr : ∀ (vs : List Value) (C : Array Value) (off : Nat), (setArr C off vs).size = C.size
  | [], _, _ => rfl
  | v :: vs, C, off => by simp [setArr, size_setArr vs]

theorem get_setArr : ∀ (vs : List Value) (C : Array Value) (off i : Nat), off + vs.length ≤ C.size →
    (off ≤ i ∧ i < off + vs.length → (setArr C off vs)[i]? = vs[i - off]?) ∧ (i < off ∨ off + vs.length ≤ i → (setArr C off vs)[i]? = C[i]?)
  | [], C, off, i, _ => by
    refine ⟨fun hh => ?_, fun _ => rfl⟩
    simp only [List.length_nil] at hh; omega
  | v :: vs, C, off, i, hl => by
    simp only [List.length_cons] at hl
    obtain ⟨k1, k2⟩ := get_setArr vs (C.setIfInBounds off v) (off + 1) i (by simp; omega)
    simp only [setArr, List.length_cons]
    refine ⟨fun hh => ?_, fun hh => ?_⟩
    · by_cases e : i = off
      · subst e
        rw [k2 (.inl (by omega))]
        simp [Array.getElem?_setIfInBounds]; omega
      · rw [k1 ⟨by omega, by omega⟩]
        rw [show i - off = (i - (off + 1)) + 1 by omega]
        simp
    · rw [k2 (by omega)]
      simp [Array.getElem?_setIfInBounds]; omega

theorem setCells_heap (b : Nat) (E : TypeId) : ∀ (vs : List Value) (o : Nat) (w : World) (C : Array Value), w.heap[b]? = some (.cells C E (0, 0)) →
    (w.setCells b o vs).heap[b]? = some (.cells (setArr C o vs) E (0, 0))
  | [], o, w, C, hb => hb
  | v :: vs, o, w, C, hb => by
    rw [World.setCells]
    exact setCells_heap b E vs (o + 1) _ _ (heap_setCell_same w b o C E v hb)

theorem setCells_other (b : Nat) : ∀ (vs : List Value) (o : Nat) (w : World) (k : Nat), k ≠ b → (w.setCells b o vs).heap[k]? = w.heap[k]?
  | [], _, _, _, _ => rfl
  | v :: vs, o, w, k, hk => by
    rw [World.setCells, setCells_other b vs (o + 1) _ k hk]
    exact heap_setCell_other w ⟨b, o, none⟩ k v hk

theorem setCells_same (b : Nat) : ∀ (vs : List Value) (o : Nat) (w : World), (w.setCells b o vs).heap.size = w.heap.size ∧ (w.setCells b o vs).os = w.os ∧ (w.setCells b o vs).tape = w.tape ∧ (w.setCells b o vs).output = w.output
  | [], _, _ => ⟨rfl, rfl, rfl, rfl⟩
  | v :: vs, o, w => by
    rw [World.setCells]
    obtain ⟨h1, h2, h3, h4⟩ := setCells_same b vs (o + 1) (w.setCell ⟨b, o, none⟩ v)
    exact ⟨by rw [h1]; simp, h2, h3, h4⟩

theorem nth_setMany {α : Type} : ∀ (l cs : List α) (off i : Nat) (d : α), nth (setMany cs off l) i = some d → off + l.length ≤ cs.length →
    (off ≤ i ∧ nth l (i - off) = some d) ∨ ((i < off ∨ off + l.length ≤ i) ∧ nth cs i = some d)
  | [], cs, off, i, d, hd, _ => by
    simp only [setMany] at hd
    refine .inr ⟨by simp only [List.length_nil]; omega, hd⟩
  | x :: l, cs, off, i, d, hd, hl => by
    simp only [setMany] at hd
    simp only [List.length_cons] at hl ⊢
    rcases nth_setMany l (setNth cs off x) (off + 1) i d hd (by rw [length_setNth]; omega) with ⟨k1, k2⟩ | ⟨k1, k2⟩
    · refine .inl ⟨by omega, ?_⟩
      rw [show i - off = (i - (off + 1)) + 1 by omega]
      exact k2
    · by_cases e : i = off
      · subst e
        rw [nth_setNth_same (by omega)] at k2
        exact .inl ⟨Nat.le_refl _, by simpa [nth] using k2⟩
      · rw [nth_setNth_other e] at k2
        exact .inr ⟨by omega, k2⟩

theorem length_setMany {α : Type} : ∀ (l cs : List α) (off : Nat), (setMany cs off l).length = cs.length
  | [], _, _ => rfl
  | x :: l, cs, off => by simp [setMany, length_setMany l, length_setNth]

theorem nth_map {α β : Type} (f : α → β) : ∀ (l : List α) (i : Nat), nth (l.map f) i = (nth l i).map f
  | l, i => by rw [nth_eq, nth_eq, List.getElem?_map]

/-- Cells written into an own block of cells: the world, and the block. -/
theorem put_sound (hi : HInv w σ h) {b off : Nat} {blk blk' : Blk} {c : Nat × Nat} {vs : List Value} (hb : nth h b = some blk) (hs : solid blk = true) (hc : nth σ.ι b = some c)
    (hl : clen blk' = clen blk) (hm : ∃ m, clen blk = some m ∧ off + vs.length ≤ m)
    (hrel : ∀ (w' : World) (C C' : Array Value) (E : TypeId), nth σ.ι b = some c → w.heap[c.1]? = some (.cells C E (0, 0)) → C' = setArr C off vs → off + vs.length ≤ C.size → w'.heap[c.1]? = some (.cells C' E (0, 0)) → C.size = c.2 →
      (∀ d v, DRel w σ.G d v → DRel w' σ.G d v) → (∀ a v, ARel w σ h a v → ARel w' σ (setNth h b blk') a v) → BRel w' σ (setNth h b blk') b blk') :
    HInv (w.setCells c.1 off vs) σ (setNth h b blk') ∧ Step w σ h (w.setCells c.1 off vs) σ (setNth h b blk') := by
  obtain ⟨m, hm1, hm2⟩ := hm
  have hB := hi.blk b _ hb
  have cellsC : ∃ C E, w.heap[c.1]? = some (.cells C E (0, 0)) ∧ C.size = c.2 ∧ m ≤ C.size := by
    cases blk with
    | dc cs =>
      simp only [BRel] at hB
      simp [clen] at hm1
      rcases hB with hB | ⟨c', C, E, h1, h2, h3, h4⟩
      · subst hB; simp [solid] at hs
      · rw [hc] at h1; cases h1
        refine ⟨C, E, h2, h3, ?_⟩
        rcases Nat.lt_or_ge C.size m with k | k
        · obtain ⟨d, hd⟩ := nth_of_lt (l := cs) (n := C.size) (by omega)
          obtain ⟨x, hx, _⟩ := h4 _ d hd
          simp at hx
        · exact k
    | ac cs =>
      simp only [BRel] at hB
      simp [clen] at hm1
      rcases hB with hB | ⟨c', C, E, h1, h2, h3, h4⟩
      · subst hB; simp [solid] at hs
      · rw [hc] at h1; cases h1
        refine ⟨C, E, h2, h3, ?_⟩
        rcases Nat.lt_or_ge C.size m with k | k
        · obtain ⟨d, hd⟩ := nth_of_lt (l := cs) (n := C.size) (by omega)
          obtain ⟨x, hx, _⟩ := h4 _ d hd
          simp at hx
        · exact k
    | _ => simp [clen] at hm1
  obtain ⟨C, E, g1, g2, g3⟩ := cellsC
  obtain ⟨s1, s2, s3, s4⟩ := setCells_same c.1 vs off w
  have hother := setCells_other c.1 vs off w
  have hm0 : Mine σ h c.1 := ⟨b, c, ⟨blk, hb, hs⟩, hc, rfl⟩
  have hG : ∀ k, σ.G k → σ.G k ∧ (w.setCells c.1 off vs).heap[k]? = w.heap[k]? := fun k hk => ⟨hk, hother k (by rintro rfl; exact hi.sep _ hm0 hk)⟩
  refine hi.write hb hs hc hl s2 s3 s4 s1 (fun k hk => hother k hk) ?_
  exact hrel _ C _ E hc g1 rfl (by omega) (setCells_heap c.1 E vs off w C g1) g2 (fun d v q => DRel.mono hG d v q)
    (fun a v q => ARel.mono hG (Keeps.set σ.ι h b hb (solid_ne_dead hs) hl) hi.len a v q)

theorem putCells_sound (hi : HInv w σ h) {b off : Nat} {blk : Blk} {c : Nat × Nat} {v : AV} {y : Value} {K : Blk → Option R} (hb : nth h b = some blk) (hc : nth σ.ι b = some c)
    (q : ARel w σ h v y) (hK : putCells blk off v K = some r) :
    ∃ blk', K blk' = some r ∧ AVals w σ h (cellsA v) y.cells.toList ∧ (∀ x ∈ y.cells.toList, x.oneCell' = true) ∧ (0 < (cellsA v).length → w.there c.1 off (cellsA v).length) ∧
      clen blk' = clen blk ∧ HInv (w.setCells c.1 off y.cells.toList) σ (setNth h b blk') ∧ Step w σ h (w.setCells c.1 off y.cells.toList) σ (setNth h b blk') := by
  -- what is there may be written
  have there : ∀ (n : Nat) (m : Nat), clen blk = some m → off + n ≤ m → 0 < n → w.there c.1 off n ∧ solid blk = true := by
    intro n m hm hle hn
    have hB := hi.blk b _ hb
    cases blk with
    | dc cs =>
      simp only [BRel] at hB
      simp [clen] at hm
      rcases hB with hB | ⟨c', C, E, h1, h2, h3, h4⟩
      · subst hB; simp at hm; omega
      · rw [hc] at h1; cases h1
        refine ⟨fun j hj => ?_, by cases cs with | nil => simp at hm; omega | cons _ _ => rfl⟩
        obtain ⟨d, hd⟩ := nth_of_lt (l := cs) (n := off + j) (by omega)
        obtain ⟨x, hx, _⟩ := h4 _ d hd
        exact ⟨by rw [cell_row h2, hx]; rfl, frozen_of_row w c.1 _ C E h2⟩
    | ac cs =>
      simp only [BRel] at hB
      simp [clen] at hm
      rcases hB with hB | ⟨c', C, E, h1, h2, h3, h4⟩
      · subst hB; simp at hm; omega
      · rw [hc] at h1; cases h1
        refine ⟨fun j hj => ?_, by cases cs with | nil => simp at hm; omega | cons _ _ => rfl⟩
        obtain ⟨d, hd⟩ := nth_of_lt (l := cs) (n := off + j) (by omega)
        obtain ⟨x, hx, _⟩ := h4 _ d hd
        exact ⟨by rw [cell_row h2, hx]; rfl, frozen_of_row w c.1 _ C E h2⟩
    | _ => simp [clen] at hm
  -- nothing to write
  have empty : ∀ blk', y.cells.toList = [] → blk' = blk → HInv (w.setCells c.1 off y.cells.toList) σ (setNth h b blk') ∧ Step w σ h (w.setCells c.1 off y.cells.toList) σ (setNth h b blk') := by
    intro blk' e1 e2
    rw [e1, e2]
    have : setNth h b blk = h := by
      have key : ∀ (l : List Blk) (n : Nat), nth l n = some blk → setNth l n blk = l := by
        intro l
        induction l with
        | nil => intro n hn; simp [nth] at hn
        | cons x l ih =>
          intro n hn
          cases n with
          | zero => simp [nth] at hn; subst hn; rfl
          | succ n => simp only [nth] at hn; simp [setNth, ih n hn]
      exact key h b hb
    rw [this]
    exact ⟨hi, Step.refl _ _ _⟩
  cases blk with
  | dead => simp [putCells] at hK
  | defr => simp [putCells] at hK
  | mp es => simp [putCells] at hK
  | sit s pos => simp [putCells] at hK
  | mit m n begun => simp [putCells] at hK
  | loop _ _ _ _ _ _ _ _ _ => simp [putCells] at hK
  | ac cs =>
    simp only [putCells] at hK
    cases hcond : (Nat.ble (off + (cellsA v).length) cs.length && (cellsA v).all oneA) with
    | false => rw [hcond] at hK; simp [cond] at hK
    | true =>
      rw [hcond] at hK; simp only [cond] at hK
      simp only [Bool.and_eq_true] at hcond
      have hle : off + (cellsA v).length ≤ cs.length := Nat.le_of_ble_eq_true hcond.1
      obtain ⟨q1, q2⟩ := cells_rel q (.inl hcond.2)
      have hlen := (AVals.get q1).1
      refine ⟨_, hK, q1, q2, fun hp => (there _ _ rfl hle hp).1, by simp [clen, length_setMany], ?_⟩
      rcases Nat.eq_zero_or_pos (cellsA v).length with e | e
      · refine empty _ (List.length_eq_zero_iff.1 (by omega)) ?_
        rw [List.length_eq_zero_iff.1 e]; rfl
      · refine put_sound hi hb (there _ _ rfl hle e).2 hc (by simp [clen, length_setMany]) ⟨_, rfl, by omega⟩ ?_
        intro w' C C' E _ g1 g2 g3 g4 g5 hD hA
        have hB := hi.blk b _ hb
        simp only [BRel] at hB ⊢
        rcases hB with hB | ⟨c', C0, E0, h1, h2, h3, h4⟩
        · subst hB; simp only [List.length_nil] at hle; omega
        · rw [hc] at h1; cases h1
          rw [g1] at h2; cases h2
          refine .inr ⟨c, C', E, hc, g4, by rw [g2, size_setArr]; exact g5, ?_⟩
          intro i d hd
          rcases nth_setMany _ _ _ _ _ hd hle with ⟨k1, k2⟩ | ⟨k1, k2⟩
          · obtain ⟨x, hx, hx2⟩ := (AVals.get q1).2 _ _ k2
            have hlt := nth_some_lt k2
            refine ⟨x, ?_, q2 x (mem_of_nth hx), hA _ _ hx2⟩
            rw [g2, (get_setArr _ C off i g3).1 ⟨k1, by omega⟩, ← nth_eq]; exact hx
          · obtain ⟨x, hx, hx1, hx2⟩ := h4 i d k2
            refine ⟨x, ?_, hx1, hA _ _ hx2⟩
            rw [g2, (get_setArr _ C off i g3).2 (by omega)]; exact hx
  | dc cs =>
    -- a part of data cells is replaced by data
    have dcase : ∀ (ds : List DV), cellsA v = ds.map .d → off + ds.length ≤ cs.length → ((cellsA v).all oneA = true ∨ ∃ ds, v = .d (.agg ds)) → K (.dc (setMany cs off ds)) = some r →
        ∃ blk', K blk' = some r ∧ AVals w σ h (cellsA v) y.cells.toList ∧ (∀ x ∈ y.cells.toList, x.oneCell' = true) ∧ (0 < (cellsA v).length → w.there c.1 off (cellsA v).length) ∧
          clen blk' = clen (.dc cs) ∧ HInv (w.setCells c.1 off y.cells.toList) σ (setNth h b blk') ∧ Step w σ h (w.setCells c.1 off y.cells.toList) σ (setNth h b blk') := by
      intro ds hds hle hone hKK
      obtain ⟨q1, q2⟩ := cells_rel q hone
      have hlen := (AVals.get q1).1
      have hl2 : (cellsA v).length = ds.length := by rw [hds]; simp
      refine ⟨_, hKK, q1, q2, fun hp => by rw [hl2] at hp ⊢; exact (there _ _ rfl hle hp).1, by simp [clen, length_setMany], ?_⟩
      rcases Nat.eq_zero_or_pos ds.length with e | e
      · refine empty _ (List.length_eq_zero_iff.1 (by omega)) ?_
        rw [List.length_eq_zero_iff.1 e]; rfl
      · refine put_sound hi hb (there _ _ rfl hle e).2 hc (by simp [clen, length_setMany]) ⟨_, rfl, by omega⟩ ?_
        intro w' C C' E _ g1 g2 g3 g4 g5 hD hA
        have hB := hi.blk b _ hb
        simp only [BRel] at hB ⊢
        rcases hB with hB | ⟨c', C0, E0, h1, h2, h3, h4⟩
        · subst hB; simp only [List.length_nil] at hle; omega
        · rw [hc] at h1; cases h1
          rw [g1] at h2; cases h2
          refine .inr ⟨c, C', E, hc, g4, by rw [g2, size_setArr]; exact g5, ?_⟩
          intro i d hd
          rcases nth_setMany _ _ _ _ _ hd hle with ⟨k1, k2⟩ | ⟨k1, k2⟩
          · obtain ⟨x, hx, hx2⟩ := (AVals.get q1).2 (i - off) (.d d) (by rw [hds, nth_map, k2]; rfl)
            have hlt := nth_some_lt k2
            refine ⟨x, ?_, q2 x (mem_of_nth hx), hD _ _ (by simpa [ARel] using hx2)⟩
            rw [g2, (get_setArr _ C off i g3).1 ⟨k1, by omega⟩, ← nth_eq]; exact hx
          · obtain ⟨x, hx, hx1, hx2⟩ := h4 i d k2
            refine ⟨x, ?_, hx1, hD _ _ hx2⟩
            rw [g2, (get_setArr _ C off i g3).2 (by omega)]; exact hx
    -- and by values of all kinds
    have acase : (Nat.ble 1 (cellsA v).length && (Nat.ble (off + (cellsA v).length) cs.length && (cellsA v).all oneA)) = true → K (.ac (setMany (cs.map .d) off (cellsA v))) = some r →
        ∃ blk', K blk' = some r ∧ AVals w σ h (cellsA v) y.cells.toList ∧ (∀ x ∈ y.cells.toList, x.oneCell' = true) ∧ (0 < (cellsA v).length → w.there c.1 off (cellsA v).length) ∧
          clen blk' = clen (.dc cs) ∧ HInv (w.setCells c.1 off y.cells.toList) σ (setNth h b blk') ∧ Step w σ h (w.setCells c.1 off y.cells.toList) σ (setNth h b blk') := by
      intro hcond hKK
      simp only [Bool.and_eq_true] at hcond
      have e : 1 ≤ (cellsA v).length := Nat.le_of_ble_eq_true hcond.1
      have hle : off + (cellsA v).length ≤ cs.length := Nat.le_of_ble_eq_true hcond.2.1
      obtain ⟨q1, q2⟩ := cells_rel q (.inl hcond.2.2)
      have hlen := (AVals.get q1).1
      refine ⟨_, hKK, q1, q2, fun hp => (there _ _ rfl hle hp).1, by simp [clen, length_setMany], ?_⟩
      refine put_sound hi hb (there _ _ rfl hle e).2 hc (by simp [clen, length_setMany]) ⟨_, rfl, by omega⟩ ?_
      intro w' C C' E _ g1 g2 g3 g4 g5 hD hA
      have hB := hi.blk b _ hb
      simp only [BRel] at hB ⊢
      rcases hB with hB | ⟨c', C0, E0, h1, h2, h3, h4⟩
      · subst hB; simp only [List.length_nil] at hle; omega
      · rw [hc] at h1; cases h1
        rw [g1] at h2; cases h2
        refine .inr ⟨c, C', E, hc, g4, by rw [g2, size_setArr]; exact g5, ?_⟩
        intro i d hd
        rcases nth_setMany _ _ _ _ _ hd (by simpa using hle) with ⟨k1, k2⟩ | ⟨k1, k2⟩
        · obtain ⟨x, hx, hx2⟩ := (AVals.get q1).2 _ _ k2
          have hlt := nth_some_lt k2
          refine ⟨x, ?_, q2 x (mem_of_nth hx), hA _ _ hx2⟩
          rw [g2, (get_setArr _ C off i g3).1 ⟨k1, by omega⟩, ← nth_eq]; exact hx
        · rw [nth_map] at k2
          obtain ⟨d0, hd0, rfl⟩ := Option.map_eq_some_iff.1 k2
          obtain ⟨x, hx, hx1, hx2⟩ := h4 i d0 hd0
          refine ⟨x, ?_, hx1, by simp only [ARel]; exact hD _ _ hx2⟩
          rw [g2, (get_setArr _ C off i g3).2 (by omega)]; exact hx
    have acond : ∀ (B : Bool) (X : Option R), cond B X none = some r → B = true ∧ X = some r := by
      intro B X hX; cases B with
      | false => simp [cond] at hX
      | true => exact ⟨rfl, hX⟩
    cases v with
    | d x =>
      cases x with
      | agg ds =>
        simp only [putCells] at hK
        obtain ⟨h1, h2⟩ := acond _ _ hK
        exact dcase ds rfl (Nat.le_of_ble_eq_true h1) (.inr ⟨ds, rfl⟩) h2
      | _ =>
        simp only [putCells] at hK
        obtain ⟨h1, h2⟩ := acond _ _ hK
        simp only [Bool.and_eq_true] at h1
        refine dcase [_] rfl (Nat.le_of_ble_eq_true h1.1) (.inl ?_) h2
        simp [cellsA, cellsD, oneA]; exact h1.2
    | _ =>
      simp only [putCells] at hK
      obtain ⟨h1, h2⟩ := acond _ _ hK
      exact acase h1 h2
end
end Go.AE

/- Operations that write or make memory: store, new variables, composite literals, make. -/
namespace Go.AE
open Go

section
variable {P : Program} {T : Tab TI} {w : World} {σ : Sg} {h : List Blk} {G : Nat → Prop} {R : Type} {r : R}

theorem cond_some {B : Bool} {X Y : Option R} (hX : cond B X Y = some r) : (B = true ∧ X = some r) ∨ (B = false ∧ Y = some r) := by
  cases B
  · exact .inr ⟨rfl, hX⟩
  · exact .inl ⟨rfl, hX⟩

theorem cond_none {B : Bool} {X : Option R} (hX : cond B X none = some r) : B = true ∧ X = some r := by
  cases B
  · simp [cond] at hX
  · exact ⟨rfl, hX⟩

theorem run_storeVar {w : World} {t : TypeId} {b o n : Nat} {y : Value} (hn : y.cells.size = n) (hi : (P.info? t).map (·.size) = some n) (ht : 0 < n → w.there b o n) (h1 : ∀ x ∈ y.cells.toList, x.oneCell' = true) :
    (storeVar t ⟨b, o, none⟩ y).run P w = .ok () (w.setCells b o y.cells.toList) := by
  have hlen : y.cells.toList.length = n := by simpa using hn
  have hth : ∀ j, j < n → (w.cell? ⟨b, o + j, none⟩).isSome = true ∧ w.frozen? ⟨b, o + j, none⟩ = false := fun j hj => ht (by omega) j hj
  have := run_storeCells_cells (P := P) b o y.cells.toList 0 w (fun j hj => by simpa using (hth j (by omega)).1) (fun j hj => by simpa using (hth j (by omega)).2) h1
  simp only [Nat.add_zero] at this
  cases hq : P.info? t with
  | none => simp [hq] at hi
  | some i =>
    have hs : y.cells.size = i.size := by simp [hq] at hi; omega
    simp [storeVar, sizeOf, typeInfo, hq, hs, this]

theorem storeE_sound (hT : TOK P T) (hi : HInv w σ h) {t : Nat} {a v : AV} {x y : Value} {K : List Blk → Option R} (ha : ARel w σ h a x) (hv : ARel w σ h v y) (hK : storeE T t h a v K = some r) :
    ∃ h', K h' = some r ∧ ∃ w', (Instr.storeAt t x y).run P w = .ok () w' ∧ HInv w' σ h' ∧ Step w σ h w' σ h' := by
  unfold storeE at hK
  split at hK
  · cases hK
  · rename_i ti ht
    split at hK
    · rename_i b off
      simp only [ARel] at ha
      split at hK
      · rename_i blk hb
        obtain ⟨hsz, hK⟩ := cond_none hK
        have hsz := Nat.eq_of_beq_eq_true hsz
        rcases ha.2 with ha | ⟨c, hc, rfl⟩
        · unfold isDead at ha; rw [ha] at hb; cases hb; simp [putCells] at hK
        · obtain ⟨blk', h1, h2, h3, h4, h5, h6, h7⟩ := putCells_sound hi hb hc hv hK
          obtain ⟨i0, hi0, hsi, _⟩ := hT.info ht
          have hl := (AVals.get h2).1
          refine ⟨_, h1, _, ?_, h6, h7⟩
          have := run_storeVar (P := P) (w := w) (t := t) (b := c.1) (o := off) (n := ti.size) (y := y) (by simp at hl; omega) (by rw [hi0]; simp [hsi]) (fun hp => by rw [← hsz]; exact h4 (by omega)) h3
          simpa [Instr.storeAt, Instr.sureAddr] using this
      · cases hK
    · cases hK

/-- A new row of cells. -/
theorem newRow_sound (hi : HInv w σ h) {E : TypeId} {C : Array Value} {x : Blk}
    (hx : BRel (w.alloc (.cells C E)) ⟨σ.G, σ.ι ++ [(w.heap.size, C.size)]⟩ (h ++ [x]) h.length x) :
    (newRow E C).run P w = .ok ⟨w.heap.size, 0, none⟩ (w.alloc (.cells C E)) ∧
    HInv (w.alloc (.cells C E)) ⟨σ.G, σ.ι ++ [(w.heap.size, C.size)]⟩ (h ++ [x]) ∧ Step w σ h (w.alloc (.cells C E)) ⟨σ.G, σ.ι ++ [(w.heap.size, C.size)]⟩ (h ++ [x]) ∧
    nth (σ.ι ++ [(w.heap.size, C.size)]) h.length = some (w.heap.size, C.size) := by
  obtain ⟨h1, h2⟩ := hi.push (.cells C E) C.size x hx
  refine ⟨?_, h1, h2, by rw [← hi.len, nth_append_len]; rfl⟩
  simp [newRow]

theorem heap_new (w : World) (o : Obj) : (w.alloc o).heap[w.heap.size]? = some o := heap_alloc_new w o

/-- Data cells as a new block. -/
theorem BRel.newD (hi : HInv w σ h) {E : TypeId} {C : Array Value} {cs : List DV} (hC : DVals w σ.G cs C.toList) (h1 : ∀ x ∈ C.toList, x.oneCell' = true) :
    BRel (w.alloc (.cells C E)) ⟨σ.G, σ.ι ++ [(w.heap.size, C.size)]⟩ (h ++ [.dc cs]) h.length (.dc cs) := by
  simp only [BRel]
  refine .inr ⟨(w.heap.size, C.size), C, E, by rw [← hi.len, nth_append_len]; rfl, heap_new w _, rfl, ?_⟩
  intro i d hd
  obtain ⟨x, k1, k2⟩ := (DVals.get hC).2 i d hd
  have hx : C[i]? = some x := by rw [nth_eq] at k1; simpa using k1
  exact ⟨x, hx, h1 x (mem_of_nth k1), DRel.mono (fun b hb => ⟨hb, Go.RowKit.Below.heap_alloc w _ b (hi.bound b hb)⟩) d x k2⟩

theorem BRel.newA (hi : HInv w σ h) {E : TypeId} {C : Array Value} {cs : List AV} (hC : AVals w σ h cs C.toList) (h1 : ∀ x ∈ C.toList, x.oneCell' = true) :
    BRel (w.alloc (.cells C E)) ⟨σ.G, σ.ι ++ [(w.heap.size, C.size)]⟩ (h ++ [.ac cs]) h.length (.ac cs) := by
  simp only [BRel]
  refine .inr ⟨(w.heap.size, C.size), C, E, by rw [← hi.len, nth_append_len]; rfl, heap_new w _, rfl, ?_⟩
  intro i d hd
  obtain ⟨x, k1, k2⟩ := (AVals.get hC).2 i d hd
  have hx : C[i]? = some x := by rw [nth_eq] at k1; simpa using k1
  refine ⟨x, hx, h1 x (mem_of_nth k1), ARel.mono (σ := σ) (σ' := ⟨σ.G, σ.ι ++ [(w.heap.size, C.size)]⟩) (fun b hb => ⟨hb, Go.RowKit.Below.heap_alloc w _ b (hi.bound b hb)⟩) (Keeps.push σ.ι h _ _ hi.len) hi.len d x k2⟩

theorem ref_new (hi : HInv w σ h) {n : Nat} {x : Blk} {w' : World} {G' : Nat → Prop} : ARel w' ⟨G', σ.ι ++ [(w.heap.size, n)]⟩ (h ++ [x]) (.ref h.length 0) (.pointer (some ⟨w.heap.size, 0, none⟩)) := by
  simp only [ARel]
  exact ⟨rfl, .inr ⟨(w.heap.size, n), by rw [← hi.len, nth_append_len]; rfl, rfl⟩⟩

theorem litD_vals {w : World} {G : Nat → Prop} : ∀ {ds : List DV} {vs : List Value}, litL ds vs = true → DVals w G ds vs ∧ ∀ x ∈ vs, x.oneCell' = true
  | [], [], _ => by simp [DVals]
  | [], _ :: _, q => by simp [litL] at q
  | _ :: _, [], q => by simp [litL] at q
  | d :: ds, v :: vs, q => by
    simp only [litL, Bool.and_eq_true] at q
    obtain ⟨k1, k2⟩ := litD_vals (w := w) (G := G) q.2
    obtain ⟨g1, g2⟩ := isLit_sound (w := w) (G := G) q.1
    simp only [DVals]
    refine ⟨⟨v, vs, rfl, g1, k1⟩, fun x hx => ?_⟩
    simp at hx
    rcases hx with rfl | hx
    · exact g2
    · exact k2 x hx

theorem alloc_sound (hT : TOK P T) (hi : HInv w σ h) {t : Nat} {ti : TI} (ht : tget T t = some ti) (hz : ti.zero.length = ti.size) (h0 : ti.tag ≠ .other ∨ ti.zero ≠ []) :
    ∃ x w' σ', (Instr.alloc t true (.tuple #[])).run P w = .ok x w' ∧ HInv w' σ' (h ++ [.dc ti.zero]) ∧ Step w σ h w' σ' (h ++ [.dc ti.zero]) ∧ ARel w' σ' (h ++ [.dc ti.zero]) (.ref h.length 0) x := by
  obtain ⟨i, z, hi0, hz0, hzs, hlit⟩ := hT.zero ht hz h0
  obtain ⟨k1, k2⟩ := litD_vals (w := w) (G := σ.G) hlit
  obtain ⟨g1, g2, g3, g4⟩ := newRow_sound (P := P) hi (E := t) (C := z.cells) (x := .dc ti.zero) (BRel.newD hi k1 k2)
  refine ⟨_, _, _, ?_, g2, g3, ref_new hi⟩
  have hzero : (zeroValue t).run P w = .ok z w := by simp [zeroValue, typeInfo, hi0, hz0]
  simp [Instr.alloc, hzero, newVar, g1]

theorem cellsC_rel {v : AV} {y : Value} {l : List AV} (q : ARel w σ h v y) (hl : cellsC v = some l) : AVals w σ h l y.cells.toList ∧ ∀ x ∈ y.cells.toList, x.oneCell' = true := by
  unfold cellsC at hl
  split at hl
  · rename_i ds
    cases hl
    exact cells_rel q (.inr ⟨ds, rfl⟩)
  · cases hone : (cellsA v).all oneA with
    | false => rw [hone] at hl; simp [cond] at hl
    | true => rw [hone] at hl; simp [cond] at hl; subst hl; exact cells_rel q (.inl hone)

theorem box_sound (hi : HInv w σ h) {t : Nat} {v : AV} {y : Value} {l : List AV} (hv : ARel w σ h v y) (hl : cellsC v = some l) :
    ∃ x w' σ', (Instr.box t y).run P w = .ok x w' ∧ HInv w' σ' (h ++ [blkOf l]) ∧ Step w σ h w' σ' (h ++ [blkOf l]) ∧ ARel w' σ' (h ++ [blkOf l]) (.ref h.length 0) x := by
  obtain ⟨k1, k2⟩ := cellsC_rel hv hl
  have hB : BRel (w.alloc (.cells y.cells t)) ⟨σ.G, σ.ι ++ [(w.heap.size, y.cells.size)]⟩ (h ++ [blkOf l]) h.length (blkOf l) := by
    unfold blkOf
    split
    · rename_i ds e
      exact BRel.newD hi (AVals.of_D e k1) k2
    · exact BRel.newA hi k1 k2
  obtain ⟨g1, g2, g3, g4⟩ := newRow_sound (P := P) hi (E := t) (C := y.cells) (x := blkOf l) hB
  exact ⟨_, _, _, by simp [Instr.box, newVar, g1], g2, g3, ref_new hi⟩

/-! ### Composite literals -/
theorem foldl_set (off : Nat) : ∀ (vs : List Value) (j : Nat) (C : Array Value), (vs.zipIdx j).foldl (fun cs (p : Value × Nat) => cs.setIfInBounds (off + p.2) p.1) C = setArr C (off + j) vs
  | [], _, _ => rfl
  | v :: vs, j, C => by
    simp only [List.zipIdx_cons, List.foldl_cons, setArr]
    rw [foldl_set off vs (j + 1)]
    rw [Nat.add_assoc]

theorem fill_step (place : Nat → Option (Nat × Nat)) (C : Array Value) (i : Nat) (v : Value) (rest : List (Nat × Value)) (off size : Nat) (hp : place i = some (off, size)) (hs : v.cells.size = size) (hl : off + size ≤ C.size) :
    Instr.fill place C ((i, v) :: rest) = Instr.fill place (setArr C off v.cells.toList) rest := by
  simp only [Instr.fill, hp]
  rw [if_neg (by simp; omega)]
  congr 1
  have := foldl_set off v.cells.toList 0 C
  simp only [Nat.add_zero] at this
  rw [← this, ← Array.foldl_toList, Array.toList_zipIdx]

theorem AVals.setMany {l cs : List AV} {vs : List Value} {C : Array Value} {off : Nat} (hl : AVals w σ h l vs) (hc : AVals w σ h cs C.toList) (hle : off + l.length ≤ cs.length) :
    AVals w σ h (setMany cs off l) (setArr C off vs).toList := by
  have e1 := (AVals.get hl).1
  have e2 := (AVals.get hc).1
  simp at e2
  refine AVals.of_nth (by simp [length_setMany, size_setArr, e2]) fun i d hd => ?_
  rcases nth_setMany _ _ _ _ _ hd hle with ⟨k1, k2⟩ | ⟨k1, k2⟩
  · obtain ⟨x, hx, hx2⟩ := (AVals.get hl).2 _ _ k2
    have hlt := nth_some_lt k2
    refine ⟨x, ?_, hx2⟩
    rw [nth_eq, Array.getElem?_toList, (get_setArr vs C off i (by omega)).1 ⟨k1, by omega⟩, ← nth_eq]; exact hx
  · obtain ⟨x, hx, hx2⟩ := (AVals.get hc).2 _ _ k2
    refine ⟨x, ?_, hx2⟩
    rw [nth_eq, Array.getElem?_toList, (get_setArr vs C off i (by omega)).2 (by omega)]
    rw [nth_eq] at hx; simpa using hx

theorem one_setArr : ∀ (vs : List Value) (C : Array Value) (off : Nat), (∀ x ∈ vs, x.oneCell' = true) → (∀ x ∈ C.toList, x.oneCell' = true) → ∀ x ∈ (setArr C off vs).toList, x.oneCell' = true
  | [], _, _, _, hC => hC
  | v :: vs, C, off, hv, hC => by
    refine one_setArr vs _ (off + 1) (fun x hx => hv x (by simp [hx])) fun x hx => ?_
    rw [Array.toList_setIfInBounds] at hx
    rcases List.mem_or_eq_of_mem_set hx with hx | rfl
    · exact hC x hx
    · exact hv _ (by simp)

/-- The parts of a literal as values: pairs of places and values that go together. -/
def Parts (w : World) (σ : Sg) (h : List Blk) (ps : List (Nat × AV)) (qs : List (Nat × Value)) : Prop :=
  ps.length = qs.length ∧ ∀ i p, nth ps i = some p → ∃ q, nth qs i = some q ∧ q.1 = p.1 ∧ ARel w σ h p.2 q.2

theorem fill_sound {place : Nat → Option (Nat × Nat)} : ∀ {ps : List (Nat × AV)} {qs : List (Nat × Value)} {cs l : List AV} {C : Array Value},
    Parts w σ h ps qs → AVals w σ h cs C.toList → (∀ x ∈ C.toList, x.oneCell' = true) → fillE cellsC place cs ps = some l →
    ∃ C', Instr.fill place C qs = some C' ∧ AVals w σ h l C'.toList ∧ (∀ x ∈ C'.toList, x.oneCell' = true)
  | [], [], cs, l, C, _, hc, h1, hf => by simp [fillE] at hf; subst hf; exact ⟨C, rfl, hc, h1⟩
  | [], _ :: _, _, _, _, hp, _, _, _ => by simp [Parts] at hp
  | _ :: _, [], _, _, _, hp, _, _, _ => by simp [Parts] at hp
  | (i, v) :: ps, (j, y) :: qs, cs, l, C, hp, hc, h1, hf => by
    obtain ⟨q, hq, hq1, hq2⟩ := hp.2 0 (i, v) rfl
    simp [nth] at hq; subst hq
    simp only at hq1 hq2; subst hq1
    simp only [fillE] at hf
    split at hf
    · rename_i off size lv hpl hcl
      obtain ⟨hb, hf⟩ := cond_none hf
      simp only [Bool.and_eq_true] at hb
      have e1 := Nat.eq_of_beq_eq_true hb.1
      have e2 := Nat.le_of_ble_eq_true hb.2
      obtain ⟨k1, k2⟩ := cellsC_rel hq2 hcl
      have k3 := (AVals.get k1).1
      have k4 := (AVals.get hc).1
      simp at k3 k4
      rw [fill_step place C j y qs off size hpl (by omega) (by omega)]
      refine fill_sound (ps := ps) (qs := qs) ⟨by simpa using hp.1, fun n p hn => ?_⟩ (AVals.setMany k1 hc (by omega)) (one_setArr _ _ _ k2 h1) hf
      obtain ⟨q, g1, g2⟩ := hp.2 (n + 1) p (by simpa [nth] using hn)
      exact ⟨q, by simpa [nth] using g1, g2⟩
    · cases hf
end
end Go.AE

/- Composite literals and make. -/
namespace Go.AE
open Go

section
variable {P : Program} {T : Tab TI} {w : World} {σ : Sg} {h : List Blk} {G : Nat → Prop} {R : Type} {r : R}

theorem places_ok (hT : TOK P T) : ∀ (F : List Field) (fs : List (Nat × Nat)), F.map (fun f => (f.offset, f.type)) = fs → (fs.all fun f => (tget T f.2).isSome) = true →
    ∃ places : List (Nat × Nat), F.mapM (fun f => (P.info? f.type).map fun i => (f.offset, i.size)) = some places ∧ ∀ i, placeS T fs i = nth places i
  | [], fs, e, _ => by simp at e; subst e; exact ⟨[], rfl, fun i => by simp [placeS, nth]⟩
  | f :: F, fs, e, ha => by
    simp only [List.map_cons] at e
    subst e
    simp only [List.all_cons, Bool.and_eq_true] at ha
    obtain ⟨places, k1, k2⟩ := places_ok hT F _ rfl ha.2
    obtain ⟨ti, hti⟩ := Option.isSome_iff_exists.1 ha.1
    obtain ⟨i0, hi0, hs, _⟩ := hT.info hti
    refine ⟨(f.offset, ti.size) :: places, ?_, fun i => ?_⟩
    · simp only [List.mapM_cons, hi0, k1]; simp [hs]
    · cases i with
      | zero => have hti' : tget T f.type = some ti := hti; simp [placeS, nth, hti']
      | succ i => simp only [placeS, nth]; exact k2 i

theorem run_build_struct {F : Array Field} {t : TypeId} {i : TypeInfo} {z : Value} {places : List (Nat × Nat)} {C : Array Value} {parts : Array (Nat × Value)} (hi : P.info? t = some i) (hz : i.zero = some z) (hu : P.underlying t = some (.struct F))
    (hp : F.toList.mapM (fun f => (P.info? f.type).map fun i => (f.offset, i.size)) = some places) (hf : Instr.fill (nth places ·) z.cells parts.toList = some C) : (Instr.build t parts).run P w = .ok (.agg C) w := by
  refine run_build w t parts C ?_
  simp only [Program.built, hi, hu, hz, hp]
  rw [← hf]
  congr 1
  funext i; rw [nth_eq]; simp

theorem run_build_array {n e : Nat} {t : TypeId} {i ie : TypeInfo} {z : Value} {C : Array Value} {parts : Array (Nat × Value)} (hi : P.info? t = some i) (hz : i.zero = some z) (hu : P.underlying t = some (.array n e)) (hie : P.info? e = some ie)
    (hf : Instr.fill (fun i => some (i * ie.size, ie.size)) z.cells parts.toList = some C) : (Instr.build t parts).run P w = .ok (.agg C) w := by
  refine run_build w t parts C ?_
  simp only [Program.built, hi, hu, hz, hie]
  exact hf

theorem Parts.of_map {ρ : Operand → Value} {f : Operand → AV} (hρ : ∀ x, ARel w σ h (f x) (ρ x)) (ps : Array (Nat × Operand)) :
    Parts w σ h (ps.toList.map fun p => (p.1, f p.2)) (ps.map fun p => (p.1, ρ p.2)).toList := by
  refine ⟨by simp, fun i p hp => ?_⟩
  rw [nth_map] at hp
  obtain ⟨q, hq, rfl⟩ := Option.map_eq_some_iff.1 hp
  refine ⟨(q.1, ρ q.2), ?_, rfl, hρ _⟩
  rw [Array.toList_map, nth_map, hq]; rfl

theorem buildE_sound (hT : TOK P T) {t : Nat} {ps : List (Nat × AV)} {qs : Array (Nat × Value)} {K : AV → Option R} (hp : Parts w σ h ps qs.toList) (hK : buildE T t ps K = some r) :
    ∃ v, K v = some r ∧ ∃ y, (Instr.build t qs).run P w = .ok y w ∧ ARel w σ h v y := by
  unfold buildE at hK
  split at hK
  · cases hK
  · rename_i ti ht
    split at hK
    · rename_i fs hg
      obtain ⟨hc, hK⟩ := cond_none hK
      simp only [Bool.and_eq_true] at hc
      obtain ⟨F, hF, hFs⟩ := hT.struct ht hg
      obtain ⟨i, z, hi0, hz0, hzs, hlit⟩ := hT.zero ht (Nat.eq_of_beq_eq_true hc.1) (.inl (by rw [hg]; simp))
      obtain ⟨places, hpl, hpl2⟩ := places_ok hT F.toList fs hFs hc.2
      obtain ⟨k1, k2⟩ := litD_vals (w := w) (G := σ.G) hlit
      unfold fillAny at hK
      split at hK
      · rename_i l hl
        obtain ⟨C', g1, g2, g3⟩ := fill_sound hp (AVals.to_D k1) k2 hl
        refine ⟨_, hK, .agg C', ?_, by have := ARel.mkAgg g2 g3; simpa using this⟩
        refine run_build_struct hi0 hz0 hF hpl ?_
        rw [← g1]; congr 1; funext i; exact (hpl2 i).symm
      · cases hK
    · rename_i n e hg
      split at hK
      · rename_i te hte
        obtain ⟨hc, hK⟩ := cond_none hK
        obtain ⟨i, z, hi0, hz0, hzs, hlit⟩ := hT.zero ht (Nat.eq_of_beq_eq_true hc) (.inl (by rw [hg]; simp))
        obtain ⟨ie, hie, hes, _⟩ := hT.info hte
        obtain ⟨k1, k2⟩ := litD_vals (w := w) (G := σ.G) hlit
        unfold fillAny at hK
        split at hK
        · rename_i l hl
          obtain ⟨C', g1, g2, g3⟩ := fill_sound hp (AVals.to_D k1) k2 hl
          refine ⟨_, hK, .agg C', ?_, by have := ARel.mkAgg g2 g3; simpa using this⟩
          exact run_build_array hi0 hz0 (hT.array ht hg) hie (by rw [hes]; exact g1)
        · cases hK
      · cases hK
    · cases hK

/-! ### Rows of zeros -/
theorem nth_flat {α : Type} (z : List α) (hz : 0 < z.length) : ∀ (n i : Nat), i < n * z.length → nth (List.replicate n z).flatten i = nth z (i % z.length)
  | 0, i, h => by simp at h
  | n + 1, i, h => by
    simp only [List.replicate_succ, List.flatten_cons]
    by_cases hi : i < z.length
    · rw [nth_append_lt hi, Nat.mod_eq_of_lt hi]
    · have hi' : z.length ≤ i := by omega
      have e : nth (z ++ (List.replicate n z).flatten) i = nth (List.replicate n z).flatten (i - z.length) := by
        rw [nth_eq, nth_eq, List.getElem?_append_right hi']
      rw [e, nth_flat z hz n (i - z.length) (by rw [Nat.succ_mul] at h; omega), ← Nat.mod_eq_sub_mod hi']

theorem length_flat {α : Type} (z : List α) (n : Nat) : (List.replicate n z).flatten.length = n * z.length := by
  induction n with
  | zero => simp
  | succ n ih => rw [List.replicate_succ, List.flatten_cons, List.length_append, ih, Nat.succ_mul]; omega

theorem zeros_vals {w : World} {G : Nat → Prop} {z : List DV} {C : Array Value} (hlit : litL z C.toList = true) (hz : 0 < z.length) (n : Nat) :
    DVals w G (List.replicate n z).flatten ((Array.range (n * C.size)).map (C[· % C.size]!)).toList ∧ ∀ x ∈ ((Array.range (n * C.size)).map (C[· % C.size]!)).toList, x.oneCell' = true := by
  obtain ⟨k1, k2⟩ := litL_sound hlit
  simp at k1
  have hget : ∀ i, i < n * C.size → ((Array.range (n * C.size)).map (C[· % C.size]!)).toList[i]? = nth C.toList (i % C.size) := by
    intro i hi
    have hlt : i % C.size < C.size := Nat.mod_lt _ (by omega)
    rw [nth_eq, Array.getElem?_toList, Array.getElem?_toList]
    simp [hi, hlt]
  refine ⟨DVals.of_nth (by rw [length_flat]; simp [k1]) fun i d hd => ?_, fun x hx => ?_⟩
  · have hi := nth_some_lt hd
    rw [length_flat] at hi
    rw [nth_flat z hz n i hi] at hd
    obtain ⟨x, hx, hx2⟩ := k2 _ d hd
    refine ⟨x, ?_, (isLit_sound hx2).1⟩
    rw [nth_eq, hget i (by rw [← k1]; exact hi), ← k1]; exact hx
  · obtain ⟨i, hi, rfl⟩ := List.mem_iff_getElem.1 hx
    have hi' : i < n * C.size := by simpa using hi
    have h2 := hget i hi'
    rw [List.getElem?_eq_getElem hi] at h2
    obtain ⟨d, hd⟩ := nth_of_lt (l := z) (n := i % C.size) (by rw [k1]; exact Nat.mod_lt _ (by omega))
    obtain ⟨x, hx1, hx2⟩ := k2 _ d hd
    rw [hx1] at h2
    cases h2
    exact (isLit_sound (w := w) (G := G) hx2).2

theorem row_new (hi : HInv w σ h) {n m cap sz : Nat} {x : Blk} {w' : World} {G' : Nat → Prop} (h1 : n ≤ cap) (h2 : cap * sz ≤ m) :
    ARel w' ⟨G', σ.ι ++ [(w.heap.size, m)]⟩ (h ++ [x]) (.row h.length 0 n cap sz true) (.slice (some ⟨w.heap.size, 0, none⟩) n cap) := by
  simp only [ARel]
  exact ⟨rfl, .inr ⟨(w.heap.size, m), cap, by rw [← hi.len, nth_append_len]; rfl, rfl, h1, Nat.le_refl _, fun _ => rfl, by omega⟩⟩

theorem buildSliceE_sound (hT : TOK P T) (hi : HInv w σ h) {t n : Nat} {ps : List (Nat × AV)} {qs : Array (Nat × Value)} {K : AV → List Blk → Option R} (hp : Parts w σ h ps qs.toList) (hK : buildSliceE T t n ps h K = some r) :
    ∃ v h', K v h' = some r ∧ ∃ y w' σ', (Instr.buildSlice t n qs).run P w = .ok y w' ∧ HInv w' σ' h' ∧ Step w σ h w' σ' h' ∧ ARel w' σ' h' v y := by
  unfold buildSliceE at hK
  split at hK
  · cases hK
  · rename_i ti ht
    split at hK
    · rename_i e hg
      split at hK
      · cases hK
      · rename_i te hte
        obtain ⟨hc, hK⟩ := cond_none hK
        simp only [Bool.and_eq_true] at hc
        have c1 := Nat.le_of_ble_eq_true hc.1.1.1
        have c2 := Nat.le_of_ble_eq_true hc.1.1.2
        have c3 := Nat.le_of_ble_eq_true hc.1.2
        have c4 := Nat.eq_of_beq_eq_true hc.2
        have hne : te.zero ≠ [] := by rintro e0; rw [e0] at c4; simp at c4; omega
        obtain ⟨ie, z, hie, hz0, hzs, hlit⟩ := hT.zero hte c4 (.inr hne)
        obtain ⟨ie', hie', hes, _⟩ := hT.info hte
        rw [hie] at hie'; cases hie'
        have hu := hT.slice ht hg
        obtain ⟨k1, k2⟩ := zeros_vals (w := w) (G := σ.G) hlit (by omega) n
        unfold fillAny at hK
        split at hK
        · rename_i l hl
          obtain ⟨C', g1, g2, g3⟩ := fill_sound hp (AVals.to_D k1) k2 hl
          have hll : l.length = n * te.size := by
            have : ∀ (ps : List (Nat × AV)) (cs l : List AV), fillE cellsC (fun i => some (i * te.size, te.size)) cs ps = some l → l.length = cs.length := by
              intro ps
              induction ps with
              | nil => intro cs l hl; simp [fillE] at hl; subst hl; rfl
              | cons p ps ih =>
                intro cs l hl
                obtain ⟨i, v⟩ := p
                simp only [fillE] at hl
                split at hl
                · obtain ⟨_, hl⟩ := cond_none hl
                  rw [ih _ _ hl, length_setMany]
                · cases hl
            rw [this _ _ _ hl]; simp only [List.length_map]; rw [length_flat, c4]
          have hlim : ¬ (16777216 < n * te.size) := by
            have : n * te.size ≤ 4096 * 64 := Nat.mul_le_mul c1 c2
            omega
          have hcs : C'.size = n * te.size := by have := (AVals.get g2).1; simp at this; omega
          have hrun : ∀ (x : Blk), BRel (w.alloc (.cells C' e)) ⟨σ.G, σ.ι ++ [(w.heap.size, C'.size)]⟩ (h ++ [x]) h.length x →
              (Instr.buildSlice t n qs).run P w = .ok (.slice (some ⟨w.heap.size, 0, none⟩) n n) (w.alloc (.cells C' e)) := by
            intro x _
            have hzero : (zeroValue e).run P w = .ok z w := by simp [zeroValue, typeInfo, hie, hz0]
            have hfill : Instr.fill (fun i => some (i * ie.size, ie.size)) ((Array.range (n * ie.size)).map (z.cells[· % z.cells.size]!)) qs.toList = some C' := by
              rw [hes, ← hzs]; rw [← hzs] at g1; exact g1
            by_cases hn : n * ie.size = 0
            · have hn0 : n = 0 := by
                rcases Nat.mul_eq_zero.1 hn with e0 | e0
                · exact e0
                · omega
              subst hn0
              have hfill' : Instr.fill (fun i => some (i * ie.size, ie.size)) #[] qs.toList = some C' := by
                rw [← hfill]; congr 1; exact (Array.eq_empty_of_size_eq_zero (by simp)).symm
              simp only [Instr.buildSlice, run_underlying hu, sizeOf, typeInfo, hie, Sem.run_bind, Result.andThen_ok, run_program, Sem.run_pure]
              have hr0 : Array.range 0 = #[] := Array.eq_empty_of_size_eq_zero (by simp)
              simp [hfill', newRow, hr0]
            · simp only [Instr.buildSlice, run_underlying hu, sizeOf, typeInfo, hie, Sem.run_bind, Result.andThen_ok, run_program, Sem.run_pure]
              rw [hes] at hn hfill ⊢
              simp [hlim, hn, hzero, hfill, newRow]
          replace hK : (match allD l with | some ds => K (.d (.sl ds n te.size true false)) h | none => K (.row h.length 0 n n te.size true) (h ++ [.ac l])) = some r := hK
          cases hD : allD l with
          | some ds =>
            rw [hD] at hK
            -- the literal is data: the block is nobody's
            have hv := AVals.of_D hD g2
            have hrun' := hrun (.dc ds) (BRel.newD hi hv g3)
            obtain ⟨o1, o2⟩ := hi.outside (w' := w.alloc (.cells C' e)) ((Go.RowKit.Below.refl _ _).alloc (Nat.le_refl _) _)
            refine ⟨_, _, hK, _, _, _, hrun', o1, o2, ?_⟩
            simp only [ARel, DRel, cond]
            have hdl : ds.length = l.length := by have := (DVals.get hv).1; have := (AVals.get g2).1; omega
            refine ⟨by rw [hdl, hll], w.heap.size, 0, n, none, rfl, Nat.le_refl _, fun _ => rfl, fun _ => rfl, ?_⟩
            refine dcells_of (heap_new w _) (.inr ⟨Nat.le_refl _, by simp⟩) ds 0 fun i d hd => ?_
            obtain ⟨x, m1, m2⟩ := (DVals.get hv).2 i d hd
            refine ⟨x, by rw [nth_eq] at m1; simpa using m1, g3 x (mem_of_nth m1), ?_⟩
            exact DRel.mono (fun b hb => ⟨.inl hb, Go.RowKit.Below.heap_alloc w _ b (hi.bound b hb)⟩) d x m2
          | none =>
            rw [hD] at hK
            have hB := BRel.newA (E := e) hi g2 g3
            obtain ⟨p1, p2, p3, p4⟩ := newRow_sound (P := P) hi (E := e) (C := C') (x := .ac l) hB
            exact ⟨_, _, hK, _, _, _, hrun _ hB, p2, p3, row_new hi (Nat.le_refl _) (by omega)⟩
        · cases hK
    · cases hK

theorem wrap_id {n : Int} (h0 : 0 ≤ n) (h1 : n ≤ 1048576) : IntKind.i64.wrap n = n := by
  have := Go.IntWalk.i64_in n (by omega)
  simpa using this

theorem makeSliceE_sound (hT : TOK P T) (hi : HInv w σ h) {t : Nat} {a b : AV} {x y : Value} {K : AV → List Blk → Option R} (ha : ARel w σ h a x) (hb : ARel w σ h b y) (hK : makeSliceE T t a b h K = some r) :
    ∃ v h', K v h' = some r ∧ ∃ u w' σ', (Instr.makeSlice t x y).run P w = .ok u w' ∧ HInv w' σ' h' ∧ Step w σ h w' σ' h' ∧ ARel w' σ' h' v u := by
  unfold makeSliceE at hK
  split at hK
  · cases hK
  · rename_i ti ht
    split at hK
    · rename_i e hg
      split at hK
      · cases hK
      · rename_i te hte
        split at hK
        · rename_i l c
          obtain ⟨hc, hK⟩ := cond_none hK
          simp only [Bool.and_eq_true, decide_eq_true_eq] at hc
          obtain ⟨⟨⟨c0, c1⟩, c2⟩, ⟨c3, c4⟩, c5⟩ := hc
          have c3 := Nat.le_of_ble_eq_true c3
          have c4 := Nat.le_of_ble_eq_true c4
          have c5 := Nat.eq_of_beq_eq_true c5
          have hne : te.zero ≠ [] := by rintro e0; rw [e0] at c5; simp at c5; omega
          obtain ⟨ie, z, hie, hz0, hzs, hlit⟩ := hT.zero hte c5 (.inr hne)
          obtain ⟨ie', hie', hes, heb⟩ := hT.info hte
          rw [hie] at hie'; cases hie'
          have hu := hT.slice ht hg
          simp only [ARel, DRel] at ha hb
          subst ha; subst hb
          obtain ⟨k1, k2⟩ := zeros_vals (w := w) (G := σ.G) hlit (by omega) c.toNat
          have hB := BRel.newD (E := e) hi k1 k2
          obtain ⟨p1, p2, p3, p4⟩ := newRow_sound (P := P) hi (E := e) (x := .dc (List.replicate c.toNat te.zero).flatten) hB
          refine ⟨_, _, hK, .slice (some ⟨w.heap.size, 0, none⟩) l.toNat c.toNat, _, _, ?_, p2, p3, row_new hi (by omega) (by simp [hzs])⟩
          have hzero : (zeroValue e).run P w = .ok z w := by simp [zeroValue, typeInfo, hie, hz0]
          have w1 : IntKind.i64.wrap l = l := wrap_id c0 (by omega)
          have w2 : IntKind.i64.wrap c = c := wrap_id (by omega) c2
          have hbig : ¬ ((281474976710656 : Int) < (ie.bytes : Int) * c) := by
            have h1 : (ie.bytes : Int) ≤ 1048576 := by omega
            have h2 : (ie.bytes : Int) * c ≤ 1048576 * 1048576 := Int.mul_le_mul h1 c2 (by omega) (by omega)
            omega
          have hneg : ¬ (c < 0) := by omega
          have hneg2 : ¬ (l < 0) := by omega
          have hlc : ¬ (c < l) := by omega
          simp only [newRow] at p1
          simp only [Instr.makeSlice, run_underlying hu, typeInfo, hie, Sem.run_bind, Result.andThen_ok, run_program, Sem.run_pure, asInt, asIntOf, w1, w2]
          by_cases hn : c.toNat * ie.size = 0
          · have hc0 : c.toNat = 0 := by
              rcases Nat.mul_eq_zero.1 hn with e0 | e0
              · exact e0
              · omega
            simp [hneg, hneg2, hlc, hbig, sizeOf, typeInfo, hie, hc0, newRow]
            have hr0 : Array.range 0 = #[] := Array.eq_empty_of_size_eq_zero (by simp)
            rw [hr0, Array.map_empty, Array.map_empty]
          · rw [hes] at hn
            simp [hneg, hneg2, hlc, hbig, sizeOf, typeInfo, hie, hn, hzero, newRow, hes, hzs]
        · cases hK
    · cases hK
end
end Go.AE

/- Operations that only compute. -/
namespace Go.AE
open Go

/-- What is asked of the program for '==' on arrays and structs (proved in the text on equality). -/
def EqW (P : Program) (T : Tab TI) : Prop :=
  ∀ t ti xs ys b, tget T t = some ti → ti.agg = true → flatTy T t = true → eqLT T (leaves T 4 t) xs ys = some b → ∀ (w : World) (G : Nat → Prop) (vs us : Array Value), DVals w G xs vs.toList → DVals w G ys us.toList →
    P.eqGuardType P.depth t = false ∧ (Op.equal t (.agg vs) (.agg us)).run P w = .ok b w
/-- Such values may be keys of maps. -/
def KeyW (P : Program) (T : Tab TI) : Prop :=
  ∀ t ti, tget T t = some ti → ti.agg = true → flatTy T t = true → ∀ (w : World) (em : Bool) (vs : Array Value), vs.size = (leaves T 4 t).length → (Instr.checkKey em 10000 t (.agg vs)).run P w = .ok () w
def EqOK (P : Program) (T : Tab TI) : Prop := EqW P T ∧ KeyW P T

section
variable {P : Program} {T : Tab TI} {w : World} {σ : Sg} {h : List Blk} {G : Nat → Prop} {R : Type} {r : R}

theorem forceE_eq {v : AV} {K : AV → Option R} : forceE v K = K v := by cases v <;> rfl

theorem ARel.int {k : IntKind} {n : Int} {y : Value} (q : ARel w σ h (.d (.int k n)) y) : y = .int k n := by simpa [ARel, DRel] using q
theorem ARel.bool {b : Bool} {y : Value} (q : ARel w σ h (.d (.bool b)) y) : y = .bool b := by simpa [ARel, DRel] using q
theorem ARel.str {s : ByteArray} {y : Value} (q : ARel w σ h (.d (.str s)) y) : y = .string s := by simpa [ARel, DRel] using q
theorem ARel.ofInt {k : IntKind} {n : Int} : ARel w σ h (.d (.int k n)) (.int k n) := by simp [ARel, DRel]
theorem ARel.ofBool {b : Bool} : ARel w σ h (.d (.bool b)) (.bool b) := by simp [ARel, DRel]

theorem pickE_sound {c a b : AV} {x y z : Value} {K : AV → Option R} (hc : ARel w σ h c x) (ha : ARel w σ h a y) (hb : ARel w σ h b z) (hK : pickE c a b K = some r) :
    ∃ v, K v = some r ∧ ∃ u, (do pure (if ← asBool x then y else z) : Sem Value).run P w = .ok u w ∧ ARel w σ h v u := by
  unfold pickE at hK
  split at hK
  · rename_i t
    have := hc.bool; subst this
    split at hK
    · rename_i p q
      have := ha.bool; subst this
      have := hb.bool; subst this
      refine ⟨_, hK, .bool (cond t p q), ?_, ARel.ofBool⟩
      cases t <;> simp [asBool]
    · cases t with
      | true => exact ⟨_, hK, y, by simp [asBool], ha⟩
      | false => exact ⟨_, hK, z, by simp [asBool], hb⟩
  · cases hK

theorem intOp_sound {op : BinOp} {k : IntKind} {a b : Int} {K : DV → Option R} (h1 : op ≠ .shl) (h2 : op ≠ .shr) (hK : intOp op k a b K = some r) {t : TypeId} :
    ∃ d, K d = some r ∧ ∃ u, (binOp op t (.int k a) (.int k b)).run P w = .ok u w ∧ DRel w σ.G d u := by
  cases op with
  | shl => exact absurd rfl h1
  | shr => exact absurd rfl h2
  | quo =>
    simp only [intOp] at hK
    rcases cond_some hK with ⟨_, hK⟩ | ⟨hb, hK⟩
    · cases hK
    · have hb : ¬ b = 0 := of_decide_eq_false hb
      exact ⟨_, hK, .int k (k.wrap (a.tdiv b)), by simp [binOp, Op.intDiv, hb], by simp [DRel]⟩
  | rem =>
    simp only [intOp] at hK
    rcases cond_some hK with ⟨_, hK⟩ | ⟨hb, hK⟩
    · cases hK
    · have hb : ¬ b = 0 := of_decide_eq_false hb
      exact ⟨_, hK, .int k (a.tmod b), by simp [binOp, Op.intDiv, hb], by simp [DRel]⟩
  | eql => exact ⟨_, hK, .bool (decide (a = b)), by simp [binOp, Op.intCmp, BEq.beq], by simp [DRel]⟩
  | neq => exact ⟨_, hK, .bool (!decide (a = b)), by simp [binOp, Op.intCmp, bne, BEq.beq], by simp [DRel]⟩
  | lss => exact ⟨_, hK, .bool (decide (a < b)), by simp [binOp, Op.intCmp], by simp [DRel]⟩
  | leq => exact ⟨_, hK, .bool (decide (a ≤ b)), by simp [binOp, Op.intCmp], by simp [DRel]⟩
  | gtr => exact ⟨_, hK, .bool (decide (b < a)), by simp [binOp, Op.intCmp], by simp [DRel]⟩
  | geq => exact ⟨_, hK, .bool (decide (b ≤ a)), by simp [binOp, Op.intCmp], by simp [DRel]⟩
  | add => exact ⟨_, hK, .int k (k.wrap (a + b)), by simp [binOp, Op.intArith], by simp [DRel]⟩
  | sub => exact ⟨_, hK, .int k (k.wrap (a - b)), by simp [binOp, Op.intArith], by simp [DRel]⟩
  | mul => exact ⟨_, hK, .int k (k.wrap (a * b)), by simp [binOp, Op.intArith], by simp [DRel]⟩
  | and => exact ⟨_, hK, .int k (k.wrap (BitVec.ofInt k.bits a &&& BitVec.ofInt k.bits b).toNat), by simp [binOp, Op.intBits], by simp [DRel]⟩
  | or => exact ⟨_, hK, .int k (k.wrap (BitVec.ofInt k.bits a ||| BitVec.ofInt k.bits b).toNat), by simp [binOp, Op.intBits], by simp [DRel]⟩
  | xor => exact ⟨_, hK, .int k (k.wrap (BitVec.ofInt k.bits a ^^^ BitVec.ofInt k.bits b).toNat), by simp [binOp, Op.intBits], by simp [DRel]⟩
  | andNot => exact ⟨_, hK, .int k (k.wrap (BitVec.ofInt k.bits a &&& ~~~ BitVec.ofInt k.bits b).toNat), by simp [binOp, Op.intBits], by simp [DRel]⟩

theorem shiftOp_sound {op : BinOp} {k j : IntKind} {a b : Int} {K : DV → Option R} (h1 : op = .shl ∨ op = .shr) (hK : shiftOp op k a b K = some r) {t : TypeId} :
    ∃ d, K d = some r ∧ ∃ u, (binOp op t (.int k a) (.int j b)).run P w = .ok u w ∧ DRel w σ.G d u := by
  unfold shiftOp at hK
  rcases cond_some hK with ⟨_, hK⟩ | ⟨hb, hK⟩
  · cases hK
  · have hb : ¬ b < 0 := of_decide_eq_false hb
    rcases h1 with rfl | rfl
    · exact ⟨_, hK, .int k (k.wrap (a * 2 ^ (min b.toNat k.bits))), by simp [binOp, Op.shift, hb], by simp [DRel]⟩
    · exact ⟨_, hK, .int k (a.fdiv (2 ^ (min b.toNat k.bits))), by simp [binOp, Op.shift, hb], by simp [DRel]⟩

theorem isNilS_sound {a : AV} {y : Value} (hd : isNilS a = true) (q : ARel w σ h a y) : y = .slice none 0 0 := by
  cases a with
  | d d =>
    cases d with
    | sl cs n sz cl nl =>
      cases nl with
      | true => simp only [ARel, DRel, cond] at q; exact q.2.2
      | false => simp [isNilS] at hd
    | _ => simp [isNilS] at hd
  | _ => simp [isNilS] at hd

theorem isNilP_sound {a : AV} {y : Value} (hd : isNilP a = true) (q : ARel w σ h a y) : y = .pointer none := by
  cases a with
  | d d =>
    cases d with
    | nilp => simpa [ARel, DRel] using q
    | _ => simp [isNilP] at hd
  | _ => simp [isNilP] at hd

theorem not_dead {b : Nat} {x : Blk} (hx : nth h b = some x) (hn : x ≠ .dead) : ¬ isDead h b := by
  intro e; unfold isDead at e; rw [hx] at e; cases e; exact hn rfl

theorem nilS_sound {a : AV} {y : Value} {b : Bool} (q : ARel w σ h a y) (hb : nilS h a = some b) : ∃ p n c, y = .slice p n c ∧ p.isNone = b := by
  cases a with
  | d d =>
    cases d with
    | sl cs n sz cl nl =>
      simp [nilS, nilD] at hb; subst hb
      simp only [ARel, DRel] at q
      cases nl with
      | true => simp only [cond] at q; exact ⟨none, 0, 0, q.2.2, rfl⟩
      | false => simp only [cond] at q; obtain ⟨_, b, o, c, _, rfl, _⟩ := q; exact ⟨_, _, _, rfl, rfl⟩
    | _ => simp [nilS, nilD] at hb
  | row b off n cap sz ex =>
    simp only [nilS] at hb
    simp only [ARel] at q
    split at hb
    · rename_i hx
      cases hb
      rcases q.2 with q | ⟨c, cap', hc, rfl, _⟩
      · exact absurd q (not_dead hx (by simp))
      · exact ⟨_, _, _, rfl, rfl⟩
    · rename_i hx
      cases hb
      rcases q.2 with q | ⟨c, cap', hc, rfl, _⟩
      · exact absurd q (not_dead hx (by simp))
      · exact ⟨_, _, _, rfl, rfl⟩
    · cases hb
  | grow b sz nn =>
    simp only [nilS] at hb
    simp only [ARel] at q
    have key : ∀ (blk : Blk) (m : Nat), nth h b = some blk → clen blk = some m → ∃ p n c, y = .slice p n c ∧ p.isNone = (!nn && Nat.beq m 0) := by
      intro blk m hx hm
      rcases q.2 with q | ⟨blk', m', hx', hm', q⟩
      · exact absurd q (not_dead hx (by rintro rfl; simp [clen] at hm))
      · rw [hx] at hx'; cases hx'
        rw [hm] at hm'; cases hm'
        rcases q with ⟨rfl, q⟩ | ⟨h0, c, n, cap', hc, rfl, _⟩
        · cases nn with
          | true => simp only [cond] at q; obtain ⟨a, rfl⟩ := q; exact ⟨_, _, _, rfl, rfl⟩
          | false => simp only [cond] at q; subst q; exact ⟨_, _, _, rfl, rfl⟩
        · have : Nat.beq m 0 = false := by rw [Bool.eq_false_iff]; intro e; have := Nat.eq_of_beq_eq_true e; omega
          exact ⟨_, _, _, rfl, by rw [this]; simp⟩
    split at hb
    · rename_i cs hx
      cases hb; exact key _ _ hx rfl
    · rename_i cs hx
      cases hb; exact key _ _ hx rfl
    · cases hb
  | _ => simp [nilS] at hb

theorem nilP_sound {a : AV} {y : Value} {b : Bool} (q : ARel w σ h a y) (hb : nilP h a = some b) : ∃ p, y = .pointer p ∧ p.isNone = b := by
  cases a with
  | d d =>
    cases d with
    | nilp => simp [nilP] at hb; subst hb; exact ⟨none, by simpa [ARel, DRel] using q, rfl⟩
    | ptr cs off => simp [nilP] at hb; subst hb; simp only [ARel, DRel] at q; obtain ⟨b, o, rfl, _⟩ := q; exact ⟨_, rfl, rfl⟩
    | _ => simp [nilP] at hb
  | ref b off =>
    simp only [nilP] at hb
    simp only [ARel] at q
    split at hb
    · rename_i hx
      cases hb
      rcases q.2 with q | ⟨c, hc, rfl⟩
      · exact absurd q (not_dead hx (by simp))
      · exact ⟨_, rfl, rfl⟩
    · rename_i hx
      cases hb
      rcases q.2 with q | ⟨c, hc, rfl⟩
      · exact absurd q (not_dead hx (by simp))
      · exact ⟨_, rfl, rfl⟩
    · cases hb
  | _ => simp [nilP] at hb

theorem TOK.bool (hT : TOK P T) {t : Nat} {ti : TI} (ht : tget T t = some ti) (hg : ti.tag = .bool) : P.underlying t = some .bool := by
  have := hT.tag ht
  rw [hg] at this; simp only [tagOK] at this
  split at this
  · rename_i hf; exact hf
  · cases this

theorem TOK.ptr (hT : TOK P T) {t e : Nat} {ti : TI} (ht : tget T t = some ti) (hg : ti.tag = .ptr e) : P.underlying t = some (.pointer e) := by
  have := hT.tag ht
  rw [hg] at this; simp only [tagOK] at this
  split at this
  · rename_i f hf; simp at this; subst this; exact hf
  · cases this

/-- '==' and '!=' as the operation has them. -/
def eqRun (op : BinOp) (t : TypeId) (ox oy : Operand) (x y : Value) : Sem Value := do eqGuard op t ox oy x y; binOp op t x y

theorem equal_def (t : TypeId) (x y : Value) : ∃ d, Op.equal t x y = Op.equalIn (d + 1) t x y := ⟨_, rfl⟩

theorem run_equal_bool {t : TypeId} {p q : Bool} (hu : P.underlying t = some .bool) : (Op.equal t (.bool p) (.bool q)).run P w = .ok (p == q) w := by
  obtain ⟨d, hd⟩ := equal_def t (.bool p) (.bool q)
  rw [hd]; unfold Op.equalIn
  rw [Sem.run_bind, run_underlying hu]; rfl

theorem run_equal_sl {t e : TypeId} {p q : Option Addr} {n m c k : Nat} (hu : P.underlying t = some (.slice e)) (hn : p = none ∨ q = none) : (Op.equal t (.slice p n c) (.slice q m k)).run P w = .ok (p.isNone && q.isNone) w := by
  obtain ⟨d, hd⟩ := equal_def t (.slice p n c) (.slice q m k)
  rw [hd]; unfold Op.equalIn
  rw [Sem.run_bind, run_underlying hu]
  rcases hn with rfl | rfl
  · cases q <;> rfl
  · cases p <;> rfl

theorem run_equal_ptr {t e : TypeId} {p q : Option Addr} (hu : P.underlying t = some (.pointer e)) (hn : p = none ∨ q = none) : (Op.equal t (.pointer p) (.pointer q)).run P w = .ok (p.isNone && q.isNone) w := by
  obtain ⟨d, hd⟩ := equal_def t (.pointer p) (.pointer q)
  rw [hd]; unfold Op.equalIn
  rw [Sem.run_bind, run_underlying hu]
  rcases hn with rfl | rfl
  · cases q <;> rfl
  · cases p <;> rfl

theorem guard_bool (o : BinOp) (t : TypeId) (ox oy : Operand) (p q : Bool) : (eqGuard o t ox oy (.bool p) (.bool q)).run P w = .ok () w := by cases o <;> rfl
theorem guard_str (o : BinOp) (t : TypeId) (ox oy : Operand) (p q : ByteArray) : (eqGuard o t ox oy (.string p) (.string q)).run P w = .ok () w := by cases o <;> rfl
theorem guard_sl (o : BinOp) (t : TypeId) (ox oy : Operand) (p q : Option Addr) (n m c k : Nat) : (eqGuard o t ox oy (.slice p n c) (.slice q m k)).run P w = .ok () w := by cases o <;> rfl
theorem guard_ptr (o : BinOp) (t : TypeId) (ox oy : Operand) (p q : Option Addr) : (eqGuard o t ox oy (.pointer p) (.pointer q)).run P w = .ok () w := by cases o <;> rfl
theorem guard_agg (o : BinOp) (t : TypeId) (ox oy : Operand) (p q : Array Value) (hg : P.eqGuardType P.depth t = false) : (eqGuard o t ox oy (.agg p) (.agg q)).run P w = .ok () w := by
  cases o <;> simp [eqGuard, hg]

theorem eq_both {t : TypeId} {ox oy : Operand} {x y : Value} {b : Bool} (hg : ∀ o, (eqGuard o t ox oy x y).run P w = .ok () w) (h1 : (binOp .eql t x y).run P w = .ok (.bool b) w) (h2 : (binOp .neq t x y).run P w = .ok (.bool (!b)) w) :
    (eqRun .eql t ox oy x y).run P w = .ok (.bool b) w ∧ (eqRun .neq t ox oy x y).run P w = .ok (.bool (!b)) w := by
  unfold eqRun
  rw [Sem.run_bind, Sem.run_bind, hg, hg]
  exact ⟨h1, h2⟩

theorem eqlE_agg (hE : EqOK P T) {t : Nat} {ti : TI} (ht : tget T t = some ti) (hg : ti.agg = true) {a b : AV} {x y : Value} {ox oy : Operand} {K : Bool → Option R} (ha : ARel w σ h a x) (hb : ARel w σ h b y)
    (hK : eqAgg T t a b K = some r) :
    ∃ e, K e = some r ∧ (eqRun .eql t ox oy x y).run P w = .ok (.bool e) w ∧ (eqRun .neq t ox oy x y).run P w = .ok (.bool (!e)) w := by
  unfold eqAgg at hK
  split at hK
  · rename_i xs ys
    obtain ⟨hf, hK⟩ := cond_none hK
    simp only [Option.bind_eq_some_iff] at hK
    obtain ⟨e, he, hK⟩ := hK
    simp only [ARel, DRel] at ha hb
    obtain ⟨vs, rfl, h1, _⟩ := ha
    obtain ⟨us, rfl, h2, _⟩ := hb
    obtain ⟨g1, g2⟩ := hE.1 t ti xs ys e ht hg hf he w σ.G vs us h1 h2
    refine ⟨e, hK, eq_both (fun o => guard_agg o t ox oy vs us g1) ?_ ?_⟩
    · simp only [binOp, Sem.run_bind, g2, Result.andThen_ok, Sem.run_pure]
    · simp only [binOp, Sem.run_bind, g2, Result.andThen_ok, Sem.run_pure]
  · cases hK

theorem bin_sl {t e : TypeId} {p q : Option Addr} {n m c k : Nat} (hu : P.underlying t = some (.slice e)) (hn : p = none ∨ q = none) {ox oy : Operand} :
    (eqRun .eql t ox oy (.slice p n c) (.slice q m k)).run P w = .ok (.bool (p.isNone && q.isNone)) w ∧ (eqRun .neq t ox oy (.slice p n c) (.slice q m k)).run P w = .ok (.bool (!(p.isNone && q.isNone))) w := by
  refine eq_both (fun o => guard_sl o t ox oy p q n m c k) ?_ ?_
  · simp only [binOp, Sem.run_bind, run_equal_sl hu hn, Result.andThen_ok, Sem.run_pure]
  · simp only [binOp, Sem.run_bind, run_equal_sl hu hn, Result.andThen_ok, Sem.run_pure]

theorem bin_ptr {t e : TypeId} {p q : Option Addr} (hu : P.underlying t = some (.pointer e)) (hn : p = none ∨ q = none) {ox oy : Operand} :
    (eqRun .eql t ox oy (.pointer p) (.pointer q)).run P w = .ok (.bool (p.isNone && q.isNone)) w ∧ (eqRun .neq t ox oy (.pointer p) (.pointer q)).run P w = .ok (.bool (!(p.isNone && q.isNone))) w := by
  refine eq_both (fun o => guard_ptr o t ox oy p q) ?_ ?_
  · simp only [binOp, Sem.run_bind, run_equal_ptr hu hn, Result.andThen_ok, Sem.run_pure]
  · simp only [binOp, Sem.run_bind, run_equal_ptr hu hn, Result.andThen_ok, Sem.run_pure]

theorem eqlE_sound (hT : TOK P T) (hE : EqOK P T) {t : Nat} {a b : AV} {x y : Value} {ox oy : Operand} {K : Bool → Option R} (ha : ARel w σ h a x) (hb : ARel w σ h b y) (hK : eqlE T t h a b K = some r) :
    ∃ e, K e = some r ∧ (eqRun .eql t ox oy x y).run P w = .ok (.bool e) w ∧ (eqRun .neq t ox oy x y).run P w = .ok (.bool (!e)) w := by
  unfold eqlE at hK
  split at hK
  · cases hK
  · rename_i ti ht
    split at hK
    · rename_i hg
      have hu := hT.bool ht hg
      split at hK
      · rename_i p q
        have := ha.bool; subst this
        have := hb.bool; subst this
        refine ⟨_, hK, eq_both (fun o => guard_bool o t ox oy p q) ?_ ?_⟩
        · simp only [binOp, Sem.run_bind, run_equal_bool hu, Result.andThen_ok, Sem.run_pure]
        · simp only [binOp, Sem.run_bind, run_equal_bool hu, Result.andThen_ok, Sem.run_pure]
      · cases hK
    · rename_i hg
      split at hK
      · rename_i p q
        have := ha.str; subst this
        have := hb.str; subst this
        exact ⟨_, hK, eq_both (fun o => guard_str o t ox oy p q) rfl rfl⟩
      · cases hK
    · rename_i e hg
      have hu := hT.slice ht hg
      rcases cond_some hK with ⟨hn, hK⟩ | ⟨_, hK⟩
      · simp only [Option.bind_eq_some_iff] at hK
        obtain ⟨e, he, hK⟩ := hK
        have := isNilS_sound hn hb; subst this
        obtain ⟨p, n, c, rfl, rfl⟩ := nilS_sound ha he
        refine ⟨_, hK, ?_⟩
        have := bin_sl (P := P) (w := w) (p := p) (q := none) (n := n) (c := c) (m := 0) (k := 0) hu (.inr rfl) (ox := ox) (oy := oy)
        simpa using this
      · obtain ⟨hn, hK⟩ := cond_none hK
        simp only [Option.bind_eq_some_iff] at hK
        obtain ⟨e, he, hK⟩ := hK
        have := isNilS_sound hn ha; subst this
        obtain ⟨p, n, c, rfl, rfl⟩ := nilS_sound hb he
        refine ⟨_, hK, ?_⟩
        have := bin_sl (P := P) (w := w) (p := none) (q := p) (n := 0) (c := 0) (m := n) (k := c) hu (.inl rfl) (ox := ox) (oy := oy)
        simpa using this
    · rename_i e hg
      have hu := hT.ptr ht hg
      rcases cond_some hK with ⟨hn, hK⟩ | ⟨_, hK⟩
      · simp only [Option.bind_eq_some_iff] at hK
        obtain ⟨e, he, hK⟩ := hK
        have := isNilP_sound hn hb; subst this
        obtain ⟨p, rfl, rfl⟩ := nilP_sound ha he
        refine ⟨_, hK, ?_⟩
        have := bin_ptr (P := P) (w := w) (p := p) (q := none) hu (.inr rfl) (ox := ox) (oy := oy)
        simpa using this
      · obtain ⟨hn, hK⟩ := cond_none hK
        simp only [Option.bind_eq_some_iff] at hK
        obtain ⟨e, he, hK⟩ := hK
        have := isNilP_sound hn ha; subst this
        obtain ⟨p, rfl, rfl⟩ := nilP_sound hb he
        refine ⟨_, hK, ?_⟩
        have := bin_ptr (P := P) (w := w) (p := none) (q := p) hu (.inl rfl) (ox := ox) (oy := oy)
        simpa using this
    · cases hK
    · obtain ⟨hagg, hK⟩ := cond_none hK
      exact eqlE_agg hE ht hagg ha hb hK
end
end Go.AE

/- Operations that only compute, the rest of them. -/
namespace Go.AE
open Go

section
variable {P : Program} {T : Tab TI} {w : World} {σ : Sg} {h : List Blk} {G : Nat → Prop} {R : Type} {r : R}

theorem guard_int (o : BinOp) (t : TypeId) (ox oy : Operand) (j k : IntKind) (p q : Int) : (eqGuard o t ox oy (.int j p) (.int k q)).run P w = .ok () w := by cases o <;> rfl

theorem intOp_sound' {op : BinOp} {k : IntKind} {a b : Int} {K : AV → Option R} (h1 : op ≠ .shl) (h2 : op ≠ .shr) (hK : (intOp op k a b fun d => K (.d d)) = some r) {t : TypeId} {ox oy : Operand} :
    ∃ v, K v = some r ∧ ∃ u, (eqRun op t ox oy (.int k a) (.int k b)).run P w = .ok u w ∧ ARel w σ h v u := by
  obtain ⟨d, g1, u, g2, g3⟩ := intOp_sound (P := P) (w := w) (σ := σ) h1 h2 hK (t := t)
  refine ⟨.d d, g1, u, ?_, by simpa [ARel] using g3⟩
  unfold eqRun
  rw [Sem.run_bind, guard_int]; exact g2

theorem shiftOp_sound' {op : BinOp} {k j : IntKind} {a b : Int} {K : AV → Option R} (h1 : op = .shl ∨ op = .shr) (hK : (shiftOp op k a b fun d => K (.d d)) = some r) {t : TypeId} {ox oy : Operand} :
    ∃ v, K v = some r ∧ ∃ u, (eqRun op t ox oy (.int k a) (.int j b)).run P w = .ok u w ∧ ARel w σ h v u := by
  obtain ⟨d, g1, u, g2, g3⟩ := shiftOp_sound (P := P) (w := w) (σ := σ) (j := j) h1 hK (t := t)
  refine ⟨.d d, g1, u, ?_, by simpa [ARel] using g3⟩
  unfold eqRun
  rw [Sem.run_bind, guard_int]; exact g2

theorem addStr_sound {a b : AV} {x y : Value} {t : TypeId} {ox oy : Operand} {K : AV → Option R} (ha : ARel w σ h a x) (hb : ARel w σ h b y) (hK : addStr a b K = some r) :
    ∃ v, K v = some r ∧ ∃ u, (eqRun .add t ox oy x y).run P w = .ok u w ∧ ARel w σ h v u := by
  unfold addStr at hK
  split at hK
  · rename_i p q
    have := ha.str; subst this
    have := hb.str; subst this
    obtain ⟨hc, hK⟩ := cond_none hK
    have hc := Nat.le_of_ble_eq_true hc
    refine ⟨_, hK, .string (p ++ q), ?_, by simp [ARel, DRel]⟩
    unfold eqRun
    rw [Sem.run_bind, guard_str]
    simp only [Result.andThen_ok, binOp, Op.stringOp]
    have hmax : IntKind.i64.max = 9223372036854775807 := rfl
    rw [if_neg (by rw [hmax]; omega)]
    rfl
  · cases hK

theorem binE_sound (hT : TOK P T) (hE : EqOK P T) {op : BinOp} {t : Nat} {a b : AV} {x y : Value} {ox oy : Operand} {K : AV → Option R} (ha : ARel w σ h a x) (hb : ARel w σ h b y) (hK : binE T op t h a b K = some r) :
    ∃ v, K v = some r ∧ ∃ u, (eqRun op t ox oy x y).run P w = .ok u w ∧ ARel w σ h v u := by
  unfold binE at hK
  split at hK
  · rename_i j n k m
    have := ha.int; subst this
    have := hb.int; subst this
    split at hK
    · exact shiftOp_sound' (.inl rfl) hK
    · exact shiftOp_sound' (.inr rfl) hK
    · rename_i h1 h2
      obtain ⟨hc, hK2⟩ := cond_none hK
      have := of_decide_eq_true hc; subst this
      exact intOp_sound' h1 h2 hK2
  · split at hK
    · obtain ⟨e, g1, g2, _⟩ := eqlE_sound (ox := ox) (oy := oy) hT hE ha hb hK
      exact ⟨_, g1, _, g2, ARel.ofBool⟩
    · obtain ⟨e, g1, _, g2⟩ := eqlE_sound (ox := ox) (oy := oy) hT hE ha hb hK
      exact ⟨_, g1, _, g2, ARel.ofBool⟩
    · exact addStr_sound ha hb hK
    · cases hK

theorem unE_sound {op : UnOp} {a : AV} {x : Value} {K : AV → Option R} (ha : ARel w σ h a x) (hK : unE op a K = some r) :
    ∃ v, K v = some r ∧ ∃ u, (Op.unary op x).run P w = .ok u w ∧ ARel w σ h v u := by
  unfold unE at hK
  split at hK
  · rename_i b; have := ha.bool; subst this; exact ⟨_, hK, _, rfl, ARel.ofBool⟩
  · rename_i k n; have := ha.int; subst this; exact ⟨_, hK, _, rfl, ARel.ofInt⟩
  · rename_i k n; have := ha.int; subst this; exact ⟨_, hK, _, rfl, ARel.ofInt⟩
  · cases hK

theorem convE_sound (hT : TOK P T) {src dst : Nat} {a : AV} {x : Value} {K : AV → Option R} (hs : (tget T src).isSome = true) (ha : ARel w σ h a x) (hK : convE T dst a K = some r) :
    ∃ v, K v = some r ∧ ∃ u, (convert src dst x).run P w = .ok u w ∧ ARel w σ h v u := by
  obtain ⟨ts, hts⟩ := Option.isSome_iff_exists.1 hs
  obtain ⟨d, hd, _⟩ := hT.row hts
  unfold convE at hK
  split at hK
  · cases hK
  · rename_i ti ht
    split at hK
    · rename_i k k' n hg
      have := ha.int; subst this
      refine ⟨_, hK, .int k (k.wrap n), ?_, ARel.ofInt⟩
      simp [convert, run_underlying hd, run_underlying (hT.int ht hg), Conv.intToInt]
    · rename_i s hg
      have := ha.str; subst this
      refine ⟨_, hK, .string s, ?_, by simp [ARel, DRel]⟩
      simp [convert, run_underlying hd, run_underlying (hT.str ht hg)]
    · cases hK

theorem extractE_sound {a : AV} {x : Value} {i : Nat} {K : AV → Option R} (ha : ARel w σ h a x) (hK : extractE a i K = some r) :
    ∃ v, K v = some r ∧ ∃ u, (Instr.extract x i).run P w = .ok u w ∧ ARel w σ h v u := by
  unfold extractE at hK
  split at hK
  · rename_i ds
    simp only [Option.bind_eq_some_iff] at hK
    obtain ⟨d, h1, h2⟩ := hK
    simp only [ARel, DRel] at ha
    obtain ⟨vs, rfl, hv⟩ := ha
    obtain ⟨y, k1, k2⟩ := (DVals.get hv).2 i d h1
    rw [nth_eq] at k1
    refine ⟨_, h2, y, ?_, by simpa [ARel] using k2⟩
    have : vs[i]? = some y := by simpa using k1
    simp [Instr.extract, this]
  · rename_i l
    simp only [Option.bind_eq_some_iff] at hK
    obtain ⟨d, h1, h2⟩ := hK
    simp only [ARel] at ha
    obtain ⟨vs, rfl, hv⟩ := ha
    obtain ⟨y, k1, k2⟩ := (AVals.get hv).2 i d h1
    rw [nth_eq] at k1
    refine ⟨_, h2, y, ?_, k2⟩
    have : vs[i]? = some y := by simpa using k1
    simp [Instr.extract, this]
  · cases hK

/-! ### Parts of values -/
theorem part_one {t : TypeId} {d : TypeDesc} {cs : Array Value} {off : Nat} {x : Value} (hu : P.underlying t = some d) (hd : d.isRow = false) (hx : cs[off]? = some x) : (part t cs off).run P w = .ok x w := by
  have hagg : (isAgg t).run P w = .ok false w := by
    unfold isAgg
    rw [Sem.run_bind, run_underlying hu w]
    cases d <;> simp_all [TypeDesc.isRow]
  simp [part, hagg, hx]

theorem part_row {t : TypeId} {d : TypeDesc} {i : TypeInfo} {cs : Array Value} {off : Nat} (hu : P.underlying t = some d) (hd : d.isRow = true) (hi : P.info? t = some i) : (part t cs off).run P w = .ok (.agg (cs.extract off (off + i.size))) w := by
  have hagg : (isAgg t).run P w = .ok true w := by
    unfold isAgg
    rw [Sem.run_bind, run_underlying hu w]
    cases d <;> simp_all [TypeDesc.isRow]
  simp [part, hagg, sizeOf, typeInfo, hi]

theorem readD_part (hT : TOK P T) {t : Nat} {ti : TI} (ht : tget T t = some ti) {cs : List DV} {off : Nat} {C : Array Value} {K : DV → Option R} (hK : readD T t ti cs off K = some r)
    (hcs : DVals w G cs C.toList) (hone : ∀ x ∈ C.toList, x.oneCell' = true) :
    ∃ d, K d = some r ∧ ∃ x, (part t C off).run P w = .ok x w ∧ DRel w G d x := by
  obtain ⟨de, hu, hrow⟩ := hT.row ht
  obtain ⟨i0, hi0, hsz, _⟩ := hT.info ht
  unfold readD at hK
  cases hagg : ti.agg with
  | false =>
    rw [hagg] at hK hrow
    simp only [cond, Option.bind_eq_some_iff] at hK
    obtain ⟨d, h1, h2⟩ := hK
    obtain ⟨x, k1, k2⟩ := (DVals.get hcs).2 off d h1
    rw [nth_eq] at k1
    exact ⟨d, reveal_sound h2, x, part_one hu hrow (by simpa using k1), k2⟩
  | true =>
    rw [hagg] at hK hrow
    simp only [cond] at hK
    have fin : ∀ l : List DV, l.length = ti.size → (∀ i d, nth l i = some d → nth cs (off + i) = some d) → K (.agg l) = some r →
        ∃ d, K d = some r ∧ ∃ x, (part t C off).run P w = .ok x w ∧ DRel w G d x := by
      intro l hl hn hKl
      refine ⟨.agg l, hKl, _, part_row hu hrow hi0, ?_⟩
      simp only [DRel]
      have hlen := (DVals.get hcs).1
      simp at hlen
      have hsub : (C.extract off (off + i0.size)).toList = (C.toList.drop off).take i0.size := by
        simp [Array.toList_extract, List.extract_eq_take_drop]
      refine ⟨_, rfl, ?_, ?_⟩
      · rw [hsub]
        have hfit : ti.size = 0 ∨ off + ti.size ≤ cs.length := by
          rcases Nat.eq_zero_or_pos ti.size with e | e
          · exact .inl e
          · right
            obtain ⟨d, hd⟩ := nth_of_lt (l := l) (n := ti.size - 1) (by omega)
            have := nth_some_lt (hn _ d hd); omega
        refine DVals.of_nth ?_ fun i d hd => ?_
        · rw [List.length_take, List.length_drop, hsz, hl]; simp
          rcases hfit with e | e <;> omega
        · obtain ⟨x, k1, k2⟩ := (DVals.get hcs).2 _ d (hn i d hd)
          refine ⟨x, ?_, k2⟩
          have hi := nth_some_lt hd
          rw [nth_eq] at k1 ⊢
          rw [List.getElem?_take_of_lt (by omega), List.getElem?_drop]; exact k1
      · rw [hsub]; intro x hx
        exact hone x (List.mem_of_mem_drop (List.mem_of_mem_take hx))
    cases hb : (Nat.ble ti.size 6 && Nat.beq (leaves T 4 t).length ti.size) with
    | true =>
      rw [hb] at hK; simp only at hK
      obtain ⟨l, h1, h2, h3⟩ := readL_sound hK
      simp only [Bool.and_eq_true] at hb
      have hlen := Nat.eq_of_beq_eq_true hb.2
      exact fin l (by omega) h3 h1
    | false =>
      rw [hb] at hK; simp only [Option.bind_eq_some_iff] at hK
      obtain ⟨l, h1, h2⟩ := hK
      obtain ⟨k1, k2⟩ := takeN_some h1
      exact fin l k1 (fun i d hd => by have := k2 i d hd; rwa [nth_drop] at this) h2

theorem readA_part (hT : TOK P T) {t : Nat} {ti : TI} (ht : tget T t = some ti) {cs : List AV} {off : Nat} {C : Array Value} {K : AV → Option R} (hK : readA ti cs off K = some r)
    (hcs : AVals w σ h cs C.toList) (hone : ∀ x ∈ C.toList, x.oneCell' = true) :
    ∃ d, K d = some r ∧ ∃ x, (part t C off).run P w = .ok x w ∧ ARel w σ h d x := by
  obtain ⟨de, hu, hrow⟩ := hT.row ht
  obtain ⟨i0, hi0, hsz, _⟩ := hT.info ht
  unfold readA at hK
  cases hagg : ti.agg with
  | false =>
    rw [hagg] at hK hrow
    simp only [cond, Option.bind_eq_some_iff] at hK
    obtain ⟨d, h1, h2⟩ := hK
    obtain ⟨x, k1, k2⟩ := (AVals.get hcs).2 off d h1
    rw [nth_eq] at k1
    exact ⟨d, h2, x, part_one hu hrow (by simpa using k1), k2⟩
  | true =>
    rw [hagg] at hK hrow
    simp only [cond, Option.bind_eq_some_iff] at hK
    obtain ⟨l, h1, h2⟩ := hK
    obtain ⟨hl, hn0⟩ := takeN_some h1
    have hn : ∀ i d, nth l i = some d → nth cs (off + i) = some d := fun i d hd => by have := hn0 i d hd; rwa [nth_drop] at this
    refine ⟨_, h2, _, part_row hu hrow hi0, ?_⟩
    have hlen := (AVals.get hcs).1
    simp at hlen
    have hsub : (C.extract off (off + i0.size)) = ((C.toList.drop off).take i0.size).toArray := by
      apply Array.ext'
      simp [Array.toList_extract, List.extract_eq_take_drop]
    rw [hsub]
    refine ARel.mkAgg ?_ fun x hx => hone x (List.mem_of_mem_drop (List.mem_of_mem_take hx))
    have hfit : ti.size = 0 ∨ off + ti.size ≤ cs.length := by
      rcases Nat.eq_zero_or_pos ti.size with e | e
      · exact .inl e
      · right
        obtain ⟨d, hd⟩ := nth_of_lt (l := l) (n := ti.size - 1) (by omega)
        have := nth_some_lt (hn _ d hd); omega
    refine AVals.of_nth ?_ fun i d hd => ?_
    · rw [List.length_take, List.length_drop, hsz, hl]; simp
      rcases hfit with e | e <;> omega
    · obtain ⟨x, k1, k2⟩ := (AVals.get hcs).2 _ d (hn i d hd)
      refine ⟨x, ?_, k2⟩
      have hi := nth_some_lt hd
      rw [nth_eq] at k1 ⊢
      rw [List.getElem?_take_of_lt (by omega), List.getElem?_drop]; exact k1

theorem field_of (hT : TOK P T) {t : Nat} {fs : List (Nat × Nat)} {ti : TI} (ht : tget T t = some ti) (hg : ti.tag = .struct fs) {f o ft : Nat} (hf : nth fs f = some (o, ft)) :
    ∃ (F : Array Field) (fd : Field), P.underlying t = some (.struct F) ∧ F[f]? = some fd ∧ fd.offset = o ∧ fd.type = ft := by
  obtain ⟨F, hF, hFs⟩ := hT.struct ht hg
  rw [← hFs, nth_map] at hf
  obtain ⟨fd, hfd, he⟩ := Option.map_eq_some_iff.1 hf
  rw [nth_eq] at hfd
  cases he
  exact ⟨F, fd, hF, by simpa using hfd, rfl, rfl⟩

theorem fieldE_sound (hT : TOK P T) {t f : Nat} {a : AV} {x : Value} {K : AV → Option R} (ha : ARel w σ h a x) (hK : fieldE T t a f K = some r) :
    ∃ v, K v = some r ∧ ∃ u, (Instr.field t x f).run P w = .ok u w ∧ ARel w σ h v u := by
  unfold fieldE at hK
  split at hK
  · cases hK
  · rename_i ti ht
    split at hK
    · rename_i fs hg
      split at hK
      · cases hK
      · rename_i o ft hf
        split at hK
        · cases hK
        · rename_i tf htf
          obtain ⟨F, fd, hF, hfd, rfl, rfl⟩ := field_of hT ht hg hf
          split at hK
          · rename_i cs
            simp only [ARel, DRel] at ha
            obtain ⟨vs, rfl, h1, h2⟩ := ha
            obtain ⟨d, k1, y, k2, k3⟩ := readD_part (G := σ.G) hT htf hK h1 h2
            exact ⟨_, k1, y, by simp [Instr.field, run_underlying hF, hfd, asAgg, k2], by simpa [ARel] using k3⟩
          · rename_i cs
            simp only [ARel] at ha
            obtain ⟨vs, rfl, h1, h2⟩ := ha
            obtain ⟨d, k1, y, k2, k3⟩ := readA_part hT htf hK h1 h2
            exact ⟨_, k1, y, by simp [Instr.field, run_underlying hF, hfd, asAgg, k2], k3⟩
          · cases hK
    · cases hK

theorem fieldAddrE_sound (hT : TOK P T) {t f : Nat} {a : AV} {x : Value} {K : AV → Option R} (ha : ARel w σ h a x) (hK : fieldAddrE T t a f h K = some r) :
    ∃ v, K v = some r ∧ ∃ u, (Instr.fieldAt t x f).run P w = .ok u w ∧ ARel w σ h v u := by
  unfold fieldAddrE at hK
  split at hK
  · cases hK
  · rename_i ti ht
    split at hK
    · rename_i fs hg
      split at hK
      · cases hK
      · rename_i o ft hf
        split at hK
        · cases hK
        · rename_i tf htf
          obtain ⟨F, fd, hF, hfd, rfl, rfl⟩ := field_of hT ht hg hf
          obtain ⟨i0, hi0, hsz, _⟩ := hT.info htf
          rcases cond_some hK with ⟨_, hK⟩ | ⟨hz, hK⟩
          · cases hK
          · have hz' : i0.size ≠ 0 := by
              intro e; rw [← hsz, e] at hz; simp at hz
            have run : ∀ (b off : Nat), (Instr.fieldAt t (.pointer (some ⟨b, off, none⟩)) f).run P w = .ok (.pointer (some ⟨b, off + fd.offset, none⟩)) w := by
              intro b off
              simp [Instr.fieldAt, run_underlying hF, hfd, Instr.sureAddr, fieldPlace, sizeOf, typeInfo, hi0, hz', Addr.add_mid]
            cases a with
            | d x0 =>
              cases x0 with
              | ptr cs off =>
                simp only [ARel, DRel] at ha
                obtain ⟨b, o', rfl, hcs⟩ := ha
                exact ⟨_, hK, _, run _ _, by simp only [ARel, DRel]; exact ⟨b, o', by rw [Nat.add_assoc], hcs⟩⟩
              | _ => cases hK
            | ref b off =>
              simp only [ARel] at ha
              simp only at hK
              cases hb : nth h b with
              | none => rw [hb] at hK; cases hK
              | some blk =>
                rw [hb] at hK
                rcases ha.2 with e | ⟨c, hc, rfl⟩
                · unfold isDead at e; rw [e] at hb; cases hb; cases hK
                · have hK2 : K (.ref b (off + fd.offset)) = some r := by cases blk <;> first | exact hK | cases hK
                  exact ⟨_, hK2, _, run _ _, by simp only [ARel]; exact ⟨rfl, .inr ⟨c, hc, rfl⟩⟩⟩
            | _ => cases hK
    · cases hK
end
end Go.AE

/- Addresses of elements, elements, lengths, slice expressions. -/
namespace Go.AE
open Go

section
variable {P : Program} {T : Tab TI} {w : World} {σ : Sg} {h : List Blk} {G : Nat → Prop} {R : Type} {r : R}

theorem alive_not {b : Nat} (ha : aliveB h b = true) : ¬ isDead h b := by
  intro e
  unfold isDead at e
  unfold aliveB at ha
  rw [e] at ha; cases ha

theorem inRange_iff {i : Int} {n : Nat} (hi : inRange i n = true) : 0 ≤ i ∧ i < (n : Int) := by
  unfold inRange at hi
  simp only [Bool.and_eq_true, decide_eq_true_eq] at hi
  exact hi

theorem run_indexAt_sl {t e : TypeId} {i0 : TypeInfo} {b off n c : Nat} {k : IntKind} {i : Int} (hu : P.underlying t = some (.slice e)) (hi0 : P.info? e = some i0) (hi : 0 ≤ i ∧ i < (n : Int)) :
    (Instr.indexAt t (.slice (some ⟨b, off, none⟩) n c) (.int k i)).run P w = .ok (.pointer (some ⟨b, off + i.toNat * i0.size, none⟩)) w := by
  simp [Instr.indexAt, run_underlying hu, asIntOf, hi.1, hi.2, sizeOf, typeInfo, hi0, Addr.add_mid]

theorem run_indexAt_arr {t e m : TypeId} {i0 : TypeInfo} {b off : Nat} {k : IntKind} {i : Int} (hu : P.underlying t = some (.array m e)) (hi0 : P.info? e = some i0) (hi : 0 ≤ i ∧ i < (m : Int)) :
    (Instr.indexAt t (.pointer (some ⟨b, off, none⟩)) (.int k i)).run P w = .ok (.pointer (some ⟨b, off + i.toNat * i0.size, none⟩)) w := by
  simp [Instr.indexAt, run_underlying hu, asIntOf, hi.1, hi.2, sizeOf, typeInfo, hi0, Addr.add_mid, Instr.sureAddr]

theorem indexAddrE_sound (hT : TOK P T) {t : Nat} {a b : AV} {x y : Value} {K : AV → Option R} (ha : ARel w σ h a x) (hb : ARel w σ h b y) (hK : indexAddrE T t a b h K = some r) :
    ∃ v, K v = some r ∧ ∃ u, (Instr.indexAt t x y).run P w = .ok u w ∧ ARel w σ h v u := by
  unfold indexAddrE at hK
  split at hK
  · rename_i ti k i ht
    have := hb.int; subst this
    split at hK
    · rename_i n e hg
      split at hK
      · cases hK
      · rename_i te hte
        obtain ⟨i0, hi0, hsz, _⟩ := hT.info hte
        have hu := hT.array ht hg
        obtain ⟨hin, hK⟩ := cond_none hK
        have hin := inRange_iff hin
        cases a with
        | d x0 =>
          cases x0 with
          | ptr cs off =>
            simp only [ARel, DRel] at ha
            obtain ⟨b, o', rfl, hcs⟩ := ha
            refine ⟨_, hK, _, run_indexAt_arr hu hi0 hin, ?_⟩
            simp only [ARel, DRel]; exact ⟨b, o', by rw [hsz, Nat.add_assoc], hcs⟩
          | _ => cases hK
        | ref b off =>
          obtain ⟨hal, hK⟩ := cond_none hK
          simp only [ARel] at ha
          rcases ha.2 with e | ⟨c, hc, rfl⟩
          · exact absurd e (alive_not hal)
          · refine ⟨_, hK, _, run_indexAt_arr hu hi0 hin, ?_⟩
            simp only [ARel]; exact ⟨rfl, .inr ⟨c, hc, by rw [hsz]⟩⟩
        | _ => cases hK
    · rename_i e hg
      split at hK
      · cases hK
      · rename_i te hte
        obtain ⟨i0, hi0, hsz, _⟩ := hT.info hte
        have hu := hT.slice ht hg
        cases a with
        | d x0 =>
          cases x0 with
          | sl cs n sz cl nl =>
            obtain ⟨hs, hK2⟩ := cond_none hK
            obtain ⟨hin, hK3⟩ := cond_none hK2
            clear hK hK2
            have hs := Nat.eq_of_beq_eq_true hs
            have hin := inRange_iff hin
            simp only [ARel, DRel] at ha
            cases nl with
            | true => simp only [cond] at ha; obtain ⟨_, rfl, _⟩ := ha; omega
            | false =>
              simp only [cond] at ha
              obtain ⟨_, b, off, cap, sp, rfl, hnc, _, hsp, hcs⟩ := ha
              obtain rfl := hsp (by omega)
              refine ⟨_, hK3, _, run_indexAt_sl hu hi0 hin, ?_⟩
              simp only [ARel, DRel]; exact ⟨b, off, by rw [hsz, hs], hcs⟩
          | _ => cases hK
        | row b off n c sz ex =>
          obtain ⟨hs, hK⟩ := cond_none hK
          obtain ⟨hin, hK⟩ := cond_none hK
          simp only [Bool.and_eq_true] at hin
          have hs := Nat.eq_of_beq_eq_true hs
          have hin1 := inRange_iff hin.1
          simp only [ARel] at ha
          rcases ha.2 with e | ⟨c, cap', hc, rfl, _⟩
          · exact absurd e (alive_not hin.2)
          · refine ⟨_, hK, _, run_indexAt_sl hu hi0 hin1, ?_⟩
            simp only [ARel]; exact ⟨rfl, .inr ⟨c, hc, by rw [hsz, hs]⟩⟩
        | grow b sz nn =>
          simp only [ARel] at ha
          have key : ∀ (blk : Blk) (m : Nat), nth h b = some blk → clen blk = some m → cond (Nat.beq sz te.size) (cond (inRange i (lenOf sz m)) (K (.ref b (i.toNat * sz))) none) none = some r →
              ∃ v, K v = some r ∧ ∃ u, (Instr.indexAt t x (.int k i)).run P w = .ok u w ∧ ARel w σ h v u := by
            intro blk m hx hm hK
            obtain ⟨hs, hK⟩ := cond_none hK
            obtain ⟨hin, hK⟩ := cond_none hK
            have hs := Nat.eq_of_beq_eq_true hs
            have hin := inRange_iff hin
            rcases ha.2 with e | ⟨blk', m', hx', hm', q⟩
            · exact absurd e (not_dead hx (by rintro rfl; simp [clen] at hm))
            · rw [hx] at hx'; cases hx'
              rw [hm] at hm'; cases hm'
              rcases q with ⟨rfl, q⟩ | ⟨h0, c, n, cap', hc, rfl, h1, h2, h3⟩
              · have : lenOf sz 0 = 0 := by unfold lenOf; split <;> simp
                rw [this] at hin; omega
              · have hsz0 : 0 < sz := by
                  rcases Nat.eq_zero_or_pos sz with e | e
                  · subst e; rw [Nat.mul_zero] at h1; omega
                  · exact e
                have hlen : lenOf sz m = n := by
                  rw [h1]; unfold lenOf; split
                  · simp
                  · exact Nat.mul_div_cancel n hsz0
                rw [hlen] at hin
                refine ⟨_, hK, _, run_indexAt_sl hu hi0 hin, ?_⟩
                simp only [ARel]; exact ⟨rfl, .inr ⟨c, hc, by rw [hsz, hs]; simp⟩⟩
          simp only at hK
          split at hK
          · rename_i cs hx; exact key _ _ hx rfl hK
          · rename_i cs hx; exact key _ _ hx rfl hK
          · cases hK
        | _ => cases hK
    · cases hK
  · cases hK

theorem indexE_sound (hT : TOK P T) {t : Nat} {a b : AV} {x y : Value} {K : AV → Option R} (ha : ARel w σ h a x) (hb : ARel w σ h b y) (hK : indexE T t a b K = some r) :
    ∃ v, K v = some r ∧ ∃ u, (Instr.index t x y).run P w = .ok u w ∧ ARel w σ h v u := by
  unfold indexE at hK
  split at hK
  · rename_i ti k i ht
    have := hb.int; subst this
    split at hK
    · rename_i n e hg
      split at hK
      · cases hK
      · rename_i te hte
        obtain ⟨i0, hi0, hsz, _⟩ := hT.info hte
        have hu := hT.array ht hg
        obtain ⟨hin, hK⟩ := cond_none hK
        have hin := inRange_iff hin
        have run : ∀ (vs : Array Value) (u : Value), (part e vs (i.toNat * te.size)).run P w = .ok u w → (Instr.index t (.agg vs) (.int k i)).run P w = .ok u w := by
          intro vs u hp
          simp [Instr.index, run_underlying hu, asIntOf, hin.1, hin.2, sizeOf, typeInfo, hi0, hsz, hp]
        cases a with
        | d x0 =>
          cases x0 with
          | agg cs =>
            simp only [ARel, DRel] at ha
            obtain ⟨vs, rfl, h1, h2⟩ := ha
            obtain ⟨d, k1, u, k2, k3⟩ := readD_part (G := σ.G) hT hte hK h1 h2
            exact ⟨_, k1, u, run vs u k2, by simpa [ARel] using k3⟩
          | _ => cases hK
        | agg cs =>
          simp only [ARel] at ha
          obtain ⟨vs, rfl, h1, h2⟩ := ha
          obtain ⟨d, k1, u, k2, k3⟩ := readA_part hT hte hK h1 h2
          exact ⟨_, k1, u, run vs u k2, k3⟩
        | _ => cases hK
    · rename_i hg
      have hu := hT.str ht hg
      cases a with
      | d x0 =>
        cases x0 with
        | str s =>
          have := ha.str; subst this
          obtain ⟨h0, hK⟩ := cond_none hK
          have h0 := of_decide_eq_true h0
          simp only [Option.bind_eq_some_iff] at hK
          obtain ⟨b, hb, hK⟩ := hK
          refine ⟨_, hK, .int .u8 b.toNat, ?_, ARel.ofInt⟩
          have hlt := (List.getElem?_eq_some_iff.1 hb).1
          have hg : s[i.toNat]? = some b := by
            have hlt' : i.toNat < s.size := by simpa using hlt
            rw [getElem?_pos s i.toNat hlt']
            rw [List.getElem?_eq_getElem hlt] at hb
            rw [← hb]; rfl
          simp [Instr.index, run_underlying hu, asIntOf, h0, hg]
        | _ => cases hK
      | _ => cases hK
    · cases hK
  · cases hK

theorem lenE_sound (hT : TOK P T) (hi : HInv w σ h) {t ty : Nat} {a : AV} {x : Value} {K : AV → Option R} (ha : ARel w σ h a x) (hK : lenE T t a h K = some r) :
    ∃ v, K v = some r ∧ ∃ u, (Builtin.len_ #[t] ty #[x]).run P w = .ok u w ∧ ARel w σ h v u := by
  unfold lenE at hK
  split at hK
  · cases hK
  · rename_i ti ht
    split at hK
    · rename_i hg
      have hu := hT.str ht hg
      split at hK
      · rename_i s
        have := ha.str; subst this
        exact ⟨_, hK, goInt s.size, by simp [Builtin.len_, run_underlying hu], by simp [ARel, DRel, goInt]⟩
      · cases hK
    · rename_i n e hg
      have hu := hT.array ht hg
      exact ⟨_, hK, goInt n, by simp [Builtin.len_, run_underlying hu], by simp [ARel, DRel, goInt]⟩
    · rename_i e hg
      have hu := hT.slice ht hg
      have run : ∀ (p : Option Addr) (n c : Nat), (Builtin.len_ #[t] ty #[.slice p n c]).run P w = .ok (goInt n) w := by
        intro p n c; simp [Builtin.len_, run_underlying hu]
      cases a with
      | d x0 =>
        cases x0 with
        | sl cs n sz cl nl =>
          have hK9 : K (.d (.int .i64 n)) = some r := hK
          clear hK
          simp only [ARel, DRel] at ha
          cases nl with
          | true => simp only [cond] at ha; obtain ⟨_, rfl, rfl⟩ := ha; exact ⟨_, hK9, _, run _ _ _, by simp [ARel, DRel, goInt]⟩
          | false => simp only [cond] at ha; obtain ⟨_, b, off, cap, sp, rfl, _⟩ := ha; exact ⟨_, hK9, _, run _ _ _, by simp [ARel, DRel, goInt]⟩
        | _ => cases hK
      | row b off n c sz ex =>
        obtain ⟨hal, hK⟩ := cond_none hK
        simp only [ARel] at ha
        rcases ha.2 with e | ⟨c, cap', hc, rfl, _⟩
        · exact absurd e (alive_not hal)
        · exact ⟨_, hK, _, run _ _ _, by simp [ARel, DRel, goInt]⟩
      | grow b sz nn =>
        simp only [ARel] at ha
        have key : ∀ (blk : Blk) (m : Nat), nth h b = some blk → clen blk = some m → K (.d (.int .i64 (lenOf sz m))) = some r →
            ∃ v, K v = some r ∧ ∃ u, (Builtin.len_ #[t] ty #[x]).run P w = .ok u w ∧ ARel w σ h v u := by
          intro blk m hx hm hK9
          rcases ha.2 with e | ⟨blk', m', hx', hm', q⟩
          · exact absurd e (not_dead hx (by rintro rfl; simp [clen] at hm))
          · rw [hx] at hx'; cases hx'
            rw [hm] at hm'; cases hm'
            rcases q with ⟨rfl, q⟩ | ⟨h0, c, n, cap', hc, rfl, h1, h2, h3⟩
            · have hl0 : lenOf sz 0 = 0 := by unfold lenOf; split <;> simp
              rw [hl0] at hK9
              cases nn with
              | true => simp only [cond] at q; obtain ⟨a, rfl⟩ := q; exact ⟨_, hK9, _, run _ _ _, by simp [ARel, DRel, goInt]⟩
              | false => simp only [cond] at q; subst q; exact ⟨_, hK9, _, run _ _ _, by simp [ARel, DRel, goInt]⟩
            · have hsz0 : 0 < sz := by
                rcases Nat.eq_zero_or_pos sz with e | e
                · subst e; rw [Nat.mul_zero] at h1; omega
                · exact e
              have hlen : lenOf sz m = n := by
                rw [h1]; unfold lenOf; split
                · simp
                · exact Nat.mul_div_cancel n hsz0
              rw [hlen] at hK9
              exact ⟨_, hK9, _, run _ _ _, by simp [ARel, DRel, goInt]⟩
        simp only at hK
        split at hK
        · rename_i cs hx; exact key _ _ hx rfl hK
        · rename_i cs hx; exact key _ _ hx rfl hK
        · cases hK
      | _ => cases hK
    · rename_i kt et hg
      have hu := hT.map ht hg
      split at hK
      · rename_i b
        split at hK
        · rename_i es hb
          simp only [ARel] at ha
          rcases ha.2 with e | ⟨c, hc, rfl⟩
          · exact absurd e (not_dead hb (by simp))
          · have hB := hi.blk b _ hb
            simp only [BRel] at hB
            obtain ⟨c', E, h1, h2, h3⟩ := hB
            rw [hc] at h1; cases h1
            have hl : E.size = es.length := by have := h3.len; simpa using this
            refine ⟨_, hK, goInt es.length, ?_, by simp [ARel, DRel, goInt]⟩
            simp [Builtin.len_, run_underlying hu, MapKept.run_getObj_map h2, Result.andThen, hl]
        · cases hK
      · cases hK
    · cases hK

theorem minmax_sound {mx : Bool} {t : TypeId} {ts : Array TypeId} : ∀ {l : List AV} {vs : List Value} {a : AV} {x : Value} {K : AV → Option R}, ARel w σ h a x → AVals w σ h l vs → minmaxE.go mx a l K = some r →
    ∃ v, K v = some r ∧ ∃ u, (vs.foldlM (cond mx Builtin.max2 Builtin.min2) x : Sem Value).run P w = .ok u w ∧ ARel w σ h v u
  | [], vs, a, x, K, ha, hl, hK => by
    simp only [AVals] at hl; subst hl
    have hK' : K a = some r := by unfold minmaxE.go at hK; cases a <;> exact hK
    exact ⟨a, hK', x, by simp, ha⟩
  | b :: l, vs, a, x, K, ha, hl, hK => by
    simp only [AVals] at hl
    obtain ⟨y, rr, rfl, h1, h2⟩ := hl
    unfold minmaxE.go at hK
    split at hK
    · rename_i e; cases e
    · rename_i k p j q rest e
      cases e
      obtain ⟨hc, hK2⟩ := cond_none hK
      have hjk := of_decide_eq_true hc
      have := ha.int; subst this
      have := h1.int; subst this
      obtain ⟨v, g1, u, g2, g3⟩ := minmax_sound (mx := mx) (t := t) (ts := ts) (vs := rr) (a := .d (.int k (cond mx (if q > p then q else p) (if q < p then q else p)))) (x := .int k (cond mx (if q > p then q else p) (if q < p then q else p))) ARel.ofInt h2 hK2
      refine ⟨v, g1, u, ?_, g3⟩
      rw [List.foldlM_cons, Sem.run_bind]
      cases mx with
      | true => simp only [cond] at g2 ⊢; simpa [Builtin.max2] using g2
      | false => simp only [cond] at g2 ⊢; simpa [Builtin.min2] using g2
    · cases hK
end
end Go.AE
