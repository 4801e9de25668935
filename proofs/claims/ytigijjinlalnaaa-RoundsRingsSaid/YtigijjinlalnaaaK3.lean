/- Part 3 of what the law stands on: the abstract machine over the model, and what the functions answer. No condition. -/
import Derived.OrdersIn
import Derived.RangeFuncRecord
import Derived.LoopNIn
import Derived.ChangeKeysEq
import Derived.WideKeyRuns
import Derived.Test.YtigijjinlalnaaaK2
set_option linter.unusedSimpArgs false
set_option linter.unusedVariables false

/- Regions that draw their order: the record of a walk, and the state after any set of operations. -/
namespace Go.AE
open Go

/-- What a quiet operation needs: a block that is there; a key that has this in a map. -/
inductive Need where
  | alive (b : Nat)
  | key (b t kt et : Nat) (k z d : DV)

def Need.ok (T : Tab TI) (h : List Blk) : Need → Prop
  | .alive b => aliveB h b = true
  | .key b t kt et k z d => (∃ ti te, tget T t = some ti ∧ ti.tag = .map kt et ∧ tget T et = some te ∧ te.zero = [z]) ∧ ∃ es, nth h b = some (.mp es) ∧ findV T kt k z es = some d

def Need.stays (all : List Oper) (fl : List Nat) (log : List (Nat × List Nat)) : Need → Bool
  | .alive b => staysB all fl log b
  | .key b t _ _ _ _ _ => staysM all t fl log b

def Need.b : Need → Nat
  | .alive b => b
  | .key b _ _ _ _ _ _ => b

theorem Need.same {T : Tab TI} {h h' : List Blk} {n : Need} (e : nth h' n.b = nth h n.b) (q : n.ok T h') : n.ok T h := by
  cases n with
  | alive b => simp only [Need.ok, Need.b, aliveB] at q e ⊢; rw [← e]; exact q
  | key b t kt et k z d => simp only [Need.ok, Need.b] at q e ⊢; rw [← e]; exact q

/-- What one step of a walk did: the operation, whether it turns memory, what its slot holds now, memory ahead and behind, what was known ahead of it, whether it was run at all. -/
structure Rec where
  st : PStep
  v : AV
  h0 : List Blk
  hb : List Blk
  ha : List Blk
  env : List (Nat × AV)
  ran : Bool
  mask : List Nat
  tch : List Nat
  lay : Option (Nat × List DV)
  slot : Option Nat
  pv : AV
  need : List Need

def Rec.j (rc : Rec) : Nat := rc.st.j
def Rec.eff (rc : Rec) : Bool := rc.st.eff

/-- Whether an operation runs, by its guard. -/
def GuardOK (all : List Oper) (gd : Option (Nat × Bool)) (env : List (Nat × AV)) (ran : Bool) : Prop :=
  match gd with
  | none => ran = true
  | some (g, want) => ∃ t, dstOf all g = some t ∧ ((∃ b, look env t = .d (.bool b) ∧ ran = (b == want)) ∨ (look env t = .d (.tup []) ∧ ran = false))

/-- A step of the common kind. -/
structure RecN (C : Ctx) (E : Ev) (all : List Oper) (rc : Rec) (o : Oper) : Prop where
  flt : rc.st.flt = false
  ini : rc.st.ini = none
  lay : rc.lay = none
  slot : rc.slot = dstOf all rc.j
  pv : rc.pv = rc.v
  hb : rc.hb = rc.h0
  run : rc.ran = true → rc.eff = true → ∀ R (K : AV → List Blk → Option R), opE C E o.op rc.env rc.hb K = K rc.v rc.ha
  runQ : rc.ran = true → rc.eff = false → ∀ h2, Sub (killB rc.mask rc.hb) h2 → (∀ b ∈ rc.need, b.ok C.T h2) → ∀ R (K : AV → List Blk → Option R), opE C E o.op rc.env h2 K = K rc.v h2
  skip : rc.ran = false → rc.v = .d (.tup []) ∧ rc.ha = rc.hb
  guard : GuardOK all o.guard rc.env rc.ran

/-- A variable is laid that is not told yet. -/
structure RecF (C : Ctx) (all : List Oper) (rc : Rec) : Prop where
  flt : rc.st.flt = true
  eff : rc.eff = false
  lay : rc.lay = none
  slot : rc.slot = none
  laid : ∃ sz, layE C all rc.j = some sz

/-- A variable is written first. -/
structure RecI (C : Ctx) (E : Ev) (all : List Oper) (rc : Rec) (o : Oper) (a s : Nat) (z : List DV) : Prop where
  flt : rc.st.flt = false
  ini : rc.st.ini = some a
  eff : rc.eff = true
  laid : layE C all a = some (s, z)
  lay : rc.lay = some (s, z)
  slot : rc.slot = some s
  pv : rc.pv = .ref rc.h0.length 0
  hb : rc.hb = rc.h0 ++ [.dc z]
  guard : o.guard = none
  dst : o.dst = none
  op : ∃ t x, o.op = .store t (.tmp s) x
  run : ∀ R (K : AV → List Blk → Option R), opE C E o.op rc.env rc.hb K = K rc.v rc.ha

structure RecOK (C : Ctx) (E : Ev) (all : List Oper) (rc : Rec) (o : Oper) : Prop where
  at_ : nth all rc.j = some o
  quiet : rc.eff = false → rc.ha = rc.h0
  off : ∀ b, b ∉ rc.tch → nth rc.ha b = nth rc.h0 b
  idle : rc.ran = false → rc.ha = rc.h0
  put : isSt all rc.j = true → rc.eff = true → rc.ran = true → ∀ b ∈ rc.tch, aliveB rc.h0 b = true
  putM : ∀ b t kt et k z d, isME all t rc.j = true → rc.eff = true → rc.ran = true → (Need.key b t kt et k z d).ok C.T rc.ha → (Need.key b t kt et k z d).ok C.T rc.h0
  slot : rc.slot = slotP all rc.st
  kind : RecN C E all rc o ∨ RecF C all rc ∨ ∃ a s z, RecI C E all rc o a s z

/-- What is known at a step, with the variable that it writes first. -/
def envL (rc : Rec) (env : List (Nat × AV)) : List (Nat × AV) :=
  match rc.lay with
  | some (s, _) => (s, .ref rc.h0.length 0) :: env
  | none => env

def sameL (a b : List (Nat × AV)) : Prop := ∀ t, look a t = look b t

theorem sameL.put {a b : List (Nat × AV)} (q : sameL a b) (dst : Option Nat) (v : AV) : sameL (putE dst v a) (putE dst v b) := by
  cases dst with
  | none => exact q
  | some t => intro s; simp only [putE, look]; rw [q s]

theorem sameL.add {a : List (Nat × AV)} {t : Nat} {v : AV} (e : look a t = v) : sameL ((t, v) :: a) a := by
  intro s
  simp only [look]
  cases c : Nat.beq t s with
  | true => rw [← Nat.eq_of_beq_eq_true c, e]; rfl
  | false => rfl

/-- What is told of the blocks that have turned, behind a step. -/
def logN (rc : Rec) (log : List (Nat × List Nat)) : List (Nat × List Nat) := cond (rc.eff && rc.ran) ((rc.j, rc.tch) :: log) log

def Chain (C : Ctx) (E : Ev) (all : List Oper) : List (Nat × List Nat) → List Rec → List (Nat × AV) → List Blk → List (Nat × AV) → List Blk → Prop
  | _, [], env, h, env', h' => sameL env' env ∧ h' = h
  | log, rc :: r, env, h, env', h' => sameL rc.env (envL rc env) ∧ rc.h0 = h ∧ (∃ o, RecOK C E all rc o) ∧ (rc.mask = rc.st.fl.flatMap (logOf log) ∧ ∀ b ∈ rc.need, b.ok C.T rc.h0 ∧ b.stays all rc.st.fl log = true) ∧ Chain C E all (logN rc log) r (putE rc.slot rc.pv env) rc.ha env' h'

theorem sameL.envL {a b : List (Nat × AV)} (q : sameL a b) (rc : Rec) : sameL (AE.envL rc a) (AE.envL rc b) := by
  unfold AE.envL
  split
  · exact q.put (some _) _
  · exact q

theorem Chain.congr {C : Ctx} {E : Ev} {all : List Oper} : ∀ {log : List (Nat × List Nat)} {recs : List Rec} {env env1 env' : List (Nat × AV)} {h h' : List Blk}, sameL env1 env → Chain C E all log recs env1 h env' h' → Chain C E all log recs env h env' h'
  | _, [], _, _, _, _, _, q, c => ⟨fun t => (c.1 t).trans (q t), c.2⟩
  | log, rc :: r, env, env1, env', h, h', q, c => ⟨fun t => (c.1 t).trans (q.envL rc t), c.2.1, c.2.2.1, c.2.2.2.1, Chain.congr (q.put _ _) c.2.2.2.2⟩

section
variable {R : Type} {r : R}

theorem opA_cases {C : Ctx} {E : Ev} {op : Op} {env : List (Nat × AV)} {N : Option R} {K : AV → Nat → Option R} (hK : opAE C.T op env N K = some r) :
    N = some r ∨ ∃ v b, K v b = some r ∧ ∀ h2, aliveB h2 b = true → ∀ R' (K' : AV → List Blk → Option R'), opE C E op env h2 K' = K' v h2 := by
  cases op <;> try exact .inl hK
  case nilCheck x =>
    simp only [opAE] at hK
    split at hK
    · rename_i b off he
      exact .inr ⟨_, _, hK, fun h2 ha R' K' => by simp only [opE, he, ha, cond_true]⟩
    · exact .inl hK
  case fieldAddr t x f =>
    simp only [opAE] at hK
    split at hK
    · rename_i b off he
      split at hK
      · cases hK
      · rename_i ti ht
        split at hK
        · rename_i fs hg
          split at hK
          · cases hK
          · rename_i o ft hf
            split at hK
            · cases hK
            · rename_i tf htf
              rcases cond_some hK with ⟨_, hK⟩ | ⟨hz, hK⟩
              · cases hK
              · refine .inr ⟨_, _, hK, fun h2 ha R' K' => ?_⟩
                simp only [opE, fieldAddrE, ht, hg, hf, htf, hz, cond_false, he]
                unfold aliveB at ha
                cases hb : nth h2 b with
                | none => rw [hb] at ha; cases ha
                | some blk => rw [hb] at ha; cases blk <;> first | rfl | cases ha
        · cases hK
    · exact .inl hK
  case indexAddr t x i =>
    simp only [opAE] at hK
    split at hK
    · rename_i b off he
      split at hK
      · cases hK
      · rename_i ti ht
        split at hK
        · rename_i kk ii hi
          split at hK
          · rename_i n e hg
            split at hK
            · cases hK
            · rename_i te hte
              obtain ⟨hr, hK⟩ := cond_none hK
              refine .inr ⟨_, _, hK, fun h2 ha R' K' => ?_⟩
              simp only [opE, indexAddrE, ht, hi, hg, hte, hr, cond_true, he, ha]
          · cases hK
        · cases hK
    · exact .inl hK

/-- A variable that is written first is none that is there already. -/
theorem isSt_init {C : Ctx} {all : List Oper} {i a s : Nat} {z : List DV} {t : Nat} {x : Operand} {dst : Option Tmp} {ty : TypeId} {af : Array Edge} {pos : String} {gd : Option (Nat × Bool)} (ho : nth all i = some ⟨dst, .store t (.tmp s) x, ty, pos, af, gd⟩) (hl : layE C all a = some (s, z)) : isSt all i = false := by
  unfold isSt
  rw [ho]
  simp only [Bool.not_eq_false', List.any_eq_true]
  unfold layE at hl
  split at hl
  · rename_i ho'
    split at hl
    · obtain ⟨_, hl⟩ := cond_none hl
      cases hl
      exact ⟨_, mem_of_nth ho', by simp [laysSlot]⟩
    · cases hl
  · cases hl

/-- What is written into is there. -/
theorem store_alive {C : Ctx} {E : Ev} {all : List Oper} {i : Nat} {o : Oper} {env : List (Nat × AV)} {h h' : List Blk} {v : AV} (ho : nth all i = some o) (hs : isSt all i = true) (h2 : ∀ R (K : AV → List Blk → Option R), opE C E o.op env h K = K v h') :
    ∀ b ∈ touchE C o.op env h h', aliveB h b = true := by
  unfold isSt at hs
  rw [ho] at hs
  split at hs
  · rename_i e
    cases e
    rename_i t s x _ _ _ _
    intro b hb
    simp only [touchE] at hb
    split at hb
    · rename_i b' off he
      simp only [List.mem_singleton] at hb
      subst hb
      have := h2 Unit fun _ _ => some ()
      simp only [opE, he, storeE] at this
      split at this
      · cases this
      · split at this
        · rename_i blk hblk
          obtain ⟨_, this⟩ := cond_none this
          unfold aliveB
          rw [hblk]
          cases blk <;> first | rfl | simp [putCells] at this
        · cases this
    · simp at hb
  · cases hs

/-- Where a key is, when one comes behind. -/
theorem findM_push {T : Tab TI} {t : Nat} {k : DV} {e : DV × DV} : ∀ {es : List (DV × DV)} {o : Option Nat}, findM T t k (es ++ [e]) = some o → findM T t k es = some o ∨ (findM T t k es = some none ∧ (o = none ∨ o = some es.length))
  | [], o, h => by
    simp only [List.nil_append, findM, Option.bind_eq_some_iff] at h
    obtain ⟨b, _, h⟩ := h
    right
    refine ⟨rfl, ?_⟩
    cases b with
    | true => simp only [cond_true, Option.some.injEq] at h; exact .inr h.symm
    | false => simp only [cond_false, Option.map_some, Option.map_none, Option.some.injEq] at h; exact .inl h.symm
  | x :: es, o, h => by
    simp only [List.cons_append, findM, Option.bind_eq_some_iff] at h ⊢
    obtain ⟨b, hb, h⟩ := h
    cases b with
    | true => exact .inl ⟨true, hb, h⟩
    | false =>
      simp only [cond_false, Option.map_eq_some_iff] at h
      obtain ⟨o', h1, rfl⟩ := h
      rcases findM_push h1 with h2 | ⟨h2, h3⟩
      · exact .inl ⟨false, hb, by simp [h2]⟩
      · refine .inr ⟨⟨false, hb, by simp [h2]⟩, ?_⟩
        rcases h3 with rfl | rfl
        · exact .inl rfl
        · exact .inr rfl
theorem findV_push {T : Tab TI} {t : Nat} {k k0 z d : DV} {es : List (DV × DV)} (h : findV T t k z (es ++ [(k0, z)]) = some d) : findV T t k z es = some d := by
  simp only [findV, Option.bind_eq_some_iff] at h ⊢
  obtain ⟨o, h1, h2⟩ := h
  rcases findM_push h1 with h3 | ⟨h3, h4⟩
  · refine ⟨o, h3, ?_⟩
    cases o with
    | none => exact h2
    | some i =>
      obtain ⟨e, he, _⟩ := findM_at es i h3
      have hlt := nth_some_lt he
      simp only [nth_eq] at h2 he ⊢
      rw [List.getElem?_append_left hlt] at h2
      exact h2
  · refine ⟨none, h3, ?_⟩
    rcases h4 with rfl | rfl
    · exact h2
    · dsimp only at h2 ⊢
      rw [nth_append_len] at h2
      simpa [nth] using h2

/-- Where a key gets a place, what others have is as it was. -/
theorem entry_back {C : Ctx} {E : Ev} {all : List Oper} {i : Nat} {o : Oper} {env : List (Nat × AV)} {h h' : List Blk} {v : AV} {b t kt et : Nat} {k z d : DV} (ho : nth all i = some o) (hs : isME all t i = true) (h2 : ∀ R (K : AV → List Blk → Option R), opE C E o.op env h K = K v h')
    (q : (Need.key b t kt et k z d).ok C.T h') : (Need.key b t kt et k z d).ok C.T h := by
  unfold isME at hs
  rw [ho] at hs
  split at hs
  · rename_i e
    cases e
    have := Nat.eq_of_beq_eq_true hs
    subst this
    rename_i t' x y _ _ _ _
    have h3 := h2 (AV × List Blk) fun v h => some (v, h)
    simp only [opE] at h3
    unfold mapEntryE at h3
    obtain ⟨⟨ti, te, q1, q2, q3, q4⟩, es, q5, q6⟩ := q
    simp only [q1, q2, q3, q4] at h3
    refine ⟨⟨ti, te, q1, q2, q3, q4⟩, ?_⟩
    split at h3
    · split at h3
      · rename_i z' b0 k0 hz _ _ _ es0 hb0
        cases hz
        obtain ⟨_, h3⟩ := cond_none h3
        simp only [Option.bind_eq_some_iff] at h3
        obtain ⟨o, h4, h5⟩ := h3
        cases o with
        | some i =>
          simp only [Option.bind_eq_some_iff] at h5
          obtain ⟨e, _, h5⟩ := h5
          have := reveal_sound h5
          simp only [Option.some.injEq, Prod.mk.injEq] at this
          rw [← this.2] at q5
          exact ⟨es, q5, q6⟩
        | none =>
          simp only [Option.some.injEq, Prod.mk.injEq] at h5
          obtain ⟨_, rfl⟩ := h5
          by_cases hb : b = b0
          · subst hb
            rw [nth_setNth_same (nth_some_lt hb0)] at q5
            simp only [Option.some.injEq, Blk.mp.injEq] at q5
            subst q5
            exact ⟨es0, hb0, findV_push q6⟩
          · rw [nth_setNth_other hb] at q5
            exact ⟨es, q5, q6⟩
      · cases h3
    · cases h3
  · cases hs

/-- What a key has. -/
theorem opL_cases {C : Ctx} {E : Ev} {op : Op} {env : List (Nat × AV)} {h : List Blk} {N : Option R} {K : AV → Nat → Nat → Option R} (hK : opLE C.T op env h N K = some r) :
    N = some r ∨ ∃ v b t kt et k z d, K v b t = some r ∧ (Need.key b t kt et k z d).ok C.T h ∧ ∀ h2, (Need.key b t kt et k z d).ok C.T h2 → ∀ R' (K' : AV → List Blk → Option R'), opE C E op env h2 K' = K' v h2 := by
  cases op <;> try exact .inl hK
  case lookup t x i ok =>
    simp only [opLE] at hK
    split at hK
    · rename_i b he
      right
      unfold lookupE at hK
      split at hK
      · cases hK
      · rename_i ti ht
        split at hK
        · rename_i kt et hg
          split at hK
          · cases hK
          · rename_i te hte
            split at hK
            · rename_i z b' k hz hb' hi
              cases hb'
              split at hK
              · rename_i es hb
                obtain ⟨hq, hK9⟩ := cond_none hK
                simp only [Option.bind_eq_some_iff] at hK9
                obtain ⟨d, hd, hK9⟩ := hK9
                obtain ⟨d', k1, k2⟩ := (fac_reveal (T := C.T) (t := et) (d := d)).keep hK9
                refine ⟨_, b, t, kt, et, k, z, d, k1, ⟨⟨ti, te, ht, hg, hte, hz⟩, es, hb, hd⟩, ?_⟩
                rintro h2 ⟨_, es2, j1, j2⟩ R' K'
                simp only [opE, he, hi]
                unfold lookupE
                rw [hz] at hq
                simp only [ht, hg, hte, hz, j1, j2, Option.bind_some]
                rw [k2, hq]; rfl
              · cases hK
            · cases hK
        · cases hK
    · exact .inl hK

theorem drawS_trace {C : Ctx} {E : Ev} {all : List Oper} {K : List (Nat × AV) → List Blk → Option R} : ∀ {steps : List PStep} {log : List (Nat × List Nat)} {env : List (Nat × AV)} {h : List Blk}, drawS C E all steps log env h K = some r →
    ∃ recs env' h', recs.map (fun rc => rc.st) = steps ∧ Chain C E all log recs env h env' h' ∧ K env' h' = some r
  | [], log, env, h, hK => ⟨[], env, h, rfl, ⟨fun _ => rfl, rfl⟩, hK⟩
  | st :: steps, log, env, h, hK => by
    unfold drawS at hK
    split at hK
    · cases hK
    · rename_i dst op ty af pos guard ho
      have hdst : dstOf all st.j = dst := by unfold dstOf; rw [ho]
      rcases cond_some hK with ⟨hf, hK⟩ | ⟨hf, hK⟩
      · split at hK
        · rename_i sz hsz
          rcases cond_some hK with ⟨_, hK⟩ | ⟨he, hK⟩
          · cases hK
          · obtain ⟨recs, env', h'', k1, k2, k3⟩ := drawS_trace hK
            refine ⟨⟨st, .undef, h, h, h, env, true, st.fl.flatMap (logOf log), [], none, none, .undef, []⟩ :: recs, env', h'', by simp [k1],
              ⟨fun _ => rfl, rfl, ⟨_, ho, fun _ => rfl, fun _ _ => rfl, fun _ => rfl, (fun _ e => by simp only [Rec.eff] at e; rw [he] at e; cases e), (fun _ _ _ _ _ _ _ _ e => by simp only [Rec.eff] at e; rw [he] at e; cases e), by simp [slotP, hf], .inr (.inl ⟨hf, he, rfl, rfl, _, hsz⟩)⟩, ⟨rfl, by simp⟩, ?_⟩, k3⟩
            simp only [logN, Rec.eff, he, Bool.false_and, cond_false, putE]
            exact k2
        · cases hK
      split at hK
      · rename_i a hini
        have hform : ∃ s z t s' x, layE C all a = some (s, z) ∧ guard = none ∧ dst = none ∧ op = .store t (.tmp s') x := by
          cases hlay : layE C all a with
          | none => rw [hlay] at hK; cases hK
          | some sz =>
            obtain ⟨s, z⟩ := sz
            rw [hlay] at hK
            clear ho hdst
            cases guard with
            | some g => cases hK
            | none =>
              cases dst with
              | some d => cases hK
              | none =>
                cases op with
                | store t ad x =>
                  cases ad with
                  | tmp s' => exact ⟨s, z, t, s', x, rfl, rfl, rfl, rfl⟩
                  | _ => cases hK
                | _ => cases hK
        obtain ⟨s, z, t, s', x, hlay, rfl, rfl, rfl⟩ := hform
        rw [hlay] at hK
        simp only at hK
        · skip
          obtain ⟨hq, hK⟩ := cond_none hK
          simp only [Bool.and_eq_true] at hq
          have hss := Nat.eq_of_beq_eq_true hq.1
          subst hss
          obtain ⟨v, h', h1, h2⟩ := (fac_opE (C := C) (E := E) (op := .store t (.tmp s') x) (env := (s', .ref h.length 0) :: env) (h := h ++ [.dc z])).keep hK
          obtain ⟨recs, env', h'', k1, k2, k3⟩ := drawS_trace h1
          refine ⟨⟨st, v, h, h ++ [.dc z], h', (s', .ref h.length 0) :: env, true, st.fl.flatMap (logOf log), h.length :: touchE C (.store t (.tmp s') x) ((s', .ref h.length 0) :: env) (h ++ [.dc z]) h', some (s', z), some s', .ref h.length 0, []⟩ :: recs, env', h'', by simp [k1],
            ⟨fun _ => rfl, rfl, ⟨_, ho, fun e => ?_, fun b hb => ?_, by simp, (fun e => by simp only [Rec.j] at e; rw [isSt_init ho hlay] at e; cases e), (fun _ _ _ _ _ _ _ e => by simp only [Rec.j, isME, ho] at e; cases e), ?_, .inr (.inr ⟨a, s', z, hf, hini, hq.2, hlay, rfl, rfl, rfl, rfl, rfl, rfl, ⟨t, x, rfl⟩, h2⟩)⟩, ⟨rfl, by simp⟩, ?_⟩, k3⟩
          · simp only [Rec.eff] at e; rw [hq.2] at e; cases e
          · simp only [List.mem_cons, not_or] at hb
            rw [touch_ok h2 hb.2, push_off hb.1]
          · simp only [slotP, hf, hini, cond_false]
            unfold layE at hlay
            split at hlay
            · rename_i ho'
              split at hlay
              · obtain ⟨_, hlay⟩ := cond_none hlay
                cases hlay
                unfold dstOf; rw [ho']
              · cases hlay
            · cases hlay
          · simp only [Rec.j, logN, Rec.eff, hq.2, Bool.and_self, cond_true]
            exact k2
      rename_i hini
      -- run, or not, with what is known
      have yes : ∀ env1, sameL env1 env → (match guard with | none => True | some (g, want) => ∃ t, dstOf all g = some t ∧ look env1 t = .d (.bool want)) →
          (stepE C E all st log op env1 h fun v h log => drawS C E all steps log (putE dst v env1) h K) = some r →
          ∃ recs env' h', recs.map (fun rc => rc.st) = st :: steps ∧ Chain C E all log recs env h env' h' ∧ K env' h' = some r := by
        intro env1 q hg hK
        have hguard : GuardOK all guard env1 true := by
          cases guard with
          | none => rfl
          | some g =>
            obtain ⟨g, want⟩ := g
            obtain ⟨t, g1, g2⟩ := hg
            exact ⟨t, g1, .inl ⟨want, g2, by simp⟩⟩
        unfold stepE at hK
        cases he : st.eff with
        | true =>
          rw [he] at hK
          simp only [cond_true] at hK
          obtain ⟨v, h', h1, h2⟩ := (fac_opE (C := C) (E := E) (op := op) (env := env1) (h := h)).keep hK
          obtain ⟨recs, env', h'', k1, k2, k3⟩ := drawS_trace h1
          refine ⟨⟨st, v, h, h, h', env1, true, st.fl.flatMap (logOf log), touchE C op env1 h h', none, dst, v, []⟩ :: recs, env', h'', by simp [k1],
            ⟨q, rfl, ⟨_, ho, fun e => ?_, fun b hb => touch_ok h2 hb, by simp, (fun e _ _ => store_alive ho e h2), (fun _ _ _ _ _ _ _ e _ _ => entry_back ho e h2), by simp [slotP, hf, hini, hdst], .inl ⟨hf, hini, rfl, hdst.symm, rfl, rfl, fun _ _ => h2, fun _ e => ?_, by simp, hguard⟩⟩, ⟨rfl, by simp⟩, ?_⟩, k3⟩
          · simp only [Rec.eff] at e; rw [he] at e; cases e
          · simp only [Rec.eff] at e; rw [he] at e; cases e
          · simp only [Rec.j, logN, Rec.eff, he, Bool.and_self, cond_true]
            exact k2.congr (q.put _ _)
        | false =>
          rw [he] at hK
          simp only [cond_false] at hK
          -- as it was, or an operation that asks only whether a block is there
          have first : ∀ {x : R}, (opQ C E op env1 (killB (st.fl.flatMap (logOf log)) h) fun v => drawS C E all steps log (putE dst v env1) h K) = some r → ∃ (v : AV) (nd : List Need), drawS C E all steps log (putE dst v env1) h K = some r ∧ (∀ b ∈ nd, b.ok C.T h ∧ b.stays all st.fl log = true) ∧
              ∀ h2, Sub (killB (st.fl.flatMap (logOf log)) h) h2 → (∀ b ∈ nd, b.ok C.T h2) → ∀ R' (K' : AV → List Blk → Option R'), opE C E op env1 h2 K' = K' v h2 := by
            intro _ hK
            obtain ⟨v, h1, h2, h3⟩ := opQ_par (K := fun v => drawS C E all steps log (putE dst v env1) h K) hK
            refine ⟨v, [], h1, by simp, fun h2' hs _ R' K' => ?_⟩
            obtain ⟨v', j1, j2⟩ := opQ_out (opQ_mono hs (h3 _ fun v => some v))
            cases j1
            exact j2 R' K'
          have both : ∃ (v : AV) (nd : List Need), drawS C E all steps log (putE dst v env1) h K = some r ∧ (∀ b ∈ nd, b.ok C.T h ∧ b.stays all st.fl log = true) ∧
              ∀ h2, Sub (killB (st.fl.flatMap (logOf log)) h) h2 → (∀ b ∈ nd, b.ok C.T h2) → ∀ R' (K' : AV → List Blk → Option R'), opE C E op env1 h2 K' = K' v h2 := by
            rcases opA_cases (C := C) (E := E) hK with hK | ⟨v, b, hK, hall⟩
            · rcases opL_cases (C := C) (E := E) hK with hK | ⟨v, b, t, kt, et, k, z, d, hK, hok, hall⟩
              · exact first (x := r) hK
              · rcases cond_some hK with ⟨hc, hK⟩ | ⟨_, hK⟩
                · exact ⟨v, [.key b t kt et k z d], hK, by simpa using ⟨hok, hc⟩, fun h2 _ ha => hall h2 (ha _ (by simp))⟩
                · exact first (x := r) hK
            · rcases cond_some hK with ⟨hc, hK⟩ | ⟨_, hK⟩
              · rw [Bool.and_eq_true] at hc
                exact ⟨v, [.alive b], hK, by simpa [Need.ok, Need.stays] using hc, fun h2 _ ha => hall h2 (ha (.alive b) (by simp))⟩
              · exact first (x := r) hK
          obtain ⟨v, nd, h1, h2, h3⟩ := both
          obtain ⟨recs, env', h'', k1, k2, k3⟩ := drawS_trace h1
          refine ⟨⟨st, v, h, h, h, env1, true, st.fl.flatMap (logOf log), [], none, dst, v, nd⟩ :: recs, env', h'', by simp [k1],
            ⟨q, rfl, ⟨_, ho, fun _ => rfl, fun _ _ => rfl, by simp, by simp, (fun _ _ _ _ _ _ _ _ e => by simp only [Rec.eff] at e; rw [he] at e; cases e), by simp [slotP, hf, hini, hdst], .inl ⟨hf, hini, rfl, hdst.symm, rfl, rfl, fun _ e => ?_, fun _ _ h2' hs ha R' K' => h3 h2' hs ha R' K', by simp, hguard⟩⟩, ⟨rfl, h2⟩, ?_⟩, k3⟩
          · simp only [Rec.eff] at e; rw [he] at e; cases e
          · simp only [logN, Rec.eff, he, Bool.false_and, cond_false]
            exact k2.congr (q.put _ _)
      have no : ∀ env1, sameL env1 env → (match guard with | none => False | some (g, want) => ∃ t, dstOf all g = some t ∧ ((∃ b, look env1 t = .d (.bool b) ∧ (b == want) = false) ∨ look env1 t = .d (.tup []))) →
          drawS C E all steps log (putE dst (.d (.tup [])) env1) h K = some r →
          ∃ recs env' h', recs.map (fun rc => rc.st) = st :: steps ∧ Chain C E all log recs env h env' h' ∧ K env' h' = some r := by
        intro env1 q hg hK
        obtain ⟨recs, env', h'', k1, k2, k3⟩ := drawS_trace hK
        refine ⟨⟨st, .d (.tup []), h, h, h, env1, false, st.fl.flatMap (logOf log), [], none, dst, .d (.tup []), []⟩ :: recs, env', h'', by simp [k1], ⟨q, rfl, ⟨_, ho, fun _ => rfl, fun _ _ => rfl, fun _ => rfl, by simp, by simp, by simp [slotP, hf, hini, hdst], .inl ⟨hf, hini, rfl, hdst.symm, rfl, rfl, by simp, by simp, fun _ => ⟨rfl, rfl⟩, ?_⟩⟩, ⟨rfl, by simp⟩, ?_⟩, k3⟩
        · cases guard with
          | none => exact hg.elim
          | some g =>
            obtain ⟨g, want⟩ := g
            obtain ⟨t, g1, g2⟩ := hg
            refine ⟨t, g1, ?_⟩
            rcases g2 with ⟨b, g2, g3⟩ | g2
            · exact .inl ⟨b, g2, g3.symm⟩
            · exact .inr ⟨g2, rfl⟩
        · simp only [logN, Bool.and_false, cond_false]
          exact k2.congr (q.put _ _)
      cases guard with
      | none => exact yes env (fun _ => rfl) trivial hK
      | some g =>
        obtain ⟨g, want⟩ := g
        simp only at hK
        split at hK
        · cases hK
        · rename_i t ht
          split at hK
          · rename_i b e
            have l1 : ∀ b', look ((t, AV.d (.bool b')) :: env) t = .d (.bool b') := by intro b'; simp [look]
            cases b with
            | true =>
              simp only [cond_true] at hK
              cases want with
              | true => exact yes _ (sameL.add e) ⟨t, ht, l1 _⟩ hK
              | false => exact no _ (sameL.add e) ⟨t, ht, .inl ⟨true, l1 _, rfl⟩⟩ hK
            | false =>
              simp only [cond_false] at hK
              cases want with
              | true => exact no _ (sameL.add e) ⟨t, ht, .inl ⟨false, l1 _, rfl⟩⟩ hK
              | false => exact yes _ (sameL.add e) ⟨t, ht, l1 _⟩ hK
          · rename_i e
            exact no _ (fun _ => rfl) ⟨t, ht, .inr e⟩ hK
          · cases hK
end

/-- What is known after the operations of D. -/
def envD (D : Nat → Bool) : List Rec → List (Nat × AV) → List (Nat × AV)
  | [], env => env
  | rc :: r, env => envD D r (cond (D rc.j) (putE rc.slot rc.pv env) env)

def heapD (D : Nat → Bool) : List Rec → List Blk → List Blk
  | [], h => h
  | rc :: r, h => heapD D r (cond (rc.eff && D rc.j) rc.ha h)

section
variable {all : List Oper} {D D' : Nat → Bool}

theorem envD_append : ∀ (l r : List Rec) (env : List (Nat × AV)), envD D (l ++ r) env = envD D r (envD D l env)
  | [], _, _ => rfl
  | _ :: l, r, env => envD_append l r _

theorem heapD_append : ∀ (l r : List Rec) (h : List Blk), heapD D (l ++ r) h = heapD D r (heapD D l h)
  | [], _, _ => rfl
  | _ :: l, r, h => heapD_append l r _

theorem look_put_other {dst : Option Nat} {t : Nat} {v : AV} {env : List (Nat × AV)} (hd : dst ≠ some t) : look (putE dst v env) t = look env t := by
  cases dst with
  | none => rfl
  | some s =>
    simp only [putE, look]
    cases c : Nat.beq s t with
    | true => exact absurd (congrArg some (Nat.eq_of_beq_eq_true c)) hd
    | false => rfl

theorem look_put_same {t : Nat} {v : AV} {env : List (Nat × AV)} : look (putE (some t) v env) t = v := by simp [putE, look]

/-- A slot is the same after two sets that agree on who fills it. -/
theorem envD_congr {t : Nat} : ∀ (recs : List Rec) (env env' : List (Nat × AV)), (∀ rc ∈ recs, rc.slot = some t → D rc.j = D' rc.j) → look env t = look env' t →
    look (envD D recs env) t = look (envD D' recs env') t
  | [], _, _, _, e => e
  | rc :: r, env, env', q, e => by
    simp only [envD]
    refine envD_congr r _ _ (fun rc' h' => q rc' (by simp [h'])) ?_
    by_cases hd : rc.slot = some t
    · have := q rc (by simp) hd
      rw [hd, this]
      cases D' rc.j with
      | true => simp only [cond_true]; rw [look_put_same, look_put_same]
      | false => exact e
    · cases D rc.j <;> cases D' rc.j <;> simp only [cond_true, cond_false] <;> first | exact e | (rw [look_put_other hd]; first | exact e | (rw [look_put_other hd]; exact e)) | (rw [look_put_other hd]; exact e)

theorem envD_none {t : Nat} : ∀ (recs : List Rec) (env : List (Nat × AV)), (∀ rc ∈ recs, rc.slot = some t → D rc.j = false) → look (envD D recs env) t = look env t
  | [], _, _ => rfl
  | rc :: r, env, q => by
    simp only [envD]
    rw [envD_none r _ fun rc' h' => q rc' (by simp [h'])]
    by_cases hd : rc.slot = some t
    · rw [q rc (by simp) hd]; rfl
    · cases D rc.j with
      | true => exact look_put_other hd
      | false => rfl

theorem heapD_congr : ∀ (recs : List Rec) (h : List Blk), (∀ rc ∈ recs, rc.eff = true → D rc.j = D' rc.j) → heapD D recs h = heapD D' recs h
  | [], _, _ => rfl
  | rc :: r, h, q => by
    simp only [heapD]
    have : (rc.eff && D rc.j) = (rc.eff && D' rc.j) := by
      cases e : rc.eff with
      | true => rw [q rc (by simp) e]
      | false => rfl
    rw [this]
    exact heapD_congr r _ fun rc' h' => q rc' (by simp [h'])

theorem heapD_none : ∀ (recs : List Rec) (h : List Blk), (∀ rc ∈ recs, rc.eff = true → D rc.j = false) → heapD D recs h = h
  | [], _, _ => rfl
  | rc :: r, h, q => by
    simp only [heapD]
    have : (rc.eff && D rc.j) = false := by
      cases e : rc.eff with
      | true => rw [q rc (by simp) e]; rfl
      | false => rfl
    rw [this]
    exact heapD_none r _ fun rc' h' => q rc' (by simp [h'])

/-- Everything done. -/
def full : Nat → Bool := fun _ => true

theorem chain_all {C : Ctx} {E : Ev} : ∀ (recs : List Rec) (log : List (Nat × List Nat)) (env : List (Nat × AV)) (h : List Blk) (env' : List (Nat × AV)) (h' : List Blk), Chain C E all log recs env h env' h' →
    sameL env' (envD full recs env) ∧ h' = heapD full recs h
  | [], _, _, _, _, _, c => c
  | rc :: r, log, env, h, env', h', c => by
    obtain ⟨_, c2, ⟨o, c3⟩, _, c4⟩ := c
    have := chain_all r _ _ _ _ _ c4
    simp only [envD, heapD, full, cond_true, Bool.and_true]
    refine ⟨this.1, ?_⟩
    rw [this.2]
    cases e : rc.eff with
    | true => rfl
    | false => rw [cond_false, c3.quiet e, c2]

/-- What is told of the blocks that have turned, behind some steps. -/
def logAll : List Rec → List (Nat × List Nat) → List (Nat × List Nat)
  | [], log => log
  | rc :: r, log => logAll r (logN rc log)

theorem chain_split {C : Ctx} {E : Ev} : ∀ (pre : List Rec) (rc : Rec) (suf : List Rec) (log : List (Nat × List Nat)) (env : List (Nat × AV)) (h : List Blk) (env' : List (Nat × AV)) (h' : List Blk), Chain C E all log (pre ++ rc :: suf) env h env' h' →
    sameL rc.env (envL rc (envD full pre env)) ∧ rc.h0 = heapD full pre h ∧ (∃ o, RecOK C E all rc o) ∧ (rc.mask = rc.st.fl.flatMap (logOf (logAll pre log)) ∧ ∀ b ∈ rc.need, b.ok C.T rc.h0 ∧ b.stays all rc.st.fl (logAll pre log) = true)
  | [], rc, suf, log, env, h, env', h', c => ⟨c.1, c.2.1, c.2.2.1, c.2.2.2.1⟩
  | p :: pre, rc, suf, log, env, h, env', h', c => by
    obtain ⟨_, c2, ⟨o, c3⟩, _, c4⟩ := c
    have := chain_split pre rc suf _ _ _ _ _ c4
    refine ⟨this.1, ?_, this.2.2⟩
    rw [this.2.1]
    simp only [heapD, full, Bool.and_true]
    cases e : p.eff with
    | true => rfl
    | false => rw [cond_false, c3.quiet e, c2]

theorem logOf_keep {j : Nat} : ∀ (pre : List Rec) (log : List (Nat × List Nat)), (∀ rc ∈ pre, rc.j ≠ j) → logOf (logAll pre log) j = logOf log j
  | [], _, _ => rfl
  | rc :: pre, log, h => by
    simp only [logAll]
    rw [logOf_keep pre _ fun rc' h' => h rc' (by simp [h'])]
    unfold logN
    cases (rc.eff && rc.ran) with
    | false => rfl
    | true =>
      simp only [cond_true, logOf]
      have : Nat.beq rc.j j = false := by
        cases e : Nat.beq rc.j j with
        | false => rfl
        | true => exact absurd (Nat.eq_of_beq_eq_true e) (h rc (by simp))
      rw [this]; rfl

theorem logOf_at {p1 p2 : List Rec} {rc : Rec} {log : List (Nat × List Nat)} (he : rc.eff = true) (hr : rc.ran = true) (hne : ∀ rc' ∈ p2, rc'.j ≠ rc.j) : logOf (logAll (p1 ++ rc :: p2) log) rc.j = rc.tch := by
  have e : ∀ (l : List Rec) (lg : List (Nat × List Nat)), logAll (l ++ rc :: p2) lg = logAll p2 (logN rc (logAll l lg)) := by
    intro l
    induction l with
    | nil => intro lg; rfl
    | cons x l ih => intro lg; exact ih _
  rw [e, logOf_keep p2 _ hne]
  unfold logN
  rw [he, hr]
  simp [logOf]

/-- Blocks that nothing has turned. -/
theorem full_off {C : Ctx} {E : Ev} {b : Nat} : ∀ (recs : List Rec) (log : List (Nat × List Nat)) (env : List (Nat × AV)) (h : List Blk) (env' : List (Nat × AV)) (h' : List Blk) (suf : List Rec), Chain C E all log (recs ++ suf) env h env' h' →
    (∀ rc ∈ recs, rc.eff = true → nth rc.ha b = nth rc.h0 b) → nth (heapD full recs h) b = nth h b
  | [], _, _, _, _, _, _, _, _ => rfl
  | rc :: r, log, env, h, env', h', suf, c, q => by
    obtain ⟨_, c2, ⟨o, c3⟩, _, c4⟩ := c
    have := full_off (b := b) r _ _ _ _ _ suf c4 fun rc' h' => q rc' (by simp [h'])
    simp only [heapD, full, Bool.and_true]
    cases e : rc.eff with
    | true =>
      simp only [cond_true]
      exact this.trans ((q rc (by simp) e).trans (by rw [c2]))
    | false =>
      simp only [cond_false]
      rw [c3.quiet e, c2] at this
      exact this

/-- What is there behind all is there behind some set, where only what writes into it has not come. -/
theorem heapD_alive {C : Ctx} {E : Ev} {Q : List Blk → Prop} : ∀ (recs : List Rec) (log : List (Nat × List Nat)) (env : List (Nat × AV)) (h : List Blk) (env' : List (Nat × AV)) (h' : List Blk) (suf : List Rec), Chain C E all log (recs ++ suf) env h env' h' →
    (∀ p1 rc p2 rc', recs = p1 ++ rc :: p2 → rc' ∈ p2 → rc.eff = true → rc'.eff = true → D rc'.j = true → D rc.j = true) →
    (∀ rc ∈ recs, rc.eff = true → D rc.j = false → Q rc.ha → Q rc.h0) → Q (heapD full recs h) → Q (heapD D recs h)
  | [], _, _, _, _, _, _, _, _, _, a => a
  | rc :: r, log, env, h, env', h', suf, c, hp, q, a => by
    obtain ⟨_, c2, ⟨o, c3⟩, _, c4⟩ := c
    have hq : ∀ rc' ∈ r, rc'.eff = true → D rc'.j = false → Q rc'.ha → Q rc'.h0 := fun rc' h' => q rc' (by simp [h'])
    have ih := heapD_alive (Q := Q) r _ _ _ _ _ suf c4 (fun p1 x p2 x' e => hp (rc :: p1) x p2 x' (by rw [e]; rfl)) hq
    cases e : rc.eff with
    | false =>
      rw [c3.quiet e, c2] at ih
      simp only [heapD, e, Bool.false_and, cond_false, Bool.and_false] at a ⊢
      exact ih a
    | true =>
      cases hd : D rc.j with
      | true =>
        simp only [heapD, e, hd, full, Bool.and_self, cond_true] at a ⊢
        exact ih a
      | false =>
        have hno : ∀ rc' ∈ r, rc'.eff = true → D rc'.j = false := by
          intro rc' h' e'
          cases hd' : D rc'.j with
          | false => rfl
          | true => rw [hp [] rc r rc' rfl h' e e' hd'] at hd; cases hd
        simp only [heapD, e, full, Bool.and_self, cond_true] at a
        have h1 := ih a
        rw [heapD_none r _ hno] at h1
        have h2 := q rc (by simp) e hd h1
        simp only [heapD, hd, Bool.and_false, cond_false]
        rw [heapD_none r h hno, ← c2]
        exact h2

/-- Memory after some set is as it is after all, but for what has turned. -/
theorem heapD_off {C : Ctx} {E : Ev} {b : Nat} : ∀ (recs : List Rec) (log : List (Nat × List Nat)) (env : List (Nat × AV)) (h : List Blk) (env' : List (Nat × AV)) (h' : List Blk) (suf : List Rec), Chain C E all log (recs ++ suf) env h env' h' →
    (∀ p1 rc p2 rc', recs = p1 ++ rc :: p2 → rc' ∈ p2 → rc.eff = true → rc'.eff = true → D rc'.j = true → D rc.j = true) →
    (∀ rc ∈ recs, rc.eff = true → D rc.j = false → nth rc.ha b = nth rc.h0 b) → nth (heapD D recs h) b = nth (heapD full recs h) b
  | [], _, _, _, _, _, _, _, _, _ => rfl
  | rc :: r, log, env, h, env', h', suf, c, hp, q => by
    have c0 := c
    obtain ⟨_, c2, ⟨o, c3⟩, _, c4⟩ := c
    have ih := heapD_off (b := b) r _ _ _ _ _ suf c4 (fun p1 x p2 x' e => hp (rc :: p1) x p2 x' (by rw [e]; rfl)) fun rc' h' => q rc' (by simp [h'])
    cases e : rc.eff with
    | false =>
      rw [c3.quiet e, c2] at ih
      simp only [heapD, e, Bool.false_and, cond_false]
      exact ih
    | true =>
      cases hd : D rc.j with
      | true =>
        simp only [heapD, e, hd, full, Bool.and_self, cond_true]
        exact ih
      | false =>
        have hno : ∀ rc' ∈ r, rc'.eff = true → D rc'.j = false := by
          intro rc' h' e'
          cases hd' : D rc'.j with
          | false => rfl
          | true => rw [hp [] rc r rc' rfl h' e e' hd'] at hd; cases hd
        have := full_off (b := b) (rc :: r) log env h env' h' suf c0 (fun rc' h' e' => by
          rcases List.mem_cons.1 h' with rfl | h'
          · exact q _ (by simp) e' hd
          · exact q rc' (by simp [h']) e' (hno rc' h' e'))
        rw [this]
        simp only [heapD, hd, Bool.and_false, cond_false]
        rw [heapD_none r h hno]
end
end Go.AE

/- Regions that draw their order. -/
namespace Go.AE
open Go

/-- What a plan's check tells of one step; 'pre': the steps ahead of it. -/
structure StepOK (all : List Oper) (p : Plan) (st : PStep) (pre : List PStep) (o : Oper) : Prop where
  at_ : nth all st.j = some o
  new : ∀ q ∈ pre, q.j ≠ st.j
  edges : ∀ i ∈ edgesOf o, ∃ q ∈ pre, q.j = i
  anc : ∀ x, ahead p x st.j = true → (∃ q ∈ pre, q.j = x) ∧ ∃ i ∈ edgesOf o, x = i ∨ ahead p x i = true
  mem : ∀ q ∈ pre, (st.eff || q.eff) = true → ahead p q.j st.j = true ∨ (st.eff = false ∧ q.j ∈ st.fl)

theorem okSteps_at {all : List Oper} {p : Plan} {st : PStep} {suf : List PStep} : ∀ (pre done : List PStep), okSteps all p (pre ++ st :: suf) done = true →
    ∃ o, StepOK all p st (pre.reverse ++ done) o
  | [], done, h => by
    simp only [List.nil_append, okSteps, Bool.and_eq_true] at h
    obtain ⟨h, _⟩ := h
    split at h
    · cases h
    · rename_i o ho
      simp only [Bool.and_eq_true, Bool.not_eq_true', List.all_eq_true, List.any_eq_true, List.any_eq_false] at h
      obtain ⟨⟨⟨h1, h2⟩, h3⟩, h4⟩ := h
      refine ⟨o, ho, ?_, ?_, ?_, ?_⟩
      · intro q hq e
        have := h1 q (by simpa using hq)
        rw [e] at this; simp at this
      · intro i hi
        obtain ⟨q, hq, e⟩ := h2 i hi
        exact ⟨q, by simpa using hq, Nat.eq_of_beq_eq_true e⟩
      · intro x hx
        unfold ahead at hx
        have hx' : x ∈ (nth p.anc st.j).getD [] := by simpa using hx
        obtain ⟨⟨q, hq, e⟩, i, hi, e'⟩ := h3 x hx'
        refine ⟨⟨q, by simpa using hq, Nat.eq_of_beq_eq_true e⟩, i, hi, ?_⟩
        rcases Bool.or_eq_true_iff.1 e' with e' | e'
        · exact .inl (Nat.eq_of_beq_eq_true e')
        · exact .inr e'
      · intro q hq e
        have := h4 q (by simpa using hq)
        rw [e] at this
        simp only [Bool.not_true, Bool.false_or, Bool.or_eq_true, Bool.and_eq_true, Bool.not_eq_true', List.contains_iff_mem] at this
        exact this
  | s :: pre, done, h => by
    simp only [List.cons_append, okSteps, Bool.and_eq_true] at h
    obtain ⟨o, ho⟩ := okSteps_at pre _ h.2
    refine ⟨o, ?_⟩
    have : (List.reverse (s :: pre) ++ done) = pre.reverse ++ s :: done := by simp
    rw [this]; exact ho

theorem countP_set {p p' : Nat → Bool} {j : Nat} (hp : p j = true) (hp' : p' j = false) (hsame : ∀ i, i ≠ j → p' i = p i) : ∀ (l : List Nat), l.Nodup → j ∈ l → l.countP p' + 1 = l.countP p
  | [], _, h => by simp at h
  | x :: l, hn, h => by
    obtain ⟨h1, h2⟩ := List.nodup_cons.1 hn
    have same : ∀ l : List Nat, j ∉ l → l.countP p' = l.countP p := by
      intro l hl
      induction l with
      | nil => rfl
      | cons y l ih =>
        rw [List.countP_cons, List.countP_cons, hsame y (by rintro rfl; simp at hl), ih (by simp at hl; exact hl.2)]
    rw [List.countP_cons, List.countP_cons]
    rcases List.mem_cons.1 h with rfl | h
    · rw [hp, hp', same l h1]; simp
    · have hx : x ≠ j := by rintro rfl; exact h1 h
      rw [hsame x hx]
      have := countP_set hp hp' hsame l h2 h
      omega

theorem first_open (D : Nat → Bool) : ∀ (recs : List Rec), (∀ rc ∈ recs, D rc.j = true) ∨ ∃ pre rc suf, recs = pre ++ rc :: suf ∧ D rc.j = false ∧ ∀ rc' ∈ pre, D rc'.j = true
  | [] => .inl (by simp)
  | rc :: r => by
    cases e : D rc.j with
    | false => exact .inr ⟨[], rc, r, rfl, e, by simp⟩
    | true =>
      rcases first_open D r with h | ⟨pre, rc', suf, h1, h2, h3⟩
      · left
        intro x hx
        rcases List.mem_cons.1 hx with rfl | hx
        · exact e
        · exact h x hx
      · right
        refine ⟨rc :: pre, rc', suf, by rw [h1]; rfl, h2, ?_⟩
        intro x hx
        rcases List.mem_cons.1 hx with rfl | hx
        · exact e
        · exact h3 x hx

section
variable {P : Program} {T : Tab TI} {w w' : World} {σ σ' : Sg} {h h' : List Blk} {G G' : Nat → Prop} {R : Type} {r : R} {DF : List Deferred}

/-- All that is known of a plan that holds. -/
structure PlanOK (all : List Oper) (p : Plan) (recs : List Rec) : Prop where
  cover : ∀ i, i < all.length → ∃ rc ∈ recs, rc.j = i
  step : ∀ pre rc suf, recs = pre ++ rc :: suf → ∃ o, nth all rc.j = some o ∧ (∀ rc' ∈ pre, rc'.j ≠ rc.j) ∧ (∀ i ∈ edgesOf o, ∃ rc' ∈ pre, rc'.j = i) ∧
    (∀ x, ahead p x rc.j = true → (∃ rc' ∈ pre, rc'.j = x) ∧ ∃ i ∈ edgesOf o, x = i ∨ ahead p x i = true) ∧ (∀ rc' ∈ pre, (rc.eff || rc'.eff) = true → ahead p rc'.j rc.j = true ∨ (rc.eff = false ∧ rc'.j ∈ rc.st.fl))
  slots : ∀ rc ∈ recs, ∀ rc' ∈ recs, ∀ o t, nth all rc.j = some o → rc'.slot = some t → (rc'.j = rc.j ∨ rc.slot ≠ some t) ∧ (t ∈ looksP all rc.st o → ahead p rc'.j rc.j = true ∨ ahead p rc.j rc'.j = true)
  slot : ∀ rc ∈ recs, rc.slot = slotP all rc.st
  flt : ∀ rc ∈ recs, rc.st.flt = true → ∃ rc' ∈ recs, rc'.st.ini = some rc.j
  ini : ∀ rc ∈ recs, ∀ a, rc.st.ini = some a → rc.st.flt = false ∧ ahead p a rc.j = true ∧ ∃ rc' ∈ recs, rc'.st.flt = true ∧ rc'.j = a

theorem planOK_of {ops : Array Oper} {p : Plan} {recs : List Rec} (hp : okPlan ops p = true) (hr : recs.map (fun rc => rc.st) = p.steps) (hsl : ∀ rc ∈ recs, rc.slot = slotP ops.toList rc.st) : PlanOK ops.toList p recs := by
  unfold okPlan at hp
  simp only [Bool.and_eq_true, List.all_eq_true, List.mem_range, List.any_eq_true] at hp
  obtain ⟨⟨h1, h2⟩, h3, h4⟩ := hp
  have inS : ∀ rc ∈ recs, rc.st ∈ p.steps := by
    intro rc hrc
    rw [← hr]; exact List.mem_map.2 ⟨rc, hrc, rfl⟩
  have ofS : ∀ q ∈ p.steps, ∃ rc ∈ recs, rc.st = q := by
    intro q hq
    rw [← hr] at hq
    obtain ⟨rc, hrc, e⟩ := List.mem_map.1 hq
    exact ⟨rc, hrc, e⟩
  refine ⟨?_, ?_, ?_, hsl, ?_, ?_⟩
  · intro i hi
    obtain ⟨q, hq, e⟩ := h1 i hi
    obtain ⟨rc, hrc, rfl⟩ := ofS q hq
    exact ⟨rc, hrc, Nat.eq_of_beq_eq_true e⟩
  · intro pre rc suf e
    have hsplit : p.steps = pre.map (fun rc => rc.st) ++ rc.st :: suf.map (fun rc => rc.st) := by rw [← hr, e]; simp
    rw [hsplit] at h2
    obtain ⟨o, ho⟩ := okSteps_at _ _ h2
    have mem : ∀ q, q ∈ (pre.map (fun rc => rc.st)).reverse ++ [] ↔ ∃ rc' ∈ pre, rc'.st = q := by intro q; simp
    refine ⟨o, ho.at_, ?_, ?_, ?_, ?_⟩
    · intro rc' h'
      exact ho.new _ ((mem _).2 ⟨rc', h', rfl⟩)
    · intro i hi
      obtain ⟨q, hq, e'⟩ := ho.edges i hi
      obtain ⟨rc', h', rfl⟩ := (mem q).1 hq
      exact ⟨rc', h', e'⟩
    · intro x hx
      obtain ⟨⟨q, hq, e'⟩, k⟩ := ho.anc x hx
      obtain ⟨rc', h', rfl⟩ := (mem q).1 hq
      exact ⟨⟨rc', h', e'⟩, k⟩
    · intro rc' h' e'
      exact ho.mem _ ((mem _).2 ⟨rc', h', rfl⟩) e'
  · intro rc hrc rc' hrc' o t ho hi
    unfold okSlots at h3
    simp only [List.all_eq_true] at h3
    have h4 := h3 rc.st (inS rc hrc)
    unfold Rec.j at ho
    rw [ho] at h4
    simp only [List.all_eq_true] at h4
    have h5 := h4 rc'.st (inS rc' hrc')
    rw [hsl rc' hrc'] at hi
    rw [hi] at h5
    simp only [Bool.and_eq_true, Bool.or_eq_true] at h5
    obtain ⟨h6, h7⟩ := h5
    constructor
    · rcases h6 with h6 | h6
      · exact .inl (Nat.eq_of_beq_eq_true h6)
      · right
        intro e
        rw [hsl rc hrc] at e
        rw [e] at h6
        simp at h6
    · intro ht
      rcases h7 with (h7 | h7) | h7
      · simp at h7; exact absurd ht h7
      · exact .inl h7
      · exact .inr h7
  · intro rc hrc hf
    unfold okFlt at h4
    simp only [List.all_eq_true, Bool.and_eq_true, Bool.or_eq_true, Bool.not_eq_true', List.any_eq_true] at h4
    obtain ⟨h5, _⟩ := h4 rc.st (inS rc hrc)
    rcases h5 with h5 | ⟨q, hq, h5⟩
    · rw [hf] at h5; cases h5
    · obtain ⟨rc', hrc', rfl⟩ := ofS q hq
      refine ⟨rc', hrc', ?_⟩
      split at h5
      · rename_i a e
        rw [e, Nat.eq_of_beq_eq_true h5]; rfl
      · cases h5
  · intro rc hrc a ha
    unfold okFlt at h4
    simp only [List.all_eq_true, Bool.and_eq_true] at h4
    obtain ⟨_, h5⟩ := h4 rc.st (inS rc hrc)
    rw [ha] at h5
    simp only [Bool.and_eq_true, Bool.not_eq_true', List.any_eq_true] at h5
    obtain ⟨⟨h6, h7⟩, q, hq, h8, h9⟩ := h5
    obtain ⟨rc', hrc', rfl⟩ := ofS q hq
    exact ⟨h6, h7, rc', hrc', h8, Nat.eq_of_beq_eq_true h9⟩

variable {all : List Oper} {p : Plan} {recs : List Rec} {D : Nat → Bool}

/-- What is ahead of something done is done. -/
def Closed (p : Plan) (D : Nat → Bool) : Prop := ∀ y, D y = true → ∀ x, ahead p x y = true → D x = true

/-- One operation that may come now. -/
structure Ready (all : List Oper) (p : Plan) (D : Nat → Bool) (pre : List Rec) (rc : Rec) (suf : List Rec) : Prop where
  no : D rc.j = false
  ahd : ∀ x, ahead p x rc.j = true → D x = true
  preNe : ∀ rc' ∈ pre, rc'.j ≠ rc.j
  sufNe : ∀ rc' ∈ suf, rc'.j ≠ rc.j
  preEff : rc.eff = true → ∀ rc' ∈ pre, D rc'.j = true
  preFl : ∀ rc' ∈ pre, rc'.eff = true → D rc'.j = true ∨ (rc.eff = false ∧ rc'.j ∈ rc.st.fl)
  sufEff : ∀ rc' ∈ suf, rc'.eff = true → D rc'.j = false
  ord : ∀ p1 x p2 x', pre = p1 ++ x :: p2 → x' ∈ p2 → x.eff = true → x'.eff = true → D x'.j = true → D x.j = true
  dist : ∀ p1 x p2, pre = p1 ++ x :: p2 → ∀ x' ∈ p2, x'.j ≠ x.j
  preLook : ∀ o t, nth all rc.j = some o → t ∈ looksP all rc.st o → ∀ rc' ∈ pre, rc'.slot = some t → D rc'.j = true
  sufLook : ∀ o t, nth all rc.j = some o → t ∈ looksP all rc.st o → ∀ rc' ∈ suf, rc'.slot = some t → D rc'.j = false
  slot : ∀ rc' ∈ pre ++ suf, ∀ t, rc.slot = some t → rc'.slot ≠ some t

theorem ready_of (hP : PlanOK all p recs) (hc : Closed p D) {pre suf : List Rec} {rc : Rec} (hs : recs = pre ++ rc :: suf) (hno : D rc.j = false) (hed : ∀ o, nth all rc.j = some o → ∀ i ∈ edgesOf o, D i = true) : Ready all p D pre rc suf := by
  obtain ⟨o, k1, k2, k3, k4, k5⟩ := hP.step pre rc suf hs
  have ahd : ∀ x, ahead p x rc.j = true → D x = true := by
    intro x hx
    obtain ⟨_, i, hi, e⟩ := k4 x hx
    have hDi := hed o k1 i hi
    rcases e with rfl | e
    · exact hDi
    · exact hc i hDi x e
  -- a record behind, with its own steps ahead
  have behind : ∀ rc' ∈ suf, ∃ s1 s2, suf = s1 ++ rc' :: s2 ∧ recs = (pre ++ rc :: s1) ++ rc' :: s2 := by
    intro rc' h'
    obtain ⟨s1, s2, rfl⟩ := List.append_of_mem h'
    exact ⟨s1, s2, rfl, by rw [hs]; simp⟩
  have sufNe : ∀ rc' ∈ suf, rc'.j ≠ rc.j := by
    intro rc' h' e
    obtain ⟨s1, s2, _, h2⟩ := behind rc' h'
    obtain ⟨o', _, g2, _⟩ := hP.step _ rc' s2 h2
    exact g2 rc (by simp) e.symm
  -- what is behind isn't ahead; what is ahead isn't behind
  have notAhead : ∀ rc' ∈ suf, ahead p rc'.j rc.j = true → False := by
    intro rc' h' e
    obtain ⟨⟨rc'', h'', e''⟩, _⟩ := k4 _ e
    obtain ⟨s1, s2, _, h2⟩ := behind rc' h'
    obtain ⟨o', _, g2, _⟩ := hP.step _ rc' s2 h2
    exact g2 rc'' (by simp [h'']) e''
  have notBehind : ∀ rc' ∈ pre, ahead p rc.j rc'.j = true → False := by
    intro rc' h' e
    obtain ⟨s1, s2, rfl⟩ := List.append_of_mem h'
    obtain ⟨o', _, _, _, g4, _⟩ := hP.step s1 rc' (s2 ++ rc :: suf) (by rw [hs]; simp)
    obtain ⟨⟨rc'', h'', e''⟩, _⟩ := g4 _ e
    exact k2 rc'' (by simp [h'']) e''
  refine ⟨hno, ahd, k2, sufNe, fun e rc' h' => ?_, fun rc' h' e => (k5 rc' h' (by rw [e]; simp)).imp (ahd _) id, ?_, ?_, ?_, ?_, ?_, ?_⟩
  · rcases k5 rc' h' (by rw [e]; rfl) with g | ⟨g, _⟩
    · exact ahd _ g
    · rw [e] at g; cases g
  · intro rc' h' e
    obtain ⟨s1, s2, _, h2⟩ := behind rc' h'
    obtain ⟨o', _, _, _, _, g5⟩ := hP.step _ rc' s2 h2
    rcases g5 rc (by simp) (by rw [e]; rfl) with this | ⟨this, _⟩
    · cases hd : D rc'.j with
      | false => rfl
      | true => rw [hc _ hd _ this] at hno; cases hno
    · rw [e] at this; cases this
  · intro p1 x p2 x' e h' hx hx' hd
    obtain ⟨q1, q2, rfl⟩ := List.append_of_mem h'
    obtain ⟨o', _, _, _, _, g5⟩ := hP.step (p1 ++ x :: q1) x' (q2 ++ rc :: suf) (by rw [hs, e]; simp)
    rcases g5 x (by simp) (by rw [hx']; rfl) with this | ⟨this, _⟩
    · exact hc _ hd _ this
    · rw [hx'] at this; cases this
  · intro p1 x p2 e x' h' e'
    obtain ⟨q1, q2, rfl⟩ := List.append_of_mem h'
    obtain ⟨o', _, g2, _⟩ := hP.step (p1 ++ x :: q1) x' (q2 ++ rc :: suf) (by rw [hs, e]; simp)
    exact g2 x (by simp) e'.symm
  · intro o' t ho' ht rc' h' hd
    rcases (hP.slots rc (by rw [hs]; simp) rc' (by rw [hs]; simp [h']) o' t ho' hd).2 ht with e | e
    · exact ahd _ e
    · exact (notBehind rc' h' e).elim
  · intro o' t ho' ht rc' h' hd
    rcases (hP.slots rc (by rw [hs]; simp) rc' (by rw [hs]; simp [h']) o' t ho' hd).2 ht with e | e
    · exact (notAhead rc' h' e).elim
    · cases hd : D rc'.j with
      | false => rfl
      | true => rw [hc _ hd _ e] at hno; cases hno
  · intro rc' h' t ht hd
    have hne : rc'.j ≠ rc.j := by
      rcases List.mem_append.1 h' with h' | h'
      · exact k2 rc' h'
      · exact sufNe rc' h'
    have hmem' : rc' ∈ recs := by
      rw [hs]
      rcases List.mem_append.1 h' with h' | h' <;> simp [h']
    obtain ⟨s1, s2, e0⟩ := List.append_of_mem hmem'
    obtain ⟨o', ho', _⟩ := hP.step s1 rc' s2 e0
    rcases (hP.slots rc' hmem' rc (by rw [hs]; simp) o' t ho' ht).1 with e | e
    · exact hne e.symm
    · exact e hd

/-- D, and one more. -/
def more (D : Nat → Bool) (j : Nat) : Nat → Bool := fun i => D i || Nat.beq i j

theorem more_ne {j i : Nat} (hi : i ≠ j) : more D j i = D i := by
  unfold more
  cases e : Nat.beq i j with
  | false => simp
  | true => exact absurd (Nat.eq_of_beq_eq_true e) hi

theorem more_same {j : Nat} : more D j j = true := by unfold more; simp

theorem Ready.heap {pre suf : List Rec} {rc : Rec} (hr : Ready all p D pre rc suf) (he : rc.eff = true) (h0 : List Blk) : heapD D (pre ++ rc :: suf) h0 = heapD full pre h0 := by
  rw [heapD_append]
  have e1 : heapD D pre h0 = heapD full pre h0 := heapD_congr pre h0 fun rc' h' e => hr.preEff he rc' h'
  rw [e1]
  simp only [heapD, hr.no, Bool.and_false, cond_false]
  exact heapD_none suf _ fun rc' h' e => hr.sufEff rc' h' e

theorem Ready.heapMore {pre suf : List Rec} {rc : Rec} (hr : Ready all p D pre rc suf) (he : rc.eff = true) (h0 : List Blk) : heapD (more D rc.j) (pre ++ rc :: suf) h0 = rc.ha := by
  rw [heapD_append]
  simp only [heapD, more_same, he, Bool.and_true, cond_true]
  exact heapD_none suf _ fun rc' h' e => by rw [more_ne (hr.sufNe rc' h')]; exact hr.sufEff rc' h' e

/-- An operation that leaves memory as it is, taken anywhere. -/
theorem Ready.heapQ {pre suf : List Rec} {rc : Rec} (hr : Ready all p D pre rc suf) (he : rc.eff = false) (h0 : List Blk) : heapD (more D rc.j) (pre ++ rc :: suf) h0 = heapD D (pre ++ rc :: suf) h0 := by
  refine heapD_congr _ _ fun rc' h' e => ?_
  rcases List.mem_append.1 h' with h' | h'
  · exact more_ne (hr.preNe rc' h')
  · rcases List.mem_cons.1 h' with rfl | h'
    · rw [he] at e; cases e
    · exact more_ne (hr.sufNe rc' h')

theorem Ready.sub {C : Ctx} {E : Ev} {pre suf : List Rec} {rc : Rec} (hr : Ready all p D pre rc suf) {env0 env' : List (Nat × AV)} {h0 h' : List Blk} (hc : Chain C E all [] (pre ++ rc :: suf) env0 h0 env' h')
    (hb : rc.h0 = heapD full pre h0) (hm : rc.mask = rc.st.fl.flatMap (logOf (logAll pre [])))   : Sub (killB rc.mask rc.h0) (heapD D (pre ++ rc :: suf) h0) := by
  intro b x hx hne
  obtain ⟨k1, k2⟩ := killB_nth _ _ _ _ hx hne
  have e : heapD D (pre ++ rc :: suf) h0 = heapD D pre h0 := by
    rw [heapD_append]
    simp only [heapD, hr.no, Bool.and_false, cond_false]
    exact heapD_none suf _ fun rc' h' e => hr.sufEff rc' h' e
  rw [e, heapD_off (b := b) pre [] env0 h0 env' h' (rc :: suf) hc hr.ord ?_, ← hb]
  · exact k2
  · intro rc' h' e' hd
    obtain ⟨p1, p2, rfl⟩ := List.append_of_mem h'
    have hfl : rc'.j ∈ rc.st.fl := by
      rcases hr.preFl rc' h' e' with g | g
      · rw [hd] at g; cases g
      · exact g.2
    have hch := chain_split p1 rc' (p2 ++ rc :: suf) [] env0 h0 env' _ (by simpa using hc)
    obtain ⟨_, _, ⟨o, ho⟩, _⟩ := hch
    cases hran : rc'.ran with
    | false => rw [ho.idle hran]
    | true =>
      refine ho.off b fun hin => k1 ?_
      rw [hm, List.mem_flatMap]
      exact ⟨rc'.j, hfl, by rw [logOf_at e' hran (hr.dist p1 rc' p2 rfl)]; exact hin⟩

/-- What a quiet operation needs is there, whatever has come. -/
theorem Ready.alive {C : Ctx} {E : Ev} {pre suf : List Rec} {rc : Rec} (hr : Ready all p D pre rc suf) {env0 env' : List (Nat × AV)} {h0 h' : List Blk} (hc : Chain C E all [] (pre ++ rc :: suf) env0 h0 env' h')
    (hb : rc.h0 = heapD full pre h0) (hm : ∀ b ∈ rc.need, b.ok C.T rc.h0 ∧ b.stays all rc.st.fl (logAll pre []) = true) : ∀ b ∈ rc.need, b.ok C.T (heapD D (pre ++ rc :: suf) h0) := by
  intro b hbn
  obtain ⟨k1, k2⟩ := hm b hbn
  have e : heapD D (pre ++ rc :: suf) h0 = heapD D pre h0 := by
    rw [heapD_append]
    simp only [heapD, hr.no, Bool.and_false, cond_false]
    exact heapD_none suf _ fun rc' h' e => hr.sufEff rc' h' e
  rw [e]
  refine heapD_alive (Q := fun h => b.ok C.T h) pre [] env0 h0 env' h' (rc :: suf) hc hr.ord ?_ (hb ▸ k1)
  intro rc' h' e' hd ha
  obtain ⟨p1, p2, rfl⟩ := List.append_of_mem h'
  have hfl : rc'.j ∈ rc.st.fl := by
    rcases hr.preFl rc' h' e' with g | g
    · rw [hd] at g; cases g
    · exact g.2
  have hch := chain_split p1 rc' (p2 ++ rc :: suf) [] env0 h0 env' _ (by simpa using hc)
  obtain ⟨_, _, ⟨o, ho⟩, _⟩ := hch
  cases hran : rc'.ran with
  | false => rw [ho.idle hran] at ha; exact ha
  | true =>
    by_cases hin : b.b ∈ rc'.tch
    · cases b with
      | alive b =>
        have hst := List.all_eq_true.1 k2 rc'.j hfl
        rw [logOf_at e' hran (hr.dist p1 rc' p2 rfl)] at hst
        rw [Bool.or_eq_true] at hst
        rcases hst with hst | hst
        · exact ho.put hst e' hran b hin
        · simp only [Need.b] at hin
          simp [List.contains_iff_mem, hin] at hst
      | key b t kt et k z d =>
        have hst := List.all_eq_true.1 k2 rc'.j hfl
        rw [logOf_at e' hran (hr.dist p1 rc' p2 rfl)] at hst
        rw [Bool.or_eq_true] at hst
        rcases hst with hst | hst
        · exact ho.putM b t kt et k z d hst e' hran ha
        · simp only [Need.b] at hin
          simp [List.contains_iff_mem, hin] at hst
    · exact Need.same (ho.off _ hin) ha

theorem Ready.look {pre suf : List Rec} {rc : Rec} (hr : Ready all p D pre rc suf) (env0 : List (Nat × AV)) {o : Oper} (ho : nth all rc.j = some o) {t : Nat} (ht : t ∈ looksP all rc.st o) :
    look (envD D (pre ++ rc :: suf) env0) t = look (envD full pre env0) t := by
  rw [envD_append]
  rw [envD_none (rc :: suf)]
  · exact envD_congr pre _ _ (fun rc' h' hd => hr.preLook o t ho ht rc' h' hd) rfl
  · intro rc' h' hd
    rcases List.mem_cons.1 h' with rfl | h'
    · exact hr.no
    · exact hr.sufLook o t ho ht rc' h' hd

theorem Ready.envMore {pre suf : List Rec} {rc : Rec} (hr : Ready all p D pre rc suf) (env0 : List (Nat × AV)) :
    sameL (envD (more D rc.j) (pre ++ rc :: suf) env0) (putE rc.slot rc.pv (envD D (pre ++ rc :: suf) env0)) := by
  intro t
  by_cases hd : rc.slot = some t
  · rw [envD_append]
    simp only [envD, more_same, cond_true]
    rw [envD_none suf _ fun rc' h' hd' => absurd hd' (hr.slot rc' (by simp [h']) t hd), hd, look_put_same, look_put_same]
  · rw [look_put_other hd]
    refine envD_congr _ _ _ (fun rc' h' hd' => ?_) rfl
    rcases List.mem_append.1 h' with h' | h'
    · exact more_ne (hr.preNe rc' h')
    · rcases List.mem_cons.1 h' with rfl | h'
      · exact absurd hd' hd
      · exact more_ne (hr.sufNe rc' h')

theorem EnvRel.same {env env' : List (Nat × AV)} {tm : Array Value} (q : EnvRel w σ h env tm) (e : sameL env' env) : EnvRel w σ h env' tm := fun t => by rw [e t]; exact q t

theorem SR.same {N : Nat} {env env' : List (Nat × AV)} {a : Act} (q : SR N DF w σ env h a) (e : sameL env' env) : SR N DF w σ env' h a := ⟨q.inv, q.env.same e, q.size, q.defers⟩
end
end Go.AE

/- Regions that draw their order: the walk. -/
namespace Go.AE
open Go

section
variable {P : Program} {T : Tab TI} {w w' : World} {σ σ' : Sg} {h h' : List Blk} {G G' : Nat → Prop} {R : Type} {r : R} {DF : List Deferred}

/-- A block that has been laid in this region and is not told yet. -/
structure Fresh (w0 w : World) (σ : Sg) (h : List Blk) (z : List DV) (k : Nat) : Prop where
  cells : ∃ C E, w.heap[k]? = some (.cells C E (0, 0)) ∧ litL z C.toList = true
  since : w0.heap.size ≤ k
  data : ¬ σ.G k
  mine : ¬ Mine σ h k

theorem Fresh.lt {w0 : World} {z : List DV} {k : Nat} (f : Fresh w0 w σ h z k) : k < w.heap.size := by
  obtain ⟨C, E, e, _⟩ := f.cells
  exact (Array.getElem?_eq_some_iff.1 e).1

theorem Fresh.step {w0 : World} {z : List DV} {k : Nat} (f : Fresh w0 w σ h z k) (p : Step w σ h w' σ' h') : Fresh w0 w' σ' h' z k := by
  have hlt := f.lt
  refine ⟨?_, f.since, fun hg => ?_, fun hm => ?_⟩
  · rw [p.other k hlt f.mine]; exact f.cells
  · rcases p.more k hg with m | m | m
    · exact f.data m
    · exact f.mine m
    · omega
  · rcases p.mine k hm with m | m
    · exact f.mine m
    · omega

/-- A new block of nobody's. -/
theorem HInv.plus (hi : HInv w σ h) (o : Obj) : HInv (w.alloc o) σ h ∧ Step w σ h (w.alloc o) σ h := by
  have hold : ∀ k, k < w.heap.size → (w.alloc o).heap[k]? = w.heap[k]? := fun k hk => Go.RowKit.Below.heap_alloc w o k hk
  refine ⟨⟨hi.len, ?_, hi.inj, hi.sep, fun k hk => by have := hi.bound k hk; simp; omega, hi.glob.mono fun b hb => ⟨hb, hold b (hi.bound b hb)⟩⟩, ⟨rfl, rfl, rfl, by simp, fun k hk _ => hold k hk, fun k hm => .inl hm, fun _ hk => hk, Keeps.refl _ _, fun _ hk => .inl hk⟩⟩
  intro b y hy
  exact BRel.keep hy (hi.blk b y hy) (fun b hb => ⟨hb, hold b (hi.bound b hb)⟩) (Keeps.refl _ _) hi.len hy rfl (fun c hs hc => hold c.1 (hi.lt ⟨b, c, ⟨y, hy, hs⟩, hc, rfl⟩)) (fun _ _ _ hcd => hcd)

theorem Mine.push {k n : Nat} {x : Blk} (hl : σ.ι.length = h.length) {j : Nat} (hm : Mine ⟨σ.G, σ.ι ++ [(k, n)]⟩ (h ++ [x]) j) : Mine σ h j ∨ j = k := by
  obtain ⟨b, c, hb, hc, rfl⟩ := hm
  rcases hb.push with hb | ⟨rfl, _⟩
  · have := hb.bound
    rw [nth_append_lt (by omega)] at hc
    exact .inl ⟨b, c, hb, hc, rfl⟩
  · have e : nth (σ.ι ++ [(k, n)]) h.length = some (k, n) := by rw [← hl, nth_append_len]; rfl
    rw [e] at hc; cases hc; exact .inr rfl

/-- A block that is told now. -/
theorem HInv.adopt {w0 : World} {σ0 : Sg} {h0 : List Blk} (hi : HInv w σ h) {z : List DV} {k : Nat} (f : Fresh w0 w σ h z k) (hp : Step w0 σ0 h0 w σ h) :
    HInv w ⟨σ.G, σ.ι ++ [(k, z.length)]⟩ (h ++ [.dc z]) ∧ Step w0 σ0 h0 w ⟨σ.G, σ.ι ++ [(k, z.length)]⟩ (h ++ [.dc z]) := by
  have hkeep := Keeps.push σ.ι h (k, z.length) (.dc z) hi.len
  obtain ⟨C, E, e1, e2⟩ := f.cells
  obtain ⟨v1, v2⟩ := litD_vals (w := w) (G := σ.G) e2
  have hold : ∀ {b c}, Live h b → nth (σ.ι ++ [(k, z.length)]) b = some c → nth σ.ι b = some c ∧ Mine σ h c.1 := by
    intro b c hb hc
    rw [nth_append_lt (by have := hb.bound; have := hi.len; omega)] at hc
    exact ⟨hc, ⟨b, c, hb, hc, rfl⟩⟩
  have hnew : nth (σ.ι ++ [(k, z.length)]) h.length = some (k, z.length) := by rw [← hi.len, nth_append_len]; rfl
  refine ⟨⟨by simp [hi.len], ?_, ?_, ?_, hi.bound, hi.glob⟩, ⟨hp.os, hp.tape, hp.output, hp.size, hp.other, ?_, hp.data, hp.keeps.trans hkeep, hp.more⟩⟩
  · intro b y hy
    rcases Nat.lt_trichotomy b h.length with q | q | q
    · have hy' : nth h b = some y := by rw [nth_append_lt q] at hy; exact hy
      refine BRel.keep hy' (hi.blk b y hy') (fun b hb => ⟨hb, rfl⟩) hkeep hi.len hy (nth_append_lt (by have := hi.len; omega)) (fun _ _ _ => rfl) ?_
      intro df cd _ hcd
      show nth (σ.ι ++ [(k, z.length)]) df = some cd
      rw [nth_append_lt (nth_some_lt hcd)]; exact hcd
    · subst q
      rw [nth_append_len] at hy
      simp [nth] at hy; subst hy
      refine .inr ⟨(k, z.length), C, E, hnew, e1, ?_, ?_⟩
      · have := (litL_sound e2).1
        simpa using this.symm
      · intro i d hd
        obtain ⟨x, k1, k2⟩ := (DVals.get v1).2 i d hd
        have hx : C[i]? = some x := by rw [nth_eq] at k1; simpa using k1
        exact ⟨x, hx, v2 x (mem_of_nth k1), k2⟩
    · have := nth_some_lt hy; simp at this; omega
  · intro b1 b2 c1 c2 l1 l2 n1 n2 e
    rcases l1.push with l1 | ⟨rfl, _⟩ <;> rcases l2.push with l2 | ⟨rfl, _⟩
    · exact hi.inj b1 b2 c1 c2 l1 l2 (hold l1 n1).1 (hold l2 n2).1 e
    · have k2 : c2 = (k, z.length) := Option.some.inj (n2.symm.trans hnew)
      subst k2
      have := (hold l1 n1).2
      rw [e] at this
      exact absurd this f.mine
    · have k2 : c1 = (k, z.length) := Option.some.inj (n1.symm.trans hnew)
      subst k2
      have := (hold l2 n2).2
      rw [← e] at this
      exact absurd this f.mine
    · rfl
  · intro j hm hg
    rcases Mine.push hi.len hm with m | rfl
    · exact hi.sep j m hg
    · exact f.data hg
  · intro j hm
    rcases Mine.push hi.len hm with m | rfl
    · exact hp.mine j m
    · exact .inr f.since

theorem Fresh.push {w0 : World} {z : List DV} {k k' n : Nat} {x : Blk} (f : Fresh w0 w σ h z k) (hl : σ.ι.length = h.length) (hne : k ≠ k') : Fresh w0 w ⟨σ.G, σ.ι ++ [(k', n)]⟩ (h ++ [x]) z k :=
  ⟨f.cells, f.since, f.data, fun hm => by
    rcases Mine.push hl hm with m | m
    · exact f.mine m
    · exact hne m⟩

/-- A variable that has been laid and is not told yet. -/
def PD (recs : List Rec) (D : Nat → Bool) (a : Nat) : Prop :=
  (∃ rc ∈ recs, rc.st.flt = true ∧ rc.j = a) ∧ D a = true ∧ ∀ rc ∈ recs, rc.st.ini = some a → D rc.j = false

/-- The variables that are not told yet. -/
def Pend (C : Ctx) (all : List Oper) (recs : List Rec) (D : Nat → Bool) (w0 w : World) (σ : Sg) (h : List Blk) (tm : Array Value) : Prop :=
  ∃ κ : Nat → Nat, (∀ a, PD recs D a → ∃ s z, layE C all a = some (s, z) ∧ tm.getD s undef = .pointer (some ⟨κ a, 0, none⟩) ∧ Fresh w0 w σ h z (κ a)) ∧ ∀ a a', PD recs D a → PD recs D a' → κ a = κ a' → a = a'

theorem layE_dst {C : Ctx} {all : List Oper} {a s : Nat} {z : List DV} (hl : layE C all a = some (s, z)) : dstOf all a = some s ∧ ∃ t ty af pos ti, nth all a = some ⟨some s, .alloc t, ty, af, pos, none⟩ ∧ tget C.T t = some ti ∧ ti.zero.length = ti.size ∧ 1 ≤ ti.size ∧ z = ti.zero := by
  unfold layE at hl
  split at hl
  · rename_i ho
    split at hl
    · rename_i ti hti
      obtain ⟨q, hl⟩ := cond_none hl
      simp only [Bool.and_eq_true] at q
      cases hl
      exact ⟨by unfold dstOf; rw [ho], _, _, _, _, ti, ho, hti, Nat.eq_of_beq_eq_true q.1, Nat.le_of_ble_eq_true q.2, rfl⟩
    · cases hl
  · cases hl

theorem put_other {a : Act} {dst : Option Tmp} {u : Value} {s : Nat} (hd : dst ≠ some s) : (a.put dst u).tmps.getD s undef = a.tmps.getD s undef := by
  cases dst with
  | none => rfl
  | some t =>
    have hne : t ≠ s := by rintro rfl; exact hd rfl
    show (a.tmps.setIfInBounds t u).getD s undef = _
    rw [Array.getD_eq_getD_getElem?, Array.getElem?_setIfInBounds_ne hne, ← Array.getD_eq_getD_getElem?]

/-- One operation of a region, taken when it may come. -/
theorem take_wp {C : Ctx} (hT : TOK P C.T) (hE : EqOK P C.T) {E : Ev} (hV : EvOK P E) {N : Nat} {ops : Array Oper} {ro : Option Nat} {n : Nat} {Q : Exit → Act → World → Prop} {next : Act → World → Prop} {p : Plan} {D : Nat → Bool}
    {pre suf : List Rec} {rc : Rec} {env0 : List (Nat × AV)} {h0 : List Blk} {a : Act} {w0 : World} {σ0 : Sg} {hh0 : List Blk} (hP : PlanOK ops.toList p (pre ++ rc :: suf)) (hcl : Closed p D)
    (hU : ∀ rc' ∈ pre ++ rc :: suf, rc'.st.flt = true → ∀ s z, layE C ops.toList rc'.j = some (s, z) → look env0 s = .undef)
    (hd : ∀ o ∈ ops.toList, ∀ t, o.dst = some t → t < N) (hr : Ready ops.toList p D pre rc suf) {env' : List (Nat × AV)} {h' : List Blk} (hch : Chain C E ops.toList [] (pre ++ rc :: suf) env0 h0 env' h')
    (hs : SR N DF w σ (envD D (pre ++ rc :: suf) env0) (heapD D (pre ++ rc :: suf) h0) a) (hst : Step w0 σ0 hh0 w σ (heapD D (pre ++ rc :: suf) h0))
    (hpd : Pend C ops.toList (pre ++ rc :: suf) D w0 w σ (heapD D (pre ++ rc :: suf) h0) a.tmps)
    (hn : ∀ a' w' σ', SR N DF w' σ' (envD (more D rc.j) (pre ++ rc :: suf) env0) (heapD (more D rc.j) (pre ++ rc :: suf) h0) a' →
      Step w0 σ0 hh0 w' σ' (heapD (more D rc.j) (pre ++ rc :: suf) h0) → Pend C ops.toList (pre ++ rc :: suf) (more D rc.j) w0 w' σ' (heapD (more D rc.j) (pre ++ rc :: suf) h0) a'.tmps → next a' w') :
    wpOpIn (FW ro) n P ops Q rc.j next a w := by
  obtain ⟨c1, c2, ⟨o, c3⟩, c4⟩ := chain_split pre rc suf [] env0 h0 env' h' hch
  have ho : ops[rc.j]? = some o := by rw [← Array.getElem?_toList, ← nth_eq]; exact c3.at_
  have hdst : dstOf ops.toList rc.j = o.dst := by unfold dstOf; rw [c3.at_]
  have hmem : o ∈ ops.toList := mem_of_nth c3.at_
  have hrc : rc ∈ pre ++ rc :: suf := by simp
  have hsub := hr.sub hch c2 c4.1
  have hneed := hr.alive hch c2 c4.2
  have hmore := hr.envMore env0
  have same : ∀ rc' ∈ pre ++ rc :: suf, rc'.j = rc.j → rc' = rc := by
    intro rc' h' e
    rcases List.mem_append.1 h' with h' | h'
    · exact absurd e (hr.preNe rc' h')
    · rcases List.mem_cons.1 h' with rfl | h'
      · rfl
      · exact absurd e (hr.sufNe rc' h')
  -- the step that writes a variable first, and its slot
  have initOf : ∀ x, (∃ rc' ∈ pre ++ rc :: suf, rc'.st.flt = true ∧ rc'.j = x) → ∀ s z, layE C ops.toList x = some (s, z) → ∃ ri ∈ pre ++ rc :: suf, ri.st.ini = some x ∧ ri.slot = some s ∧ ahead p x ri.j = true := by
    rintro x ⟨rx, hx, hf, rfl⟩ s z hl
    obtain ⟨ri, hi, e⟩ := hP.flt rx hx hf
    obtain ⟨g1, g2, _⟩ := hP.ini ri hi _ e
    refine ⟨ri, hi, e, ?_, g2⟩
    rw [hP.slot ri hi, slotP, g1, e]
    exact (layE_dst hl).1
  -- a slot of a variable that is not told is filled by nobody else
  have noDst : rc.st.ini = none → rc.st.flt = false → rc.slot = o.dst → ∀ x s z, PD (pre ++ rc :: suf) D x → layE C ops.toList x = some (s, z) → o.dst ≠ some s := by
    intro g1 g2 g3 x s z hx hl e
    obtain ⟨ri, hi, k1, k2, _⟩ := initOf x hx.1 s z hl
    rcases (hP.slots rc hrc ri hi o s c3.at_ k2).1 with k | k
    · rw [same ri hi k, g1] at k1; cases k1
    · rw [g3] at k; exact k e
  have pdLess : rc.st.flt = false → ∀ x, PD (pre ++ rc :: suf) (more D rc.j) x → PD (pre ++ rc :: suf) D x := by
    rintro g x ⟨⟨rx, hx, hf, rfl⟩, q1, q2⟩
    refine ⟨⟨rx, hx, hf, rfl⟩, ?_, ?_⟩
    · by_cases e : rx.j = rc.j
      · rw [same rx hx e, g] at hf; cases hf
      · rw [more_ne e] at q1; exact q1
    · intro rc' h' e
      have := q2 rc' h' e
      cases hd : D rc'.j with
      | false => rfl
      | true => unfold more at this; rw [hd] at this; cases this
  unfold wpOpIn
  simp only [ho]
  rcases c3.kind with kn | kf | ⟨x, s, z, ki⟩
  · -- the common kind
    have hlook : ∀ t, t ∈ looksOf ops.toList o → look (envD D (pre ++ rc :: suf) env0) t = look rc.env t := by
      intro t ht
      have e1 : envL rc (envD full pre env0) = envD full pre env0 := by unfold envL; rw [kn.lay]
      rw [e1] at c1
      exact (hr.look env0 c3.at_ (by unfold looksP; rw [kn.flt, kn.ini]; exact ht)).trans (c1 t).symm
    rw [kn.slot, hdst, kn.pv] at hmore
    have hslot : rc.slot = o.dst := kn.slot.trans hdst
    have pend' : ∀ (dstv : Value) (w' : World) (σ' : Sg) (h2 : List Blk), Step w σ (heapD D (pre ++ rc :: suf) h0) w' σ' h2 → Pend C ops.toList (pre ++ rc :: suf) (more D rc.j) w0 w' σ' h2 (a.put o.dst dstv).tmps := by
      intro dstv w' σ' h2 q
      obtain ⟨κ, q1, q2⟩ := hpd
      refine ⟨κ, fun x hx => ?_, fun x x' hx hx' => q2 x x' (pdLess kn.flt x hx) (pdLess kn.flt x' hx')⟩
      obtain ⟨s, z, g1, g2, g3⟩ := q1 x (pdLess kn.flt x hx)
      exact ⟨s, z, g1, by rw [put_other (noDst kn.ini kn.flt hslot x s z (pdLess kn.flt x hx) g1)]; exact g2, g3.step q⟩
    -- run, or not
    have yes : rc.ran = true → o.wpIn (FW ro) n P a w next Q := by
      intro hran
      have hop : ∀ x ∈ o.op.operands.toList, ev (envD D (pre ++ rc :: suf) env0) x = ev rc.env x := by
        intro x hx
        cases x with
        | tmp t =>
          refine hlook t ?_
          unfold looksOf
          exact List.mem_append_left _ (List.mem_filterMap.2 ⟨.tmp t, hx, rfl⟩)
        | _ => rfl
      refine opE_wp (K := fun v h => some (v, h)) (r := (rc.v, heapD (more D rc.j) (pre ++ rc :: suf) h0)) hT hE hV hs.inv hs.env ?_ ?_
      · rw [opE_congr hop]
        cases he : rc.eff with
        | true =>
          rw [hr.heapMore he, hr.heap he, ← c2, ← kn.hb]
          exact kn.run hran he _ _
        | false =>
          rw [hr.heapQ he]
          exact kn.runQ hran he _ (kn.hb ▸ hsub) hneed _ _
      · intro v h' u w' σ' k1 k2 k3 k4
        cases k1
        exact hn _ w' σ' ((hs.put k2 k3 k4 (hd o hmem)).same hmore) (hst.trans k3) (pend' u w' σ' _ k3)
    have no : rc.ran = false → (∀ f, o.about P w a.eval = some f → (FW ro).fn f) ∧ next (a.put o.dst undef) w := by
      intro hran
      obtain ⟨e1, e2⟩ := kn.skip hran
      refine ⟨fun _ _ => trivial, ?_⟩
      have hsame : heapD (more D rc.j) (pre ++ rc :: suf) h0 = heapD D (pre ++ rc :: suf) h0 := by
        cases he : rc.eff with
        | true => rw [hr.heapMore he, hr.heap he, ← c2, ← kn.hb, e2]
        | false => exact hr.heapQ he h0
      rw [hsame] at hn
      rw [e1] at hmore
      exact hn _ w σ ((hs.put hs.inv (Step.refl _ _ _) nil_tup (hd o hmem)).same hmore) hst (pend' undef w σ _ (Step.refl _ _ _))
    have hg := kn.guard
    obtain ⟨dst, op, ty, af, pos, guard⟩ := o
    cases guard with
    | none =>
      simp only [Region.wanted, if_true]
      exact yes hg
    | some g =>
      obtain ⟨g, want⟩ := g
      obtain ⟨t, ht, hg⟩ := hg
      have hin : t ∈ looksOf ops.toList ⟨dst, op, ty, af, pos, some (g, want)⟩ := by
        unfold looksOf
        exact List.mem_append_right _ (by simp [ht])
      have hx := hs.env t
      rw [hlook t hin] at hx
      rcases hg with ⟨b, e1, e2⟩ | ⟨e1, e2⟩
      · rw [e1] at hx
        have hy := yielded_bool ht hx.bool
        cases hb : (b == want) with
        | true =>
          have : b = want := by simpa using hb
          subst this
          simp only [Region.wanted, hy, beq_self_eq_true, if_true]
          exact yes (by rw [e2, hb])
        | false =>
          have : (some b == some want) = false := by simpa using hb
          simp only [Region.wanted, hy, this, Bool.false_eq_true, if_false]
          exact no (by rw [e2, hb])
      · rw [e1] at hx
        have hu : a.tmps.getD t undef = undef := by
          simp only [ARel, DRel] at hx
          obtain ⟨vs, e1, e2⟩ := hx
          simp only [DVals] at e2
          rw [e1, undef]; congr 1
          exact Array.toList_inj.1 (by simpa using e2)
        have hy := yielded_undef ht hu
        have : (none == some want) = false := rfl
        simp only [Region.wanted, hy, this, Bool.false_eq_true, if_false]
        exact no e2
  · -- a variable is laid that is not told yet
    obtain ⟨⟨s, z⟩, hl⟩ := kf.laid
    obtain ⟨k1, t, ty, af, pos, ti, k2, k3, k4, k5, rfl⟩ := layE_dst hl
    rw [c3.at_] at k2; cases k2
    simp only [Region.wanted, if_true]
    have hne : ti.zero ≠ [] := by rintro e0; rw [e0] at k4; simp at k4; omega
    obtain ⟨i, zv, hi0, hz0, hzs, hlit⟩ := hT.zero k3 k4 (.inr hne)
    obtain ⟨p1, p2⟩ := hs.inv.plus (.cells zv.cells t)
    have hzero : (zeroValue t).run P w = .ok zv w := by simp [zeroValue, typeInfo, hi0, hz0]
    have hrow : (newRow t zv.cells).run P w = .ok ⟨w.heap.size, 0, none⟩ (w.alloc (.cells zv.cells t)) := by simp [newRow]
    have hal : (Instr.alloc t true (.tuple #[])).run P w = .ok (.pointer (some ⟨w.heap.size, 0, none⟩)) (w.alloc (.cells zv.cells t)) := by simp [Instr.alloc, hzero, newVar, hrow]
    have hrun : (execOp a.eval ⟨some s, .alloc t, ty, af, pos, none⟩).run P w = .ok (.value (.pointer (some ⟨w.heap.size, 0, none⟩))) (w.alloc (.cells zv.cells t)) := by
      unfold execOp
      show (do pure (Next.value (← Instr.alloc t true (.tuple #[]))) : Sem Next).run P w = _
      rw [Sem.run_bind, hal]; rfl
    refine ⟨fun _ _ => trivial, ?_⟩
    rw [semAt_FW ro _ a.eval (by rintro c ⟨⟩), hrun, Oper.uponIn_value]
    rw [hr.heapQ kf.eff] at hn
    rw [kf.slot] at hmore
    have hundef : look (envD D (pre ++ rc :: suf) env0) s = .undef := by
      rw [envD_none (pre ++ rc :: suf) env0 (t := s)]
      · exact hU rc hrc kf.flt s _ hl
      · intro rc' h' e
        obtain ⟨ri, hi, j1, j2, j3⟩ := initOf rc.j ⟨rc, hrc, kf.flt, rfl⟩ s _ hl
        obtain ⟨s1, s2, e0⟩ := List.append_of_mem h'
        obtain ⟨o', ho', _⟩ := hP.step s1 rc' s2 e0
        have hri : D ri.j = false := by
          cases hd : D ri.j with
          | false => rfl
          | true =>
            have h3 := hcl _ hd _ j3
            rw [hr.no] at h3; cases h3
        rcases (hP.slots rc' h' ri hi o' s ho' j2).1 with k | k
        · rw [← k]; exact hri
        · exact absurd e k
    have hsame : sameL (envD (more D rc.j) (pre ++ rc :: suf) env0) (putE (some s) .undef (envD D (pre ++ rc :: suf) env0)) := fun x => (hmore x).trans (sameL.add hundef x).symm
    refine hn _ _ σ ((hs.put (dst := some s) (v := .undef) p1 p2 (by simp [ARel]) (hd _ hmem)).same hsame) (hst.trans p2) ?_
    obtain ⟨κ, q1, q2⟩ := hpd
    have hfresh : Fresh w0 (w.alloc (.cells zv.cells t)) σ (heapD D (pre ++ rc :: suf) h0) ti.zero w.heap.size :=
      ⟨⟨zv.cells, t, heap_new w _, hlit⟩, hst.size, fun hg => by have := hs.inv.bound _ hg; omega, fun hm => by have := hs.inv.lt hm; omega⟩
    have old : ∀ x, PD (pre ++ rc :: suf) (more D rc.j) x → x ≠ rc.j → PD (pre ++ rc :: suf) D x := by
      rintro x ⟨g1, g2, g3⟩ hne
      refine ⟨g1, by rw [more_ne hne] at g2; exact g2, fun rc' h' e => ?_⟩
      have := g3 rc' h' e
      cases hd : D rc'.j with
      | false => rfl
      | true => unfold more at this; rw [hd] at this; cases this
    refine ⟨fun x => if x = rc.j then w.heap.size else κ x, fun x hx => ?_, fun x x' hx hx' => ?_⟩ <;> (try simp only)
    · by_cases e : x = rc.j
      · subst e
        refine ⟨s, _, hl, ?_, by rw [if_pos rfl]; exact hfresh⟩
        rw [if_pos rfl]
        show (a.tmps.setIfInBounds s _).getD s undef = _
        rw [Array.getD_eq_getD_getElem?, Array.getElem?_setIfInBounds_self_of_lt (by rw [hs.size]; exact hd _ hmem s rfl)]; rfl
      · rw [if_neg e]
        obtain ⟨s', z', g1, g2, g3⟩ := q1 x (old x hx e)
        refine ⟨s', z', g1, ?_, g3.step p2⟩
        rw [put_other]
        · exact g2
        · intro e'
          cases e'
          obtain ⟨r1, hr1, a1, a2, _⟩ := initOf x hx.1 s z' g1
          obtain ⟨r2, hr2, b1, b2, _⟩ := initOf rc.j ⟨rc, hrc, kf.flt, rfl⟩ s _ hl
          obtain ⟨s1, s2, e0⟩ := List.append_of_mem hr1
          obtain ⟨o', ho', _, _⟩ := hP.step s1 r1 s2 e0
          rcases (hP.slots r1 hr1 r2 hr2 o' s ho' b2).1 with k | k
          · have e3 : r2 = r1 := by
              rw [e0] at hr2
              obtain ⟨_, _, hd1, _⟩ := hP.step s1 r1 s2 e0
              rcases List.mem_append.1 hr2 with hm | hm
              · exact absurd k (hd1 r2 hm)
              · rcases List.mem_cons.1 hm with rfl | hm
                · rfl
                · obtain ⟨y1, y2, rfl⟩ := List.append_of_mem hm
                  obtain ⟨_, _, hd2, _⟩ := hP.step (s1 ++ r1 :: y1) r2 y2 (by rw [e0]; simp)
                  exact absurd k.symm (hd2 r1 (by simp))
            subst e3
            rw [a1] at b1; cases b1; exact e rfl
          · exact k a2
    · have small : ∀ y, PD (pre ++ rc :: suf) (more D rc.j) y → y ≠ rc.j → κ y < w.heap.size := by
        intro y hy e
        obtain ⟨s', z', _, _, g3⟩ := q1 y (old y hy e)
        exact g3.lt
      by_cases e : x = rc.j <;> by_cases e' : x' = rc.j
      · intro _; rw [e, e']
      · rw [if_pos e, if_neg e']; intro k; have := small x' hx' e'; omega
      · rw [if_neg e, if_pos e']; intro k; have := small x hx e; omega
      · rw [if_neg e, if_neg e']; exact q2 x x' (old x hx e) (old x' hx' e')
  · -- a variable is written first
    obtain ⟨g1, g2, rx, hx, hxf, hxj⟩ := hP.ini rc hrc x ki.ini
    have hpx : PD (pre ++ rc :: suf) D x := by
      refine ⟨⟨rx, hx, hxf, hxj⟩, hr.ahd x g2, ?_⟩
      intro rc' h' e
      obtain ⟨f1, _, _⟩ := hP.ini rc' h' x e
      have hsl : rc'.slot = some s := by rw [hP.slot rc' h', slotP, f1, e]; exact (layE_dst ki.laid).1
      obtain ⟨s1, s2, e0⟩ := List.append_of_mem h'
      obtain ⟨o', ho', _⟩ := hP.step s1 rc' s2 e0
      rcases (hP.slots rc' h' rc hrc o' s ho' ki.slot).1 with k | k
      · rw [← k]; exact hr.no
      · exact absurd hsl k
    obtain ⟨κ, q1, q2⟩ := hpd
    obtain ⟨s', z', l1, l2, l3⟩ := q1 x hpx
    rw [ki.laid] at l1; cases l1
    obtain ⟨i1, i2⟩ := hs.inv.adopt l3 hst
    have hheap : heapD D (pre ++ rc :: suf) h0 = rc.h0 := (hr.heap ki.eff h0).trans c2.symm
    have hkeep := Keeps.push σ.ι (heapD D (pre ++ rc :: suf) h0) (κ x, z.length) (.dc z) hs.inv.len
    have env1 : EnvRel w ⟨σ.G, σ.ι ++ [(κ x, z.length)]⟩ (heapD D (pre ++ rc :: suf) h0 ++ [.dc z]) ((s, .ref (heapD D (pre ++ rc :: suf) h0).length 0) :: envD D (pre ++ rc :: suf) env0) a.tmps := by
      refine EnvRel.cons (fun y => ARel.mono (σ := σ) (σ' := ⟨σ.G, σ.ι ++ [(κ x, z.length)]⟩) (fun b hb => ⟨hb, rfl⟩) hkeep hs.inv.len _ _ (hs.env y)) ?_
      rw [l2]
      refine ⟨rfl, .inr ⟨(κ x, z.length), ?_, rfl⟩⟩
      show nth (σ.ι ++ [(κ x, z.length)]) (heapD D (pre ++ rc :: suf) h0).length = _
      rw [← hs.inv.len, nth_append_len]; rfl
    obtain ⟨t, xo, hop⟩ := ki.op
    have hev : ∀ y ∈ o.op.operands.toList, ev ((s, .ref (heapD D (pre ++ rc :: suf) h0).length 0) :: envD D (pre ++ rc :: suf) env0) y = ev rc.env y := by
      intro y hy
      have e1 : envL rc (envD full pre env0) = (s, .ref rc.h0.length 0) :: envD full pre env0 := by unfold envL; rw [ki.lay]
      rw [e1] at c1
      have at_s : ∀ env1 : List (Nat × AV), look ((s, AV.ref rc.h0.length 0) :: env1) s = .ref rc.h0.length 0 := by intro env1; simp [look]
      cases y with
      | tmp t' =>
        show look _ t' = look rc.env t'
        rw [c1 t', hheap]
        by_cases e : t' = s
        · subst e; rw [at_s, at_s]
        · have hb : Nat.beq s t' = false := by
            cases c : Nat.beq s t' with
            | false => rfl
            | true => exact absurd (Nat.eq_of_beq_eq_true c).symm e
          simp only [look, hb, cond_false]
          refine hr.look env0 c3.at_ ?_
          unfold looksP
          rw [ki.flt, ki.ini, hop]
          rw [hop] at hy
          simp [Op.operands] at hy
          rcases hy with hy | hy
          · exact absurd hy e
          · simp [← hy, tmpOf]
      | _ => rfl
    obtain ⟨dst, op, ty, af, pos, guard⟩ := o
    have hgd := ki.guard
    simp only at hgd
    subst hgd
    have hdn := ki.dst
    simp only at hdn
    subst hdn
    simp only [Region.wanted, if_true]
    refine opE_wp (K := fun v h => some (v, h)) (r := (rc.v, heapD (more D rc.j) (pre ++ rc :: suf) h0)) (o := ⟨none, op, ty, af, pos, none⟩) hT hE hV i1 env1 ?_ ?_
    · rw [opE_congr hev, hr.heapMore ki.eff, hheap, ← ki.hb]
      exact ki.run _ _
    · intro v h' u w' σ' j1 j2 j3 j4
      cases j1
      rw [ki.slot, ki.pv] at hmore
      have hs1 : SR N DF w ⟨σ.G, σ.ι ++ [(κ x, z.length)]⟩ ((s, .ref (heapD D (pre ++ rc :: suf) h0).length 0) :: envD D (pre ++ rc :: suf) env0) (heapD D (pre ++ rc :: suf) h0 ++ [.dc z]) a := ⟨i1, env1, hs.size, hs.defers⟩
      have hs2 := hs1.put (dst := none) j2 j3 j4 (by simp)
      refine hn _ w' σ' (hs2.same ?_) (i2.trans j3) ?_
      · rw [hheap]; exact hmore
      · have less : ∀ y, PD (pre ++ rc :: suf) (more D rc.j) y → PD (pre ++ rc :: suf) D y ∧ y ≠ x := by
          intro y hy
          refine ⟨pdLess ki.flt y hy, ?_⟩
          rintro rfl
          have := hy.2.2 rc hrc ki.ini
          rw [more_same] at this; cases this
        refine ⟨κ, fun y hy => ?_, fun y y' hy hy' => q2 y y' (less y hy).1 (less y' hy').1⟩
        obtain ⟨py, hne⟩ := less y hy
        obtain ⟨s2, z2, f1, f2, f3⟩ := q1 y py
        refine ⟨s2, z2, f1, f2, ((f3.push hs.inv.len ?_).step j3)⟩
        intro e
        exact hne (q2 y x py hpx e)

theorem getD_set {l : Array Bool} {i j : Nat} (hj : j < l.size) : (l.setIfInBounds j true).getD i false = more (fun i => l.getD i false) j i := by
  by_cases e : i = j
  · subst e
    rw [more_same, Array.getD_eq_getD_getElem?, Array.getElem?_setIfInBounds_self_of_lt hj]; rfl
  · rw [more_ne e, Array.getD_eq_getD_getElem?, Array.getElem?_setIfInBounds_ne (fun h => e h.symm), ← Array.getD_eq_getD_getElem?]

theorem chain_slot {C : Ctx} {E : Ev} {all : List Oper} : ∀ (recs : List Rec) (log : List (Nat × List Nat)) (env : List (Nat × AV)) (h : List Blk) (env' : List (Nat × AV)) (h' : List Blk), Chain C E all log recs env h env' h' →
    ∀ rc ∈ recs, rc.slot = slotP all rc.st
  | [], _, _, _, _, _, _ => by simp
  | rc :: r, log, env, h, env', h', c => by
    obtain ⟨_, _, ⟨o, c3⟩, _, c4⟩ := c
    intro rc' hm
    rcases List.mem_cons.1 hm with rfl | hm
    · exact c3.slot
    · exact chain_slot r _ _ _ _ _ c4 rc' hm

theorem look_undef (env : List (Nat × AV)) (s : Nat) : ∀ (l : List Nat), s ∈ l → look (l.map (fun t => (t, AV.undef)) ++ env) s = .undef
  | [], h => by simp at h
  | t :: l, h => by
    simp only [List.map_cons, List.cons_append, look]
    cases e : Nat.beq t s with
    | true => rfl
    | false =>
      rcases List.mem_cons.1 h with rfl | h
      · simp at e
      · exact look_undef env s l h

theorem env_undef {env : List (Nat × AV)} {tm : Array Value} : ∀ (l : List Nat), EnvRel w σ h env tm → EnvRel w σ h (l.map (fun t => (t, AV.undef)) ++ env) tm
  | [], q => q
  | t :: l, q => EnvRel.cons (env_undef l q) (by simp [ARel])

theorem drawE_wp {C : Ctx} (hT : TOK P C.T) (hE : EqOK P C.T) (hm : P.follows .mixedOrders = true) {E : Ev} (hV : EvOK P E) {N fid id : Nat} {ops : Array Oper} {ro : Option Nat} {n : Nat} {K : List (Nat × AV) → List Blk → Option R} {Q : Exit → Act → World → Prop}
    {env : List (Nat × AV)} {a : Act} (hd : ∀ o ∈ ops.toList, ∀ t, o.dst = some t → t < N) (hpl : ∀ p, C.plan fid id = some p → okPlan ops p = true) (hs : SR N DF w σ env h a)
    (hK : drawE C E fid id ops env h K = some r)
    (hQ : ∀ env' h' a' w' σ', K env' h' = some r → SR N DF w' σ' env' h' a' → Step w σ h w' σ' h' → Q .normal a' w') : (Code.region id ops true).wpIn (FW ro) n P Q a w := by
  unfold drawE at hK
  split at hK
  · rename_i p hp
    obtain ⟨recs, env', h', k1, k2, k3⟩ := drawS_trace hK
    have hP := planOK_of (hpl p hp) k1 (chain_slot recs _ _ _ _ _ k2)
    obtain ⟨f1, f2⟩ := chain_all recs [] _ h env' h' k2
    have hU : ∀ rc' ∈ recs, rc'.st.flt = true → ∀ s z, layE C ops.toList rc'.j = some (s, z) → look ((fltSlots ops.toList p.steps).map (fun t => (t, AV.undef)) ++ env) s = .undef := by
      intro rc' hrc' hf s z hl
      refine look_undef _ _ _ ?_
      unfold fltSlots
      rw [List.mem_filterMap]
      refine ⟨rc'.st, by rw [← k1]; exact List.mem_map.2 ⟨rc', hrc', rfl⟩, ?_⟩
      rw [hf]; exact (layE_dst hl).1
    generalize henv0 : (fltSlots ops.toList p.steps).map (fun t => (t, AV.undef)) ++ env = env0 at k2 f1 f2 hU
    refine wpIn_region_any hm ?_
    -- whatever has been taken
    have key : ∀ (fuel : Nat) (listed : Array Bool) (a : Act) (w' : World) (σ' : Sg), listed.size = ops.size → Closed p (fun i => listed.getD i false) →
        (List.range ops.size).countP (fun i => !listed.getD i true) ≤ fuel →
        SR N DF w' σ' (envD (fun i => listed.getD i false) recs env0) (heapD (fun i => listed.getD i false) recs h) a → Step w σ h w' σ' (heapD (fun i => listed.getD i false) recs h) → Pend C ops.toList recs (fun i => listed.getD i false) w w' σ' (heapD (fun i => listed.getD i false) recs h) a.tmps →
        wpAnyIn (FW ro) n P .any ops Q fuel listed a w' := by
      -- nothing more may come: all is done
      have done : ∀ (listed : Array Bool) (a : Act) (w' : World) (σ' : Sg), listed.size = ops.size → Closed p (fun i => listed.getD i false) →
          SR N DF w' σ' (envD (fun i => listed.getD i false) recs env0) (heapD (fun i => listed.getD i false) recs h) a → Step w σ h w' σ' (heapD (fun i => listed.getD i false) recs h) →
          Region.ready .any ops listed = [] → Q .normal a w' := by
        intro listed a w' σ' hsz hcl hsr hst hrd
        rcases first_open (fun i => listed.getD i false) recs with hall | ⟨pre, rc, suf, e1, e2, e3⟩
        · have g1 : sameL env' (envD (fun i => listed.getD i false) recs env0) := fun t => (f1 t).trans (envD_congr recs _ _ (fun rc h' _ => (hall rc h').symm ▸ rfl) rfl)
          have g2 : heapD (fun i => listed.getD i false) recs h = h' := by
            rw [f2]; exact heapD_congr recs h fun rc h' _ => hall rc h'
          rw [g2] at hsr hst
          exact hQ env' h' a w' σ' k3 (hsr.same g1) hst
        · exfalso
          obtain ⟨o, s1, s2, s3, _⟩ := hP.step pre rc suf e1
          have ho : ops[rc.j]? = some o := by rw [← Array.getElem?_toList, ← nth_eq]; exact s1
          have hlt : rc.j < ops.size := (Array.getElem?_eq_some_iff.1 ho).1
          have : rc.j ∈ Region.ready .any ops listed := by
            rw [mem_ready]
            refine ⟨?_, o, ho, ?_⟩
            · rw [Array.getD_eq_getD_getElem?] at e2 ⊢
              rw [Array.getElem?_eq_getElem (by omega)] at e2 ⊢
              exact e2
            · intro e he hb
              obtain ⟨rc', h', e'⟩ := s3 e.on (by
                unfold edgesOf
                exact List.mem_map.2 ⟨e, List.mem_filter.2 ⟨by simpa using he, hb⟩, rfl⟩)
              rw [← e']
              exact e3 rc' h'
          rw [hrd] at this; cases this
      -- an operation that may come
      have take : ∀ (listed : Array Bool) (a : Act) (w' : World) (σ' : Sg), listed.size = ops.size → Closed p (fun i => listed.getD i false) →
          SR N DF w' σ' (envD (fun i => listed.getD i false) recs env0) (heapD (fun i => listed.getD i false) recs h) a → Step w σ h w' σ' (heapD (fun i => listed.getD i false) recs h) → Pend C ops.toList recs (fun i => listed.getD i false) w w' σ' (heapD (fun i => listed.getD i false) recs h) a.tmps →
          ∀ j ∈ Region.ready .any ops listed, j < ops.size ∧ listed.getD j true = false ∧ Closed p (fun i => (listed.setIfInBounds j true).getD i false) ∧ ∀ next : Act → World → Prop,
            (∀ a' w'' σ'', SR N DF w'' σ'' (envD (fun i => (listed.setIfInBounds j true).getD i false) recs env0) (heapD (fun i => (listed.setIfInBounds j true).getD i false) recs h) a' →
              Step w σ h w'' σ'' (heapD (fun i => (listed.setIfInBounds j true).getD i false) recs h) → Pend C ops.toList recs (fun i => (listed.setIfInBounds j true).getD i false) w w'' σ'' (heapD (fun i => (listed.setIfInBounds j true).getD i false) recs h) a'.tmps → next a' w'') → wpOpIn (FW ro) n P ops Q j next a w' := by
        intro listed a w' σ' hsz hcl hsr hst hpd j hj
        obtain ⟨h1, o, ho, h2⟩ := mem_ready.1 hj
        have hlt : j < ops.size := (Array.getElem?_eq_some_iff.1 ho).1
        have hlt' : j < listed.size := by omega
        obtain ⟨rc, hrc, rfl⟩ := hP.cover j (by simpa using hlt)
        obtain ⟨pre, suf, e⟩ := List.append_of_mem hrc
        have hno : (fun i => listed.getD i false) rc.j = false := by
          show listed.getD rc.j false = false
          rw [Array.getD_eq_getD_getElem?] at h1 ⊢
          rw [Array.getElem?_eq_getElem hlt'] at h1 ⊢
          exact h1
        have hso : nth ops.toList rc.j = some o := by rw [nth_eq, Array.getElem?_toList]; exact ho
        have hrd : Ready ops.toList p (fun i => listed.getD i false) pre rc suf := by
          refine ready_of hP hcl e hno ?_
          intro o' ho' i hi
          rw [hso] at ho'; cases ho'
          unfold edgesOf at hi
          obtain ⟨ed, hed, rfl⟩ := List.mem_map.1 hi
          obtain ⟨g1, g2⟩ := List.mem_filter.1 hed
          exact h2 ed (by simpa using g1) g2
        have hfun : (fun i => (listed.setIfInBounds rc.j true).getD i false) = more (fun i => listed.getD i false) rc.j := funext fun i => getD_set hlt'
        refine ⟨hlt, h1, ?_, ?_⟩
        · rw [hfun]
          intro y hy x hx
          by_cases ey : y = rc.j
          · subst ey
            have := hrd.ahd x hx
            exact Bool.or_eq_true_iff.2 (.inl this)
          · rw [more_ne ey] at hy
            have := hcl y hy x hx
            exact Bool.or_eq_true_iff.2 (.inl this)
        · intro next hn
          rw [hfun] at hn
          have hch : Chain C E ops.toList [] (pre ++ rc :: suf) env0 h env' h' := e ▸ k2
          rw [e] at hsr hst hn hpd hP hU
          exact take_wp hT hE hV hP hcl hU hd hrd hch hsr hst hpd hn
      intro fuel
      induction fuel with
      | zero =>
        intro listed a w' σ' hsz hcl hcnt hsr hst hpd
        have hnil : Region.ready .any ops listed = [] := by
          cases hrd : Region.ready .any ops listed with
          | nil => rfl
          | cons j rest =>
            exfalso
            obtain ⟨h1, h2, _⟩ := take listed a w' σ' hsz hcl hsr hst hpd j (by rw [hrd]; simp)
            have : 0 < (List.range ops.size).countP (fun i => !listed.getD i true) := List.countP_pos_iff.2 ⟨j, by simpa using h1, by rw [h2]; rfl⟩
            omega
        exact ⟨hnil, done listed a w' σ' hsz hcl hsr hst hnil⟩
      | succ fuel ih =>
        intro listed a w' σ' hsz hcl hcnt hsr hst hpd
        refine ⟨done listed a w' σ' hsz hcl hsr hst, fun j hj => ?_⟩
        obtain ⟨h1, h2, h3, h4⟩ := take listed a w' σ' hsz hcl hsr hst hpd j hj
        refine h4 _ fun a' w'' σ'' q1 q2 q3 => ih _ a' w'' σ'' (by simp [hsz]) h3 ?_ q1 q2 q3
        have hj' : j < listed.size := by omega
        have := countP_set (p := fun i => !listed.getD i true) (p' := fun i => !(listed.setIfInBounds j true).getD i true) (j := j) (by rw [h2]; rfl)
          (by rw [Array.getD_eq_getD_getElem?, Array.getElem?_setIfInBounds_self_of_lt hj']; rfl)
          (fun i hi => by rw [Array.getD_eq_getD_getElem?, Array.getElem?_setIfInBounds_ne (fun e => hi e.symm), ← Array.getD_eq_getD_getElem?]) (List.range ops.size) List.nodup_range (by simpa using h1)
        omega
    obtain ⟨d1, d2⟩ := hs.inv.drew
    have hnone : ∀ i, (Array.replicate ops.size false).getD i false = false := by
      intro i
      rw [Array.getD_eq_getD_getElem?, Array.getElem?_replicate]
      split <;> rfl
    have henv : sameL (envD (fun i => (Array.replicate ops.size false).getD i false) recs env0) env0 := fun t => envD_none recs env0 fun rc _ _ => hnone _
    have hheap : heapD (fun i => (Array.replicate ops.size false).getD i false) recs h = h := heapD_none recs h fun rc _ _ => hnone _
    refine key ops.size (Array.replicate ops.size false) a w.drew σ (by simp) ?_ ?_ ?_ ?_ ?_
    · intro y hy
      have hy' : (Array.replicate ops.size false).getD y false = true := hy
      rw [hnone] at hy'; cases hy'
    · have := List.countP_le_length (p := fun i => !(Array.replicate ops.size false).getD i true) (l := List.range ops.size)
      simpa using this
    · rw [hheap]
      refine SR.same ⟨d1, ?_, hs.size, hs.defers⟩ henv
      rw [← henv0]
      exact env_undef _ (d2.env hs.inv hs.env)
    · rw [hheap]; exact d2
    · refine ⟨fun x => x, fun x hx => ?_, fun x x' hx => ?_⟩
      · have h1 : (Array.replicate ops.size false).getD x false = true := hx.2.1
        rw [hnone] at h1; cases h1
      · have h1 : (Array.replicate ops.size false).getD x false = true := hx.2.1
        rw [hnone] at h1; cases h1
  · cases hK
end
end Go.AE

/- The names of the blocks are given anew. -/
namespace Go.AE
open Go

section
variable {P : Program} {T : Tab TI} {w w' : World} {σ σ' : Sg} {h h' : List Blk} {G G' : Nat → Prop} {R : Type} {r : R} {DF : List Deferred}

/-- The marks among an activation's deferred calls. -/
def MK (σ : Sg) (h : List Blk) : List Nat → List Deferred → Prop
  | [], ds => ds = []
  | b :: ms, ds => ∃ k rest, ds = { target := .collected k, args := #[] } :: rest ∧ (isDead h b ∨ ∃ c, nth σ.ι b = some c ∧ c.1 = k) ∧ MK σ h ms rest

theorem MK.mono (hk : Keeps σ.ι h σ'.ι h') (hl : σ.ι.length = h.length) : ∀ {ms : List Nat} {ds : List Deferred}, MK σ h ms ds → MK σ' h' ms ds
  | [], _, q => q
  | b :: ms, ds, q => by
    obtain ⟨k, rest, e, q1, q2⟩ := q
    refine ⟨k, rest, e, ?_, MK.mono hk hl q2⟩
    rcases q1 with q1 | ⟨c, hc, e1⟩
    · exact .inl (hk.dead q1)
    · exact (hk.name hl hc).imp id fun g => ⟨c, g, e1⟩

theorem HInv.pushEmpties (hi : HInv w σ h) : ∀ n : Nat, ∃ σ', HInv w σ' (h ++ List.replicate n (.dc [])) ∧ Step w σ h w σ' (h ++ List.replicate n (.dc [])) ∧ ∀ b c, nth σ.ι b = some c → nth σ'.ι b = some c
  | 0 => ⟨σ, by simpa using hi, by simpa using Step.refl w σ h, fun _ _ hb => hb⟩
  | n + 1 => by
    obtain ⟨σ1, q1, q2, q3⟩ := HInv.pushEmpties hi n
    obtain ⟨g1, g2⟩ := q1.pushEmpty (c := .dc []) rfl
    rw [List.append_assoc, ← List.replicate_succ'] at g1 g2
    exact ⟨_, g1, q2.trans g2, fun b c hb => by
      show nth (σ1.ι ++ [(0, 0)]) b = some c
      rw [nth_append_lt (nth_some_lt (q3 b c hb))]; exact q3 b c hb⟩

theorem nth_growC {sz : Nat} : ∀ (k s i : Nat) (a : AV), nth (growC sz k s) i = some a → i < k ∧ a = .grow (s + i) sz false
  | 0, _, _, _, h => by simp [growC, nth] at h
  | k + 1, s, 0, a, h => by simp only [growC, nth, Option.some.injEq] at h; exact ⟨by omega, h.symm⟩
  | k + 1, s, i + 1, a, h => by
    have := nth_growC k (s + 1) i a (by simpa only [growC, nth] using h)
    exact ⟨by omega, by rw [this.2, show s + 1 + i = s + (i + 1) by omega]⟩

theorem len_growC {sz : Nat} : ∀ k s : Nat, (growC sz k s).length = k
  | 0, _ => rfl
  | k + 1, s => by simp [growC, len_growC k (s + 1)]

theorem nth_nilsD : ∀ (cs : List DV) (i : Nat) (d : DV), nilsD cs = true → nth cs i = some d → ∃ a n z c, d = .sl a n z c true
  | [], _, _, _, h => by simp [nth] at h
  | d :: cs, 0, x, hn, h => by
    simp only [nth, Option.some.injEq] at h
    subst h
    unfold nilsD at hn
    split at hn
    · rename_i he; cases he
    · rename_i he; cases he; exact ⟨_, _, _, _, rfl⟩
    · cases hn
  | d :: cs, i + 1, x, hn, h => by
    refine nth_nilsD cs i x ?_ (by simpa only [nth] using h)
    unfold nilsD at hn
    split at hn
    · rename_i he; cases he
    · rename_i he; cases he; exact hn
    · cases hn

theorem nth_rep_empty {h : List Blk} {n i : Nat} (hi : i < n) : nth (h ++ List.replicate n (.dc [])) (h.length + i) = some (.dc []) := by
  rw [nth_eq]
  simp [hi]

theorem HInv.sproutC (hi : HInv w σ h) {b : Nat} {d : DV} {cs : List DV} (hb : nth h b = some (.dc (d :: cs))) (hn : nilsD (d :: cs) = true) (sz : Nat) :
    ∃ σ', HInv w σ' (setNth (h ++ List.replicate (cs.length + 1) (.dc [])) b (.ac (growC sz (cs.length + 1) h.length))) ∧ Step w σ h w σ' (setNth (h ++ List.replicate (cs.length + 1) (.dc [])) b (.ac (growC sz (cs.length + 1) h.length))) := by
  obtain ⟨σ1, q1, q2, q3⟩ := hi.pushEmpties (cs.length + 1)
  have hbl := nth_some_lt hb
  have hb1 : nth (h ++ List.replicate (cs.length + 1) (.dc [])) b = some (.dc (d :: cs)) := by rw [nth_append_lt hbl]; exact hb
  have hq := q1.blk b _ hb1
  simp only [BRel] at hq
  rcases hq with hq | ⟨c, C, E, h1, h2, h3, h4⟩
  · cases hq
  have hl : clen (.ac (growC sz (cs.length + 1) h.length)) = clen (.dc (d :: cs)) := by simp [clen, len_growC]
  obtain ⟨g1, g2⟩ := q1.write (w' := w) (x := .ac (growC sz (cs.length + 1) h.length)) hb1 rfl h1 hl rfl rfl rfl rfl (fun _ _ => rfl) (by
    refine .inr ⟨c, C, E, h1, h2, h3, fun i a ha => ?_⟩
    obtain ⟨k1, rfl⟩ := nth_growC _ _ _ _ ha
    obtain ⟨y, hy⟩ : ∃ y, nth (d :: cs) i = some y := by
      rw [nth_eq]
      exact ⟨(d :: cs)[i]'(by simpa using k1), by simp [k1]⟩
    obtain ⟨a, n, z, cl, rfl⟩ := nth_nilsD _ _ _ hn hy
    obtain ⟨x, e1, e2, e3⟩ := h4 i _ hy
    simp only [DRel, cond_true] at e3
    refine ⟨x, e1, e2, ?_⟩
    simp only [ARel]
    refine ⟨e2, .inr ⟨.dc [], 0, ?_, rfl, .inl ⟨rfl, by simp only [cond_false]; exact e3.2.2⟩⟩⟩
    rw [nth_setNth_other (by omega)]
    exact nth_rep_empty k1)
  exact ⟨σ1, g1, q2.trans g2⟩

theorem sprout_sound {tm : Array Value} {w0 : World} {σ0 : Sg} {h0 : List Blk} : ∀ (l : List (Nat × Nat)) (env : List (Nat × AV)) (h : List Blk) (σ : Sg), HInv w σ h → EnvRel w σ h env tm → Step w0 σ0 h0 w σ h →
    ∃ σ', HInv w σ' (sprout l env h).2 ∧ EnvRel w σ' (sprout l env h).2 (sprout l env h).1 tm ∧ Step w0 σ0 h0 w σ' (sprout l env h).2 ∧ Step w σ h w σ' (sprout l env h).2
  | [], env, h, σ, hi, he, hp => ⟨σ, hi, he, hp, Step.refl _ _ _⟩
  | (t, sz) :: l, env, h, σ, hi, he, hp => by
    unfold sprout
    split
    · rename_i cs n z cl e
      have ht := he t
      rw [e] at ht
      simp only [ARel, DRel, cond_true] at ht
      obtain ⟨g1, g2⟩ := hi.pushEmpty (c := .dc []) rfl
      obtain ⟨σ', q1, q2, q3, q4⟩ := sprout_sound (w0 := w0) (σ0 := σ0) (h0 := h0) (tm := tm) l ((t, .grow h.length sz false) :: env) (h ++ [.dc []]) _ g1 ((g2.env hi he).cons (grow_empty (nn := false) rfl (by rw [ht.2.2]; rfl))) (hp.trans g2)
      exact ⟨σ', q1, q2, q3, g2.trans q4⟩
    · rename_i b _ _ _ _ _ _
      split
      · rename_i d cs hb
        cases hn : nilsD (d :: cs) with
        | false => exact sprout_sound l env h σ hi he hp
        | true =>
          obtain ⟨σ1, g1, g2⟩ := hi.sproutC hb hn sz
          obtain ⟨σ', q1, q2, q3, q4⟩ := sprout_sound (w0 := w0) (σ0 := σ0) (h0 := h0) (tm := tm) l env _ σ1 g1 (g2.env hi he) (hp.trans g2)
          exact ⟨σ', q1, q2, q3, g2.trans q4⟩
      · exact sprout_sound l env h σ hi he hp
    · exact sprout_sound l env h σ hi he hp

theorem restE_sound {tm : Array Value} {w0 : World} {σ0 : Sg} {h0 : List Blk} : ∀ (l : List Nat) (env : List (Nat × AV)) (h : List Blk) (σ : Sg), HInv w σ h → EnvRel w σ h env tm → Step w0 σ0 h0 w σ h →
    ∃ σ', HInv w σ' (restE l env h).2 ∧ EnvRel w σ' (restE l env h).2 (restE l env h).1 tm ∧ Step w0 σ0 h0 w σ' (restE l env h).2 ∧ Step w σ h w σ' (restE l env h).2
  | [], env, h, σ, hi, he, hp => ⟨σ, hi, he, hp, Step.refl _ _ _⟩
  | t :: l, env, h, σ, hi, he, hp => by
    unfold restE
    split
    · exact restE_sound l env h σ hi he hp
    · rename_i v hv
      split
      · rename_i d hd
        have ht := he t
        obtain ⟨g1, g2⟩ := hi.settle (idsF h 4 (look env t))
        have hx := freeze_rel hi 4 (look env t) d _ hd ht
        obtain ⟨σ', q1, q2, q3, q4⟩ := restE_sound (w0 := w0) (σ0 := σ0) (h0 := h0) (tm := tm) l ((t, .d d) :: env) (killB (idsF h 4 (look env t)) h) _ g1 ((g2.env hi he).cons (show ARel _ _ _ (.d d) _ from hx)) (hp.trans g2)
        exact ⟨σ', q1, q2, q3, g2.trans q4⟩
      · exact restE_sound l env h σ hi he hp

/-- New names for all blocks. -/
structure Ren (f : Nat → Option Nat) (σ : Sg) (h : List Blk) (σ' : Sg) (h' : List Blk) : Prop extends RenT f σ h σ' h' where
  of : ∀ c y, nth h' c = some y → ∃ b blk, f b = some c ∧ nth h b = some blk ∧ y = renB f blk ∧ nth σ'.ι c = nth σ.ι b

theorem ren_marks {f : Nat → Option Nat} (hr : Ren f σ h σ' h') : ∀ {ms ms' : List Nat} {ds : List Deferred}, mapO f ms = some ms' → MK σ h ms ds → MK σ' h' ms' ds
  | [], ms', ds, hm, q => by simp [mapO] at hm; subst hm; exact q
  | b :: ms, ms', ds, hm, q => by
    simp only [mapO] at hm
    split at hm
    · rename_i c l hc hl
      cases hm
      obtain ⟨k, rest, e, q1, q2⟩ := q
      refine ⟨k, rest, e, ?_, ren_marks hr hl q2⟩
      obtain ⟨blk, h1, h2, h3⟩ := hr.to b c hc
      rcases q1 with q1 | ⟨cc, k1, k2⟩
      · unfold isDead at q1 ⊢; rw [q1] at h1; cases h1; exact .inl h2
      · exact .inr ⟨cc, h3.trans k1, k2⟩
    · cases hm

theorem ren_inv {f : Nat → Option Nat} (hr : Ren f σ h σ' h') (hl : σ'.ι.length = h'.length) (hi : HInv w σ h) : HInv w σ' h' ∧ ∀ k, Mine σ' h' k → Mine σ h k := by
  have back : ∀ c, Live h' c → ∃ b, f b = some c ∧ Live h b ∧ nth σ'.ι c = nth σ.ι b := by
    rintro c ⟨y, hy, hs⟩
    obtain ⟨b, blk, k1, k2, rfl, k3⟩ := hr.of c y hy
    exact ⟨b, k1, ⟨blk, k2, solid_ren hs⟩, k3⟩
  have hm : ∀ k, Mine σ' h' k → Mine σ h k := by
    rintro k ⟨c, cc, hc, hn, rfl⟩
    obtain ⟨b, k1, k2, k3⟩ := back c hc
    exact ⟨b, cc, k2, k3 ▸ hn, rfl⟩
  refine ⟨⟨hl, ?_, ?_, ?_, ?_, by rw [hr.G]; exact hi.glob⟩, hm⟩
  · intro c y hy
    obtain ⟨b, blk, k1, k2, rfl, k3⟩ := hr.of c y hy
    exact ren_brel hr.toRenT k3 (hi.blk b blk k2)
  · intro b1 b2 c1 c2 l1 l2 n1 n2 e
    obtain ⟨x1, p1, p2, p3⟩ := back b1 l1
    obtain ⟨x2, q1, q2, q3⟩ := back b2 l2
    have := hi.inj x1 x2 c1 c2 p2 q2 (p3 ▸ n1) (q3 ▸ n2) e
    subst this
    rw [p1] at q1; cases q1; rfl
  · intro k hk hg
    rw [hr.G] at hg
    exact hi.sep k (hm k hk) hg
  · intro k hk
    rw [hr.G] at hk
    exact hi.bound k hk

theorem reach_nodup (h : List Blk) : ∀ (n : Nat) (todo seen : List Nat), seen.Nodup → (reach h n todo seen).Nodup
  | 0, _, _, q => q
  | _ + 1, [], _, q => q
  | n + 1, b :: todo, seen, q => by
    unfold reach
    cases e : seen.contains b with
    | true => exact reach_nodup h n todo seen q
    | false =>
      refine reach_nodup h n _ _ ?_
      rw [List.nodup_append]
      refine ⟨q, by simp, ?_⟩
      intro x hx y hy
      simp at hy; subst hy
      rintro rfl
      simp at e
      exact e hx

theorem idxOf_nth : ∀ {l : List Nat} {b i : Nat}, idxOf b l = some i → nth l i = some b
  | [], b, i, e => by simp [idxOf] at e
  | x :: l, b, i, e => by
    unfold idxOf at e
    cases c : Nat.beq x b with
    | true => rw [c] at e; simp at e; subst e; rw [Nat.eq_of_beq_eq_true c]; rfl
    | false =>
      rw [c] at e
      simp only [cond_false, Option.map_eq_some_iff] at e
      obtain ⟨j, e1, rfl⟩ := e
      exact (idxOf_nth e1 : nth l j = some b)

theorem idxOf_of_nth : ∀ {l : List Nat} {b i : Nat}, l.Nodup → nth l i = some b → idxOf b l = some i
  | [], b, i, _, e => by simp [nth] at e
  | x :: l, b, 0, _, e => by simp [nth] at e; subst e; simp [idxOf]
  | x :: l, b, i + 1, q, e => by
    simp only [nth] at e
    have hne : x ≠ b := by
      rintro rfl
      exact (List.nodup_cons.1 q).1 (mem_of_nth e)
    have c : Nat.beq x b = false := by
      cases c : Nat.beq x b with
      | false => rfl
      | true => exact absurd (Nat.eq_of_beq_eq_true c) hne
    simp only [idxOf, c, cond_false]
    rw [idxOf_of_nth (List.nodup_cons.1 q).2 e]
    rfl

theorem look_keep {env : List (Nat × AV)} : ∀ (l : List Nat) (t : Nat), look (l.map fun t => (t, look env t)) t = look env t ∨ look (l.map fun t => (t, look env t)) t = .undef
  | [], t => .inr rfl
  | s :: l, t => by
    simp only [List.map_cons, look]
    cases e : Nat.beq s t with
    | true => rw [← Nat.eq_of_beq_eq_true e]; exact .inl rfl
    | false => exact look_keep l t

theorem nth_take {α : Type} : ∀ (l : List α) (n i : Nat), i < n → nth (l.take n) i = nth l i
  | [], n, i, _ => by simp
  | x :: l, 0, i, hi => by omega
  | x :: l, n + 1, 0, _ => rfl
  | x :: l, n + 1, i + 1, hi => by simp only [List.take_succ_cons, nth]; exact nth_take l n i (by omega)

theorem nth_append_ge {α : Type} : ∀ (l r : List α) (i : Nat), nth (l ++ r) (l.length + i) = nth r i
  | [], r, i => by simp
  | x :: l, r, i => by
    simp only [List.cons_append, List.length_cons]
    rw [show l.length + 1 + i = (l.length + i) + 1 by omega]
    exact nth_append_ge l r i

theorem tidy_sound {N : Nat} {w0 : World} {σ0 : Sg} {h0 : List Blk} {p : Pol} {s s' : St} {a : Act} (hi0 : HInv w0 σ0 h0) (hs : SR N DF w σ s.env s.heap a) (hp : Step w0 σ0 h0 w σ s.heap) (hmk : MK σ s.heap s.marks DF) (ht : tidy h0.length p s = some s') :
    ∃ σ', SR N DF w σ' s'.env s'.heap a ∧ Step w0 σ0 h0 w σ' s'.heap ∧ MK σ' s'.heap s'.marks DF := by
  unfold tidy at ht
  obtain ⟨σ9, j1, j2, j3, j4⟩ := restE_sound p.rest s.env s.heap σ hs.inv hs.env hp
  have hmk9 : MK σ9 (restE p.rest s.env s.heap).2 s.marks DF := hmk.mono j4.keeps hs.inv.len
  clear j4
  revert ht j1 j2 j3 hmk9
  generalize restE p.rest s.env s.heap = es
  intro ht j1 j2 j3 hmk9
  simp only at ht
  obtain ⟨σ1, k1, k2, k3, k4⟩ := sprout_sound p.grow es.1 es.2 σ9 j1 j2 j3
  have hmk1 : MK σ1 (sprout p.grow es.1 es.2).2 s.marks DF := hmk9.mono k4.keeps j1.len
  clear k4 j1 j2 j3 hmk9
  revert ht k1 k2 k3 hmk1
  generalize sprout p.grow es.1 es.2 = eh
  intro ht k1 k2 k3 hmk1
  obtain ⟨env1, L⟩ := eh
  simp only at ht k1 k2 k3 hmk1
  have hids : ((reach L (L.length * L.length + (p.keep.map fun t => (t, look env1 t)).length + 20) ((p.keep.map fun t => (t, look env1 t)).flatMap (fun q => idsA 4 q.2) ++ (L.take h0.length).flatMap idsB ++ s.marks) []).filter fun b => Nat.ble h0.length b).Nodup :=
    (reach_nodup _ _ _ _ (by simp)).sublist List.filter_sublist
  have hge : ∀ b, b ∈ ((reach L (L.length * L.length + (p.keep.map fun t => (t, look env1 t)).length + 20) ((p.keep.map fun t => (t, look env1 t)).flatMap (fun q => idsA 4 q.2) ++ (L.take h0.length).flatMap idsB ++ s.marks) []).filter fun b => Nat.ble h0.length b) → h0.length ≤ b := by
    intro b hb
    exact Nat.le_of_ble_eq_true (List.mem_filter.1 hb).2
  revert ht hids hge
  generalize ((reach L (L.length * L.length + (p.keep.map fun t => (t, look env1 t)).length + 20) ((p.keep.map fun t => (t, look env1 t)).flatMap (fun q => idsA 4 q.2) ++ (L.take h0.length).flatMap idsB ++ s.marks) []).filter fun b => Nat.ble h0.length b) = ids
  intro ht hids hge
  have hbase : h0.length ≤ L.length := by
    rcases Nat.eq_zero_or_pos h0.length with e | e
    · omega
    · obtain ⟨x, hx⟩ := nth_of_lt (l := h0) (n := h0.length - 1) (by omega)
      obtain ⟨y, hy, _⟩ := k3.keeps _ _ hx
      have := nth_some_lt hy
      omega
  let f : Nat → Option Nat := fun b => cond (Nat.blt b h0.length) (some b) ((idxOf b ids).map (h0.length + ·))
  have hlow : ∀ b, b < h0.length → f b = some b := by
    intro b hb
    show cond (Nat.blt b h0.length) _ _ = _
    rw [show Nat.blt b h0.length = true by rw [Nat.blt_eq]; exact hb]; rfl
  have hhigh : ∀ b, h0.length ≤ b → f b = (idxOf b ids).map (h0.length + ·) := by
    intro b hb
    show cond (Nat.blt b h0.length) _ _ = _
    have : Nat.blt b h0.length = false := by
      cases e : Nat.blt b h0.length with
      | false => rfl
      | true => rw [Nat.blt_eq] at e; omega
    rw [this]; rfl
  change (match mapO f s.marks, mapO (nth L) ids with
    | some ms, some bs => some { env := (p.keep.map fun t => (t, look env1 t)).map fun q => (q.1, renA f 4 q.2), heap := (L.take h0.length ++ bs).map (renB f), marks := ms }
    | _, _ => none) = some s' at ht
  split at ht
  · rename_i ms bs hms hbs
    simp only [Option.some.injEq] at ht
    subst ht
    obtain ⟨b1, b2⟩ := mapO_nth hbs
    let σ2 : Sg := ⟨σ1.G, σ1.ι.take h0.length ++ ids.map fun b => (nth σ1.ι b).getD (0, 0)⟩
    have hlenT : (L.take h0.length).length = h0.length := by rw [List.length_take]; omega
    have hlenI : (σ1.ι.take h0.length).length = h0.length := by rw [List.length_take, k1.len]; omega
    -- the names below, and above
    have atLow : ∀ c, c < h0.length → nth ((L.take h0.length ++ bs).map (renB f)) c = (nth L c).map (renB f) ∧ nth σ2.ι c = nth σ1.ι c := by
      intro c hc
      constructor
      · rw [nth_map, nth_append_lt (by omega), nth_take _ _ _ hc]
      · show nth (σ1.ι.take h0.length ++ _) c = _
        rw [nth_append_lt (by omega), nth_take _ _ _ hc]
    have atHigh : ∀ i b, nth ids i = some b → nth ((L.take h0.length ++ bs).map (renB f)) (h0.length + i) = (nth L b).map (renB f) ∧ nth σ2.ι (h0.length + i) = nth σ1.ι b := by
      intro i b hb
      have hlt : i < bs.length := by rw [b1]; exact nth_some_lt hb
      obtain ⟨x, hx⟩ := nth_of_lt hlt
      obtain ⟨b', h1, h2⟩ := b2 i x hx
      rw [hb] at h1; cases h1
      constructor
      · rw [nth_map]
        have := nth_append_ge (L.take h0.length) bs i
        rw [hlenT] at this
        rw [this, hx, h2]
      · show nth (σ1.ι.take h0.length ++ _) (h0.length + i) = _
        have := nth_append_ge (σ1.ι.take h0.length) (ids.map fun b => (nth σ1.ι b).getD (0, 0)) i
        rw [hlenI] at this
        rw [this, nth_map, hb]
        have hlt2 := nth_some_lt h2
        obtain ⟨y, hy⟩ := nth_of_lt (l := σ1.ι) (n := b) (by rw [k1.len]; exact hlt2)
        simp [hy]
    have hren : Ren f σ1 L σ2 ((L.take h0.length ++ bs).map (renB f)) := by
      refine ⟨⟨?_, rfl⟩, ?_⟩
      · intro b c hb
        rcases Nat.lt_or_ge b h0.length with hlt | hlt
        · rw [hlow b hlt] at hb; cases hb
          obtain ⟨g1, g2⟩ := atLow b hlt
          obtain ⟨x, hx⟩ := nth_of_lt (l := L) (n := b) (by omega)
          exact ⟨x, hx, by rw [g1, hx]; rfl, g2⟩
        · rw [hhigh b hlt, Option.map_eq_some_iff] at hb
          obtain ⟨i, hi, rfl⟩ := hb
          have hin := idxOf_nth hi
          obtain ⟨g1, g2⟩ := atHigh i b hin
          have hlti : i < bs.length := by rw [b1]; exact nth_some_lt hin
          obtain ⟨x, hx⟩ := nth_of_lt hlti
          obtain ⟨b', h1, h2⟩ := b2 i x hx
          rw [hin] at h1; cases h1
          exact ⟨x, h2, by rw [g1, h2]; rfl, g2⟩
      · intro c y hy
        rcases Nat.lt_or_ge c h0.length with hlt | hlt
        · obtain ⟨g1, g2⟩ := atLow c hlt
          rw [g1, Option.map_eq_some_iff] at hy
          obtain ⟨x, hx, rfl⟩ := hy
          exact ⟨c, x, hlow c hlt, hx, rfl, g2⟩
        · have hltc : c - h0.length < ids.length := by
            have := nth_some_lt hy
            simp only [List.length_map, List.length_append, hlenT, b1] at this
            omega
          obtain ⟨b, hb⟩ := nth_of_lt hltc
          obtain ⟨g1, g2⟩ := atHigh _ b hb
          rw [show h0.length + (c - h0.length) = c by omega] at g1 g2
          rw [g1, Option.map_eq_some_iff] at hy
          obtain ⟨x, hx, rfl⟩ := hy
          refine ⟨b, x, ?_, hx, rfl, g2⟩
          rw [hhigh b (hge b (mem_of_nth hb)), idxOf_of_nth hids hb]
          simp; omega
    have hlen2 : σ2.ι.length = ((L.take h0.length ++ bs).map (renB f)).length := by
      show (σ1.ι.take h0.length ++ _).length = _
      simp only [List.length_append, List.length_map, hlenI, hlenT, b1]
    obtain ⟨g1, g2⟩ := ren_inv hren hlen2 k1
    refine ⟨σ2, ⟨g1, ?_, hs.size, hs.defers⟩, ⟨k3.os, k3.tape, k3.output, k3.size, k3.other, fun k hk => k3.mine k (g2 k hk), k3.data, ?_, k3.more⟩, ren_marks hren hms hmk1⟩
    · refine ren_env hren.toRenT ?_
      intro t
      rcases look_keep (env := env1) p.keep t with e | e
      · rw [e]; exact k2 t
      · rw [e]; simp [ARel]
    · intro b blk hb
      have hlt := nth_some_lt hb
      obtain ⟨blk', q1, q2⟩ := k3.keeps b blk hb
      obtain ⟨e1, e2⟩ := atLow b hlt
      refine ⟨renB f blk', by rw [e1, q1]; rfl, ?_⟩
      rcases q2 with rfl | ⟨q2, q3, q4⟩
      · exact .inl rfl
      · by_cases hd : renB f blk' = .dead
        · exact .inl hd
        · refine .inr ⟨q2, ?_, e2.trans q4⟩
          rw [← q3]
          cases blk' with
          | loop st pe fn nt env ps as bo df =>
            simp only [renB] at hd ⊢
            split at hd
            · rfl
            · exact absurd rfl hd
          | mit m n begun =>
            simp only [renB] at hd ⊢
            split at hd
            · rfl
            · exact absurd rfl hd
          | _ => simp [renB, clen]
  · cases ht
end
end Go.AE

/- A range over a function. -/
namespace Go.AE
open Go

section
variable {P : Program} {T : Tab TI} {w w' : World} {σ σ' : Sg} {h h' : List Blk} {G G' : Nat → Prop} {R : Type} {r : R} {DF : List Deferred}

/-- How code is left. -/
def ExRel : Ex → Exit → Prop
  | .norm, e => e = .normal
  | .exit i, e => e = .exit i
  | .ret, e => e = .ret

theorem nth_append_one {α : Type} (l : List α) (x : α) : nth (l ++ [x]) l.length = some x := by rw [nth_append_len]; rfl

/-- A loop's record turns, or is given up. -/
theorem HInv.putLoop (hi : HInv w σ h) {l : Nat} {x0 x : Blk} {c : Nat × Nat} {o : Obj} (h0 : nth h l = some x0) (hs : solid x0 = true) (hc : nth σ.ι l = some c) (hl : clen x = clen x0)
    (hb : BRel (w.putObj c.1 o) σ (setNth h l x) l x) : HInv (w.putObj c.1 o) σ (setNth h l x) ∧ Step w σ h (w.putObj c.1 o) σ (setNth h l x) :=
  hi.write h0 hs hc hl rfl rfl rfl (by simp) (fun k hk => World.putObj_heap_other hk) hb

/-- The marks' blocks are shut, one by one. -/
theorem shutE_sound {fn : Func} {tm : Array Value} {F : Fence} {n : Nat} {Rr : Ending → World → Prop} : ∀ (ms : List Nat) (ds : List Deferred) (h hh : List Blk) (w : World), HInv w σ h → MK σ h ms ds → shutE ms h = some hh →
    (∀ w', HInv w' σ hh → Step w σ h w' σ hh → LeavesIn F n P fn tm Rr [] .returning w') → LeavesInM F n P fn tm Rr ds .returning w
  | [], ds, h, hh, w, hi, q, hK, hn => by
    simp only [shutE, Option.some.injEq] at hK; subst hK
    simp only [MK] at q; subst q
    exact hn w hi (Step.refl _ _ _)
  | b :: ms, ds, h, hh, w, hi, q, hK, hn => by
    obtain ⟨k, rest, rfl, q1, q2⟩ := q
    simp only [shutE] at hK
    split at hK
    · rename_i hb
      rcases q1 with q1 | ⟨c, hc, rfl⟩
      · unfold isDead at q1; rw [q1] at hb; cases hb
      have hbr := hi.blk b _ hb
      simp only [BRel] at hbr
      obtain ⟨c', hc', hheap⟩ := hbr
      rw [hc] at hc'; cases hc'
      obtain ⟨g1, g2⟩ := hi.putLoop (x := .dead) (o := .deferred none) hb rfl hc rfl trivial
      refine ⟨by simp, .inl ⟨c.1, w.putObj c.1 (.deferred none), rfl, run_takeDeferred hheap, ?_⟩⟩
      exact shutE_sound ms rest _ hh _ g1 (q2.mono g2.keeps hi.len) hK fun w' k1 k2 => hn w' k1 (g2.trans k2)
    · cases hK

theorem range_wp {E : Ev} (hV : EvOK P E) {N fid : Nat} {res : List Nat} {n : Nat} {w0 : World} {σ0 : Sg} {h0 : List Blk} (hi0 : HInv w0 σ0 h0) {g : Operand} {ps : Array Tmp} {as bo : Code} {s : St} {K : Ex → St → Option R} {a : Act} {gf : FuncId} {b : List AV} {y : Array Value}
    {Q : Exit → Act → World → Prop} (hs : SR N DF w σ s.env s.heap a) (hp : Step w0 σ0 h0 w σ s.heap) (hmk : MK σ s.heap s.marks DF) (hg : a.eval g = .func (.func gf) #[] y) (hb : AVals w σ s.heap b y.toList)
    (hK : rangeE E h0.length res fid N ps.toList as bo s gf b K = some r)
    (hQ : ∀ ex s' e a' w' σ' DF', K ex s' = some r → ExRel ex e → SR N DF' w' σ' s'.env s'.heap a' → Step w0 σ0 h0 w' σ' s'.heap → MK σ' s'.heap s'.marks DF' → Q e a' w') : (Code.rangeFunc g ps as bo).wpIn (FW none) n P Q a w := by
  refine wpIn_rangeFunc ?_
  intro fn hfn
  simp only [rangeE, Tr.run_eq, Option.bind_eq_some_iff] at hK
  obtain ⟨⟨v, h1⟩, hfnE, hK⟩ := hK
  simp only at hK
  obtain ⟨⟨fnn, e1, e2, e3⟩, hcall⟩ := hV.fn _ _ _ _ _ hfnE
  have hi := hs.inv
  -- the block for the deferred calls
  have bA : BRel (w.alloc (.deferred (some []))) ⟨σ.G, σ.ι ++ [(w.heap.size, 0)]⟩ (s.heap ++ [.defr]) s.heap.length .defr := by
    refine ⟨(w.heap.size, 0), ?_, World.alloc_heap_new w _⟩
    show nth (σ.ι ++ [(w.heap.size, 0)]) s.heap.length = _
    rw [← hi.len]; exact nth_append_one _ _
  obtain ⟨iA, sA⟩ := hi.push (.deferred (some [])) 0 .defr bA
  -- the record
  let o2 : Obj := .loop { state := .ready, pending := none, fn, tmps := a.tmps, params := ps, assign := as, body := bo, defers := w.heap.size }
  have hlenA : (s.heap ++ [Blk.defr]).length = s.heap.length + 1 := by simp
  have cD : nth (σ.ι ++ [(w.heap.size, 0)] ++ [((w.alloc (.deferred (some []))).heap.size, 0)]) s.heap.length = some (w.heap.size, 0) := by
    rw [nth_append_lt (by simp; have := hi.len; omega), ← hi.len]; exact nth_append_one _ _
  have cL : nth (σ.ι ++ [(w.heap.size, 0)] ++ [((w.alloc (.deferred (some []))).heap.size, 0)]) (s.heap.length + 1) = some (w.heap.size + 1, 0) := by
    have : s.heap.length + 1 = (σ.ι ++ [(w.heap.size, 0)]).length := by simp [hi.len]
    rw [this, nth_append_one]; simp
  have bB : BRel ((w.alloc (.deferred (some []))).alloc o2) ⟨σ.G, σ.ι ++ [(w.heap.size, 0)] ++ [((w.alloc (.deferred (some []))).heap.size, 0)]⟩ (s.heap ++ [Blk.defr] ++ [Blk.loop .ready none fid N s.env ps.toList as bo s.heap.length]) (s.heap ++ [Blk.defr]).length (.loop .ready none fid N s.env ps.toList as bo s.heap.length) := by
    refine ⟨(w.heap.size + 1, 0), (w.heap.size, 0), a.tmps, fn, ?_, cD, ?_, hs.size, ?_⟩
    · rw [hlenA]; exact cL
    · have := World.alloc_heap_new (w.alloc (.deferred (some []))) o2
      rw [World.size_alloc] at this
      exact this
    · have := sA.env hi hs.env
      intro t
      exact ARel.mono (σ := ⟨σ.G, σ.ι ++ [(w.heap.size, 0)]⟩) (h := s.heap ++ [Blk.defr]) (σ' := ⟨σ.G, σ.ι ++ [(w.heap.size, 0)] ++ [((w.alloc (.deferred (some []))).heap.size, 0)]⟩) (fun b hb => ⟨hb, Go.RowKit.Below.heap_alloc _ _ _ (iA.bound b hb)⟩) (Keeps.push _ _ _ _ iA.len) iA.len _ _ (this t)
  obtain ⟨iB, sB⟩ := iA.push o2 0 _ bB
  have hheap : s.heap ++ [Blk.defr] ++ [Blk.loop .ready none fid N s.env ps.toList as bo s.heap.length] = s.heap ++ [.defr, .loop .ready none fid N s.env ps.toList as bo s.heap.length] := by simp
  rw [hheap] at iB sB bB
  rw [hlenA] at bB
  have sAB := sA.trans sB
  have hargs : AVals ((w.alloc (.deferred (some []))).alloc o2) ⟨σ.G, σ.ι ++ [(w.heap.size, 0)] ++ [((w.alloc (.deferred (some []))).heap.size, 0)]⟩ (s.heap ++ [.defr, .loop .ready none fid N s.env ps.toList as bo s.heap.length])
      (.yld (s.heap.length + 1) :: b) (#[Value.func (.yield (w.heap.size + 1)) #[] #[]] ++ y).toList := by
    simp only [Array.toList_append]
    exact ⟨_, _, rfl, ⟨rfl, .inr ⟨_, cL, rfl⟩⟩, AVals.mono (sAB.dataSame hi) sAB.keeps hi.len _ _ hb⟩
  refine ⟨w.heap.size + 1, [{ target := .collected w.heap.size, args := #[] }], (w.alloc (.deferred (some []))).alloc o2, { target := .fn (.func gf) y, args := #[.func (.yield (w.heap.size + 1)) #[] #[]] }, (w.alloc (.deferred (some []))).alloc o2, gf,
    #[.func (.yield (w.heap.size + 1)) #[] #[]] ++ y, (w.alloc (.deferred (some []))).alloc o2, run_enterLoop_outer _ _ _ _ _, ?_, ?_, ?_, fun hd => by simp [FW, Fence.wide] at hd, ?_⟩
  · simp only [resolve, hg]
    simp [go_sem]
  · intro f' _; exact (trivial : (FW none).fn f')
  · have e2' : ¬ fnn.name = "runtime.NumGoroutine" := by simpa using e2
    have e3' : ¬ fnn.body = none := by rintro e0; rw [e0] at e3; cases e3
    show (callFunc gf (#[Value.func (.yield (w.heap.size + 1)) #[] #[]] ++ y)).run P _ = _
    unfold callFunc
    simp [e1, e2', e3']
  · refine CallsIn.mono (callsIn_FW none (n - 1) (hcall _ _ _ iB hargs)) ?_
    rintro e w2 ⟨u, σ2, rfl, i2, s2, _⟩
    simp only [backE] at hK
    split at hK
    · rename_i st pe f1 n1 env1 p1 a1 b1 d1 hL
      have hbr := i2.blk _ _ hL
      simp only [BRel] at hbr
      obtain ⟨c, cd, tm, fn', k1, k2, k3, k4, k5⟩ := hbr
      have hold : nth (s.heap ++ [.defr, .loop .ready none fid N s.env ps.toList as bo s.heap.length]) (s.heap.length + 1) = some (.loop .ready none fid N s.env ps.toList as bo s.heap.length) := by
        have := nth_append_ge s.heap [.defr, .loop .ready none fid N s.env ps.toList as bo s.heap.length] 1
        rw [this]; rfl
      have hc : c = (w.heap.size + 1, 0) := by
        obtain ⟨blk', q1, q2⟩ := s2.keeps _ _ hold
        rw [hL] at q1; cases q1
        rcases q2 with q2 | ⟨_, _, q3⟩
        · cases q2
        · rw [k1] at q3
          exact Option.some.inj (q3.trans cL)
      subst hc
      have hmk2 : MK σ2 h1 (s.heap.length :: s.marks) ({ target := .collected w.heap.size, args := #[] } :: DF) := by
        refine MK.mono s2.keeps iB.len ⟨w.heap.size, DF, rfl, .inr ⟨_, cD, rfl⟩, hmk.mono sAB.keeps hi.len⟩
      have hput : ∀ o, HInv (w2.putObj (w.heap.size + 1) o) σ2 (setNth h1 (s.heap.length + 1) .dead) ∧ Step w2 σ2 h1 (w2.putObj (w.heap.size + 1) o) σ2 (setNth h1 (s.heap.length + 1) .dead) := fun o =>
        i2.putLoop (x := .dead) (o := o) hL rfl k1 rfl trivial
      have hsr : ∀ o, SR N ({ target := .collected w.heap.size, args := #[] } :: DF) (w2.putObj (w.heap.size + 1) o) σ2 s.env (setNth h1 (s.heap.length + 1) .dead) { a with defers := { target := .collected w.heap.size, args := #[] } :: a.defers } := fun o =>
        ⟨(hput o).1, ((sAB.trans s2).trans (hput o).2).env hi hs.env, hs.size, by rw [hs.defers]⟩
      have hst : ∀ o, Step w0 σ0 h0 (w2.putObj (w.heap.size + 1) o) σ2 (setNth h1 (s.heap.length + 1) .dead) := fun o => hp.trans ((sAB.trans s2).trans (hput o).2)
      have hmk3 : ∀ o, MK σ2 (setNth h1 (s.heap.length + 1) .dead) (s.heap.length :: s.marks) ({ target := .collected w.heap.size, args := #[] } :: DF) := fun o => hmk2.mono (hput o).2.keeps i2.len
      split at hK
      · cases hK
      · rename_i hne
        refine ⟨pe, _, run_endLoop k3 (by simpa using hne), ?_⟩
        split at hK
        · exact hQ .norm _ .normal _ _ σ2 _ hK rfl (hsr _) (hst _) (hmk3 default)
        · simp only [Tr.run_eq, Option.bind_eq_some_iff] at hK
          obtain ⟨s', h3, hK⟩ := hK
          obtain ⟨σ3, q1, q2, q3⟩ := tidy_sound hi0 (s := ⟨s.env, setNth h1 (s.heap.length + 1) .dead, s.heap.length :: s.marks⟩) (hsr _) (hst _) (hmk3 default) h3
          exact wpIn_ret (hQ .ret s' .ret _ _ σ3 _ hK rfl q1 q2 q3)
        · exact wpIn_exit (hQ (.exit _) _ (.exit _) _ _ σ2 _ hK rfl (hsr _) (hst _) (hmk3 default))
        · cases hK
    · cases hK
end
end Go.AE

/- Code. -/
namespace Go.AE
open Go

section
variable {P : Program} {T : Tab TI} {w w' : World} {σ σ' : Sg} {h h' : List Blk} {G G' : Nat → Prop} {R : Type} {r : R} {DF : List Deferred}

theorem iterE_wp {F : Fence} {n : Nat} {c : Code} {body : St → (Ex → St → Option R) → Option R} {td : St → Option St} {K : Ex → St → Option R} {Q : Exit → Act → World → Prop} (I : St → Act → World → Prop)
    (hb : ∀ (s : St) (a : Act) (w : World) (K' : Ex → St → Option R) (Q' : Exit → Act → World → Prop), I s a w → body s K' = some r → (∀ ex s' e a' w', K' ex s' = some r → ExRel ex e → I s' a' w' → Q' e a' w') → c.wpIn F n P Q' a w)
    (ht : ∀ s s' a w, I s a w → td s = some s' → I s' a w) (hQ : ∀ ex s' e a' w', K ex s' = some r → ExRel ex e → I s' a' w' → Q e a' w') :
    ∀ (k : Nat) (s : St) (a : Act) (w : World), I s a w → iterE body td k s K = some r → Code.roundsIn F n P c Q k a w
  | 0, s, a, w, _, hK => by simp [iterE] at hK
  | k + 1, s, a, w, hs, hK => by
    simp only [iterE, Option.bind_eq_some_iff] at hK
    obtain ⟨s', h1, hK⟩ := hK
    refine hb s' a w _ _ (ht _ _ _ _ hs h1) hK ?_
    intro ex s'' e a' w' k1 k2 k3
    cases ex with
    | norm => simp only [ExRel] at k2; subst k2; exact iterE_wp I hb ht hQ k s'' a' w' k3 k1
    | exit i => have := hQ _ _ e a' w' k1 k2 k3; simp only [ExRel] at k2; subst k2; exact this
    | ret => have := hQ _ _ e a' w' k1 k2 k3; simp only [ExRel] at k2; subst k2; exact this

theorem tidyP_sound {N : Nat} {w0 : World} {σ0 : Sg} {h0 : List Blk} {p : Option Pol} {s s' : St} {a : Act} (hi0 : HInv w0 σ0 h0) (hs : SR N DF w σ s.env s.heap a) (hp : Step w0 σ0 h0 w σ s.heap) (hmk : MK σ s.heap s.marks DF) (ht : tidyP h0.length p s = some s') :
    ∃ σ' DF', SR N DF' w σ' s'.env s'.heap a ∧ Step w0 σ0 h0 w σ' s'.heap ∧ MK σ' s'.heap s'.marks DF' := by
  unfold tidyP at ht
  split at ht
  · cases ht; exact ⟨σ, DF, hs, hp, hmk⟩
  · obtain ⟨σ', q1, q2, q3⟩ := tidy_sound hi0 hs hp hmk ht
    exact ⟨σ', DF, q1, q2, q3⟩

/-- A scope in which nothing jumps. -/
def noGoto (Q : Exit → Act → World → Prop) : Exit → Act → World → Prop
  | .goto _, _, _ => False
  | e, a, w => Q e a w

theorem wpIn_scope {F : Fence} {n : Nat} {c : Code} {Q : Exit → Act → World → Prop} {a : Act} {w : World} (h : c.wpIn F n P (noGoto Q) a w) : (Code.scope c).wpIn F n P Q a w := by
  intro b k cs hro hb hr
  have h0 : (lone (b.atR a (.code (.scope c) :: k)) cs w).fenced P F := fenced_calm hb hr rfl
  have s1 : step P (lone (b.atR a (.code (.scope c) :: k)) cs w) = .next (lone (b.atR a (.code c :: .inScope c :: k)) cs w) := step_lone_go (by simp [stepG, stepG.exec, Frame.atR])
  obtain ⟨e, a₁, w₁, hq, harr⟩ := h b (.inScope c :: k) cs hro hb hr
  cases e with
  | normal =>
    have s2 : step P (lone (b.atR a₁ (.inScope c :: k)) cs w₁) = .next (lone (b.atR a₁ k) cs w₁) := step_lone_go (by simp [stepG, stepG.exec, Frame.atR])
    exact ⟨.normal, a₁, w₁, hq, .head h0 s1 (StepsIn.trans harr (.one (fenced_calm hb hr rfl) s2))⟩
  | exit id' =>
    have hx : exitTo id' (.inScope c :: k) = exitTo id' k := by simp [exitTo]
    exact ⟨.exit id', a₁, w₁, hq, fun k' hk => .head h0 s1 (harr.1 k' (by rw [hx]; exact hk)),
      fun hr' hk => let ⟨k₁, h1, h2⟩ := harr.2 hr' (by rw [hx]; exact hk); ⟨k₁, h1, .head h0 s1 h2⟩⟩
  | goto l => exact hq.elim
  | ret => exact ⟨_, a₁, w₁, hq, .of_steps (.one h0 s1) harr⟩
  | panic ch => exact ⟨_, a₁, w₁, hq, .of_steps (.one h0 s1) harr⟩
  | outgrown => exact ⟨_, a₁, w₁, hq, .of_steps (.one h0 s1) harr⟩

theorem codeE_wp {C : Ctx} (hT : TOK P C.T) (hE : EqOK P C.T) (hm : P.follows .mixedOrders = true) {E : Ev} (hV : EvOK P E) {N fid k : Nat} {res : List Nat} {out ro : Option Nat} (ho : ∀ M, out = some M → M = N ∧ ro = none) {n : Nat} {w0 : World} {σ0 : Sg} {h0 : List Blk} (hi0 : HInv w0 σ0 h0) :
    ∀ (c : Code) (bid : Nat) (s : St) (K : Ex → St → Option R) (a : Act) (w : World) (σ : Sg) (DF : List Deferred) (Q : Exit → Act → World → Prop), okCode C fid N c = true → SR N DF w σ s.env s.heap a → Step w0 σ0 h0 w σ s.heap → MK σ s.heap s.marks DF →
      codeE C E fid h0.length k res out bid c s K = some r →
      (∀ ex s' e a' w' σ' DF', K ex s' = some r → ExRel ex e → SR N DF' w' σ' s'.env s'.heap a' → Step w0 σ0 h0 w' σ' s'.heap → MK σ' s'.heap s'.marks DF' → Q e a' w') → c.wpIn (FW ro) n P Q a w := by
  intro c
  induction c with
  | skip => intro bid s K a w σ DF Q _ hs hp hmk hK hQ; exact wpIn_skip (hQ .norm s .normal a w σ DF hK rfl hs hp hmk)
  | label l => intro bid s K a w σ DF Q _ hs hp hmk hK hQ; exact wpIn_label (hQ .norm s .normal a w σ DF hK rfl hs hp hmk)
  | exit id =>
    intro bid s K a w σ DF Q _ hs hp hmk hK hQ
    simp only [codeE, Option.bind_eq_some_iff] at hK
    obtain ⟨s', h1, hK⟩ := hK
    obtain ⟨σ', DF', k1, k2, k3⟩ := tidyP_sound hi0 hs hp hmk h1
    exact wpIn_exit (hQ (.exit id) s' (.exit id) a w σ' DF' hK rfl k1 k2 k3)
  | scope b ih =>
    intro bid s K a w σ DF Q hok hs hp hmk hK hQ
    simp only [okCode] at hok
    simp only [codeE] at hK
    refine wpIn_scope (ih bid s K a w σ DF _ hok hs hp hmk hK ?_)
    intro ex s' e a' w' σ' DF' k1 k2 k3 k4 k5
    have := hQ ex s' e a' w' σ' DF' k1 k2 k3 k4 k5
    cases ex <;> (simp only [ExRel] at k2; subst k2; exact this)
  | ret =>
    intro bid s K a w σ DF Q _ hs hp hmk hK hQ
    simp only [codeE, Option.bind_eq_some_iff] at hK
    obtain ⟨s', h1, hK⟩ := hK
    obtain ⟨σ', k1, k2, k3⟩ := tidy_sound hi0 hs hp hmk h1
    exact wpIn_ret (hQ .ret s' .ret a w σ' DF hK rfl k1 k2 k3)
  | region id ops drawn =>
    intro bid s K a w σ DF Q hok hs hp hmk hK hQ
    simp only [codeE] at hK
    have hd : ∀ o ∈ ops.toList, ∀ t, o.dst = some t → t < N := by
      intro o ho t ht
      simp only [okCode, Bool.and_eq_true, List.all_eq_true] at hok
      have := hok.1 o ho
      rw [ht] at this
      simpa [Nat.blt_eq] using this
    cases drawn with
    | false =>
      simp only [cond_false] at hK
      refine wpIn_region ?_
      rw [List.range_eq_range']
      refine runE_wp (K := fun env h => K .norm ⟨env, h, s.marks⟩) hT hE hV ops.toList [] s.env s.heap a w σ rfl hd hs hK ?_
      intro env' h' a' w' σ' k1 k2 k3
      exact hQ .norm ⟨env', h', s.marks⟩ .normal a' w' σ' DF k1 rfl k2 (hp.trans k3) (hmk.mono k3.keeps hs.inv.len)
    | true =>
      simp only [cond_true] at hK
      refine drawE_wp (K := fun env h => K .norm ⟨env, h, s.marks⟩) hT hE hm hV hd (fun p hp => by simp only [okCode, hp, Bool.and_eq_true, Bool.not_true, Bool.false_or] at hok; exact hok.2) hs hK ?_
      intro env' h' a' w' σ' k1 k2 k3
      exact hQ .norm ⟨env', h', s.marks⟩ .normal a' w' σ' DF k1 rfl k2 (hp.trans k3) (hmk.mono k3.keeps hs.inv.len)
  | seq x y ihx ihy =>
    intro bid s K a w σ DF Q hok hs hp hmk hK hQ
    simp only [okCode, Bool.and_eq_true] at hok
    simp only [codeE] at hK
    refine wpIn_seq (ihx bid s _ a w σ DF _ hok.1 hs hp hmk hK ?_)
    intro ex s' e a' w' σ' DF' k1 k2 k3 k4 k5
    cases ex with
    | norm => simp only [ExRel] at k2; subst k2; exact ihy bid s' K a' w' σ' DF' Q hok.2 k3 k4 k5 k1 hQ
    | exit i => have := hQ _ _ e a' w' σ' DF' k1 k2 k3 k4 k5; simp only [ExRel] at k2; subst k2; exact this
    | ret => have := hQ _ _ e a' w' σ' DF' k1 k2 k3 k4 k5; simp only [ExRel] at k2; subst k2; exact this
  | cond x y z ihy ihz =>
    intro bid s K a w σ DF Q hok hs hp hmk hK hQ
    simp only [okCode, Bool.and_eq_true] at hok
    simp only [codeE] at hK
    split at hK
    · rename_i b e
      have hx := ev_rel hs.inv.glob hs.env x
      rw [e] at hx
      refine wpIn_cond hx.bool ?_
      cases b with
      | true => exact ihy bid s K a w σ DF Q hok.1 hs hp hmk hK hQ
      | false => exact ihz bid s K a w σ DF Q hok.2 hs hp hmk hK hQ
    · cases hK
  | block id b ih =>
    intro bid s K a w σ DF Q hok hs hp hmk hK hQ
    simp only [okCode] at hok
    simp only [codeE] at hK
    refine wpIn_block (ih id s _ a w σ DF _ hok hs hp hmk hK ?_)
    intro ex s' e a' w' σ' DF' k1 k2 k3 k4 k5
    cases ex with
    | norm => have := hQ _ _ e a' w' σ' DF' k1 k2 k3 k4 k5; simp only [ExRel] at k2; subst k2; exact this
    | ret => have := hQ _ _ e a' w' σ' DF' k1 k2 k3 k4 k5; simp only [ExRel] at k2; subst k2; exact this
    | exit i =>
      simp only [ExRel] at k2; subst k2
      simp only [Exit.inBlock]
      rcases cond_some k1 with ⟨e1, k1⟩ | ⟨e1, k1⟩
      · rw [if_pos (Nat.eq_of_beq_eq_true e1)]
        exact hQ .norm s' .normal a' w' σ' DF' k1 rfl k3 k4 k5
      · rw [if_neg (by rintro rfl; simp at e1)]
        exact hQ (.exit i) s' (.exit i) a' w' σ' DF' k1 rfl k3 k4 k5
  | loop b ih =>
    intro bid s K a w σ DF Q hok hs hp hmk hK hQ
    simp only [okCode] at hok
    simp only [codeE] at hK
    refine wpIn_loop_rounds k (iterE_wp (fun s a w => ∃ σ DF, SR N DF w σ s.env s.heap a ∧ Step w0 σ0 h0 w σ s.heap ∧ MK σ s.heap s.marks DF) ?_ ?_ ?_ k s a w ⟨σ, DF, hs, hp, hmk⟩ hK)
    · rintro s a w K' Q' ⟨σ, DF, k1, k2, k3⟩ hK' hQ'
      exact ih bid s K' a w σ DF Q' hok k1 k2 k3 hK' fun ex s' e a' w' σ' DF' g1 g2 g3 g4 g5 => hQ' ex s' e a' w' g1 g2 ⟨σ', DF', g3, g4, g5⟩
    · rintro s s' a w ⟨σ, DF, k1, k2, k3⟩ ht
      exact tidyP_sound hi0 k1 k2 k3 ht
    · rintro ex s' e a' w' g1 g2 ⟨σ', DF', g3, g4, g5⟩
      exact hQ ex s' e a' w' σ' DF' g1 g2 g3 g4 g5
  | rangeFunc g ps as bo ih1 ih2 =>
    intro bid s K a w σ DF Q _ hs hp hmk hK hQ
    simp only [codeE] at hK
    split at hK
    · cases hK
    · clear ih1 ih2
      obtain ⟨rfl, rfl⟩ := ho _ rfl
      have hx := ev_rel hs.inv.glob hs.env g
      split at hK
      · rename_i gf b e
        rw [e] at hx
        simp only [ARel, DRel] at hx
        obtain ⟨x, y, e1, e2, e3⟩ := hx
        have : x = #[] := by simpa [DVals] using e2
        subst this
        exact range_wp hV hi0 hs hp hmk e1 (AVals.to_D e3) hK hQ
      · rename_i gf b e
        rw [e] at hx
        simp only [ARel] at hx
        obtain ⟨x, y, e1, e2, e3⟩ := hx
        have : x = #[] := by simpa [AVals] using e2
        subst this
        exact range_wp hV hi0 hs hp hmk e1 e3 hK hQ
      · cases hK
  | _ => intro bid s K a w σ DF Q _ hs hp hmk hK hQ; simp [codeE] at hK
end
end Go.AE

/- Functions, and the evaluator. -/
namespace Go.AE
open Go

section
variable {P : Program} {T : Tab TI} {w w' : World} {σ σ' : Sg} {h h' : List Blk} {G G' : Nat → Prop} {R : Type} {r : R} {DF : List Deferred}

theorem loadVar_of_loadAt {t : TypeId} {x y : Value} (hl : (Instr.loadAt t x).run P w = .ok y w) : (do loadVar t (← asAddr x) : Sem Value).run P w = .ok y w := by
  unfold Instr.loadAt at hl
  cases x with
  | pointer p =>
    cases p with
    | some a => simpa [asAddr, Instr.sureAddr] using hl
    | none => simp [Instr.sureAddr] at hl
  | _ => simp [Instr.sureAddr] at hl

def resultOf (tmps : Array Value) : ResultVar → Sem Value
  | .tmp t => pure (tmps.getD t undef)
  | .cell a t => do loadVar t (← asAddr (tmps.getD a undef))

theorem resultsE_sound (hT : TOK P T) (hi : HInv w σ h) {env : List (Nat × AV)} {ms : List Nat} {tm : Array Value} (he : EnvRel w σ h env tm) : ∀ {rs : List ResultVar} {K : List AV → Option R}, resultsE T ⟨env, h, ms⟩ rs K = some r →
    ∃ l, K l = some r ∧ ∃ vs, (rs.mapM (resultOf tm) : Sem (List Value)).run P w = .ok vs w ∧ AVals w σ h l vs
  | [], K, hK => ⟨[], hK, [], by simp, by simp [AVals]⟩
  | .tmp t :: rs, K, hK => by
    simp only [resultsE] at hK
    obtain ⟨l, h1, vs, h2, h3⟩ := resultsE_sound hT hi he hK
    refine ⟨_, h1, tm.getD t undef :: vs, ?_, ⟨_, _, rfl, he t, h3⟩⟩
    simp only [List.mapM_cons, resultOf, Sem.run_bind, Sem.run_pure, Result.andThen_ok, h2]
  | .cell a t :: rs, K, hK => by
    simp only [resultsE] at hK
    obtain ⟨v, hK, y, k1, k2⟩ := loadE_sound hT hi (he a) hK
    obtain ⟨l, h1, vs, h2, h3⟩ := resultsE_sound hT hi he hK
    refine ⟨_, h1, y :: vs, ?_, ⟨_, _, rfl, k2, h3⟩⟩
    have := loadVar_of_loadAt k1
    simp only [List.mapM_cons, resultOf]
    rw [Sem.run_bind, this]
    simp only [Sem.run_bind, Sem.run_pure, Result.andThen_ok, h2]

theorem pack_rel {l : List AV} {vs : List Value} (q : AVals w σ h l vs) : ARel w σ h (packR l) (if h : vs.toArray.size = 1 then vs.toArray[0] else .tuple vs.toArray) := by
  have hlen := q.get.1
  unfold packR
  split
  · obtain ⟨y, rfl, k⟩ := AVals.one q
    simpa using k
  · rename_i l hne
    rw [dif_neg]
    · exact ARel.mkTup q
    · intro e
      have e' : vs.length = 1 := by simpa using e
      rw [← hlen] at e'
      obtain ⟨x, rfl⟩ := List.length_eq_one_iff.1 e'
      exact hne x rfl

theorem results_of (hT : TOK P T) (hi : HInv w σ h) {env : List (Nat × AV)} {ms : List Nat} {tm : Array Value} (he : EnvRel w σ h env tm) {fn : Func} {K : AV → List Blk → Option R}
    (hK : resultsE T ⟨env, h, ms⟩ fn.results.toList (fun l => K (packR l) h) = some r) : ∃ v, K v h = some r ∧ ∃ u, (results fn tm).run P w = .ok u w ∧ ARel w σ h v u := by
  obtain ⟨l, h1, vs, h2, h3⟩ := resultsE_sound hT hi he hK
  refine ⟨_, h1, _, ?_, pack_rel h3⟩
  have e0 : results fn tm = (do let vs ← fn.results.mapM (resultOf tm); pure (if h : vs.size = 1 then vs[0] else .tuple vs)) := by
    unfold results
    congr 1
  have e2 : (fn.results.mapM (resultOf tm)).run P w = .ok vs.toArray w := by
    rw [Array.mapM_eq_mapM_toList]
    simp [h2]
  rw [e0, Sem.run_bind, e2]
  rfl

/-- The way out of a function: the marks' blocks are shut, and the results are read. -/
theorem out_sound {C : Ctx} (hT : TOK P C.T) {N : Nat} {w0 : World} {σ0 : Sg} {h0 : List Blk} {s : St} {a : Act} {fn : Func} {K : AV → List Blk → Option R} (hs : SR N DF w σ s.env s.heap a) (hp : Step w0 σ0 h0 w σ s.heap) (hmk : MK σ s.heap s.marks DF)
    (hK : ((shutE s.marks s.heap).bind fun h => resultsE C.T ⟨s.env, h, []⟩ fn.results.toList fun l => K (packR l) h) = some r) {F : Fence} {n : Nat} {Rr : Ending → World → Prop}
    (hR : ∀ v h' u w' σ', K v h' = some r → HInv w' σ' h' → Step w0 σ0 h0 w' σ' h' → ARel w' σ' h' v u → Rr (.returned u) w') : LeavesInM F n P fn a.tmps Rr a.defers .returning w := by
  simp only [Option.bind_eq_some_iff] at hK
  obtain ⟨hh, h1, hK⟩ := hK
  rw [hs.defers]
  refine shutE_sound _ _ _ _ _ hs.inv hmk h1 ?_
  intro w' k1 k2
  obtain ⟨v, d2, u, d3, d4⟩ := results_of (ms := []) hT k1 (k2.env hs.inv hs.env) hK
  exact ⟨u, d3, hR v hh u w' σ d2 k1 (hp.trans k2) d4⟩

/-- A function of the program that is walked. -/
structure FnOK (P : Program) (C : Ctx) (f : FuncId) (fn : Func) : Prop where
  at_ : P.funcs[f]? = some fn
  name : (fn.name == "runtime.NumGoroutine") = false
  code : ∀ c, fn.body = some c → okCode C f fn.ntmps c = true

theorem envOf_look : ∀ (args : List AV) (vs : List Value) (i t : Nat), AVals w σ h args vs → ARel w σ h (look (envOf i args) (i + t)) ((vs[t]?).getD undef)
  | [], vs, i, t, q => by simp [envOf, look, ARel]
  | a :: args, vs, i, t, q => by
    obtain ⟨v, r, rfl, h1, h2⟩ := q
    simp only [envOf, look]
    cases t with
    | zero => simpa using h1
    | succ t =>
      have e : Nat.beq i (i + (t + 1)) = false := by
        cases e : Nat.beq i (i + (t + 1)) with
        | false => rfl
        | true => have := Nat.eq_of_beq_eq_true e; omega
      rw [e, cond_false]
      have := envOf_look args r (i + 1) t h2
      rw [show i + (t + 1) = i + 1 + t by omega]
      simpa using this

theorem enter_rel {args : List AV} {vs : Array Value} {N : Nat} (q : AVals w σ h args vs.toList) : EnvRel w σ h (envOf 0 args) (vs ++ Array.replicate (N - vs.size) undef) := by
  intro t
  have := envOf_look args vs.toList 0 t q
  rw [Nat.zero_add] at this
  rw [Array.getD_eq_getD_getElem?, Array.getElem?_append]
  split
  · simpa using this
  · rename_i hlt
    have e0 : vs.toList[t]? = none := by simp; omega
    rw [e0] at this
    rw [Array.getElem?_replicate]
    split
    · simpa using this
    · simpa using this

theorem bodyE_calls {C : Ctx} (hT : TOK P C.T) (hE : EqOK P C.T) (hm : P.follows .mixedOrders = true) {E : Ev} (hV : EvOK P E) {k : Nat} {fid : FuncId} {fn : Func} (hf : FnOK P C fid fn) {args : List AV} {K : AV → List Blk → Option R}
    (hK : bodyE C E k fid fn args h K = some r) : Enters P fid ∧ ∀ (w : World) (σ : Sg) (vs : Array Value), HInv w σ h → AVals w σ h args vs.toList →
    Calls P fid vs w fun e w' => ∃ v h' u σ', K v h' = some r ∧ e = .returned u ∧ HInv w' σ' h' ∧ Step w σ h w' σ' h' ∧ ARel w' σ' h' v u := by
  unfold bodyE at hK
  split at hK
  · rename_i c hc
    obtain ⟨hle, hK⟩ := cond_none hK
    refine ⟨⟨fn, hf.at_, hf.name, by rw [hc]; rfl⟩, ?_⟩
    intro w σ vs hi q
    refine callsIn_wide.1 (callsIn_of_wp_marks (n := 0) hf.at_ hc trivial ?_ rfl)
    have hlen := q.get.1
    have hle := Nat.le_of_ble_eq_true hle
    have hs : SR fn.ntmps [] w σ (envOf 0 args) h { tmps := vs ++ Array.replicate (fn.ntmps - vs.size) undef, defers := [] } :=
      ⟨hi, enter_rel q, by simp at hlen ⊢; omega, rfl⟩
    refine codeE_wp (out := some fn.ntmps) (ro := none) (n := 0) hT hE hm hV (fun M e => by cases e; exact ⟨rfl, rfl⟩) hi c 0 ⟨envOf 0 args, h, []⟩ (doneE C fn h.length K) _ w σ [] _ (hf.code c hc) hs (Step.refl _ _ _) rfl hK ?_
    intro ex s' e a' w' σ' DF' k1 k2 k3 k4 k5
    have fin : ∀ (v : AV) (h' : List Blk) (u : Value) (w' : World) (σ' : Sg), K v h' = some r → HInv w' σ' h' → Step w σ h w' σ' h' → ARel w' σ' h' v u →
        (fun (e : Ending) (w' : World) => ∃ v h' u σ', K v h' = some r ∧ e = .returned u ∧ HInv w' σ' h' ∧ Step w σ h w' σ' h' ∧ ARel w' σ' h' v u) (.returned u) w' := fun v h' u w' σ' g1 g2 g3 g4 => ⟨v, h', u, σ', g1, rfl, g2, g3, g4⟩
    cases ex with
    | exit i => simp [doneE] at k1
    | norm =>
      simp only [ExRel] at k2; subst k2
      simp only [doneE] at k1
      obtain ⟨s2, t1, k1⟩ := Option.bind_eq_some_iff.1 k1
      obtain ⟨σ2, t2, t3, t4⟩ := tidy_sound hi k3 k4 k5 t1
      exact (out_sound (F := Fence.wide) (n := 0) (Rr := fun e w' => ∃ v h' u σ', K v h' = some r ∧ e = .returned u ∧ HInv w' σ' h' ∧ Step w σ h w' σ' h' ∧ ARel w' σ' h' v u) hT t2 t3 t4 k1 fin)
    | ret =>
      simp only [ExRel] at k2; subst k2
      simp only [doneE] at k1
      exact (out_sound (F := Fence.wide) (n := 0) (Rr := fun e w' => ∃ v h' u σ', K v h' = some r ∧ e = .returned u ∧ HInv w' σ' h' ∧ Step w σ h w' σ' h' ∧ ARel w' σ' h' v u) hT k3 k4 k5 k1 fin)
  · cases hK

theorem putAll_rel : ∀ (ps : List Tmp) (args : List AV) (vs : List Value) (env : List (Nat × AV)) (tm : Array Value), (∀ t ∈ ps, t < tm.size) → args.length = ps.length → AVals w σ h args vs → EnvRel w σ h env tm →
    EnvRel w σ h (putAll ps args env) ((ps.zip vs).foldl (fun tmps (t, a) => tmps.setIfInBounds t a) tm) ∧ ((ps.zip vs).foldl (fun tmps (t, a) => tmps.setIfInBounds t a) tm).size = tm.size
  | [], args, vs, env, tm, _, _, _, q => by simpa [putAll] using q
  | t :: ps, [], vs, env, tm, _, hl, _, _ => by simp at hl
  | t :: ps, a :: args, vs, env, tm, hlt, hl, hv, q => by
    obtain ⟨v, r, rfl, h1, h2⟩ := hv
    simp only [putAll, List.zip_cons_cons, List.foldl_cons]
    have ht : t < tm.size := hlt t (by simp)
    have q' : EnvRel w σ h ((t, a) :: env) (tm.setIfInBounds t v) := by
      intro x
      simp only [look]
      cases e : Nat.beq t x with
      | true =>
        rw [← Nat.eq_of_beq_eq_true e]
        have : (tm.setIfInBounds t v).getD t undef = v := by
          rw [Array.getD_eq_getD_getElem?, Array.getElem?_setIfInBounds_self_of_lt ht]; rfl
        rw [this]; exact h1
      | false =>
        have hne : t ≠ x := by rintro rfl; simp at e
        have : (tm.setIfInBounds t v).getD x undef = tm.getD x undef := by
          rw [Array.getD_eq_getD_getElem?, Array.getElem?_setIfInBounds_ne hne, ← Array.getD_eq_getD_getElem?]
        rw [this]; exact q x
    obtain ⟨g1, g2⟩ := putAll_rel ps args r ((t, a) :: env) (tm.setIfInBounds t v) (fun t' h' => by simpa using hlt t' (by simp [h'])) (by simpa using hl) h2 q'
    exact ⟨g1, by simpa using g2⟩

/-- The end of a round. -/
theorem endE_sound {l N : Nat} {w0 : World} {σ0 : Sg} {h0 : List Blk} {ex : Ex} {s : St} {a : Act} {v : AV} {h' : List Blk} {c : Nat × Nat} (hi0 : HInv w0 σ0 h0) (hs : SR N DF w σ s.env s.heap a) (hp : Step w0 σ0 h0 w σ s.heap) (hmk : MK σ s.heap s.marks DF)
    (hl0 : ∃ x, nth h0 l = some x) (hc : nth σ0.ι l = some c) (hK : endE h0.length l ex s = some (v, h')) {e : Exit} (he : ExRel ex e) :
    roundPost P c.1 (fun e w' => ∃ u σ', e = .returned u ∧ HInv w' σ' h' ∧ Step w0 σ0 h0 w' σ' h' ∧ ARel w' σ' h' v u) e a w := by
  simp only [endE] at hK
  obtain ⟨s2, t1, hK⟩ := Option.bind_eq_some_iff.1 hK
  obtain ⟨σ2, t2, t3, t4⟩ := tidy_sound hi0 hs hp hmk t1
  split at hK
  · rename_i st pe f n env p as bo d hL
    have hbr := t2.inv.blk _ _ hL
    simp only [BRel] at hbr
    obtain ⟨c', cd, tm, fn', k1, k2, k3, k4, k5⟩ := hbr
    have hcc : c' = c := by
      obtain ⟨x, hx⟩ := hl0
      obtain ⟨blk', q1, q2⟩ := t3.keeps _ _ hx
      rw [hL] at q1; cases q1
      rcases q2 with q2 | ⟨_, _, q3⟩
      · cases q2
      · rw [k1, hc] at q3; exact Option.some.inj q3
    subst hcc
    have put : ∀ (st' : LoopState) (pe' : Option Code), HInv (w.putObj c'.1 (.loop { state := st', pending := pe', fn := fn', tmps := tm, params := p.toArray, assign := as, body := bo, defers := cd.1 })) σ2 (setNth s2.heap l (.loop st' pe' f n env p as bo d)) ∧
        Step w0 σ0 h0 (w.putObj c'.1 (.loop { state := st', pending := pe', fn := fn', tmps := tm, params := p.toArray, assign := as, body := bo, defers := cd.1 })) σ2 (setNth s2.heap l (.loop st' pe' f n env p as bo d)) := by
      intro st' pe'
      have hk : Keeps σ2.ι s2.heap σ2.ι (setNth s2.heap l (.loop st' pe' f n env p as bo d)) := Keeps.set _ _ _ hL (by simp) rfl
      have hm : Mine σ2 s2.heap c'.1 := ⟨l, c', ⟨_, hL, rfl⟩, k1, rfl⟩
      have hlt := t2.inv.lt hm
      obtain ⟨g1, g2⟩ := t2.inv.putLoop (x := .loop st' pe' f n env p as bo d) (o := .loop { state := st', pending := pe', fn := fn', tmps := tm, params := p.toArray, assign := as, body := bo, defers := cd.1 }) hL rfl k1 rfl
        ⟨c', cd, tm, fn', k1, k2, World.putObj_heap_same hlt, k4, fun t => ARel.mono (σ := σ2) (h := s2.heap) (fun b hb => ⟨hb, World.putObj_heap_other (by rintro rfl; exact t2.inv.sep _ hm hb)⟩) hk t2.inv.len _ _ (k5 t)⟩
      exact ⟨g1, t3.trans g2⟩
    cases ex with
    | norm =>
      simp only [ExRel] at he; subst he
      simp only [Option.some.injEq, Prod.mk.injEq] at hK
      obtain ⟨rfl, rfl⟩ := hK
      exact ⟨_, _, run_endRound none k3, _, σ2, rfl, (put .ready none).1, (put .ready none).2, by simp [ARel, DRel]⟩
    | ret =>
      simp only [ExRel] at he; subst he
      simp only [Option.some.injEq, Prod.mk.injEq] at hK
      obtain ⟨rfl, rfl⟩ := hK
      exact ⟨_, _, run_endRound (some .ret) k3, _, σ2, rfl, (put .done (some .ret)).1, (put .done (some .ret)).2, by simp [ARel, DRel]⟩
    | exit i =>
      simp only [ExRel] at he; subst he
      simp only [Option.some.injEq, Prod.mk.injEq] at hK
      obtain ⟨rfl, rfl⟩ := hK
      exact ⟨_, _, run_endRound (some (.exit i)) k3, _, σ2, rfl, (put .done (some (.exit i))).1, (put .done (some (.exit i))).2, by simp [ARel, DRel]⟩
  · cases hK

theorem roundE_sound {C : Ctx} (hT : TOK P C.T) (hE : EqOK P C.T) (hm : P.follows .mixedOrders = true) {E : Ev} (hV : EvOK P E) {k l : Nat} {as : List AV} {v : AV} (hK : roundE C E k l as h = some (v, h')) :
    ¬ isDead h l ∧ ∀ (w : World) (σ : Sg) (vs : Array Value) (c : Nat × Nat) (ro : Option Nat) (m : Nat), HInv w σ h → AVals w σ h as vs.toList → nth σ.ι l = some c →
    ∃ fn tmps asg body, (Instr.yield c.1 vs).run P w = .ok (.round c.1 fn tmps asg body) w ∧ RoundIn (FW ro) m P c.1 fn tmps asg body w fun e w' => ∃ u σ', e = .returned u ∧ HInv w' σ' h' ∧ Step w σ h w' σ' h' ∧ ARel w' σ' h' v u := by
  unfold roundE at hK
  split at hK
  · rename_i pe fid nt env ps asg bo df hL
    obtain ⟨hq, hK⟩ := cond_none hK
    simp only [Bool.and_eq_true, List.all_eq_true] at hq
    obtain ⟨q1, q2, q3, q4⟩ := hq
    have q1 := Nat.eq_of_beq_eq_true q1
    refine ⟨fun hd => (by unfold isDead at hd; rw [hd] at hL; cases hL), ?_⟩
    intro w σ vs c ro m hi hv hc
    have hbr := hi.blk _ _ hL
    simp only [BRel] at hbr
    obtain ⟨c', cd, tm, fn', k1, k2, k3, k4, k5⟩ := hbr
    rw [hc] at k1; cases k1
    have hlen := hv.get.1
    refine ⟨fn', _, asg, bo, run_yield k3 (by simp at hlen ⊢; omega), roundIn_of_wpIn trivial ?_⟩
    obtain ⟨p1, p2⟩ := putAll_rel ps as vs.toList env tm (fun t ht => by have := q4 t ht; rw [Nat.blt_eq] at this; rw [k4]; exact this) q1 hv k5
    have hfold : (Array.zip ps.toArray vs).foldl (fun tmps (t, a) => tmps.setIfInBounds t a) tm = (ps.zip vs.toList).foldl (fun tmps (t, a) => tmps.setIfInBounds t a) tm := by
      rw [← Array.foldl_toList, Array.toList_zip]
    rw [← hfold] at p1 p2
    have hs : SR nt [] w σ (putAll ps as env) h { tmps := (Array.zip ps.toArray vs).foldl (fun tmps (t, a) => tmps.setIfInBounds t a) tm, defers := [] } := ⟨hi, p1, by rw [p2]; exact k4, rfl⟩
    refine codeE_wp (out := none) (ro := some c.1) hT hE hm hV (fun M e => by cases e) hi asg 0 ⟨putAll ps as env, h, []⟩ _ _ w σ [] _ q2 hs (Step.refl _ _ _) rfl hK ?_
    intro ex s1 e a1 w1 σ1 DF1 g1 g2 g3 g4 g5
    cases ex with
    | norm =>
      simp only [ExRel] at g2; subst g2
      simp only at g1
      split at g1
      · rename_i pe1 f1 n1 env1 p1' as1 bo1 d1 hL1
        have hbr := g3.inv.blk _ _ hL1
        simp only [BRel] at hbr
        obtain ⟨c1, cd1, tm1, fn1, j1, j2, j3, j4, j5⟩ := hbr
        have hcc : c1 = c := by
          obtain ⟨blk', q1, q2⟩ := g4.keeps _ _ hL
          rw [hL1] at q1; cases q1
          rcases q2 with q2 | ⟨_, _, q3⟩
          · cases q2
          · rw [j1, hc] at q3; exact Option.some.inj q3
        subst hcc
        have hk : Keeps σ1.ι s1.heap σ1.ι (setNth s1.heap l (.loop .busy pe1 f1 n1 env1 p1' as1 bo1 d1)) := Keeps.set _ _ _ hL1 (by simp) rfl
        have hmi : Mine σ1 s1.heap c1.1 := ⟨l, c1, ⟨_, hL1, rfl⟩, j1, rfl⟩
        have hlt := g3.inv.lt hmi
        obtain ⟨b1, b2⟩ := g3.inv.putLoop (x := .loop .busy pe1 f1 n1 env1 p1' as1 bo1 d1) (o := .loop { state := .busy, pending := pe1, fn := fn1, tmps := tm1, params := p1'.toArray, assign := as1, body := bo1, defers := cd1.1 }) hL1 rfl j1 rfl
          ⟨c1, cd1, tm1, fn1, j1, j2, World.putObj_heap_same hlt, j4, fun t => ARel.mono (σ := σ1) (h := s1.heap) (fun b hb => ⟨hb, World.putObj_heap_other (by rintro rfl; exact g3.inv.sep _ hmi hb)⟩) hk g3.inv.len _ _ (j5 t)⟩
        refine ⟨_, run_beginRound j3 rfl, ?_⟩
        refine codeE_wp (out := none) (ro := some c1.1) hT hE hm hV (fun M e => by cases e) hi bo 0 ⟨s1.env, _, s1.marks⟩ _ _ _ σ1 DF1 _ q3 ⟨b1, b2.env g3.inv g3.env, g3.size, g3.defers⟩ (g4.trans b2) (g5.mono b2.keeps g3.inv.len) g1 ?_
        intro ex2 s2 e2 a2 w2 σ2 DF2 r1 r2 r3 r4 r5
        exact endE_sound hi r3 r4 r5 ⟨_, hL⟩ hc r1 r2
      · cases g1
    | exit i => simp at g1
    | ret => simp at g1
  · cases hK

end
end Go.AE

/- '==' on arrays and structs of scalars. -/
namespace Go.AE
open Go

section
variable {P : Program} {T : Tab TI} {w : World} {G : Nat → Prop}

/-- Whether a type's values are compared cell by cell, one behind the other. -/
def eqFsT (P : Program) (T : Tab TI) (n : Nat) (ok : Nat → Bool) : List Field → Nat → Bool
  | [], _ => true
  | f :: r, off => decide (f.name ≠ "_") && (Nat.beq f.offset off && (ok f.type && (Nat.beq (P.cellsOf f.type) (leaves T n f.type).length && ((P.info? f.type).isSome && eqFsT P T n ok r (off + (leaves T n f.type).length)))))

def eqOKT (P : Program) (T : Tab TI) : Nat → Nat → Bool
  | 0, _ => false
  | n + 1, t => match tget T t with
    | none => false
    | some ti => match ti.tag with
      | .bool => true
      | .int _ => true
      | .str => true
      | .array _ e => eqOKT P T n e && (Nat.beq (P.cellsOf e) (leaves T n e).length && (P.info? e).isSome)
      | .struct fs => !P.stoodInHeld t && ((match P.underlying t with
          | some (.struct F) => decide (F.toList.map (fun f => (f.offset, f.type)) = fs) && eqFsT P T n (eqOKT P T n) F.toList 0
          | _ => false))
      | _ => false

def eqTab (P : Program) (T : Tab TI) : Bool := T.all fun t ti => !(ti.agg && flatTy T t) || (eqOKT P T 4 t && !P.eqGuardType P.depth t)

/-- A part of a row as a value. -/
def partOf (P : Program) (t : TypeId) (vs : List Value) : Value :=
  match P.underlying t with
  | some (.struct _) => .agg vs.toArray
  | some (.array _ _) => .agg vs.toArray
  | _ => vs.headD undef

theorem run_partOf {t : TypeId} {cs : Array Value} {off : Nat} {v1 v2 : List Value} (hs : cs.toList.drop off = v1 ++ v2) (hl : v1.length = P.cellsOf t) (hi : (P.info? t).isSome = true) (hu : (P.underlying t).isSome = true)
    (h1 : (match P.underlying t with | some (.struct _) => True | some (.array _ _) => True | _ => P.cellsOf t = 1)) : (part t cs off).run P w = .ok (partOf P t v1) w := by
  obtain ⟨i, hi⟩ := Option.isSome_iff_exists.1 hi
  obtain ⟨d, hd⟩ := Option.isSome_iff_exists.1 hu
  have agg : ((isAgg t).run P w = .ok true w) → partOf P t v1 = .agg v1.toArray → (part t cs off).run P w = .ok (partOf P t v1) w := by
    intro ha hp
    unfold part
    rw [Sem.run_bind, ha, hp]
    simp only [Result.andThen_ok, if_true, Sem.run_bind, run_sizeOf w hi, Sem.run_pure]
    congr 2
    apply Array.toList_inj.1
    rw [Array.toList_extract]
    simp only [List.extract_eq_take_drop, Nat.add_sub_cancel_left]
    rw [hs, ← hl]; simp
  have plain : ((isAgg t).run P w = .ok false w) → P.cellsOf t = 1 → partOf P t v1 = v1.headD undef → (part t cs off).run P w = .ok (partOf P t v1) w := by
    intro ha hc hp
    unfold part
    rw [Sem.run_bind, ha, hp]
    rw [hc] at hl
    obtain ⟨v, rfl⟩ := List.length_eq_one_iff.1 hl
    have : cs[off]? = some v := getElem?_of_chunk (c := 1) (by rw [hs]; simp)
    simp [this]
  rw [hd] at h1
  cases d with
  | struct fs => exact agg (by simp [isAgg, run_underlying hd]) (by simp [partOf, hd])
  | array n e => exact agg (by simp [isAgg, run_underlying hd]) (by simp [partOf, hd])
  | _ => exact plain (by simp [isAgg, run_underlying hd]) h1 (by simp [partOf, hd])

theorem eqLT_app : ∀ {l1 l2 : List Nat} {xs ys : List DV} {b : Bool}, eqLT T (l1 ++ l2) xs ys = some b →
    ∃ x1 x2 y1 y2 b1 b2, xs = x1 ++ x2 ∧ ys = y1 ++ y2 ∧ x1.length = l1.length ∧ y1.length = l1.length ∧ eqLT T l1 x1 y1 = some b1 ∧ eqLT T l2 x2 y2 = some b2 ∧ b = (b1 && b2)
  | [], l2, xs, ys, b, h => ⟨[], xs, [], ys, true, b, rfl, rfl, rfl, rfl, rfl, h, by simp⟩
  | t :: l1, l2, [], ys, b, h => by simp [eqLT] at h
  | t :: l1, l2, x :: xs, [], b, h => by simp [eqLT] at h
  | t :: l1, l2, x :: xs, y :: ys, b, h => by
    simp only [List.cons_append, eqLT, Option.bind_eq_some_iff, Option.map_eq_some_iff] at h
    obtain ⟨b0, h1, b', h2, rfl⟩ := h
    obtain ⟨x1, x2, y1, y2, b1, b2, rfl, rfl, e1, e2, e3, e4, rfl⟩ := eqLT_app h2
    exact ⟨x :: x1, x2, y :: y1, y2, b0 && b1, b2, rfl, rfl, by simp [e1], by simp [e2], by simp [eqLT, h1, e3], e4, by rw [Bool.and_assoc]⟩

theorem eqLT_len : ∀ {l : List Nat} {xs ys : List DV} {b : Bool}, eqLT T l xs ys = some b → xs.length = l.length ∧ ys.length = l.length
  | [], [], [], _, _ => by simp
  | [], _ :: _, _, _, h => by simp [eqLT] at h
  | [], [], _ :: _, _, h => by simp [eqLT] at h
  | _ :: _, [], _, _, h => by simp [eqLT] at h
  | _ :: _, _ :: _, [], _, h => by simp [eqLT] at h
  | t :: l, x :: xs, y :: ys, b, h => by
    simp only [eqLT, Option.bind_eq_some_iff, Option.map_eq_some_iff] at h
    obtain ⟨_, _, b', h2, _⟩ := h
    have := eqLT_len h2
    simp [this.1, this.2]

theorem DVals.app : ∀ {x1 x2 : List DV} {vs : List Value}, DVals w G (x1 ++ x2) vs → ∃ v1 v2, vs = v1 ++ v2 ∧ DVals w G x1 v1 ∧ DVals w G x2 v2 ∧ v1.length = x1.length
  | [], x2, vs, h => ⟨[], vs, rfl, by simp [DVals], h, rfl⟩
  | x :: x1, x2, vs, h => by
    obtain ⟨v, r, rfl, h1, h2⟩ := h
    obtain ⟨v1, v2, rfl, h3, h4, h5⟩ := DVals.app h2
    exact ⟨v :: v1, v2, rfl, ⟨v, v1, rfl, h1, h3⟩, h4, by simp [h5]⟩

theorem DVals.len {xs : List DV} {vs : List Value} (h : DVals w G xs vs) : vs.length = xs.length := by
  have := h.get.1; omega

/-- A type whose cells are told: it is known to the program. -/
theorem eqOKT_known (hT : TOK P T) {n t : Nat} (h : eqOKT P T n t = true) : (P.info? t).isSome = true ∧ (P.underlying t).isSome = true ∧
    (match P.underlying t with | some (.struct _) => True | some (.array _ _) => True | _ => (leaves T n t).length = 1) := by
  cases n with
  | zero => simp [eqOKT] at h
  | succ n =>
    unfold eqOKT at h
    split at h
    · cases h
    · rename_i ti ht
      obtain ⟨i, hi, _⟩ := hT.info ht
      refine ⟨by rw [hi]; rfl, ?_⟩
      have htag := hT.tag ht
      cases hg : ti.tag <;> rw [hg] at h htag <;> simp only [tagOK] at htag h <;> try (cases h; done)
      · split at htag
        · rename_i hu; rw [hu]; exact ⟨rfl, by simp [leaves, ht, hg]⟩
        · cases htag
      · split at htag
        · rename_i hu; rw [hu]; exact ⟨rfl, by simp [leaves, ht, hg]⟩
        · cases htag
      · split at htag
        · rename_i hu; rw [hu]; exact ⟨rfl, by simp [leaves, ht, hg]⟩
        · cases htag
      · split at htag
        · rename_i hu; rw [hu]; exact ⟨rfl, trivial⟩
        · cases htag
      · split at htag
        · rename_i hu; rw [hu]; exact ⟨rfl, trivial⟩
        · cases htag

/-- What '==' answers at a type. -/
def EqFor (P : Program) (T : Tab TI) (D n t : Nat) : Prop :=
  ∀ (w : World) (G : Nat → Prop) (xs ys : List DV) (b : Bool) (vs us : List Value), eqLT T (leaves T n t) xs ys = some b → DVals w G xs vs → DVals w G ys us → (Op.equalIn D t (partOf P t vs) (partOf P t us)).run P w = .ok b w

theorem eqItems_ok (hT : TOK P T) {D n e : Nat} (hk : eqOKT P T n e = true) (hc : P.cellsOf e = (leaves T n e).length) (he : EqFor P T D n e) : ∀ (m s : Nat) (xs ys : List DV) (b : Bool) (cs ds : Array Value) (vs us : List Value),
    eqLT T (List.replicate m (leaves T n e)).flatten xs ys = some b → cs.toList.drop (s * P.cellsOf e) = vs → ds.toList.drop (s * P.cellsOf e) = us → DVals w G xs vs → DVals w G ys us →
    (Op.eqItems D e (P.cellsOf e) cs ds (List.range' s m)).run P w = .ok b w
  | 0, s, xs, ys, b, cs, ds, vs, us, h, _, _, _, _ => by
    have : b = true := by
      cases xs <;> cases ys <;> simp [eqLT] at h <;> exact h
    subst this
    simp [Op.eqItems]
  | m + 1, s, xs, ys, b, cs, ds, vs, us, h, hcs, hds, hv, hu => by
    rw [List.replicate_succ, List.flatten_cons] at h
    obtain ⟨x1, x2, y1, y2, b1, b2, rfl, rfl, e1, e2, e3, e4, rfl⟩ := eqLT_app h
    obtain ⟨v1, v2, rfl, q1, q2, q3⟩ := hv.app
    obtain ⟨u1, u2, rfl, r1, r2, r3⟩ := hu.app
    obtain ⟨k1, k2, k3⟩ := eqOKT_known hT hk
    have hone : (match P.underlying e with | some (.struct _) => True | some (.array _ _) => True | _ => P.cellsOf e = 1) := by rw [hc]; exact k3
    have p1 := run_partOf (P := P) (w := w) (t := e) hcs (by omega) k1 k2 hone
    have p2 := run_partOf (P := P) (w := w) (t := e) hds (by omega) k1 k2 hone
    have p3 := he w G x1 y1 b1 v1 u1 e3 q1 r1
    rw [List.range'_succ]
    simp only [Op.eqItems, Sem.run_bind, p1, p2, p3, Result.andThen_ok]
    cases b1 with
    | false => simp
    | true =>
      simp only [Bool.not_true, Bool.false_eq_true, if_false, Bool.true_and]
      refine eqItems_ok hT hk hc he m (s + 1) x2 y2 b2 cs ds v2 u2 e4 ?_ ?_ q2 r2
      · rw [Nat.add_mul, Nat.one_mul, ← List.drop_drop, hcs, show P.cellsOf e = v1.length by omega]; simp
      · rw [Nat.add_mul, Nat.one_mul, ← List.drop_drop, hds, show P.cellsOf e = u1.length by omega]; simp

theorem eqFields_ok (hT : TOK P T) {D n : Nat} (he : ∀ t, eqOKT P T n t = true → EqFor P T D n t) : ∀ (fs : List Field) (off : Nat) (xs ys : List DV) (b : Bool) (cs ds : Array Value) (vs us : List Value), eqFsT P T n (eqOKT P T n) fs off = true →
    eqLT T (fs.map fun f => leaves T n f.type).flatten xs ys = some b → cs.toList.drop off = vs → ds.toList.drop off = us → DVals w G xs vs → DVals w G ys us →
    (Op.eqFields D cs ds fs).run P w = .ok b w
  | [], off, xs, ys, b, cs, ds, vs, us, _, h, _, _, _, _ => by
    have : b = true := by
      cases xs <;> cases ys <;> simp [eqLT] at h <;> exact h
    subst this
    simp [Op.eqFields]
  | f :: fs, off, xs, ys, b, cs, ds, vs, us, hf, h, hcs, hds, hv, hu => by
    simp only [eqFsT, Bool.and_eq_true, decide_eq_true_eq] at hf
    obtain ⟨f1, f2, f3, f4, f5, f6⟩ := hf
    have f2 := Nat.eq_of_beq_eq_true f2
    have hc := Nat.eq_of_beq_eq_true f4
    rw [List.map_cons, List.flatten_cons] at h
    obtain ⟨x1, x2, y1, y2, b1, b2, rfl, rfl, e1, e2, e3, e4, rfl⟩ := eqLT_app h
    obtain ⟨v1, v2, rfl, q1, q2, q3⟩ := hv.app
    obtain ⟨u1, u2, rfl, r1, r2, r3⟩ := hu.app
    obtain ⟨k1, k2, k3⟩ := eqOKT_known hT f3
    have hone : (match P.underlying f.type with | some (.struct _) => True | some (.array _ _) => True | _ => P.cellsOf f.type = 1) := by rw [hc]; exact k3
    have p1 := run_partOf (P := P) (w := w) (t := f.type) hcs (by omega) k1 k2 hone
    have p2 := run_partOf (P := P) (w := w) (t := f.type) hds (by omega) k1 k2 hone
    have p3 := he f.type f3 w G x1 y1 b1 v1 u1 e3 q1 r1
    simp only [Op.eqFields, f1, ne_eq, not_false_eq_true, if_true, Sem.run_bind, f2, p1, p2, p3, Result.andThen_ok]
    cases b1 with
    | false => simp
    | true =>
      simp only [Bool.not_true, Bool.false_eq_true, if_false, Bool.true_and]
      refine eqFields_ok hT he fs _ x2 y2 b2 cs ds v2 u2 f6 e4 ?_ ?_ q2 r2
      · rw [← List.drop_drop, hcs, show (leaves T n f.type).length = v1.length by omega]; simp
      · rw [← List.drop_drop, hds, show (leaves T n f.type).length = u1.length by omega]; simp

theorem eq_for (hT : TOK P T) (D : Nat) : ∀ (n t : Nat), eqOKT P T n t = true → EqFor P T (n + D) n t
  | 0, t, h => by simp [eqOKT] at h
  | n + 1, t, h => by
    intro w G xs ys b vs us he hv hu
    have hlv := eqLT_len he
    unfold eqOKT at h
    split at h
    · cases h
    · rename_i ti ht
      rw [show n + 1 + D = (n + D) + 1 by omega]
      have one : leaves T (n + 1) t = [t] → ∃ x y v u, xs = [x] ∧ ys = [y] ∧ vs = [v] ∧ us = [u] ∧ DRel w G x v ∧ DRel w G y u ∧ (reveal T t x fun x' => reveal T t y fun y' => eqD x' y') = some b := by
        intro hl
        rw [hl] at he hlv
        obtain ⟨x, rfl⟩ := List.length_eq_one_iff.1 hlv.1
        obtain ⟨y, rfl⟩ := List.length_eq_one_iff.1 hlv.2
        obtain ⟨v, r, rfl, h1, h2⟩ := hv
        obtain ⟨u, r', rfl, h3, h4⟩ := hu
        simp only [DVals] at h2 h4; subst h2; subst h4
        simp only [eqLT, Option.bind_eq_some_iff, Option.map_eq_some_iff] at he
        obtain ⟨b0, e1, b1, e2, rfl⟩ := he
        cases e2
        exact ⟨x, y, v, u, rfl, rfl, rfl, rfl, h1, h3, by rw [e1]; simp⟩
      cases hg : ti.tag with
      | bool =>
        have hu' := hT.bool ht hg
        obtain ⟨x, y, v, u, rfl, rfl, rfl, rfl, h1, h3, e1⟩ := one (by simp [leaves, ht, hg])
        simp only [reveal, ht, hg] at e1
        cases x <;> simp only at e1 <;> try (cases e1; done)
        cases y <;> simp only at e1 <;> try (cases e1; done)
        simp only [DRel] at h1 h3
        subst h1; subst h3
        simp only [eqD, Option.some.injEq] at e1
        simp only [partOf, hu', List.headD_cons]
        rw [run_equalIn_bool w (n + D) t _ _ hu', e1]
      | int k =>
        have htag := hT.tag ht
        rw [hg] at htag
        simp only [tagOK] at htag
        split at htag
        · rename_i j hu'
          simp only [decide_eq_true_eq] at htag
          subst htag
          obtain ⟨x, y, v, u, rfl, rfl, rfl, rfl, h1, h3, e1⟩ := one (by simp [leaves, ht, hg])
          simp only [reveal, ht, hg] at e1
          cases x <;> simp only at e1 <;> try (cases e1; done)
          rename_i kx nx
          obtain ⟨q1, e1⟩ := cond_none e1
          cases y <;> simp only at e1 <;> try (cases e1; done)
          rename_i ky ny
          obtain ⟨q2, e1⟩ := cond_none e1
          simp only [DRel] at h1 h3
          simp only [decide_eq_true_eq] at q1 q2
          subst q1; subst q2
          subst h1; subst h3
          simp only [eqD, decide_true, cond_true, Option.some.injEq] at e1
          simp only [partOf, hu', List.headD_cons]
          rw [run_equalIn_int w (n + D) t _ _ _ _ hu', ← e1]
          rfl
        · cases htag
      | str =>
        have htag := hT.tag ht
        rw [hg] at htag
        simp only [tagOK] at htag
        split at htag
        · rename_i hu'
          obtain ⟨x, y, v, u, rfl, rfl, rfl, rfl, h1, h3, e1⟩ := one (by simp [leaves, ht, hg])
          simp only [reveal, ht, hg] at e1
          cases x <;> simp only at e1 <;> try (cases e1; done)
          cases y <;> simp only at e1 <;> try (cases e1; done)
          simp only [DRel] at h1 h3
          subst h1; subst h3
          simp only [eqD, Option.some.injEq] at e1
          simp only [partOf, hu', List.headD_cons]
          rw [run_equalIn_string w (n + D) t _ _ hu', ← e1, beq_toListBytes]
        · cases htag
      | array m e =>
        rw [hg] at h
        simp only [Bool.and_eq_true] at h
        obtain ⟨g1, g2, g3⟩ := h
        have g2 := Nat.eq_of_beq_eq_true g2
        obtain ⟨i, hi⟩ := Option.isSome_iff_exists.1 g3
        have htag := hT.tag ht
        rw [hg] at htag
        simp only [tagOK] at htag
        split at htag
        · rename_i m' e' hu'
          simp only [Bool.and_eq_true, decide_eq_true_eq] at htag
          obtain ⟨rfl, rfl⟩ := htag
          have hl : leaves T (n + 1) t = (List.replicate m' (leaves T n e')).flatten := by simp [leaves, ht, hg]
          rw [hl] at he
          simp only [partOf, hu']
          rw [run_equalIn_array w (n + D) _ _ hu' hi, List.range_eq_range']
          exact eqItems_ok hT g1 g2 (eq_for hT D n e' g1) m' 0 xs ys b _ _ vs us he (by simp) (by simp) hv hu
        · cases htag
      | struct fs =>
        rw [hg] at h
        simp only [Bool.and_eq_true, Bool.not_eq_true'] at h
        obtain ⟨g1, g2⟩ := h
        split at g2
        · rename_i F hu'
          simp only [Bool.and_eq_true, decide_eq_true_eq] at g2
          obtain ⟨rfl, g2⟩ := g2
          have hl : leaves T (n + 1) t = (F.toList.map fun f => leaves T n f.type).flatten := by simp [leaves, ht, hg, List.map_map, Function.comp_def]
          rw [hl] at he
          have hfo : P.fieldsOf t = F := by simp [Program.fieldsOf, hu']
          simp only [partOf, hu']
          rw [run_equalIn_struct w (n + D) t _ _ (by rw [hfo]; exact hu') g1, hfo]
          exact eqFields_ok hT (fun t' h' => eq_for hT D n t' h') F.toList 0 xs ys b _ _ vs us g2 he (by simp) (by simp) hv hu
        · cases g2
      | _ => rw [hg] at h; cases h

/-- Keys of types whose cells are scalars, one behind the other. -/
def KeyFor (P : Program) (T : Tab TI) (D n t : Nat) : Prop :=
  ∀ (w : World) (em : Bool) (vs : List Value), vs.length = (leaves T n t).length → (Instr.checkKey em D t (partOf P t vs)).run P w = .ok () w

theorem key_for (hT : TOK P T) (D : Nat) : ∀ (n t : Nat), eqOKT P T n t = true → KeyFor P T (n + D) n t
  | 0, t, h => by simp [eqOKT] at h
  | n + 1, t, h => by
    intro w em vs hl
    unfold eqOKT at h
    split at h
    · cases h
    · rename_i ti ht
      rw [show n + 1 + D = (n + D) + 1 by omega]
      have htag := hT.tag ht
      cases hg : ti.tag with
      | bool =>
        have hu' := hT.bool ht hg
        rw [Instr.checkKey]
        simp only [Sem.run_bind, run_underlying hu', Result.andThen_ok]
        rfl
      | int k =>
        rw [hg] at htag
        simp only [tagOK] at htag
        split at htag
        · rename_i j hu'
          rw [Instr.checkKey]
          simp only [Sem.run_bind, run_underlying hu', Result.andThen_ok]
          rfl
        · cases htag
      | str =>
        rw [hg] at htag
        simp only [tagOK] at htag
        split at htag
        · rename_i hu'
          rw [Instr.checkKey]
          simp only [Sem.run_bind, run_underlying hu', Result.andThen_ok]
          rfl
        · cases htag
      | array m e =>
        rw [hg] at h
        simp only [Bool.and_eq_true] at h
        obtain ⟨g1, g2, g3⟩ := h
        have g2 := Nat.eq_of_beq_eq_true g2
        obtain ⟨i, hi⟩ := Option.isSome_iff_exists.1 g3
        rw [hg] at htag
        simp only [tagOK] at htag
        split at htag
        · rename_i m' e' hu'
          simp only [Bool.and_eq_true, decide_eq_true_eq] at htag
          obtain ⟨rfl, rfl⟩ := htag
          have hlv : leaves T (n + 1) t = (List.replicate m' (leaves T n e')).flatten := by simp [leaves, ht, hg]
          rw [hlv] at hl
          have hl' : vs.length = m' * P.cellsOf e' := by rw [hl, g2]; simp
          simp only [partOf, hu']
          obtain ⟨k1, k2, k3⟩ := eqOKT_known hT g1
          have hone : (match P.underlying e' with | some (.struct _) => True | some (.array _ _) => True | _ => P.cellsOf e' = 1) := by rw [g2]; exact k3
          have IH := key_for hT D n e' g1
          rw [Instr.checkKey]
          simp only [Sem.run_bind, run_underlying hu', Result.andThen_ok]
          simp only [Std.Legacy.Range.forIn_eq_forIn_range', Std.Legacy.Range.size, Nat.sub_zero, Nat.add_one_sub_one, Nat.div_one]
          have hall : ∀ j ∈ List.range' 0 m', j < m' := by intro j hj; simpa using hj
          generalize List.range' 0 m' = is at hall
          induction is with
          | nil => simp
          | cons j is ih =>
            have hj := hall j (by simp)
            have hdr : ∃ v1 v2, vs.drop (j * P.cellsOf e') = v1 ++ v2 ∧ v1.length = P.cellsOf e' := by
              refine ⟨(vs.drop (j * P.cellsOf e')).take (P.cellsOf e'), (vs.drop (j * P.cellsOf e')).drop (P.cellsOf e'), (List.take_append_drop ..).symm, ?_⟩
              have : (j + 1) * P.cellsOf e' ≤ m' * P.cellsOf e' := Nat.mul_le_mul_right _ hj
              rw [Nat.add_mul, Nat.one_mul] at this
              simp only [List.length_take, List.length_drop]
              omega
            obtain ⟨v1, v2, d1, d2⟩ := hdr
            have p1 := run_partOf (P := P) (w := w) (t := e') (cs := vs.toArray) (by simpa using d1) d2 k1 k2 hone
            have p2 := IH w em v1 (by rw [d2, g2])
            simp only [List.forIn_cons, Sem.run_bind, run_sizeOf w hi, Result.andThen_ok, p1, p2, Sem.run_pure]
            exact ih (fun y hy => hall y (by simp [hy]))
        · cases htag
      | struct fs =>
        rw [hg] at h
        simp only [Bool.and_eq_true, Bool.not_eq_true'] at h
        obtain ⟨g1, g2⟩ := h
        split at g2
        · rename_i F hu'
          simp only [Bool.and_eq_true, decide_eq_true_eq] at g2
          obtain ⟨rfl, g2⟩ := g2
          have hlv : leaves T (n + 1) t = (F.toList.map fun f => leaves T n f.type).flatten := by simp [leaves, ht, hg, List.map_map, Function.comp_def]
          rw [hlv] at hl
          simp only [partOf, hu']
          rw [Instr.checkKey]
          simp only [Sem.run_bind, run_underlying hu', Result.andThen_ok]
          rw [← Array.forIn_toList]
          have IH := fun t' h' => key_for hT D n t' h'
          have gen : ∀ (L : List Field) (off : Nat) (us : List Value), eqFsT P T n (eqOKT P T n) L off = true → vs.drop off = us → us.length = (L.map fun f => leaves T n f.type).flatten.length →
              (forIn (m := Sem) L PUnit.unit fun f _ => (do
                if f.name ≠ "_" then do
                  Instr.checkKey em (n + D) f.type (← part f.type vs.toArray f.offset)
                  pure PUnit.unit
                else pure PUnit.unit
                pure (ForInStep.yield PUnit.unit))).run P w = .ok PUnit.unit w := by
            intro L
            induction L with
            | nil => intro off us _ _ _; simp
            | cons f L ih =>
              intro off us hf hd hlen
              simp only [eqFsT, Bool.and_eq_true, decide_eq_true_eq] at hf
              obtain ⟨f1, f2, f3, f4, f5, f6⟩ := hf
              have f2 := Nat.eq_of_beq_eq_true f2
              have hc := Nat.eq_of_beq_eq_true f4
              rw [List.map_cons, List.flatten_cons, List.length_append] at hlen
              obtain ⟨k1, k2, k3⟩ := eqOKT_known hT f3
              have hone : (match P.underlying f.type with | some (.struct _) => True | some (.array _ _) => True | _ => P.cellsOf f.type = 1) := by rw [hc]; exact k3
              obtain ⟨v1, v2, d1, d2⟩ : ∃ v1 v2, us = v1 ++ v2 ∧ v1.length = P.cellsOf f.type :=
                ⟨us.take (P.cellsOf f.type), us.drop (P.cellsOf f.type), (List.take_append_drop ..).symm, by rw [List.length_take]; omega⟩
              have p1 := run_partOf (P := P) (w := w) (t := f.type) (cs := vs.toArray) (off := off) (by simpa using hd.trans d1) d2 k1 k2 hone
              have p2 := IH f.type f3 w em v1 (by rw [d2, hc])
              simp only [List.forIn_cons, f1, ne_eq, not_false_eq_true, if_true, Sem.run_bind, f2, p1, p2, Result.andThen_ok, Sem.run_pure]
              exact ih _ v2 f6 (by rw [← List.drop_drop, hd, d1, ← hc, ← d2]; simp) (by rw [d1, List.length_append] at hlen; omega)
          have h9 := gen F.toList 0 vs g2 (by simp) hl
          simp at h9 ⊢
          rw [h9]
          rfl
        · cases g2
      | _ => rw [hg] at h; cases h

theorem EqOK.of_check (hT : TOK P T) (h : eqTab P T = true) : EqOK P T := by
  have hp : ∀ (t : Nat) (ti : TI), tget T t = some ti → ti.agg = true → ∀ l : Array Value, partOf P t l.toList = .agg l := by
    intro t ti ht hag l
    have htag := hT.tag ht
    unfold partOf
    cases hg : ti.tag <;> simp [TI.agg, hg] at hag <;> rw [hg] at htag <;> simp only [tagOK] at htag
    · split at htag
      · rename_i hu'; rw [hu']
      · cases htag
    · split at htag
      · rename_i hu'; rw [hu']
      · cases htag
  refine ⟨?_, ?_⟩
  · intro t ti xs ys b ht hag hf he w G vs us hv hu
    have := Tab.get_all h t ti ht
    rw [hag, hf] at this
    simp only [Bool.and_self, Bool.not_true, Bool.false_or, Bool.and_eq_true, Bool.not_eq_true'] at this
    refine ⟨this.2, ?_⟩
    have hk := eq_for hT (Op.maxDepth - 4) 4 t this.1 w G xs ys b vs.toList us.toList he hv hu
    rw [hp t ti ht hag, hp t ti ht hag] at hk
    exact hk
  · intro t ti ht hag hf w em vs hl
    have := Tab.get_all h t ti ht
    rw [hag, hf] at this
    simp only [Bool.and_self, Bool.not_true, Bool.false_or, Bool.and_eq_true, Bool.not_eq_true'] at this
    have hk := key_for hT (10000 - 4) 4 t this.1 w em vs.toList (by simpa using hl)
    rw [hp t ti ht hag] at hk
    exact hk
end
end Go.AE

/- Calls that are told one by one, and loops that are told: how a function's contract is shown from its code. -/
namespace Go.AE
open Go

section
variable {P : Program}

/-- Numbers as data. -/
abbrev iD (n : Int) : DV := .int .i64 n
abbrev bD (b : Bool) : DV := .bool b
def ints (l : List Int) : List DV := l.map iD
def bools (l : List Bool) : List DV := l.map bD

/-- What is told of one call from data to data. -/
def PureOK (P : Program) (f : FuncId) (ds : List DV) (d : DV) : Prop :=
  Enters P f ∧ ∀ (w : World) (G : Nat → Prop) (vs : Array Value), (∀ k, G k → k < w.heap.size) → GlobOK w G → DVals w G ds vs.toList →
    Calls P f vs w fun e w' => ∃ v, e = .returned v ∧ Go.RowKit.Below w.heap.size w w' ∧ DRel w' (fun k => (freshF f = false ∧ G k) ∨ (w.heap.size ≤ k ∧ k < w'.heap.size)) d v

/-- What is told of one call in the caller's memory. -/
def CallOK (P : Program) (f : FuncId) (as : List AV) (h : List Blk) (v : AV) (h' : List Blk) : Prop :=
  Enters P f ∧ ∀ (w : World) (σ : Sg) (vs : Array Value), HInv w σ h → AVals w σ h as vs.toList →
    Calls P f vs w fun e w' => ∃ u σ', e = .returned u ∧ HInv w' σ' h' ∧ Step w σ h w' σ' h' ∧ ARel w' σ' h' v u

def Ev.nil : Ev := ⟨fun _ _ => .fail, fun _ _ _ => .fail, fun _ _ _ => .fail⟩

def Ev.add (E : Ev) (f : FuncId) (spec : List DV → Tr DV) : Ev := { E with pure := fun g ds => .node (Nat.beq g f) (spec ds) (E.pure g ds) }

theorem EvOK.nil : EvOK P Ev.nil := ⟨by intro f ds d e; simp [Ev.nil, Tr.val] at e, by intro f as h v h' e; simp [Ev.nil, Tr.val] at e, by intro f as h v h' e; simp [Ev.nil, Tr.val] at e, by intro l as h v h' e; simp [Ev.nil, Tr.val] at e⟩

theorem EvOK.add {E : Ev} (hE : EvOK P E) {f : FuncId} {spec : List DV → Tr DV} (hs : ∀ ds d, (spec ds).val = some d → PureOK P f ds d) : EvOK P (E.add f spec) := by
  refine ⟨fun g ds d e => ?_, hE.fn, hE.calm, hE.round⟩
  simp only [Ev.add, Tr.val] at e
  cases c : Nat.beq g f with
  | true => rw [c] at e; rw [Nat.eq_of_beq_eq_true c]; exact hs ds d e
  | false => rw [c] at e; exact hE.pure g ds d e

theorem pureE_ok {C : Ctx} (hT : TOK P C.T) (hQ : EqOK P C.T) (hm : P.follows .mixedOrders = true) {E : Ev} (hE : EvOK P E) {k : Nat} {f : FuncId} {fn : Func} (hf : FnOK P C f fn) {ds : List DV} {d : DV} (e : pureE C E k f fn ds = some d) : PureOK P f ds d := by
  unfold pureE at e
  obtain ⟨k1, k2⟩ := bodyE_calls hT hQ hm hE hf e
  refine ⟨k1, fun w G vs hG hg q => ?_⟩
  have hi : HInv w ⟨G, []⟩ [] := ⟨rfl, by intro b x hb; simp [nth] at hb, by rintro b1 b2 c1 c2 ⟨x, hx, _⟩; simp [nth] at hx, by rintro k ⟨b, c, ⟨x, hx, _⟩, _⟩; simp [nth] at hx, hG, hg⟩
  refine Calls.mono (k2 w ⟨G, []⟩ vs hi (AVals.to_D q)) ?_
  rintro e w' ⟨v, h', u, σ', g1, rfl, g2, g3, g4⟩
  have hno : ∀ k, ¬ Mine ⟨G, []⟩ [] k := by rintro k ⟨b, c, ⟨x, hx, _⟩, _⟩; simp [nth] at hx
  refine ⟨u, rfl, ⟨g3.os, g3.tape, g3.output, g3.size, fun k hk => g3.other k hk (hno k)⟩, ?_⟩
  refine (freezeP_rel g2 g1 g4).wider ?_
  rintro k (⟨hfr, hk⟩ | ⟨b, c, _, hb, hc, rfl⟩)
  · rcases g3.more k hk with m | m | m
    · exact .inl ⟨hfr, m⟩
    · exact absurd m (hno k)
    · exact .inr ⟨m, g2.bound k hk⟩
  · rcases g3.mine c.1 ⟨b, c, hb, hc, rfl⟩ with m | m
    · exact absurd m (hno _)
    · exact .inr ⟨m, g2.lt ⟨b, c, hb, hc, rfl⟩⟩

theorem bodyE_ok {C : Ctx} (hT : TOK P C.T) (hQ : EqOK P C.T) (hm : P.follows .mixedOrders = true) {E : Ev} (hE : EvOK P E) {k : Nat} {f : FuncId} {fn : Func} (hf : FnOK P C f fn) {as : List AV} {h h' : List Blk} {v : AV}
    (e : bodyE C E k f fn as h (fun v h' => some (v, h')) = some (v, h')) : CallOK P f as h v h' := by
  obtain ⟨k1, k2⟩ := bodyE_calls hT hQ hm hE hf e
  refine ⟨k1, fun w σ vs hi q => Calls.mono (k2 w σ vs hi q) ?_⟩
  rintro e w' ⟨v', h'', u, σ', g1, rfl, g2, g3, g4⟩
  cases g1
  exact ⟨u, σ', rfl, g2, g3, g4⟩
end

/-! ### Code whose loops are told -/
/-- What a loop comes to, by cases. -/
inductive DT where
  | leaf (ex : Ex) (s : St)
  | node (b : Bool) (x y : DT)
  | fail

def DT.val : DT → Option (Ex × St)
  | .leaf ex s => some (ex, s)
  | .node b x y => cond b x.val y.val
  | .fail => none

def DT.at (s : Option St) (f : St → DT) : DT :=
  match s with
  | some s => f s
  | none => .fail

section
variable {R : Type}

def DT.run : DT → (Ex → St → Option R) → Option R
  | .leaf ex s, K => K ex s
  | .node b x y, K => cond b (x.run K) (y.run K)
  | .fail, _ => none

theorem DT.run_eq (K : Ex → St → Option R) : ∀ t : DT, t.run K = t.val.bind fun p => K p.1 p.2
  | .leaf _ _ => rfl
  | .node b x y => by
    simp only [DT.run, DT.val]
    cases b with
    | true => exact DT.run_eq K x
    | false => exact DT.run_eq K y
  | .fail => rfl

/-- Only jumps to a block of the text. -/
def smallK (K : Ex → St → Option R) : Ex → St → Option R
  | .exit i, s => cond (Nat.blt i 1000000) (K (.exit i) s) none
  | e, s => K e s

/-- Code; what a loop comes to is told by Lo. -/
def codeL (C : Ctx) (E : Ev) (Lo : Nat → St → DT) (fid base : Nat) (res : List Nat) (out : Option Nat) : Nat → Code → St → (Ex → St → Option R) → Option R
  | _, .skip, s, K => K .norm s
  | _, .region id ops drawn, s, K => cond drawn (drawE C E fid id ops s.env s.heap fun env h => K .norm ⟨env, h, s.marks⟩) (runE C E ops.toList ops.toList s.env s.heap fun env h => K .norm ⟨env, h, s.marks⟩)
  | bid, .seq a b, s, K => codeL C E Lo fid base res out bid a s fun ex s' => match ex with
    | .norm => codeL C E Lo fid base res out bid b s' K
    | e => K e s'
  | bid, .cond c a b, s, K => match ev s.env c with
    | .d (.bool x) => cond x (codeL C E Lo fid base res out bid a s K) (codeL C E Lo fid base res out bid b s K)
    | _ => none
  | _, .block id b, s, K => codeL C E Lo fid base res out id b s fun ex s' => match ex with
    | .exit i => cond (Nat.beq i id) (K .norm s') (K (.exit i) s')
    | e => K e s'
  | bid, .loop _, s, K => (Lo bid s).run K
  | _, .exit id, s, K => (tidyP base (C.xpol fid id) s).bind fun s' => K (.exit id) s'
  | bid, .scope b, s, K => codeL C E Lo fid base res out bid b s K
  | _, .label _, s, K => K .norm s
  | _, .ret, s, K => (tidy base ⟨res, [], []⟩ s).bind fun s' => K .ret s'
  | _, .rangeFunc g ps as bo, s, K => match out with
    | none => none
    | some N => match ev s.env g with
      | .d (.fn gf [] b) => rangeE E base res fid N ps.toList as bo s gf (b.map .d) (smallK K)
      | .fn gf [] b => rangeE E base res fid N ps.toList as bo s gf b (smallK K)
      | _ => none
  | _, _, _, _ => none

/-- What holds of each loop that is not within another one. -/
def allLoops (Q : Nat → Code → Prop) : Nat → Code → Prop
  | bid, .seq a b => allLoops Q bid a ∧ allLoops Q bid b
  | bid, .cond _ a b => allLoops Q bid a ∧ allLoops Q bid b
  | _, .block id b => allLoops Q id b
  | bid, .loop b => Q bid b
  | bid, .scope b => allLoops Q bid b
  | _, _ => True

/-- The body of the loop in a block. -/
def findLoop (t : Nat) : Nat → Code → Option Code
  | bid, .seq a b => match findLoop t bid a with
    | some c => some c
    | none => findLoop t bid b
  | bid, .cond _ a b => match findLoop t bid a with
    | some c => some c
    | none => findLoop t bid b
  | _, .block id b => findLoop t id b
  | bid, .loop b => cond (Nat.beq bid t) (some b) (findLoop t bid b)
  | bid, .scope b => findLoop t bid b
  | bid, .rangeFunc _ _ _ b => findLoop t bid b
  | _, _ => none

/-- The loops that are not within another one. -/
def loopsL : Nat → Code → List (Nat × Code)
  | bid, .seq a b => loopsL bid a ++ loopsL bid b
  | bid, .cond _ a b => loopsL bid a ++ loopsL bid b
  | _, .block id b => loopsL id b
  | bid, .loop b => [(bid, b)]
  | bid, .scope b => loopsL bid b
  | _, _ => []

theorem allLoops_of {Q : Nat → Code → Prop} : ∀ (c : Code) (bid : Nat), (∀ p ∈ loopsL bid c, Q p.1 p.2) → allLoops Q bid c := by
  intro c
  induction c with
  | seq a b iha ihb => intro bid h; exact ⟨iha bid fun p hp => h p (by simp [loopsL, hp]), ihb bid fun p hp => h p (by simp [loopsL, hp])⟩
  | cond x a b iha ihb => intro bid h; exact ⟨iha bid fun p hp => h p (by simp [loopsL, hp]), ihb bid fun p hp => h p (by simp [loopsL, hp])⟩
  | block id b ih => intro bid h; exact ih id h
  | loop b _ => intro bid h; exact h (bid, b) (by simp [loopsL])
  | scope b ih => intro bid h; exact ih bid h
  | _ => intro bid _; trivial

def bodyOf (fn : Func) : Code := fn.body.getD .skip
def loopOf (fn : Func) (t : Nat) : Code := (findLoop t 0 (bodyOf fn)).getD .skip

end

section
variable {C : Ctx} {E : Ev} {fid base : Nat} {res : List Nat} {out : Option Nat} {Lo : Nat → St → DT}

/-- What code comes to, with enough rounds. -/
def Runs (C : Ctx) (E : Ev) (fid base : Nat) (res : List Nat) (out : Option Nat) (bid : Nat) (c : Code) (s : St) (ex : Ex) (s' : St) : Prop :=
  ∃ k0, ∀ k, k0 ≤ k → ∀ (R : Type) (K : Ex → St → Option R), codeE C E fid base k res out bid c s K = K ex s'

/-- The loops of some code come to what is told of them. -/
def LoopsOK (C : Ctx) (E : Ev) (Lo : Nat → St → DT) (fid base : Nat) (res : List Nat) (out : Option Nat) (bid : Nat) (c : Code) : Prop :=
  allLoops (fun i b => ∀ s p, (Lo i s).val = some p → Runs C E fid base res out i (.loop b) s p.1 p.2) bid c

theorem fac_runE {all : List Oper} : ∀ {ops : List Oper} {env : List (Nat × AV)} {h : List Blk}, Fac2 (fun R K => runE (R := R) C E all ops env h K)
  | [], env, h => .ret _ _
  | ⟨dst, op, _, _, _, guard⟩ :: r, env, h => by
    unfold runE
    cases guard with
    | none => exact fac_opE.bd2 fun _ _ => fac_runE
    | some g =>
      obtain ⟨j, want⟩ := g
      dsimp only
      cases dstOf all j with
      | none => exact .no
      | some t =>
        dsimp only
        cases look env t with
        | d x => cases x with
          | bool b => exact .cnd _ (.cnd _ (fac_opE.bd2 fun _ _ => fac_runE) fac_runE) (.cnd _ fac_runE (fac_opE.bd2 fun _ _ => fac_runE))
          | tup l => cases l with
            | nil => exact fac_runE
            | cons _ _ => exact .no
          | _ => exact .no
        | _ => exact .no

theorem fac_drawE {id : Nat} {ops : Array Oper} {env : List (Nat × AV)} {h : List Blk} : Fac2 (fun R K => drawE (R := R) C E fid id ops env h K) := by
  unfold drawE
  cases C.plan fid id with
  | none => exact .no
  | some p =>
    dsimp only
    have main : ∀ (steps : List PStep) (log : List (Nat × List Nat)) (env : List (Nat × AV)) (h : List Blk), Fac2 (fun R K => drawS (R := R) C E ops.toList steps log env h K) := by
      intro steps
      induction steps with
      | nil => intro log env h; exact .ret _ _
      | cons st r ih =>
        intro log env h
        have hst : ∀ (op : Op) (env1 : List (Nat × AV)) (env2 : AV → List (Nat × AV)), Fac2 (fun R K => stepE (R := R) C E ops.toList st log op env1 h fun v h log => drawS C E ops.toList r log (env2 v) h K) := by
          intro op env1 env2
          unfold stepE
          have hold : Fac2 (fun R K => opQ (R := R) C E op env1 (killB (st.fl.flatMap (logOf log)) h) fun v => drawS C E ops.toList r log (env2 v) h K) := ?_
          · exact .cnd _ (fac_opE.bd2 fun _ _ => ih _ _ _) (fac2_opAE (fac2_opLE hold fun v b t => .cnd _ (ih _ _ _) hold) fun v b => .cnd _ (ih _ _ _) hold)
          by_cases hq : ∃ v, ∀ R (K : AV → Option R), opQ C E op env1 (killB (st.fl.flatMap (logOf log)) h) K = K v
          · obtain ⟨v, hv⟩ := hq
            rcases ih log (env2 v) h with ⟨x, y, hx⟩ | hx
            · exact .inl ⟨x, y, fun R K => (hv _ _).trans (hx R K)⟩
            · exact .inr fun R K => (hv _ _).trans (hx R K)
          · right
            intro R K
            cases he : opQ C E op env1 (killB (st.fl.flatMap (logOf log)) h) (fun v => drawS C E ops.toList r log (env2 v) h K) with
            | none => exact he
            | some x =>
              obtain ⟨v, _, _, h3⟩ := opQ_par he
              exact absurd ⟨v, h3⟩ hq
        unfold drawS
        cases nth ops.toList st.j with
        | none => exact .no
        | some o =>
          obtain ⟨dst, op, ty, af, pos, guard⟩ := o
          dsimp only
          refine .cnd _ ?_ ?_
          · cases layE C ops.toList st.j with
            | none => exact .no
            | some _ => exact .cnd _ .no (ih _ _ _)
          · cases st.ini with
            | some a =>
              dsimp only
              cases layE C ops.toList a with
              | none => exact .no
              | some sz =>
                obtain ⟨s, z⟩ := sz
                cases guard with
                | some _ => exact .no
                | none => cases dst with
                  | some _ => exact .no
                  | none => cases op with
                    | store t ad v => cases ad with
                      | tmp s' => exact .cnd _ (fac_opE.bd2 fun _ _ => ih _ _ _) .no
                      | _ => exact .no
                    | _ => exact .no
            | none =>
              dsimp only
              cases guard with
              | none => exact hst _ _ _
              | some g =>
                obtain ⟨j, want⟩ := g
                dsimp only
                cases dstOf ops.toList j with
                | none => exact .no
                | some t =>
                  dsimp only
                  cases look env t with
                  | d x => cases x with
                    | bool b => exact .cnd _ (.cnd _ (hst _ _ _) (ih _ _ _)) (.cnd _ (ih _ _ _) (hst _ _ _))
                    | tup l => cases l with
                      | nil => exact ih _ _ _
                      | cons _ _ => exact .no
                    | _ => exact .no
                  | _ => exact .no
    exact main _ _ _ _

theorem fac_rangeE {N : Nat} {ps : List Tmp} {as bo : Code} {s : St} {gf : FuncId} {b : List AV} : Fac2 (fun R K => rangeE (R := R) E base res fid N ps as bo s gf b K) := by
  unfold rangeE
  refine .tr _ fun p => ?_
  unfold backE
  cases nth p.2 (s.heap.length + 1) with
  | none => exact .no
  | some x => cases x with
    | loop st pe _ _ _ _ _ _ _ =>
      dsimp only
      have main : Fac2 (fun R (K : Ex → St → Option R) => match pe with
          | none => K .norm ⟨s.env, setNth p.2 (s.heap.length + 1) .dead, s.heap.length :: s.marks⟩
          | some .ret => (tidy base ⟨res, [], []⟩ ⟨s.env, setNth p.2 (s.heap.length + 1) .dead, s.heap.length :: s.marks⟩).bind fun s' => K .ret s'
          | some (.exit id) => K (.exit id) ⟨s.env, setNth p.2 (s.heap.length + 1) .dead, s.heap.length :: s.marks⟩
          | some _ => none) := by
        cases pe with
        | none => exact .ret _ _
        | some c => cases c with
          | ret => exact .ob _ fun _ => .ret _ _
          | exit id => exact .ret _ _
          | _ => exact .no
      cases st with
      | busy => exact .no
      | _ => exact main
    | _ => exact .no

theorem hands_eq {X Y : Type} {a a' : X} {b b' : Y} (h : ∀ (R : Type) (K : X → Y → Option R), K a b = K a' b') : a = a' ∧ b = b' := by
  have := h (X × Y) fun x y => some (x, y)
  simpa using this

theorem fac_small {f : (R : Type) → (Ex → St → Option R) → Option R} (hf : Fac2 f) : Fac2 (fun R K => f R (smallK K)) :=
  hf.bd2 (g := fun ex s R K => smallK K ex s) fun ex s => by cases ex <;> first | exact .cnd _ (.ret _ _) .no | exact .ret _ _

theorem small_hands {f : (R : Type) → (Ex → St → Option R) → Option R} (hf : Fac2 f) {ex : Ex} {s : St} (h : ∀ (R : Type) (K : Ex → St → Option R), f R (smallK K) = K ex s) :
    (∀ (R : Type) (K : Ex → St → Option R), f R K = K ex s) ∧ ∀ i, ex = .exit i → i < 1000000 := by
  rcases hf with ⟨e1, s1, hf⟩ | hf
  · have h1 : ∀ (R : Type) (K : Ex → St → Option R), smallK K e1 s1 = K ex s := fun R K => (hf R _).symm.trans (h R K)
    cases e1 with
    | norm =>
      obtain ⟨rfl, rfl⟩ := hands_eq (a := Ex.norm) (b := s1) h1
      exact ⟨hf, by simp⟩
    | ret =>
      obtain ⟨rfl, rfl⟩ := hands_eq (a := Ex.ret) (b := s1) h1
      exact ⟨hf, by simp⟩
    | exit i =>
      cases hb : Nat.blt i 1000000 with
      | false => have := h1 Unit fun _ _ => some (); simp [smallK, hb] at this
      | true =>
        have h2 : ∀ (R : Type) (K : Ex → St → Option R), K (.exit i) s1 = K ex s := fun R K => by have := h1 R K; simpa [smallK, hb] using this
        obtain ⟨rfl, rfl⟩ := hands_eq h2
        refine ⟨hf, fun j e => ?_⟩
        cases e
        rwa [Nat.blt_eq] at hb
  · have := (hf _ _).symm.trans (h Unit fun _ _ => some ()); cases this

theorem fac_codeL : ∀ (c : Code) (bid : Nat) (s : St), Fac2 (fun R K => codeL (R := R) C E Lo fid base res out bid c s K) := by
  intro c
  induction c with
  | skip => intro bid s; exact .ret _ _
  | label l => intro bid s; exact .ret _ _
  | exit id => intro bid s; exact .ob _ fun _ => .ret _ _
  | ret => intro bid s; exact .ob _ fun _ => .ret _ _
  | region id ops drawn =>
    intro bid s
    refine .cnd _ ?_ ?_
    · rcases fac_drawE (C := C) (E := E) (fid := fid) (id := id) (ops := ops) (env := s.env) (h := s.heap) with ⟨x, y, h⟩ | h
      · exact .inl ⟨.norm, ⟨x, y, s.marks⟩, fun R K => h R _⟩
      · exact .inr fun R K => h R _
    · rcases fac_runE (C := C) (E := E) (all := ops.toList) (ops := ops.toList) (env := s.env) (h := s.heap) with ⟨x, y, h⟩ | h
      · exact .inl ⟨.norm, ⟨x, y, s.marks⟩, fun R K => h R _⟩
      · exact .inr fun R K => h R _
  | seq a b iha ihb =>
    intro bid s
    exact (iha bid s).bd2 fun ex s' => by cases ex <;> first | exact ihb bid s' | exact .ret _ _
  | cond x a b iha ihb =>
    intro bid s
    unfold codeL
    cases ev s.env x with
    | d v => cases v with
      | bool x => exact .cnd _ (iha bid s) (ihb bid s)
      | _ => exact .no
    | _ => exact .no
  | block id b ih =>
    intro bid s
    exact (ih id s).bd2 fun ex s' => by cases ex <;> first | exact .cnd _ (.ret _ _) (.ret _ _) | exact .ret _ _
  | loop b _ =>
    intro bid s
    rcases (Fac2.ob (X := Ex × St) (Lo bid s).val (g := fun p R K => K p.1 p.2) fun p => .ret _ _) with ⟨x, y, h⟩ | h
    · exact .inl ⟨x, y, fun R K => (DT.run_eq K _).trans (h R K)⟩
    · exact .inr fun R K => (DT.run_eq K _).trans (h R K)
  | scope b ih => intro bid s; exact ih bid s
  | rangeFunc g ps as bo _ _ =>
    intro bid s
    unfold codeL
    cases out with
    | none => exact .no
    | some N =>
      dsimp only
      cases ev s.env g with
      | d v => cases v with
        | fn gf a b => cases a with
          | nil => exact fac_small fac_rangeE
          | cons _ _ => exact .no
        | _ => exact .no
      | fn gf a b => cases a with
        | nil => exact fac_small fac_rangeE
        | cons _ _ => exact .no
      | _ => exact .no
  | _ => intro bid s; exact .no

/-- What code comes to by what is told of its loops, it comes to. -/
theorem codeL_runs : ∀ (c : Code) (bid : Nat) (s : St) (ex : Ex) (s' : St), LoopsOK C E Lo fid base res out bid c → (∀ (R : Type) (K : Ex → St → Option R), codeL C E Lo fid base res out bid c s K = K ex s') →
    Runs C E fid base res out bid c s ex s' := by
  intro c
  induction c with
  | seq a b iha ihb =>
    intro bid s ex s' hl h
    obtain ⟨hla, hlb⟩ := hl
    rcases fac_codeL (C := C) (E := E) (Lo := Lo) (fid := fid) (base := base) (res := res) (out := out) a bid s with ⟨e1, s1, h1⟩ | h1
    · replace h1 : ∀ (R : Type) (K : Ex → St → Option R), codeL C E Lo fid base res out bid a s K = K e1 s1 := h1
      obtain ⟨k1, r1⟩ := iha bid s e1 s1 hla h1
      cases e1 with
      | norm =>
        have h2 : ∀ (R : Type) (K : Ex → St → Option R), codeL C E Lo fid base res out bid b s1 K = K ex s' := fun R K => by
          have := h R K
          simp only [codeL] at this
          rw [h1] at this
          exact this
        obtain ⟨k2, r2⟩ := ihb bid s1 ex s' hlb h2
        refine ⟨max k1 k2, fun k hk R K => ?_⟩
        simp only [codeE]
        rw [r1 k (by omega)]
        exact r2 k (by omega) R K
      | exit i =>
        have : ∀ (R : Type) (K : Ex → St → Option R), K (.exit i) s1 = K ex s' := fun R K => by
          have := h R K
          simp only [codeL] at this
          rw [h1] at this
          exact this
        obtain ⟨rfl, rfl⟩ := hands_eq this
        exact ⟨k1, fun k hk R K => by simp only [codeE]; rw [r1 k hk]⟩
      | ret =>
        have : ∀ (R : Type) (K : Ex → St → Option R), K .ret s1 = K ex s' := fun R K => by
          have := h R K
          simp only [codeL] at this
          rw [h1] at this
          exact this
        obtain ⟨rfl, rfl⟩ := hands_eq this
        exact ⟨k1, fun k hk R K => by simp only [codeE]; rw [r1 k hk]⟩
    · replace h1 : ∀ (R : Type) (K : Ex → St → Option R), codeL C E Lo fid base res out bid a s K = none := h1
      have := h Unit fun _ _ => some ()
      simp only [codeL] at this
      rw [h1] at this; cases this
  | cond x a b iha ihb =>
    intro bid s ex s' hl h
    obtain ⟨hla, hlb⟩ := hl
    unfold codeL at h
    cases hx : ev s.env x with
    | d v =>
      cases v with
      | bool y =>
        rw [hx] at h
        cases y with
        | true =>
          obtain ⟨k1, r1⟩ := iha bid s ex s' hla h
          exact ⟨k1, fun k hk R K => by simp only [codeE, hx, cond_true]; exact r1 k hk R K⟩
        | false =>
          obtain ⟨k1, r1⟩ := ihb bid s ex s' hlb h
          exact ⟨k1, fun k hk R K => by simp only [codeE, hx, cond_false]; exact r1 k hk R K⟩
      | _ => rw [hx] at h; have := h Unit fun _ _ => some (); cases this
    | _ => rw [hx] at h; have := h Unit fun _ _ => some (); cases this
  | block id b ih =>
    intro bid s ex s' hl h
    rcases fac_codeL (C := C) (E := E) (Lo := Lo) (fid := fid) (base := base) (res := res) (out := out) b id s with ⟨e1, s1, h1⟩ | h1
    · replace h1 : ∀ (R : Type) (K : Ex → St → Option R), codeL C E Lo fid base res out id b s K = K e1 s1 := h1
      obtain ⟨k1, r1⟩ := ih id s e1 s1 hl h1
      refine ⟨k1, fun k hk R K => ?_⟩
      simp only [codeE]
      rw [r1 k hk]
      have := h R K
      simp only [codeL] at this
      rw [h1] at this
      exact this
    · replace h1 : ∀ (R : Type) (K : Ex → St → Option R), codeL C E Lo fid base res out id b s K = none := h1
      have := h Unit fun _ _ => some ()
      simp only [codeL] at this
      rw [h1] at this; cases this
  | loop b _ =>
    intro bid s ex s' hl h
    simp only [codeL, DT.run_eq] at h
    cases hp : (Lo bid s).val with
    | none => have := h Unit fun _ _ => some (); rw [hp] at this; cases this
    | some p =>
      have : ∀ (R : Type) (K : Ex → St → Option R), K p.1 p.2 = K ex s' := fun R K => by
        have := h R K
        rw [hp] at this
        exact this
      obtain ⟨rfl, rfl⟩ := hands_eq this
      exact hl s p hp
  | scope b ih =>
    intro bid s ex s' hl h
    obtain ⟨k1, r1⟩ := ih bid s ex s' hl h
    exact ⟨k1, fun k hk R K => by simp only [codeE]; exact r1 k hk R K⟩
  | rangeFunc g ps as bo _ _ =>
    intro bid s ex s' hl h
    unfold codeL at h
    cases out with
    | none => have := h Unit fun _ _ => some (); cases this
    | some N =>
      dsimp only at h
      cases hg : ev s.env g with
      | d v =>
        cases v with
        | fn gf a b =>
          cases a with
          | nil =>
            rw [hg] at h
            obtain ⟨h2, _⟩ := small_hands fac_rangeE h
            exact ⟨0, fun k _ R K => by simp only [codeE, hg]; exact h2 R K⟩
          | cons _ _ => rw [hg] at h; have := h Unit fun _ _ => some (); cases this
        | _ => rw [hg] at h; have := h Unit fun _ _ => some (); cases this
      | fn gf a b =>
        cases a with
        | nil =>
          rw [hg] at h
          obtain ⟨h2, _⟩ := small_hands fac_rangeE h
          exact ⟨0, fun k _ R K => by simp only [codeE, hg]; exact h2 R K⟩
        | cons _ _ => rw [hg] at h; have := h Unit fun _ _ => some (); cases this
      | _ => rw [hg] at h; have := h Unit fun _ _ => some (); cases this
  | _ => intro bid s ex s' hl h; exact ⟨0, fun k _ R K => by have := h R K; simpa only [codeE, codeL] using this⟩

/-- A function's contract, from data to data. -/
theorem pure_of_codeL {P : Program} (hT : TOK P C.T) (hQ : EqOK P C.T) (hm : P.follows .mixedOrders = true) (hE : EvOK P E) {fn : Func} (hf : FnOK P C fid fn) (hb : fn.body.isSome = true) {ds : List DV} {d : DV} (hn : Nat.ble ds.length fn.ntmps = true)
    (hl : LoopsOK C E Lo fid 0 (resTmps fn.results.toList) (some fn.ntmps) 0 (bodyOf fn))
    (h : codeL C E Lo fid 0 (resTmps fn.results.toList) (some fn.ntmps) 0 (bodyOf fn) ⟨envOf 0 (ds.map .d), [], []⟩ (doneE C fn 0 fun v h => freezeV h 4 v) = some d) (hfr : freshF fid = false := by rfl) : PureOK P fid ds d := by
  obtain ⟨c, hc⟩ := Option.isSome_iff_exists.1 hb
  have hbo : bodyOf fn = c := by unfold bodyOf; rw [hc]; rfl
  rw [hbo] at hl h
  obtain ⟨ex, s', h1, h2⟩ := (fac_codeL (C := C) (E := E) (Lo := Lo) (fid := fid) (base := 0) (res := resTmps fn.results.toList) (out := some fn.ntmps) c 0 ⟨envOf 0 (ds.map .d), [], []⟩).keep h
  obtain ⟨k0, hr⟩ := codeL_runs c 0 _ ex s' hl h2
  refine pureE_ok hT hQ hm hE (k := k0) hf ?_
  have hz : (fun (v : AV) (h : List Blk) => freezeP fid h v) = fun v h => freezeV h 4 v := by funext v h; simp only [freezeP, hfr, cond_false]
  unfold pureE bodyE
  rw [hc, hz]
  simp only [List.length_map, List.length_nil, hn, cond_true]
  rw [hr k0 (Nat.le_refl _)]
  exact h1

end
end Go.AE

/- Code from loop to loop: what it comes to is shown by pieces. -/
namespace Go.AE
open Go

/-- The mark of a loop at which code is held. -/
def susp (t : Nat) : Nat := 1000000 + t

/-- Each loop holds the code. -/
def loS : Nat → St → DT := fun i s => .leaf (.exit (susp i)) s

def hasL (t bid : Nat) (c : Code) : Bool := (loopsL bid c).any fun p => Nat.beq p.1 t

/-- All blocks and jumps have small numbers. -/
def smallIds : Code → Bool
  | .seq a b => smallIds a && smallIds b
  | .cond _ a b => smallIds a && smallIds b
  | .block id b => Nat.blt id 1000000 && smallIds b
  | .loop _ => true
  | .scope b => smallIds b
  | .exit id => Nat.blt id 1000000
  | _ => true

section
variable {R : Type}

def thenK (f : St → Option R) (K : Ex → St → Option R) : Ex → St → Option R
  | .norm, s => f s
  | e, s => K e s

def catchK (id : Nat) (K : Ex → St → Option R) : Ex → St → Option R
  | .exit i, s => cond (Nat.beq i id) (K .norm s) (K (.exit i) s)
  | e, s => K e s

/-- The rest of the code behind one of its loops. -/
def resumeL (C : Ctx) (E : Ev) (Lo : Nat → St → DT) (fid base : Nat) (res : List Nat) (out : Option Nat) (t : Nat) : Nat → Code → Ex → St → (Ex → St → Option R) → Option R
  | bid, .seq a b, ex, s, K => cond (hasL t bid a)
      (resumeL C E Lo fid base res out t bid a ex s fun ex s' => match ex with
        | .norm => codeL C E Lo fid base res out bid b s' K
        | e => K e s') (resumeL C E Lo fid base res out t bid b ex s K)
  | bid, .cond _ a b, ex, s, K => cond (hasL t bid a) (resumeL C E Lo fid base res out t bid a ex s K) (resumeL C E Lo fid base res out t bid b ex s K)
  | _, .block id b, ex, s, K => resumeL C E Lo fid base res out t id b ex s fun ex s' => match ex with
    | .exit i => cond (Nat.beq i id) (K .norm s') (K (.exit i) s')
    | e => K e s'
  | _, .loop _, ex, s, K => K ex s
  | bid, .scope b, ex, s, K => resumeL C E Lo fid base res out t bid b ex s K
  | _, _, _, _, _ => none
end

section
variable {C : Ctx} {E : Ev} {fid base : Nat} {res : List Nat} {out : Option Nat} {Lo : Nat → St → DT}

theorem fac_resumeL {t : Nat} : ∀ (c : Code) (bid : Nat) (ex : Ex) (s : St), Fac2 (fun R K => resumeL (R := R) C E Lo fid base res out t bid c ex s K) := by
  intro c
  induction c with
  | seq a b iha ihb =>
    intro bid ex s
    exact .cnd _ ((iha bid ex s).bd2 fun ex s' => by cases ex <;> first | exact fac_codeL b bid s' | exact .ret _ _) (ihb bid ex s)
  | cond x a b iha ihb => intro bid ex s; exact .cnd _ (iha bid ex s) (ihb bid ex s)
  | block id b ih =>
    intro bid ex s
    exact (ih id ex s).bd2 fun ex s' => by cases ex <;> first | exact .cnd _ (.ret _ _) (.ret _ _) | exact .ret _ _
  | loop b _ => intro bid ex s; exact .ret _ _
  | scope b ih => intro bid ex s; exact ih bid ex s
  | _ => intro bid ex s; exact .no

theorem hasL_of {t bid : Nat} {c : Code} (h : t ∈ (loopsL bid c).map (·.1)) : hasL t bid c = true := by
  unfold hasL
  obtain ⟨p, hp, rfl⟩ := List.mem_map.1 h
  exact List.any_eq_true.2 ⟨p, hp, by simp⟩

theorem hasL_not {t bid : Nat} {c : Code} (h : t ∉ (loopsL bid c).map (·.1)) : hasL t bid c = false := by
  unfold hasL
  rw [List.any_eq_false]
  intro p hp e
  exact h (List.mem_map.2 ⟨p, hp, Nat.eq_of_beq_eq_true e⟩)

theorem no_exit {α : Prop} {f : (R : Type) → (Ex → St → Option R) → Option R} {e1 e2 : Ex} {s1 s2 : St} (h1 : ∀ (R : Type) (K : Ex → St → Option R), f R K = K e1 s1) (h2 : ∀ (R : Type) (K : Ex → St → Option R), f R K = K e2 s2) (hne : e1 ≠ e2) : α := by
  have := hands_eq (a := e1) (a' := e2) (b := s1) (b' := s2) fun R K => (h1 R K).symm.trans (h2 R K)
  exact absurd this.1 hne

/-- Code that meets no loop is the same, whatever is told of loops. -/
theorem codeL_same : ∀ (c : Code) (bid : Nat) (s : St) (ex : Ex) (s' : St), (∀ t, ex ≠ .exit (susp t)) → smallIds c = true →
    (∀ (R : Type) (K : Ex → St → Option R), codeL C E loS fid base res out bid c s K = K ex s') → ∀ (R : Type) (K : Ex → St → Option R), codeL C E Lo fid base res out bid c s K = K ex s' := by
  intro c
  induction c with
  | seq a b iha ihb =>
    intro bid s ex s' hns hs h R K
    simp only [smallIds, Bool.and_eq_true] at hs
    rcases fac_codeL (C := C) (E := E) (Lo := loS) (fid := fid) (base := base) (res := res) (out := out) a bid s with ⟨e1, s2, h1⟩ | h1
    · replace h1 : ∀ (R : Type) (K : Ex → St → Option R), codeL C E loS fid base res out bid a s K = K e1 s2 := h1
      have h2 : ∀ (R : Type) (K : Ex → St → Option R), thenK (fun s' => codeL C E loS fid base res out bid b s' K) K e1 s2 = K ex s' := fun R K => by
        have := h R K
        simp only [codeL] at this
        rw [h1] at this
        cases e1 <;> exact this
      have hns1 : ∀ t, e1 ≠ .exit (susp t) := by
        rintro t rfl
        exact hns t (hands_eq (a := Ex.exit (susp t)) (b := s2) h2).1.symm
      simp only [codeL]
      rw [iha bid s e1 s2 hns1 hs.1 h1]
      cases e1 with
      | norm => exact ihb bid s2 ex s' hns hs.2 h2 R K
      | exit i => exact h2 R K
      | ret => exact h2 R K
    · replace h1 : ∀ (R : Type) (K : Ex → St → Option R), codeL C E loS fid base res out bid a s K = none := h1
      have := h Unit fun _ _ => some ()
      simp only [codeL] at this
      rw [h1] at this; cases this
  | cond x a b iha ihb =>
    intro bid s ex s' hns hs h R K
    simp only [smallIds, Bool.and_eq_true] at hs
    unfold codeL at h ⊢
    cases hx : ev s.env x with
    | d v =>
      cases v with
      | bool y =>
        rw [hx] at h
        cases y with
        | true => exact iha bid s ex s' hns hs.1 h R K
        | false => exact ihb bid s ex s' hns hs.2 h R K
      | _ => rw [hx] at h; have := h Unit fun _ _ => some (); cases this
    | _ => rw [hx] at h; have := h Unit fun _ _ => some (); cases this
  | block id b ih =>
    intro bid s ex s' hns hs h R K
    simp only [smallIds, Bool.and_eq_true, Nat.blt_eq] at hs
    rcases fac_codeL (C := C) (E := E) (Lo := loS) (fid := fid) (base := base) (res := res) (out := out) b id s with ⟨e1, s2, h1⟩ | h1
    · replace h1 : ∀ (R : Type) (K : Ex → St → Option R), codeL C E loS fid base res out id b s K = K e1 s2 := h1
      have h2 : ∀ (R : Type) (K : Ex → St → Option R), catchK id K e1 s2 = K ex s' := fun R K => by
        have := h R K
        simp only [codeL] at this
        rw [h1] at this
        cases e1 <;> exact this
      have hns1 : ∀ t, e1 ≠ .exit (susp t) := by
        rintro t rfl
        have hb : Nat.beq (susp t) id = false := by
          cases hb : Nat.beq (susp t) id with
          | false => rfl
          | true => have := Nat.eq_of_beq_eq_true hb; simp [susp] at this; omega
        exact hns t (hands_eq (a := Ex.exit (susp t)) (b := s2) fun R K => by have := h2 R K; simpa [catchK, hb] using this).1.symm
      simp only [codeL]
      rw [ih id s e1 s2 hns1 hs.2 h1]
      have := h2 R K
      cases e1 <;> exact this
    · replace h1 : ∀ (R : Type) (K : Ex → St → Option R), codeL C E loS fid base res out id b s K = none := h1
      have := h Unit fun _ _ => some ()
      simp only [codeL] at this
      rw [h1] at this; cases this
  | loop b _ =>
    intro bid s ex s' hns _ h
    exact absurd (hands_eq (a := Ex.exit (susp bid)) (b := s) fun R K => by have := h R K; simpa [codeL, loS, DT.run] using this).1.symm (hns bid)
  | scope b ih => intro bid s ex s' hns hs h; exact ih bid s ex s' hns hs h
  | _ => intro bid s ex s' _ _ h R K; exact h R K

/-- The rest of the code that meets no loop is the same, whatever is told of loops. -/
theorem resumeL_same {t : Nat} : ∀ (c : Code) (bid : Nat) (e0 : Ex) (s : St) (ex : Ex) (s' : St), (∀ t, ex ≠ .exit (susp t)) → smallIds c = true →
    (∀ (R : Type) (K : Ex → St → Option R), resumeL C E loS fid base res out t bid c e0 s K = K ex s') → ∀ (R : Type) (K : Ex → St → Option R), resumeL C E Lo fid base res out t bid c e0 s K = K ex s' := by
  intro c
  induction c with
  | seq a b iha ihb =>
    intro bid e0 s ex s' hns hs h R K
    simp only [smallIds, Bool.and_eq_true] at hs
    cases hh : hasL t bid a with
    | false =>
      have h2 : ∀ (R : Type) (K : Ex → St → Option R), resumeL C E loS fid base res out t bid b e0 s K = K ex s' := fun R K => by have := h R K; simpa [resumeL, hh] using this
      simp only [resumeL, hh, cond_false]
      exact ihb bid e0 s ex s' hns hs.2 h2 R K
    | true =>
      rcases fac_resumeL (C := C) (E := E) (Lo := loS) (fid := fid) (base := base) (res := res) (out := out) (t := t) a bid e0 s with ⟨e1, s2, h1⟩ | h1
      · replace h1 : ∀ (R : Type) (K : Ex → St → Option R), resumeL C E loS fid base res out t bid a e0 s K = K e1 s2 := h1
        have h2 : ∀ (R : Type) (K : Ex → St → Option R), thenK (fun s' => codeL C E loS fid base res out bid b s' K) K e1 s2 = K ex s' := fun R K => by
          have := h R K
          simp only [resumeL, hh, cond_true] at this
          rw [h1] at this
          cases e1 <;> exact this
        have hns1 : ∀ t, e1 ≠ .exit (susp t) := by
          rintro t rfl
          exact hns t (hands_eq (a := Ex.exit (susp t)) (b := s2) h2).1.symm
        simp only [resumeL, hh, cond_true]
        rw [iha bid e0 s e1 s2 hns1 hs.1 h1]
        cases e1 with
        | norm => exact codeL_same b bid s2 ex s' hns hs.2 h2 R K
        | exit i => exact h2 R K
        | ret => exact h2 R K
      · replace h1 : ∀ (R : Type) (K : Ex → St → Option R), resumeL C E loS fid base res out t bid a e0 s K = none := h1
        have := h Unit fun _ _ => some ()
        simp only [resumeL, hh, cond_true] at this
        rw [h1] at this; cases this
  | cond x a b iha ihb =>
    intro bid e0 s ex s' hns hs h R K
    simp only [smallIds, Bool.and_eq_true] at hs
    cases hh : hasL t bid a with
    | false =>
      have h2 : ∀ (R : Type) (K : Ex → St → Option R), resumeL C E loS fid base res out t bid b e0 s K = K ex s' := fun R K => by have := h R K; simpa [resumeL, hh] using this
      simp only [resumeL, hh, cond_false]
      exact ihb bid e0 s ex s' hns hs.2 h2 R K
    | true =>
      have h2 : ∀ (R : Type) (K : Ex → St → Option R), resumeL C E loS fid base res out t bid a e0 s K = K ex s' := fun R K => by have := h R K; simpa [resumeL, hh] using this
      simp only [resumeL, hh, cond_true]
      exact iha bid e0 s ex s' hns hs.1 h2 R K
  | block id b ih =>
    intro bid e0 s ex s' hns hs h R K
    simp only [smallIds, Bool.and_eq_true, Nat.blt_eq] at hs
    rcases fac_resumeL (C := C) (E := E) (Lo := loS) (fid := fid) (base := base) (res := res) (out := out) (t := t) b id e0 s with ⟨e1, s2, h1⟩ | h1
    · replace h1 : ∀ (R : Type) (K : Ex → St → Option R), resumeL C E loS fid base res out t id b e0 s K = K e1 s2 := h1
      have h2 : ∀ (R : Type) (K : Ex → St → Option R), catchK id K e1 s2 = K ex s' := fun R K => by
        have := h R K
        simp only [resumeL] at this
        rw [h1] at this
        cases e1 <;> exact this
      have hns1 : ∀ t, e1 ≠ .exit (susp t) := by
        rintro t rfl
        have hb : Nat.beq (susp t) id = false := by
          cases hb : Nat.beq (susp t) id with
          | false => rfl
          | true => have := Nat.eq_of_beq_eq_true hb; simp [susp] at this; omega
        exact hns t (hands_eq (a := Ex.exit (susp t)) (b := s2) fun R K => by have := h2 R K; simpa [catchK, hb] using this).1.symm
      simp only [resumeL]
      rw [ih id e0 s e1 s2 hns1 hs.2 h1]
      have := h2 R K
      cases e1 <;> exact this
    · replace h1 : ∀ (R : Type) (K : Ex → St → Option R), resumeL C E loS fid base res out t id b e0 s K = none := h1
      have := h Unit fun _ _ => some ()
      simp only [resumeL] at this
      rw [h1] at this; cases this
  | loop b _ => intro bid e0 s ex s' _ _ h R K; exact h R K
  | scope b ih => intro bid e0 s ex s' hns hs h; exact ih bid e0 s ex s' hns hs h
  | _ => intro bid e0 s ex s' _ _ h R K; exact h R K

/-- Code that is held at a loop goes on behind it. -/
theorem codeL_resume {t : Nat} {S0 s1 : St} {ex1 : Ex} (hLo : Lo t S0 = .leaf ex1 s1) : ∀ (c : Code) (bid : Nat) (s : St), smallIds c = true → ((loopsL bid c).map (·.1)).Nodup →
    (∀ (R : Type) (K : Ex → St → Option R), codeL C E loS fid base res out bid c s K = K (.exit (susp t)) S0) →
    t ∈ (loopsL bid c).map (·.1) ∧ ∀ (R : Type) (K : Ex → St → Option R), codeL C E Lo fid base res out bid c s K = resumeL C E Lo fid base res out t bid c ex1 s1 K := by
  intro c
  induction c with
  | skip => intro bid s _ _ h; exact no_exit (fun R K => rfl) h (by simp)
  | label l => intro bid s _ _ h; exact no_exit (fun R K => rfl) h (by simp)
  | exit id =>
    intro bid s hs _ h
    simp only [smallIds, Nat.blt_eq] at hs
    cases hti : tidyP base (C.xpol fid id) s with
    | none => have := h Unit fun _ _ => some (); simp [codeL, hti] at this
    | some s' => exact no_exit (e1 := .exit id) (s1 := s') (fun R K => by simp only [codeL, hti, Option.bind_some]) h (by simp [susp]; omega)
  | ret =>
    intro bid s hs _ h
    cases hti : tidy base ⟨res, [], []⟩ s with
    | none => have := h Unit fun _ _ => some (); simp [codeL, hti] at this
    | some s' => exact no_exit (e1 := .ret) (s1 := s') (fun R K => by simp only [codeL, hti, Option.bind_some]) h (by simp)
  | region id ops drawn =>
    intro bid s _ _ h
    cases drawn with
    | true =>
      rcases fac_drawE (C := C) (E := E) (fid := fid) (id := id) (ops := ops) (env := s.env) (h := s.heap) with ⟨x, y, hx⟩ | hx
      · exact no_exit (e1 := .norm) (s1 := ⟨x, y, s.marks⟩) (fun R K => hx R _) h (by simp)
      · have := (hx _ _).symm.trans (h Unit fun _ _ => some ()); cases this
    | false =>
      rcases fac_runE (C := C) (E := E) (all := ops.toList) (ops := ops.toList) (env := s.env) (h := s.heap) with ⟨x, y, hx⟩ | hx
      · exact no_exit (e1 := .norm) (s1 := ⟨x, y, s.marks⟩) (fun R K => hx R _) h (by simp)
      · have := (hx _ _).symm.trans (h Unit fun _ _ => some ()); cases this
  | seq a b iha ihb =>
    intro bid s hs hnd h
    simp only [smallIds, Bool.and_eq_true] at hs
    simp only [loopsL, List.map_append] at hnd ⊢
    obtain ⟨n1, n2, n3⟩ := List.nodup_append.1 hnd
    rcases fac_codeL (C := C) (E := E) (Lo := loS) (fid := fid) (base := base) (res := res) (out := out) a bid s with ⟨e1, s2, h1⟩ | h1
    · replace h1 : ∀ (R : Type) (K : Ex → St → Option R), codeL C E loS fid base res out bid a s K = K e1 s2 := h1
      have hstop : e1 ≠ .norm → e1 = .exit (susp t) ∧ s2 = S0 := by
        intro hne
        refine hands_eq fun R K => ?_
        have := h R K
        simp only [codeL] at this
        rw [h1] at this
        cases e1 with
        | norm => exact absurd rfl hne
        | exit i => exact this
        | ret => exact this
      have stop : e1 ≠ .norm → t ∈ (loopsL bid a).map (·.1) ++ (loopsL bid b).map (·.1) ∧ ∀ (R : Type) (K : Ex → St → Option R), codeL C E Lo fid base res out bid (.seq a b) s K = resumeL C E Lo fid base res out t bid (.seq a b) ex1 s1 K := by
        intro hne
        obtain ⟨rfl, rfl⟩ := hstop hne
        obtain ⟨m1, m2⟩ := iha bid s hs.1 n1 h1
        refine ⟨List.mem_append_left _ m1, fun R K => ?_⟩
        simp only [codeL, resumeL, hasL_of m1, cond_true]
        exact m2 R _
      cases e1 with
      | norm =>
        have h2 : ∀ (R : Type) (K : Ex → St → Option R), codeL C E loS fid base res out bid b s2 K = K (.exit (susp t)) S0 := fun R K => by
          have := h R K
          simp only [codeL] at this
          rw [h1] at this
          exact this
        obtain ⟨m1, m2⟩ := ihb bid s2 hs.2 n2 h2
        refine ⟨List.mem_append_right _ m1, fun R K => ?_⟩
        have hn : hasL t bid a = false := hasL_not fun hm => n3 t hm t m1 rfl
        simp only [codeL, resumeL, hn, cond_false]
        -- the first part has no loop on its way
        have h3 : ∀ (R : Type) (K : Ex → St → Option R), codeL C E Lo fid base res out bid a s K = K .norm s2 := codeL_same a bid s .norm s2 (by simp) hs.1 h1
        rw [h3]
        exact m2 R K
      | exit i => exact stop (by simp)
      | ret => exact stop (by simp)
    · replace h1 : ∀ (R : Type) (K : Ex → St → Option R), codeL C E loS fid base res out bid a s K = none := h1
      have := h Unit fun _ _ => some ()
      simp only [codeL] at this
      rw [h1] at this; cases this
  | cond x a b iha ihb =>
    intro bid s hs hnd h
    simp only [smallIds, Bool.and_eq_true] at hs
    simp only [loopsL, List.map_append] at hnd ⊢
    obtain ⟨n1, n2, n3⟩ := List.nodup_append.1 hnd
    unfold codeL at h
    cases hx : ev s.env x with
    | d v =>
      cases v with
      | bool y =>
        rw [hx] at h
        cases y with
        | true =>
          obtain ⟨m1, m2⟩ := iha bid s hs.1 n1 h
          exact ⟨List.mem_append_left _ m1, fun R K => by simp only [codeL, resumeL, hx, cond_true, hasL_of m1]; exact m2 R K⟩
        | false =>
          obtain ⟨m1, m2⟩ := ihb bid s hs.2 n2 h
          have hn : hasL t bid a = false := hasL_not fun hm => n3 t hm t m1 rfl
          exact ⟨List.mem_append_right _ m1, fun R K => by simp only [codeL, resumeL, hx, cond_false, hn]; exact m2 R K⟩
      | _ => rw [hx] at h; have := h Unit fun _ _ => some (); cases this
    | _ => rw [hx] at h; have := h Unit fun _ _ => some (); cases this
  | block id b ih =>
    intro bid s hs hnd h
    simp only [smallIds, Bool.and_eq_true, Nat.blt_eq] at hs
    rcases fac_codeL (C := C) (E := E) (Lo := loS) (fid := fid) (base := base) (res := res) (out := out) b id s with ⟨e1, s2, h1⟩ | h1
    · replace h1 : ∀ (R : Type) (K : Ex → St → Option R), codeL C E loS fid base res out id b s K = K e1 s2 := h1
      have h2 : ∀ (R : Type) (K : Ex → St → Option R), catchK id K e1 s2 = K (.exit (susp t)) S0 := fun R K => by
        have := h R K
        simp only [codeL] at this
        rw [h1] at this
        cases e1 <;> exact this
      have h3 : e1 = .exit (susp t) ∧ s2 = S0 := by
        cases e1 with
        | norm => exact (hands_eq (a := Ex.norm) (b := s2) h2).elim fun a _ => by cases a
        | ret => exact (hands_eq (a := Ex.ret) (b := s2) h2).elim fun a _ => by cases a
        | exit i =>
          cases hb : Nat.beq i id with
          | true => exact (hands_eq (a := Ex.norm) (b := s2) fun R K => by have := h2 R K; simpa [catchK, hb] using this).elim fun a _ => by cases a
          | false => exact hands_eq (a := Ex.exit i) (b := s2) fun R K => by have := h2 R K; simpa [catchK, hb] using this
      obtain ⟨rfl, rfl⟩ := h3
      obtain ⟨m1, m2⟩ := ih id s hs.2 hnd h1
      exact ⟨m1, fun R K => by simp only [codeL, resumeL]; exact m2 R _⟩
    · replace h1 : ∀ (R : Type) (K : Ex → St → Option R), codeL C E loS fid base res out id b s K = none := h1
      have := h Unit fun _ _ => some ()
      simp only [codeL] at this
      rw [h1] at this; cases this
  | loop b _ =>
    intro bid s _ _ h
    obtain ⟨e1, e2⟩ := hands_eq (a := Ex.exit (susp bid)) (b := s) fun R K => by have := h R K; simpa [codeL, loS, DT.run] using this
    subst e2
    have : bid = t := by simp [susp] at e1; omega
    subst this
    exact ⟨by simp [loopsL], fun R K => by simp only [codeL, resumeL, hLo, DT.run]⟩
  | scope b ih => intro bid s hs hnd h; exact ih bid s hs hnd h
  | rangeFunc g ps as bo _ _ =>
    intro bid s _ _ h
    exfalso
    unfold codeL at h
    cases out with
    | none => have := h Unit fun _ _ => some (); cases this
    | some N =>
      dsimp only at h
      cases hg : ev s.env g with
      | d v =>
        cases v with
        | fn gf a b =>
          cases a with
          | nil =>
            rw [hg] at h
            have := (small_hands fac_rangeE h).2 _ rfl
            simp [susp] at this; omega
          | cons _ _ => rw [hg] at h; have := h Unit fun _ _ => some (); cases this
        | _ => rw [hg] at h; have := h Unit fun _ _ => some (); cases this
      | fn gf a b =>
        cases a with
        | nil =>
          rw [hg] at h
          have := (small_hands fac_rangeE h).2 _ rfl
          simp [susp] at this; omega
        | cons _ _ => rw [hg] at h; have := h Unit fun _ _ => some (); cases this
      | _ => rw [hg] at h; have := h Unit fun _ _ => some (); cases this
  | _ => intro bid s _ _ h; have := h Unit fun _ _ => some (); simp [codeL] at this

/-- The rest of the code that is held at a further loop goes on behind that one. -/
theorem resumeL_resume {t t' : Nat} {S0 s1 : St} {ex1 : Ex} (hLo : Lo t' S0 = .leaf ex1 s1) : ∀ (c : Code) (bid : Nat) (e0 : Ex) (s : St), (∀ t, e0 ≠ .exit (susp t)) → smallIds c = true → ((loopsL bid c).map (·.1)).Nodup → t ∈ (loopsL bid c).map (·.1) →
    (∀ (R : Type) (K : Ex → St → Option R), resumeL C E loS fid base res out t bid c e0 s K = K (.exit (susp t')) S0) →
    t' ∈ (loopsL bid c).map (·.1) ∧ ∀ (R : Type) (K : Ex → St → Option R), resumeL C E Lo fid base res out t bid c e0 s K = resumeL C E Lo fid base res out t' bid c ex1 s1 K := by
  intro c
  induction c with
  | seq a b iha ihb =>
    intro bid e0 s he hs hnd ht h
    simp only [smallIds, Bool.and_eq_true] at hs
    simp only [loopsL, List.map_append] at hnd ht ⊢
    obtain ⟨n1, n2, n3⟩ := List.nodup_append.1 hnd
    rcases List.mem_append.1 ht with ta | tb
    · have hh := hasL_of ta
      rcases fac_resumeL (C := C) (E := E) (Lo := loS) (fid := fid) (base := base) (res := res) (out := out) (t := t) a bid e0 s with ⟨e1, s2, h1⟩ | h1
      · replace h1 : ∀ (R : Type) (K : Ex → St → Option R), resumeL C E loS fid base res out t bid a e0 s K = K e1 s2 := h1
        have h2 : ∀ (R : Type) (K : Ex → St → Option R), thenK (fun s' => codeL C E loS fid base res out bid b s' K) K e1 s2 = K (.exit (susp t')) S0 := fun R K => by
          have := h R K
          simp only [resumeL, hh, cond_true] at this
          rw [h1] at this
          cases e1 <;> exact this
        have stop : e1 ≠ .norm → t' ∈ (loopsL bid a).map (·.1) ++ (loopsL bid b).map (·.1) ∧ ∀ (R : Type) (K : Ex → St → Option R), resumeL C E Lo fid base res out t bid (.seq a b) e0 s K = resumeL C E Lo fid base res out t' bid (.seq a b) ex1 s1 K := by
          intro hne
          have h3 : e1 = .exit (susp t') ∧ s2 = S0 := by
            cases e1 with
            | norm => exact absurd rfl hne
            | exit i => exact hands_eq (a := Ex.exit i) (b := s2) h2
            | ret => exact hands_eq (a := Ex.ret) (b := s2) h2
          obtain ⟨rfl, rfl⟩ := h3
          obtain ⟨m1, m2⟩ := iha bid e0 s he hs.1 n1 ta h1
          refine ⟨List.mem_append_left _ m1, fun R K => ?_⟩
          simp only [resumeL, hh, hasL_of m1, cond_true]
          exact m2 R _
        cases e1 with
        | norm =>
          obtain ⟨m1, m2⟩ := codeL_resume hLo b bid s2 hs.2 n2 h2
          refine ⟨List.mem_append_right _ m1, fun R K => ?_⟩
          have hn : hasL t' bid a = false := hasL_not fun hm => n3 t' hm t' m1 rfl
          simp only [resumeL, hh, hn, cond_true, cond_false]
          rw [resumeL_same a bid e0 s .norm s2 (by simp) hs.1 h1]
          exact m2 R K
        | exit i => exact stop (by simp)
        | ret => exact stop (by simp)
      · replace h1 : ∀ (R : Type) (K : Ex → St → Option R), resumeL C E loS fid base res out t bid a e0 s K = none := h1
        have := h Unit fun _ _ => some ()
        simp only [resumeL, hh, cond_true] at this
        rw [h1] at this; cases this
    · have hh : hasL t bid a = false := hasL_not fun hm => n3 t hm t tb rfl
      have h2 : ∀ (R : Type) (K : Ex → St → Option R), resumeL C E loS fid base res out t bid b e0 s K = K (.exit (susp t')) S0 := fun R K => by have := h R K; simpa [resumeL, hh] using this
      obtain ⟨m1, m2⟩ := ihb bid e0 s he hs.2 n2 tb h2
      have hn : hasL t' bid a = false := hasL_not fun hm => n3 t' hm t' m1 rfl
      exact ⟨List.mem_append_right _ m1, fun R K => by simp only [resumeL, hh, hn, cond_false]; exact m2 R K⟩
  | cond x a b iha ihb =>
    intro bid e0 s he hs hnd ht h
    simp only [smallIds, Bool.and_eq_true] at hs
    simp only [loopsL, List.map_append] at hnd ht ⊢
    obtain ⟨n1, n2, n3⟩ := List.nodup_append.1 hnd
    rcases List.mem_append.1 ht with ta | tb
    · have hh := hasL_of ta
      have h2 : ∀ (R : Type) (K : Ex → St → Option R), resumeL C E loS fid base res out t bid a e0 s K = K (.exit (susp t')) S0 := fun R K => by have := h R K; simpa [resumeL, hh] using this
      obtain ⟨m1, m2⟩ := iha bid e0 s he hs.1 n1 ta h2
      exact ⟨List.mem_append_left _ m1, fun R K => by simp only [resumeL, hh, hasL_of m1, cond_true]; exact m2 R K⟩
    · have hh : hasL t bid a = false := hasL_not fun hm => n3 t hm t tb rfl
      have h2 : ∀ (R : Type) (K : Ex → St → Option R), resumeL C E loS fid base res out t bid b e0 s K = K (.exit (susp t')) S0 := fun R K => by have := h R K; simpa [resumeL, hh] using this
      obtain ⟨m1, m2⟩ := ihb bid e0 s he hs.2 n2 tb h2
      have hn : hasL t' bid a = false := hasL_not fun hm => n3 t' hm t' m1 rfl
      exact ⟨List.mem_append_right _ m1, fun R K => by simp only [resumeL, hh, hn, cond_false]; exact m2 R K⟩
  | block id b ih =>
    intro bid e0 s he hs hnd ht h
    simp only [smallIds, Bool.and_eq_true, Nat.blt_eq] at hs
    rcases fac_resumeL (C := C) (E := E) (Lo := loS) (fid := fid) (base := base) (res := res) (out := out) (t := t) b id e0 s with ⟨e1, s2, h1⟩ | h1
    · replace h1 : ∀ (R : Type) (K : Ex → St → Option R), resumeL C E loS fid base res out t id b e0 s K = K e1 s2 := h1
      have h2 : ∀ (R : Type) (K : Ex → St → Option R), catchK id K e1 s2 = K (.exit (susp t')) S0 := fun R K => by
        have := h R K
        simp only [resumeL] at this
        rw [h1] at this
        cases e1 <;> exact this
      have h3 : e1 = .exit (susp t') ∧ s2 = S0 := by
        cases e1 with
        | norm => exact (hands_eq (a := Ex.norm) (b := s2) h2).elim fun a _ => by cases a
        | ret => exact (hands_eq (a := Ex.ret) (b := s2) h2).elim fun a _ => by cases a
        | exit i =>
          cases hb : Nat.beq i id with
          | true => exact (hands_eq (a := Ex.norm) (b := s2) fun R K => by have := h2 R K; simpa [catchK, hb] using this).elim fun a _ => by cases a
          | false => exact hands_eq (a := Ex.exit i) (b := s2) fun R K => by have := h2 R K; simpa [catchK, hb] using this
      obtain ⟨rfl, rfl⟩ := h3
      obtain ⟨m1, m2⟩ := ih id e0 s he hs.2 hnd ht h1
      exact ⟨m1, fun R K => by simp only [resumeL]; exact m2 R _⟩
    · replace h1 : ∀ (R : Type) (K : Ex → St → Option R), resumeL C E loS fid base res out t id b e0 s K = none := h1
      have := h Unit fun _ _ => some ()
      simp only [resumeL] at this
      rw [h1] at this; cases this
  | loop b _ =>
    intro bid e0 s he _ _ _ h
    exact absurd (hands_eq (a := e0) (b := s) h).1 (he t')
  | scope b ih => intro bid e0 s he hs hnd ht h; exact ih bid e0 s he hs hnd ht h
  | _ => intro bid e0 s _ _ _ ht _; simp [loopsL] at ht
end

/-! ### What a function's code comes to, by pieces -/
section
variable {C : Ctx} {E : Ev} {fid base : Nat} {fn : Func}

theorem Runs.unique {res : List Nat} {out : Option Nat} {bid : Nat} {c : Code} {s s1 s2 : St} {e1 e2 : Ex} (h1 : Runs C E fid base res out bid c s e1 s1) (h2 : Runs C E fid base res out bid c s e2 s2) : e1 = e2 ∧ s1 = s2 := by
  obtain ⟨k1, r1⟩ := h1
  obtain ⟨k2, r2⟩ := h2
  exact hands_eq fun R K => (r1 (max k1 k2) (by omega) R K).symm.trans (r2 (max k1 k2) (by omega) R K)

/-- What a loop of a function comes to. -/
abbrev LoopR (C : Ctx) (E : Ev) (fid base : Nat) (fn : Func) (t : Nat) (s : St) (ex : Ex) (s' : St) : Prop :=
  Runs C E fid base (resTmps fn.results.toList) (some fn.ntmps) t (.loop (loopOf fn t)) s ex s'

open Classical in
/-- All that the loops of a function come to. -/
noncomputable def loF (C : Ctx) (E : Ev) (fid base : Nat) (fn : Func) : Nat → St → DT := fun i s =>
  if h : ∃ p : Ex × St, LoopR C E fid base fn i s p.1 p.2 then .leaf h.choose.1 h.choose.2 else .fail

theorem loF_of {t : Nat} {s s' : St} {ex : Ex} (h : LoopR C E fid base fn t s ex s') : loF C E fid base fn t s = .leaf ex s' := by
  have hx : ∃ p : Ex × St, LoopR C E fid base fn t s p.1 p.2 := ⟨(ex, s'), h⟩
  unfold loF
  rw [dif_pos hx]
  obtain ⟨e1, e2⟩ := Runs.unique hx.choose_spec h
  rw [e1, e2]

/-- The code of a function, or of one round of its loop t. -/
def atL (fn : Func) : Option Nat → Nat × Code
  | none => (0, bodyOf fn)
  | some t => (t, loopOf fn t)

structure OkSeg (fn : Func) (q : Option Nat) (ids : List Nat) : Prop where
  loops : loopsL (atL fn q).1 (atL fn q).2 = ids.map fun i => (i, loopOf fn i)
  small : smallIds (atL fn q).2 = true
  nodup : ids.Nodup

section
variable {R : Type}
def startS (C : Ctx) (E : Ev) (fid base : Nat) (fn : Func) (q : Option Nat) (s : St) (K : Ex → St → Option R) : Option R :=
  codeL C E loS fid base (resTmps fn.results.toList) (some fn.ntmps) (atL fn q).1 (atL fn q).2 s K
def nextS (C : Ctx) (E : Ev) (fid base : Nat) (fn : Func) (q : Option Nat) (t : Nat) (ex : Ex) (s : St) (K : Ex → St → Option R) : Option R :=
  resumeL C E loS fid base (resTmps fn.results.toList) (some fn.ntmps) t (atL fn q).1 (atL fn q).2 ex s K
/-- The code, with all that its loops come to. -/
noncomputable def startF (C : Ctx) (E : Ev) (fid base : Nat) (fn : Func) (q : Option Nat) (s : St) (K : Ex → St → Option R) : Option R :=
  codeL C E (loF C E fid base fn) fid base (resTmps fn.results.toList) (some fn.ntmps) (atL fn q).1 (atL fn q).2 s K
noncomputable def nextF (C : Ctx) (E : Ev) (fid base : Nat) (fn : Func) (q : Option Nat) (t : Nat) (ex : Ex) (s : St) (K : Ex → St → Option R) : Option R :=
  resumeL C E (loF C E fid base fn) fid base (resTmps fn.results.toList) (some fn.ntmps) t (atL fn q).1 (atL fn q).2 ex s K
end

theorem OkSeg.ids {q : Option Nat} {ids : List Nat} (ok : OkSeg fn q ids) : (loopsL (atL fn q).1 (atL fn q).2).map (·.1) = ids := by
  rw [ok.loops, List.map_map]
  show List.map (fun i => i) ids = ids
  exact List.map_id' ids

theorem OkSeg.loopsOK {q : Option Nat} {ids : List Nat} (ok : OkSeg fn q ids) : LoopsOK C E (loF C E fid base fn) fid base (resTmps fn.results.toList) (some fn.ntmps) (atL fn q).1 (atL fn q).2 := by
  refine allLoops_of _ _ ?_
  rw [ok.loops]
  intro p hp s q' hq
  obtain ⟨i, _, rfl⟩ := List.mem_map.1 hp
  by_cases hx : ∃ p : Ex × St, LoopR C E fid base fn i s p.1 p.2
  · obtain ⟨⟨e1, s1⟩, h1⟩ := hx
    rw [loF_of h1] at hq
    simp only [DT.val, Option.some.injEq] at hq
    subst hq; exact h1
  · unfold loF at hq
    rw [dif_neg hx] at hq
    cases hq

variable {R : Type} {r : R}

/-- Up to a loop, and behind it. -/
theorem startF_loop {q : Option Nat} {ids : List Nat} (ok : OkSeg fn q ids) {t : Nat} {s S0 s1 : St} {ex1 : Ex} (h : ∀ (R : Type) (K : Ex → St → Option R), startS C E fid base fn q s K = K (.exit (susp t)) S0)
    (hr : LoopR C E fid base fn t S0 ex1 s1) : t ∈ ids ∧ ∀ (R : Type) (K : Ex → St → Option R), startF C E fid base fn q s K = nextF C E fid base fn q t ex1 s1 K := by
  have := codeL_resume (loF_of hr) (atL fn q).2 (atL fn q).1 s ok.small (by rw [ok.ids]; exact ok.nodup) h
  rw [ok.ids] at this
  exact this

theorem nextF_loop {q : Option Nat} {ids : List Nat} (ok : OkSeg fn q ids) {t t' : Nat} {e0 : Ex} {s S0 s1 : St} {ex1 : Ex} (ht : t ∈ ids) (he : ∀ t, e0 ≠ .exit (susp t))
    (h : ∀ (R : Type) (K : Ex → St → Option R), nextS C E fid base fn q t e0 s K = K (.exit (susp t')) S0) (hr : LoopR C E fid base fn t' S0 ex1 s1) :
    t' ∈ ids ∧ ∀ (R : Type) (K : Ex → St → Option R), nextF C E fid base fn q t e0 s K = nextF C E fid base fn q t' ex1 s1 K := by
  have := resumeL_resume (loF_of hr) (atL fn q).2 (atL fn q).1 e0 s he ok.small (by rw [ok.ids]; exact ok.nodup) (by rw [ok.ids]; exact ht) h
  rw [ok.ids] at this
  exact this

/-- A way out that is no mark of a loop. -/
def Plain (D : Ex → St → Option R) : Prop := ∀ t s, D (.exit (susp t)) s = none

theorem startF_done {q : Option Nat} {ids : List Nat} (ok : OkSeg fn q ids) {s : St} {D : Ex → St → Option R} (hD : Plain D) (h : startS C E fid base fn q s D = some r) : startF C E fid base fn q s D = some r := by
  obtain ⟨e1, s1, h1, h2⟩ := (fac_codeL (C := C) (E := E) (Lo := loS) (fid := fid) (base := base) (res := resTmps fn.results.toList) (out := some fn.ntmps) (atL fn q).2 (atL fn q).1 s).keep h
  have hns : ∀ t, e1 ≠ .exit (susp t) := by rintro t rfl; rw [hD] at h1; cases h1
  exact (codeL_same (Lo := loF C E fid base fn) _ _ _ _ _ hns ok.small h2 R D).trans h1

theorem nextF_done {q : Option Nat} {ids : List Nat} (ok : OkSeg fn q ids) {t : Nat} {e0 : Ex} {s : St} {D : Ex → St → Option R} (hD : Plain D) (h : nextS C E fid base fn q t e0 s D = some r) : nextF C E fid base fn q t e0 s D = some r := by
  obtain ⟨e1, s1, h1, h2⟩ := (fac_resumeL (C := C) (E := E) (Lo := loS) (fid := fid) (base := base) (res := resTmps fn.results.toList) (out := some fn.ntmps) (t := t) (atL fn q).2 (atL fn q).1 e0 s).keep h
  have hns : ∀ t, e1 ≠ .exit (susp t) := by rintro t rfl; rw [hD] at h1; cases h1
  exact (resumeL_same (Lo := loF C E fid base fn) _ _ _ _ _ _ hns ok.small h2 R D).trans h1

/-- The loop at which code is held, and the state of its first round. -/
def heldD (C : Ctx) (fid base : Nat) (ex : Ex) (s : St) : Option (Nat × St) :=
  match ex with
  | .exit i => cond (Nat.blt i 1000000) none ((tidyP base (C.pol fid (i - 1000000)) s).map fun s => (i - 1000000, s))
  | _ => none

theorem heldD_some {ex : Ex} {s S : St} {t : Nat} (h : heldD C fid base ex s = some (t, S)) : ex = .exit (susp t) ∧ tidyP base (C.pol fid t) s = some S := by
  cases ex with
  | exit i =>
    simp only [heldD] at h
    rcases cond_some h with ⟨_, h⟩ | ⟨hb, h⟩
    · cases h
    · simp only [Option.map_eq_some_iff, Prod.mk.injEq] at h
      obtain ⟨S', h1, rfl, rfl⟩ := h
      have : 1000000 ≤ i := by
        rcases Nat.lt_or_ge i 1000000 with k | k
        · rw [← Nat.blt_eq, hb] at k; cases k
        · exact k
      exact ⟨by simp only [susp, Ex.exit.injEq]; omega, h1⟩
  | _ => cases h

/-- Up to a loop, and behind it. -/
theorem startF_at {q : Option Nat} {ids : List Nat} (ok : OkSeg fn q ids) {t : Nat} {s S s1 : St} {ex1 : Ex} (h : startS C E fid base fn q s (heldD C fid base) = some (t, S))
    (hr : ∀ s, tidyP base (C.pol fid t) s = some S → LoopR C E fid base fn t s ex1 s1) : t ∈ ids ∧ ∀ (R : Type) (K : Ex → St → Option R), startF C E fid base fn q s K = nextF C E fid base fn q t ex1 s1 K := by
  obtain ⟨e1, S0, h1, h2⟩ := (fac_codeL (C := C) (E := E) (Lo := loS) (fid := fid) (base := base) (res := resTmps fn.results.toList) (out := some fn.ntmps) (atL fn q).2 (atL fn q).1 s).keep h
  obtain ⟨rfl, h3⟩ := heldD_some h1
  exact startF_loop ok h2 (hr S0 h3)

theorem nextF_at {q : Option Nat} {ids : List Nat} (ok : OkSeg fn q ids) {t t' : Nat} {e0 : Ex} {s S s1 : St} {ex1 : Ex} (ht : t ∈ ids) (he : ∀ t, e0 ≠ .exit (susp t))
    (h : nextS C E fid base fn q t e0 s (heldD C fid base) = some (t', S)) (hr : ∀ s, tidyP base (C.pol fid t') s = some S → LoopR C E fid base fn t' s ex1 s1) :
    t' ∈ ids ∧ ∀ (R : Type) (K : Ex → St → Option R), nextF C E fid base fn q t e0 s K = nextF C E fid base fn q t' ex1 s1 K := by
  obtain ⟨e1, S0, h1, h2⟩ := (fac_resumeL (C := C) (E := E) (Lo := loS) (fid := fid) (base := base) (res := resTmps fn.results.toList) (out := some fn.ntmps) (t := t) (atL fn q).2 (atL fn q).1 e0 s).keep h
  obtain ⟨rfl, h3⟩ := heldD_some h1
  exact nextF_loop ok ht he h2 (hr S0 h3)

/-- What one round hands on: the way out, or the state of the next round. -/
def roundD (C : Ctx) (fid base t : Nat) (ex : Ex) (s : St) : Option (Ex × St) :=
  match ex with
  | .norm => (tidyP base (C.pol fid t) s).map fun s => (.norm, s)
  | .ret => some (.ret, s)
  | .exit i => cond (Nat.blt i 1000000) (some (.exit i, s)) none

theorem roundD_plain {t : Nat} : Plain (roundD C fid base t) := by
  intro t' s
  have : Nat.blt (susp t') 1000000 = false := by
    cases h : Nat.blt (susp t') 1000000 with
    | false => rfl
    | true => rw [Nat.blt_eq] at h; simp [susp] at h; omega
  simp [roundD, this]

theorem done_plain {K : AV → List Blk → Option R} : Plain (doneE C fn base K) := fun t s => rfl

/-- A function's contract, from data to data. -/
theorem pure_of_go {P : Program} (hT : TOK P C.T) (hQ : EqOK P C.T) (hm : P.follows .mixedOrders = true) (hE : EvOK P E) (hf : FnOK P C fid fn) {ids : List Nat} (ok : OkSeg fn none ids) {ds : List DV} {d : DV} (hb : (fn.body.isSome && Nat.ble ds.length fn.ntmps) = true)
    (h : startF C E fid 0 fn none ⟨envOf 0 (ds.map .d), [], []⟩ (doneE C fn 0 fun v h => freezeV h 4 v) = some d) (hfr : freshF fid = false := by rfl) : PureOK P fid ds d := by
  have hb' := Bool.and_eq_true_iff.1 hb
  exact pure_of_codeL hT hQ hm hE hf hb'.1 hb'.2 ok.loopsOK h hfr

end
end Go.AE

/- The evaluator with calls that are told beforehand: where 'own' says so, a call's answer is looked up; all other calls are walked. -/
namespace Go.AE
open Go
section
variable {P : Program}

theorem Fac.at {X Z : Type} {f : (R : Type) → (X → Option R) → Option R} (hf : Fac f) (g : X → Z) : Fac (fun R (K : Z → Option R) => f R fun x => K (g x)) := hf.bd fun _ => .ret _

theorem Fac2.bd1 {X Y Z : Type} {f : (R : Type) → (X → Y → Option R) → Option R} {g : X → Y → (R : Type) → (Z → Option R) → Option R} (hf : Fac2 f) (hg : ∀ x y, Fac (g x y)) : Fac (fun R K => f R fun x y => g x y R K) := by
  rcases hf with ⟨x, y, hf⟩ | hf
  · rcases hg x y with ⟨z, hg⟩ | hg
    · exact .inl ⟨z, fun R K => (hf R _).trans (hg R K)⟩
    · exact .inr fun R K => (hf R _).trans (hg R K)
  · exact .inr fun R K => hf R _

theorem fac_iterE {body : (R : Type) → St → (Ex → St → Option R) → Option R} (hb : ∀ s, Fac2 (fun R K => body R s K)) (tid : St → Option St) : ∀ (k : Nat) (s : St), Fac2 (fun R K => iterE (body R) tid k s K)
  | 0, _ => .no
  | k + 1, s => by
    simp only [iterE]
    refine .ob _ fun s' => (hb s').bd2 fun ex s'' => ?_
    cases ex with
    | norm => exact fac_iterE hb tid k s''
    | exit i => exact .ret _ _
    | ret => exact .ret _ _

theorem fac_codeE {C : Ctx} {E : Ev} {fid base k : Nat} {res : List Nat} {out : Option Nat} : ∀ (c : Code) (bid : Nat) (s : St), Fac2 (fun R K => codeE (R := R) C E fid base k res out bid c s K) := by
  intro c
  induction c with
  | skip => intro bid s; exact .ret _ _
  | label l => intro bid s; exact .ret _ _
  | exit id => intro bid s; exact .ob _ fun _ => .ret _ _
  | ret => intro bid s; exact .ob _ fun _ => .ret _ _
  | region id ops drawn =>
    intro bid s
    refine .cnd _ ?_ ?_
    · rcases fac_drawE (C := C) (E := E) (fid := fid) (id := id) (ops := ops) (env := s.env) (h := s.heap) with ⟨x, y, h⟩ | h
      · exact .inl ⟨.norm, ⟨x, y, s.marks⟩, fun R K => h R _⟩
      · exact .inr fun R K => h R _
    · rcases fac_runE (C := C) (E := E) (all := ops.toList) (ops := ops.toList) (env := s.env) (h := s.heap) with ⟨x, y, h⟩ | h
      · exact .inl ⟨.norm, ⟨x, y, s.marks⟩, fun R K => h R _⟩
      · exact .inr fun R K => h R _
  | seq a b iha ihb =>
    intro bid s
    exact (iha bid s).bd2 fun ex s' => by cases ex <;> first | exact ihb bid s' | exact .ret _ _
  | cond x a b iha ihb =>
    intro bid s
    unfold codeE
    cases ev s.env x with
    | d v => cases v with
      | bool x => exact .cnd _ (iha bid s) (ihb bid s)
      | _ => exact .no
    | _ => exact .no
  | block id b ih =>
    intro bid s
    exact (ih id s).bd2 fun ex s' => by cases ex <;> first | exact .cnd _ (.ret _ _) (.ret _ _) | exact .ret _ _
  | loop b ih =>
    intro bid s
    exact fac_iterE (body := fun R s K => codeE (R := R) C E fid base k res out bid b s K) (fun s => ih bid s) _ k s
  | scope b ih => intro bid s; exact ih bid s
  | goto => intro bid s; exact .no
  | refuse => intro bid s; exact .no
  | rangeFunc g ps as bo _ _ =>
    intro bid s
    unfold codeE
    cases out with
    | none => exact .no
    | some N =>
      dsimp only
      cases ev s.env g with
      | d v => cases v with
        | fn gf a b => cases a with
          | nil => exact fac_rangeE
          | cons _ _ => exact .no
        | _ => exact .no
      | fn gf a b => cases a with
        | nil => exact fac_rangeE
        | cons _ _ => exact .no
      | _ => exact .no

theorem fac_resultsE {T : Tab TI} {s : St} : ∀ (rs : List ResultVar), Fac (fun R K => resultsE (R := R) T s rs K)
  | [] => .ret _
  | .tmp t :: r => (fac_resultsE r).bd fun _ => .ret _
  | .cell a t :: r => fac_load.bd fun _ => (fac_resultsE r).bd fun _ => .ret _

theorem fac_doneE {C : Ctx} {fn : Func} {base : Nat} (ex : Ex) (s : St) : Fac2 (fun R K => doneE (R := R) C fn base K ex s) := by
  cases ex with
  | exit i => exact .no
  | ret => exact .ob _ fun _ => (fac_resultsE _).bd2 fun _ => .ret _ _
  | norm => exact .ob _ fun _ => .ob _ fun _ => (fac_resultsE _).bd2 fun _ => .ret _ _

theorem fac_bodyE {C : Ctx} {E : Ev} {k : Nat} {fid : FuncId} {fn : Func} {args : List AV} {h : List Blk} : Fac2 (fun R K => bodyE (R := R) C E k fid fn args h K) := by
  unfold bodyE
  cases fn.body with
  | none => exact .no
  | some c => exact .cnd _ ((fac_codeE c 0 _).bd2 fun ex s => fac_doneE ex s) .no

/-- One step: calls walk the code, and calls within are answered by E. -/
def evStep (C : Ctx) (F : Tab Func) (E : Ev) (k : Nat) : Ev :=
  { pure := fun f args => match tget F f with
      | some fn => .node (Nat.beq args.length fn.params.size) (.cps (fun _ K => bodyE C E k f fn (args.map .d) [] fun v h => (freezeP f h v).bind K) (fac_bodyE.bd1 fun _ _ => .ob _ fun _ => .ret _)) .fail
      | none => .fail
    fn := fun f args h => match tget F f with
      | some fn => .node (calmF f) .fail (.cps (fun _ K => bodyE C E k f fn args h fun v h' => K (v, h')) (fac_bodyE.bd1 fun _ _ => .ret _))
      | none => .fail
    round := fun l args h => .of (roundE C E k l args h) }

theorem evStep_ok {C : Ctx} (hT : TOK P C.T) (hQ : EqOK P C.T) (hm : P.follows .mixedOrders = true) {F : Tab Func} (hF : ∀ f fn, tget F f = some fn → FnOK P C f fn) {E : Ev} (hE : EvOK P E) (k : Nat) : EvOK P (evStep C F E k) := by
  refine ⟨?_, ?_, fun f as h v h' e q => ?_, fun l as h v h' e => roundE_sound hT hQ hm hE (k := k) (by simpa only [evStep, Tr.val_of] using e)⟩
  · intro f ds d e
    simp only [evStep] at e
    split at e
    · rename_i fn hfn
      simp only [Tr.val] at e
      obtain ⟨_, e⟩ := cond_none e
      refine pureE_ok hT hQ hm hE (k := k) (hF f fn hfn) ?_
      have h0 : ∀ o : Option DV, o.bind some = o := fun o => by cases o <;> rfl
      simpa only [pureE, h0] using e
    · cases e
  · intro f as h v h' e
    simp only [evStep] at e
    split at e
    · rename_i fn hfn
      simp only [Tr.val] at e
      cases q : calmF f with
      | true => rw [q] at e; cases e
      | false => rw [q] at e; exact bodyE_ok hT hQ hm hE (hF f fn hfn) e
    · cases e
  · simp only [evStep] at e
    split at e
    · simp only [Tr.val, q, cond_true] at e; cases e
    · cases e

/-- The numbers of calls whose answers are told. -/
def isIn : List Nat → Nat → Bool
  | [], _ => false
  | x :: r, f => cond (Nat.beq x f) true (isIn r f)

def evO (C : Ctx) (F : Tab Func) (E0 : Ev) (ps fs : List Nat) (k : Nat) : Nat → Ev
  | 0 => E0
  | n + 1 =>
    { pure := fun f args => .node (isIn ps f) (E0.pure f args) ((evStep C F (evO C F E0 ps fs k n) k).pure f args)
      fn := fun f args h => .node (isIn fs f) (E0.fn f args h) ((evStep C F (evO C F E0 ps fs k n) k).fn f args h)
      round := (evStep C F (evO C F E0 ps fs k n) k).round }

theorem evO_ok {C : Ctx} (hT : TOK P C.T) (hQ : EqOK P C.T) (hm : P.follows .mixedOrders = true) {F : Tab Func} (hF : ∀ f fn, tget F f = some fn → FnOK P C f fn) {E0 : Ev} (h0 : EvOK P E0) (ps fs : List Nat) (k : Nat) : ∀ n, EvOK P (evO C F E0 ps fs k n)
  | 0 => h0
  | n + 1 => by
    have ih := evStep_ok hT hQ hm hF (evO_ok hT hQ hm hF h0 ps fs k n) k
    refine ⟨fun f ds d e => ?_, fun f as h v h' e => ?_, fun f as h v h' e q => ?_, ih.round⟩
    · simp only [evO, Tr.val] at e
      cases c : isIn ps f with
      | true => rw [c] at e; exact h0.pure f ds d e
      | false => rw [c] at e; exact ih.pure f ds d e
    · simp only [evO, Tr.val] at e
      cases c : isIn fs f with
      | true => rw [c] at e; exact h0.fn f as h v h' e
      | false => rw [c] at e; exact ih.fn f as h v h' e
    · simp only [evO, Tr.val] at e
      cases c : isIn fs f with
      | true => rw [c] at e; exact h0.calm f as h v h' e q
      | false => rw [c] at e; exact ih.calm f as h v h' e q
end
end Go.AE

/- Lemmas by which residuals are taken through: conditions that omega decides. -/
namespace Go.AE
open Go

theorem cnd_pos {p : Prop} [Decidable p] {R : Type} {a b : R} (h : p) : (bif decide p then a else b) = a := by rw [decide_eq_true h]; rfl
theorem cnd_neg {p : Prop} [Decidable p] {R : Type} {a b : R} (h : ¬ p) : (bif decide p then a else b) = b := by rw [decide_eq_false h]; rfl
theorem inR_pos {i : Int} {n : Nat} {R : Type} {a b : R} (h0 : 0 ≤ i) (h1 : i < n) : (bif inRange i n then a else b) = a := by simp [inRange, h0, h1]
theorem ble_pos {a b : Nat} {R : Type} {x y : R} (h : a ≤ b) : (bif Nat.ble a b then x else y) = x := by rw [Nat.ble_eq_true_of_le h]; rfl
theorem wrap64_o {n : Int} (h1 : -9223372036854775808 ≤ n) (h2 : n < 9223372036854775808) : IntKind.wrap IntKind.i64 n = n := by
  rw [IntKind.wrap_i64]; omega

theorem wrapU_eq (n : Int) : IntKind.u64.wrap n = n % 18446744073709551616 := by simp [IntKind.wrap, IntKind.bits, IntKind.signed]

theorem nth_ints_o {l : List Int} {i : Nat} (h : i < l.length) : nth (ints l) i = some (iD (l.getD i 0)) := by
  unfold ints; rw [nth_map, nth_eq]; simp [h]
theorem nth_bools_o {l : List Bool} {i : Nat} (h : i < l.length) : nth (bools l) i = some (bD (l.getD i false)) := by
  unfold bools; rw [nth_map, nth_eq]; simp [h]
theorem len_ints (l : List Int) : (ints l).length = l.length := by simp [ints]
theorem len_bools (l : List Bool) : (bools l).length = l.length := by simp [bools]
theorem lenOf_1 (n : Nat) : lenOf 1 n = n := rfl
theorem setNth_eq {α : Type} : ∀ (l : List α) (i : Nat) (x : α), setNth l i x = l.set i x
  | [], _, _ => by simp [setNth]
  | y :: l, 0, x => rfl
  | y :: l, i + 1, x => by simp [setNth, setNth_eq l i x]
theorem setNth_bools_o (l : List Bool) (i : Nat) (b : Bool) : setNth (bools l) i (bD b) = bools (l.set i b) := by
  rw [setNth_eq]; unfold bools; rw [List.map_set]
theorem setNth_ints_o (l : List Int) (i : Nat) (b : Int) : setNth (ints l) i (iD b) = ints (l.set i b) := by
  rw [setNth_eq]; unfold ints; rw [List.map_set]
theorem ints_app (a b : List Int) : ints (a ++ b) = ints a ++ ints b := by simp [ints]
theorem ints_app1 (a : List Int) (x : Int) : ints a ++ [iD x] = ints (a ++ [x]) := by simp [ints]
theorem drop_cons_o {α : Type} {l : List α} {k : Nat} {x d : α} {r : List α} (h : l.drop k = x :: r) : k < l.length ∧ l.getD k d = x ∧ l.drop (k + 1) = r := by
  have hk : k < l.length := by
    rcases Nat.lt_or_ge k l.length with h1 | h1
    · exact h1
    · rw [List.drop_eq_nil_of_le h1] at h; cases h
  rw [List.drop_eq_getElem_cons hk] at h
  obtain ⟨h1, h2⟩ := List.cons.inj h
  exact ⟨hk, by simp [List.getD_eq_getElem?_getD, hk, h1], h2⟩
theorem drop_nil_o {α : Type} {l : List α} {k : Nat} (h : l.drop k = []) : l.length ≤ k := by
  have := congrArg List.length h; simp at this; omega
/-! ### Residuals, shorter -/
def getI {R : Type} (o : Option DV) (K : Int → Option R) : Option R := Option.bind o fun d => match d with
  | .int k n => bif decide (k = IntKind.i64) then K n else none
  | _ => none
def getB {R : Type} (o : Option DV) (K : Bool → Option R) : Option R := Option.bind o fun d => match d with
  | .bool b => K b
  | _ => none
theorem getI_some {R : Type} (n : Int) (K : Int → Option R) : getI (some (iD n)) K = K n := rfl
theorem getB_some {R : Type} (b : Bool) (K : Bool → Option R) : getB (some (bD b)) K = K b := rfl

/-! ### Told things, and whether they are what is asked -/
open Classical in
noncomputable def isAt {α : Type} (a b : α) : Bool := decide (a = b)
open Classical in
noncomputable def isP (p : Prop) : Bool := decide p
theorem isP_iff {p : Prop} : isP p = true ↔ p := by simp [isP]

/-- Numbers of a row. -/
def unI : List DV → List Int
  | [] => []
  | .int _ n :: r => n :: unI r
  | _ :: r => 0 :: unI r
theorem unI_ints : ∀ l : List Int, unI (ints l) = l
  | [] => rfl
  | x :: l => by show x :: unI (ints l) = _; rw [unI_ints l]
/-! ### Pairs of numbers -/
/-- Edges as data, one behind the other. -/
def edD : List (Int × Int) → List DV
  | [] => []
  | e :: r => iD e.1 :: iD e.2 :: edD r

theorem nth_ed : ∀ (E : List (Int × Int)) (i : Nat), nth (edD E) (i * 2) = (E[i]?).map (fun e => iD e.1) ∧ nth (edD E) (i * 2 + 1) = (E[i]?).map (fun e => iD e.2)
  | [], i => by simp [edD, nth]
  | e :: r, 0 => ⟨rfl, rfl⟩
  | e :: r, i + 1 => by
    have := nth_ed r i
    have h1 : (i + 1) * 2 = (i * 2 + 1) + 1 := by omega
    rw [h1]
    exact ⟨this.1, this.2⟩

/-- The edges of data. -/
def unPr : List DV → List (Int × Int)
  | .int _ a :: .int _ b :: r => (a, b) :: unPr r
  | _ => []
theorem unPr_ed : ∀ E : List (Int × Int), unPr (edD E) = E
  | [] => rfl
  | e :: r => by show (e.1, e.2) :: unPr (edD r) = _; rw [unPr_ed r]

theorem nth_pr1 {E : List (Int × Int)} {i : Nat} (h : i < E.length) : nth (edD E) (i * 2) = some (iD (E.getD i (0, 0)).1) := by
  rw [(nth_ed E i).1]; simp [h]
theorem nth_pr2 {E : List (Int × Int)} {i : Nat} (h : i < E.length) : nth (edD E) (i * 2 + 1) = some (iD (E.getD i (0, 0)).2) := by
  rw [(nth_ed E i).2]; simp [h]
theorem len_prs : ∀ E : List (Int × Int), (edD E).length = E.length * 2
  | [] => rfl
  | e :: r => by show (edD r).length + 1 + 1 = _; rw [len_prs r]; simp; omega
/-! ### Loops, round by round -/
section
variable {C : Ctx} {E : Ev} {fid base : Nat} {fn : Func}

/-- What a loop comes to from the state of a round on. -/
def LoopAt (C : Ctx) (E : Ev) (fid base : Nat) (fn : Func) (t : Nat) (S : St) (e : Ex) (s' : St) : Prop :=
  ∃ k0 j0, ∀ k, k0 ≤ k → ∀ j, j0 ≤ j → ∀ s, tidyP base (C.pol fid t) s = some S → ∀ (R : Type) (K : Ex → St → Option R),
    iterE (fun s K => codeE C E fid base k (resTmps fn.results.toList) (some fn.ntmps) t (loopOf fn t) s K) (tidyP base (C.pol fid t)) j s K = K e s'

theorem LoopAt.loopR {t : Nat} {S s' : St} {e : Ex} (h : LoopAt C E fid base fn t S e s') : ∀ s, tidyP base (C.pol fid t) s = some S → LoopR C E fid base fn t s e s' := by
  intro s hs
  obtain ⟨k0, j0, h⟩ := h
  exact ⟨max k0 j0, fun k hk R K => by simp only [codeE]; exact h k (by omega) k (by omega) s hs R K⟩

theorem round_conv {t : Nat} {ids : List Nat} (ok : OkSeg fn (some t) ids) {I S : St} {e : Ex} (h : startF C E fid base fn (some t) I (roundD C fid base t) = some (e, S)) :
    ∃ s1, Runs C E fid base (resTmps fn.results.toList) (some fn.ntmps) t (loopOf fn t) I e s1 ∧ (e = .norm → tidyP base (C.pol fid t) s1 = some S) ∧ (e ≠ .norm → s1 = S) := by
  obtain ⟨e1, s1, h1, h2⟩ := (fac_codeL (C := C) (E := E) (Lo := loF C E fid base fn) (fid := fid) (base := base) (res := resTmps fn.results.toList) (out := some fn.ntmps) (loopOf fn t) t I).keep h
  have hr := codeL_runs (loopOf fn t) t I e1 s1 ok.loopsOK h2
  cases e1 with
  | norm =>
    simp only [roundD, Option.map_eq_some_iff, Prod.mk.injEq] at h1
    obtain ⟨S', h3, rfl, rfl⟩ := h1
    exact ⟨s1, hr, fun _ => h3, fun h => absurd rfl h⟩
  | ret =>
    simp only [roundD, Option.some.injEq, Prod.mk.injEq] at h1
    obtain ⟨rfl, rfl⟩ := h1
    exact ⟨s1, hr, by simp, fun _ => rfl⟩
  | exit i =>
    simp only [roundD] at h1
    obtain ⟨_, h1⟩ := cond_none h1
    simp only [Option.some.injEq, Prod.mk.injEq] at h1
    obtain ⟨rfl, rfl⟩ := h1
    exact ⟨s1, hr, by simp, fun _ => rfl⟩

theorem LoopAt.outF {t : Nat} {ids : List Nat} (ok : OkSeg fn (some t) ids) {S S' : St} {e : Ex} (hne : e ≠ .norm) (h : startF C E fid base fn (some t) S (roundD C fid base t) = some (e, S')) : LoopAt C E fid base fn t S e S' := by
  obtain ⟨s1, ⟨k1, r1⟩, _, h3⟩ := round_conv ok h
  obtain rfl := h3 hne
  refine ⟨k1, 1, fun k hk j hj s hs R K => ?_⟩
  obtain ⟨j', rfl⟩ : ∃ j', j = j' + 1 := ⟨j - 1, by omega⟩
  simp only [iterE, hs, Option.bind_some]
  rw [r1 k hk]
  cases e with
  | norm => exact absurd rfl hne
  | exit i => rfl
  | ret => rfl

theorem LoopAt.nextF {t : Nat} {ids : List Nat} (ok : OkSeg fn (some t) ids) {S S' s' : St} {e : Ex} (h : startF C E fid base fn (some t) S (roundD C fid base t) = some (.norm, S')) (h2 : LoopAt C E fid base fn t S' e s') : LoopAt C E fid base fn t S e s' := by
  obtain ⟨s1, ⟨k1, r1⟩, h3, _⟩ := round_conv ok h
  have h3 := h3 rfl
  obtain ⟨k2, j2, r2⟩ := h2
  refine ⟨max k1 k2, j2 + 1, fun k hk j hj s hs R K => ?_⟩
  obtain ⟨j', rfl⟩ : ∃ j', j = j' + 1 := ⟨j - 1, by omega⟩
  simp only [iterE, hs, Option.bind_some]
  rw [r1 k (by omega)]
  exact r2 k (by omega) j' (by omega) s1 h3 R K

theorem LoopAt.out {t : Nat} {ids : List Nat} (ok : OkSeg fn (some t) ids) {S S' : St} {e : Ex} (hne : e ≠ .norm) (h : startS C E fid base fn (some t) S (roundD C fid base t) = some (e, S')) : LoopAt C E fid base fn t S e S' :=
  .outF ok hne (startF_done ok roundD_plain h)

theorem LoopAt.next {t : Nat} {ids : List Nat} (ok : OkSeg fn (some t) ids) {S S' s' : St} {e : Ex} (h : startS C E fid base fn (some t) S (roundD C fid base t) = some (.norm, S')) (h2 : LoopAt C E fid base fn t S' e s') : LoopAt C E fid base fn t S e s' :=
  .nextF ok (startF_done ok roundD_plain h) h2

theorem exit_small {i : Nat} (h : i < 1000000) : ∀ t, Ex.exit i ≠ .exit (susp t) := by
  intro t e; cases e; simp only [susp] at h; omega
variable {R : Type} {r : R}
theorem startF_seg {q : Option Nat} {ids : List Nat} (ok : OkSeg fn q ids) {t : Nat} {s S s1 : St} {e : Ex} {D : Ex → St → Option R} (h : startS C E fid base fn q s (heldD C fid base) = some (t, S))
    (hl : LoopAt C E fid base fn t S e s1) : startF C E fid base fn q s D = nextF C E fid base fn q t e s1 D := (startF_at ok h hl.loopR).2 R D

theorem nextF_seg {q : Option Nat} {ids : List Nat} (ok : OkSeg fn q ids) {t t' : Nat} {e0 : Ex} {s S s1 : St} {e : Ex} {D : Ex → St → Option R} (ht : t ∈ ids) (he : ∀ t, e0 ≠ .exit (susp t))
    (h : nextS C E fid base fn q t e0 s (heldD C fid base) = some (t', S)) (hl : LoopAt C E fid base fn t' S e s1) : Go.AE.nextF C E fid base fn q t e0 s D = Go.AE.nextF C E fid base fn q t' e s1 D := (nextF_at ok ht he h hl.loopR).2 R D

/-- One loop, and what is behind it. -/
theorem startF_one {q : Option Nat} {ids : List Nat} (ok : OkSeg fn q ids) {t : Nat} {s S s1 : St} {e : Ex} {D : Ex → St → Option R} (hD : Plain D) (h : startS C E fid base fn q s (heldD C fid base) = some (t, S))
    (hl : LoopAt C E fid base fn t S e s1) (h2 : nextS C E fid base fn q t e s1 D = some r) : startF C E fid base fn q s D = some r :=
  (startF_seg ok h hl).trans (nextF_done ok hD h2)
end
end Go.AE

/- Loops whose rounds are walked whole, with the loops in them. -/
namespace Go.AE
open Go

section
variable {C : Ctx} {E : Ev} {fid base : Nat} {res : List Nat} {out : Option Nat}

theorem iter_mono {k k' : Nat} {bid : Nat} {b : Code} {tid : St → Option St} (ih : ∀ (s : St) (ex : Ex) (s' : St), (∀ (R : Type) (K : Ex → St → Option R), codeE C E fid base k res out bid b s K = K ex s') → ∀ (R : Type) (K : Ex → St → Option R), codeE C E fid base k' res out bid b s K = K ex s') : ∀ (n n' : Nat), n ≤ n' → ∀ (s : St) (ex : Ex) (s' : St),
    (∀ (R : Type) (K : Ex → St → Option R), iterE (fun s K => codeE C E fid base k res out bid b s K) tid n s K = K ex s') → ∀ (R : Type) (K : Ex → St → Option R), iterE (fun s K => codeE C E fid base k' res out bid b s K) tid n' s K = K ex s'
  | 0, _, _, s, ex, s', h => by have := h Unit fun _ _ => some (); cases this
  | n + 1, 0, hn, _, _, _, _ => by omega
  | n + 1, n' + 1, hn, s, ex, s', h => by
    intro R K
    simp only [iterE] at h ⊢
    cases ht : tid s with
    | none => rw [ht] at h; have := h Unit fun _ _ => some (); cases this
    | some s1 =>
      rw [ht] at h
      simp only [Option.bind_some] at h ⊢
      rcases fac_codeE (C := C) (E := E) (fid := fid) (base := base) (k := k) (res := res) (out := out) b bid s1 with ⟨e2, s2, h1⟩ | h1
      · replace h1 : ∀ (R : Type) (K : Ex → St → Option R), codeE C E fid base k res out bid b s1 K = K e2 s2 := h1
        have r1 := ih s1 e2 s2 h1
        rw [r1]
        cases e2 with
        | norm =>
          refine iter_mono ih n n' (by omega) s2 ex s' (fun R K => ?_) R K
          have := h R K
          rw [h1] at this
          exact this
        | exit i => have := h R K; rw [h1] at this; exact this
        | ret => have := h R K; rw [h1] at this; exact this
      · replace h1 : ∀ (R : Type) (K : Ex → St → Option R), codeE C E fid base k res out bid b s1 K = none := h1
        have := h Unit fun _ _ => some ()
        rw [h1] at this; cases this

/-- More rounds do no harm. -/
theorem codeE_mono {k k' : Nat} (hk : k ≤ k') : ∀ (c : Code) (bid : Nat) (s : St) (ex : Ex) (s' : St), (∀ (R : Type) (K : Ex → St → Option R), codeE C E fid base k res out bid c s K = K ex s') → ∀ (R : Type) (K : Ex → St → Option R), codeE C E fid base k' res out bid c s K = K ex s' := by
  intro c
  induction c with
  | seq a b iha ihb =>
    intro bid s ex s' h R K
    rcases fac_codeE (C := C) (E := E) (fid := fid) (base := base) (k := k) (res := res) (out := out) a bid s with ⟨e1, s1, h1⟩ | h1
    · replace h1 : ∀ (R : Type) (K : Ex → St → Option R), codeE C E fid base k res out bid a s K = K e1 s1 := h1
      have r1 := iha bid s e1 s1 h1
      simp only [codeE] at h ⊢
      rw [r1]
      cases e1 with
      | norm =>
        refine ihb bid s1 ex s' (fun R K => ?_) R K
        have := h R K
        rw [h1] at this
        exact this
      | exit i => have := h R K; rw [h1] at this; exact this
      | ret => have := h R K; rw [h1] at this; exact this
    · replace h1 : ∀ (R : Type) (K : Ex → St → Option R), codeE C E fid base k res out bid a s K = none := h1
      have := h Unit fun _ _ => some ()
      simp only [codeE] at this
      rw [h1] at this; cases this
  | cond x a b iha ihb =>
    intro bid s ex s' h R K
    unfold codeE at h ⊢
    cases hx : ev s.env x with
    | d v =>
      cases v with
      | bool y =>
        rw [hx] at h
        cases y with
        | true => exact iha bid s ex s' h R K
        | false => exact ihb bid s ex s' h R K
      | _ => rw [hx] at h; have := h Unit fun _ _ => some (); cases this
    | _ => rw [hx] at h; have := h Unit fun _ _ => some (); cases this
  | block id b ih =>
    intro bid s ex s' h R K
    rcases fac_codeE (C := C) (E := E) (fid := fid) (base := base) (k := k) (res := res) (out := out) b id s with ⟨e1, s1, h1⟩ | h1
    · replace h1 : ∀ (R : Type) (K : Ex → St → Option R), codeE C E fid base k res out id b s K = K e1 s1 := h1
      have r1 := ih id s e1 s1 h1
      simp only [codeE] at h ⊢
      rw [r1]
      have := h R K
      rw [h1] at this
      exact this
    · replace h1 : ∀ (R : Type) (K : Ex → St → Option R), codeE C E fid base k res out id b s K = none := h1
      have := h Unit fun _ _ => some ()
      simp only [codeE] at this
      rw [h1] at this; cases this
  | loop b ih =>
    intro bid s ex s' h R K
    simp only [codeE] at h ⊢
    exact iter_mono (fun s ex s' => ih bid s ex s') k k' hk s ex s' h R K
  | scope b ih =>
    intro bid s ex s' h R K
    simp only [codeE] at h ⊢
    exact ih bid s ex s' h R K
  | _ => intro bid s ex s' h R K; have := h R K; simpa only [codeE] using this

theorem runs_of_codeE {X : Type} {k bid : Nat} {c : Code} {s : St} {D : Ex → St → Option X} {x : X} (h : codeE C E fid base k res out bid c s D = some x) : ∃ ex s1, D ex s1 = some x ∧ Runs C E fid base res out bid c s ex s1 := by
  obtain ⟨e1, s1, h1, h2⟩ := (fac_codeE (C := C) (E := E) (fid := fid) (base := base) (k := k) (res := res) (out := out) c bid s).keep h
  exact ⟨e1, s1, h1, k, fun k' hk => codeE_mono hk c bid s e1 s1 h2⟩
end

section
variable {C : Ctx} {E : Ev} {fid base : Nat} {fn : Func}
/-- One round, walked with all loops in it. -/
def inR {R : Type} (C : Ctx) (E : Ev) (fid base : Nat) (fn : Func) (k t : Nat) (S : St) (K : Ex → St → Option R) : Option R :=
  codeE C E fid base k (resTmps fn.results.toList) (some fn.ntmps) t (loopOf fn t) S K
/-- All rounds. -/
def inL {R : Type} (C : Ctx) (E : Ev) (fid base : Nat) (fn : Func) (k t : Nat) (S : St) (K : Ex → St → Option R) : Option R :=
  inR C E fid base fn k t S fun ex s => match ex with
    | .norm => codeE C E fid base k (resTmps fn.results.toList) (some fn.ntmps) t (.loop (loopOf fn t)) s K
    | e => K e s

/-- A loop walked whole. -/
theorem LoopAt.inl {k t : Nat} {S S' : St} {e : Ex} (h : inL C E fid base fn k t S (fun ex s => some (ex, s)) = some (e, S')) : LoopAt C E fid base fn t S e S' := by
  obtain ⟨e1, s1, h1, k1, r1⟩ := runs_of_codeE h
  cases e1 with
  | norm =>
    obtain ⟨e2, s2, h2, k2, r2⟩ := runs_of_codeE h1
    simp only [Option.some.injEq, Prod.mk.injEq] at h2
    obtain ⟨rfl, rfl⟩ := h2
    refine ⟨max k1 k2, k1 + k2 + 1, fun k hk j hj s hs R K => ?_⟩
    obtain ⟨j', rfl⟩ : ∃ j', j = j' + 1 := ⟨j - 1, by omega⟩
    simp only [iterE, hs, Option.bind_some]
    rw [r1 k (by omega)]
    have h5 := r2 k (by omega)
    have h6 := r2 (max k1 k2) (by omega)
    simp only [codeE] at h5 h6
    have q : max k1 k2 ≤ j' := by omega
    have h7 := iter_mono (C := C) (E := E) (fid := fid) (base := base) (k := max k1 k2) (k' := k) (fun s ex s' hh => codeE_mono hk (loopOf fn t) t s ex s' hh) (max k1 k2) j' q s1 e2 s2 h6
    exact h7 R K
  | exit i =>
    simp only [Option.some.injEq, Prod.mk.injEq] at h1
    obtain ⟨rfl, rfl⟩ := h1
    refine ⟨k1, 1, fun k hk j hj s hs R K => ?_⟩
    obtain ⟨j', rfl⟩ : ∃ j', j = j' + 1 := ⟨j - 1, by omega⟩
    simp only [iterE, hs, Option.bind_some]
    rw [r1 k hk]
  | ret =>
    simp only [Option.some.injEq, Prod.mk.injEq] at h1
    obtain ⟨rfl, rfl⟩ := h1
    refine ⟨k1, 1, fun k hk j hj s hs R K => ?_⟩
    obtain ⟨j', rfl⟩ : ∃ j', j = j' + 1 := ⟨j - 1, by omega⟩
    simp only [iterE, hs, Option.bind_some]
    rw [r1 k hk]
end
end Go.AE

/- Calls that are told one by one, each by a rule; and other contexts over the same code. -/
namespace Go.AE
open Go

/-- How a call is told, from data to data; in the caller's memory. -/
abbrev Rule := List DV → Tr DV
/-- One call: these arguments, this answer. -/
noncomputable def one (as : List DV) (d : DV) : Rule := fun ds => .node (isAt ds as) (.leaf d) .fail
section
variable {P : Program}
/-- The code's plans hold in any context that has the same ones. -/
theorem okCode_same {C C' : Ctx} (h : C'.plan = C.plan) (fid N : Nat) : ∀ c, okCode C' fid N c = okCode C fid N c := by
  intro c
  induction c with
  | region id ops drawn => simp only [okCode, h]
  | seq a b iha ihb => simp only [okCode, iha, ihb]
  | cond x a b iha ihb => simp only [okCode, iha, ihb]
  | block id b ih => simp only [okCode, ih]
  | loop b ih => simp only [okCode, ih]
  | scope b ih => simp only [okCode, ih]
  | _ => rfl
theorem FnOK.same {C C' : Ctx} (h : C'.plan = C.plan) {f : Nat} {fn : Func} (q : FnOK P C f fn) : FnOK P C' f fn :=
  ⟨q.at_, q.name, fun c hc => (okCode_same h f fn.ntmps c).trans (q.code c hc)⟩

/-- A context with some more functions that are walked in the caller's memory. -/
def Ctx.open' (C : Ctx) (l : List Nat) : Ctx := { C with iso := fun f => C.iso f && !isIn l f }
end
end Go.AE
