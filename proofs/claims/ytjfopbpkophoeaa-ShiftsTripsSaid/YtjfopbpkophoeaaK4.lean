/- Part 4 of what the law stands on: the abstract machine over the model, and what the functions answer. No condition. -/
import Derived.Test.YtjfopbpkophoeaaK3
set_option linter.unusedSimpArgs false
set_option linter.unusedVariables false

/- Regions that begin with the next entry of a map; functions whose code comes to one of some outcomes. -/
namespace Go.AE
open Go

section
variable {P : Program} {C : Ctx} {fid N n : Nat} {ro : Option Nat} {w0 : World} {σ0 : Sg} {h0 : List Blk}

theorem Sat.region_next (hT : TOK P C.T) (hE : EqOK P C.T) {E : Ev} (hV : EvOK P E) {id : Nat} {ops : Array Oper} {s : St} {Post : Ex → St → Prop} {o : Oper} {x : Operand} {rest : List Oper} (hops : ops.toList = o :: rest) (hop : o.op = .next x false) (hgd : o.guard = none)
    {b m nn : Nat} {seen : List Nat} {es : List (DV × DV)} (hev : ev s.env x = .ref b 0) (hb : nth s.heap b = some (.mit m nn seen)) (hm : nth s.heap m = some (.mp es)) (hn : es.length = nn)
    (hall : ∀ v h', NextOut b m nn seen es s.heap v h' → runE C E ops.toList rest (putE o.dst v s.env) h' (fun env h => ind Post .norm ⟨env, h, s.marks⟩) = some ()) : Sat P C fid N ro n w0 σ0 h0 (.region id ops false) s Post := by
  intro a w σ DF Q hok hs hp hmk hQ
  have hd : ∀ o ∈ ops.toList, ∀ t, o.dst = some t → t < N := by
    intro o ho t ht
    simp only [okCode, Bool.and_eq_true, List.all_eq_true] at hok
    have := hok.1 o ho
    rw [ht] at this
    simpa [Nat.blt_eq] using this
  refine wpIn_region ?_
  have hsz : ops.size = rest.length + 1 := by rw [← Array.length_toList, hops]; rfl
  rw [List.range_eq_range', hsz, List.range'_succ]
  have ho : ops[0]? = some o := by rw [← Array.getElem?_toList, hops]; rfl
  simp only [wpOpsIn, ho]
  have hwant : Region.wanted o (yielded ops a.tmps) = true := by unfold Region.wanted; rw [hgd]
  rw [if_pos hwant]
  refine ⟨fun _ _ => trivial, ?_⟩
  rw [semAt_FW ro o a.eval (by rw [hop]; intro c; simp)]
  have hx := ev_rel hs.inv.glob hs.env x
  rw [hev] at hx
  obtain ⟨v, h', hout, u, w', σ', k1, k2, k3, k4⟩ := next_any (P := P) (ty := o.type) hs.inv hx hb hm hn
  have hO : Out P w σ s.heap (execOp a.eval o) v h' := by
    have := Out.made (P := P) k1 k2 k3 k4
    unfold execOp
    rw [hop]
    exact this
  obtain ⟨nx, u', w2, σ2, j1, j2, j3, j4, j5⟩ := hO
  rw [j1]
  have hgo := runE_wp (K := fun env h => ind Post .norm ⟨env, h, s.marks⟩) hT hE hV (ops := ops) (ro := ro) (n := n) (Q := Q) rest [o] (putE o.dst v s.env) h' (a.put o.dst u') w2 σ2 (by rw [hops]; rfl) (fun o' ho' => hd o' (by rw [hops]; exact List.mem_cons_of_mem _ ho')) (SR.put ⟨hs.inv, hs.env, hs.size, hs.defers⟩ j3 j4 j5 (hd o (by rw [hops]; exact List.mem_cons_self ..))) (hall v h' hout)
    (fun env' h2 a' w3 σ3 q1 q2 q3 => hQ .norm ⟨env', h2, s.marks⟩ .normal a' w3 σ3 DF (ind_some q1) rfl q2 ((hp.trans j4).trans q3) ((hmk.mono j4.keeps hs.inv.len).mono q3.keeps j3.len))
  cases nx <;> simp [taken] at j2
  · subst j2; exact hgo
  · subst j2; exact hgo

/-- A function's call, by what its code comes to. -/
theorem sat_calls {R : Type} {r : R} (hT : TOK P C.T) {fn : Func} (hf : FnOK P C fid fn) {c : Code} (hc : fn.body = some c) {args : List AV} {h : List Blk} {K : AV → List Blk → Option R} (hle : Nat.ble args.length fn.ntmps = true)
    (hS : ∀ (w : World) (σ : Sg), HInv w σ h → Sat P C fid fn.ntmps none 0 w σ h c ⟨envOf 0 args, h, []⟩ fun ex s' => doneE C fn h.length K ex s' = some r) : Enters P fid ∧ ∀ (w : World) (σ : Sg) (vs : Array Value), HInv w σ h → AVals w σ h args vs.toList →
    Calls P fid vs w fun e w' => ∃ v h' u σ', K v h' = some r ∧ e = .returned u ∧ HInv w' σ' h' ∧ Step w σ h w' σ' h' ∧ ARel w' σ' h' v u := by
  refine ⟨⟨fn, hf.at_, hf.name, by rw [hc]; rfl⟩, ?_⟩
  intro w σ vs hi q
  refine callsIn_wide.1 (callsIn_of_wp_marks (n := 0) hf.at_ hc trivial ?_ rfl)
  have hlen := q.get.1
  have hle := Nat.le_of_ble_eq_true hle
  have hs : SR fn.ntmps [] w σ (envOf 0 args) h { tmps := vs ++ Array.replicate (fn.ntmps - vs.size) undef, defers := [] } :=
    ⟨hi, enter_rel q, by simp at hlen ⊢; omega, rfl⟩
  refine hS w σ hi _ w σ [] _ (hf.code c hc) hs (Step.refl _ _ _) rfl ?_
  intro ex s' e a' w' σ' DF' k1 k2 k3 k4 k5
  have fin : ∀ (v : AV) (h' : List Blk) (u : Value) (w' : World) (σ' : Sg), K v h' = some r → HInv w' σ' h' → Step w σ h w' σ' h' → ARel w' σ' h' v u →
      (fun (e : Ending) (w' : World) => ∃ v h' u σ', K v h' = some r ∧ e = .returned u ∧ HInv w' σ' h' ∧ Step w σ h w' σ' h' ∧ ARel w' σ' h' v u) (.returned u) w' := fun v h' u w' σ' g1 g2 g3 g4 => ⟨v, h', u, σ', g1, rfl, g2, g3, g4⟩
  cases ex with
  | exit i => simp [doneE] at k1
  | norm =>
    simp only [ExRel] at k2; subst k2
    simp only [doneE] at k1
    obtain ⟨s2, t1, k1⟩ := Option.bind_eq_some_iff.1 k1
    obtain ⟨σ2, t2, t3, t4⟩ := tidy_sound hi k3 k4 k5 t1
    exact (out_sound (F := Fence.wide) (n := 0) (Rr := fun e w' => ∃ v h' u σ', K v h' = some r ∧ e = .returned u ∧ HInv w' σ' h' ∧ Step w σ h w' σ' h' ∧ ARel w' σ' h' v u) hT t2 t3 t4 k1 fin)
  | ret =>
    simp only [ExRel] at k2; subst k2
    simp only [doneE] at k1
    exact (out_sound (F := Fence.wide) (n := 0) (Rr := fun e w' => ∃ v h' u σ', K v h' = some r ∧ e = .returned u ∧ HInv w' σ' h' ∧ Step w σ h w' σ' h' ∧ ARel w' σ' h' v u) hT k3 k4 k5 k1 fin)

/-- A function's contract, from data to data, by what its code comes to. -/
theorem pure_of_sat (hT : TOK P C.T) {fn : Func} (hf : FnOK P C fid fn) {c : Code} (hc : fn.body = some c) {ds : List DV} {d : DV} (hle : Nat.ble ds.length fn.ntmps = true)
    (hS : ∀ (w : World) (σ : Sg), HInv w σ [] → Sat P C fid fn.ntmps none 0 w σ [] c ⟨envOf 0 (ds.map .d), [], []⟩ fun ex s' => doneE C fn 0 (fun v h => freezeP fid h v) ex s' = some d) : PureOK P fid ds d := by
  obtain ⟨k1, k2⟩ := sat_calls (h := []) (K := fun v h => freezeP fid h v) hT hf hc (args := ds.map .d) (by simpa using hle) hS
  refine ⟨k1, fun w G vs hG hg q => ?_⟩
  have hi : HInv w ⟨G, []⟩ [] := ⟨rfl, by intro b x hb; simp [nth] at hb, by rintro b1 b2 c1 c2 ⟨x, hx, _⟩; simp [nth] at hx, by rintro k ⟨b, c, ⟨x, hx, _⟩, _⟩; simp [nth] at hx, hG, hg⟩
  refine Calls.mono (k2 w ⟨G, []⟩ vs hi (AVals.to_D q)) ?_
  rintro e w' ⟨v, h', u, σ', g1, rfl, g2, g3, g4⟩
  have hno : ∀ k, ¬ Mine ⟨G, []⟩ [] k := by rintro k ⟨b, c, ⟨x, hx, _⟩, _⟩; simp [nth] at hx
  refine ⟨u, rfl, ⟨g3.os, g3.tape, g3.output, g3.size, fun k hk => g3.other k hk (hno k)⟩, ?_⟩
  refine (freezeP_rel g2 g1 g4).wider ?_
  rintro k (⟨hfr, hk⟩ | ⟨b, c, _, hb, hc, rfl⟩)
  · rcases g3.more k hk with m | m | m
    · exact .inl ⟨hfr, m⟩
    · exact absurd m (hno k)
    · exact .inr ⟨m, g2.bound k hk⟩
  · rcases g3.mine c.1 ⟨b, c, hb, hc, rfl⟩ with m | m
    · exact absurd m (hno _)
    · exact .inr ⟨m, g2.lt ⟨b, c, hb, hc, rfl⟩⟩
end
end Go.AE

/- Code by its parts; regions that begin with an entry of a map. -/
namespace Go.AE
open Go

/-- A part of code. -/
def kid (i : Nat) : Code → Code
  | .seq a b => match i with
    | 0 => a
    | _ => b
  | .cond _ a b => match i with
    | 0 => a
    | _ => b
  | .block _ b => b
  | .loop b => b
  | .scope b => b
  | _ => .skip
def isSeq : Code → Bool
  | .seq _ _ => true
  | _ => false
def isLoop : Code → Bool
  | .loop _ => true
  | _ => false
def isBlock (id : Nat) : Code → Bool
  | .block i _ => Nat.beq i id
  | _ => false
def isCond : Code → Bool
  | .cond _ _ _ => true
  | _ => false
def opC : Code → Operand
  | .cond x _ _ => x
  | _ => .tmp 0
def opsOf : Code → List Oper
  | .region _ ops _ => ops.toList
  | _ => []
def isReg : Code → Bool
  | .region _ _ d => !d
  | _ => false
theorem seq_of : ∀ {c : Code}, isSeq c = true → c = .seq (kid 0 c) (kid 1 c)
  | .seq _ _, _ => rfl
theorem loop_of : ∀ {c : Code}, isLoop c = true → c = .loop (kid 0 c)
  | .loop _, _ => rfl
theorem cond_of : ∀ {c : Code}, isCond c = true → c = .cond (opC c) (kid 0 c) (kid 1 c)
  | .cond _ _ _, _ => rfl
theorem block_of {id : Nat} : ∀ {c : Code}, isBlock id c = true → c = .block id (kid 0 c)
  | .block i _, h => by rw [show i = id from Nat.eq_of_beq_eq_true h]; rfl
theorem reg_of : ∀ {c : Code}, isReg c = true → ∃ i ops, c = .region i ops false ∧ ops.toList = opsOf c
  | .region i ops d, h => by
    cases d with
    | true => cases h
    | false => exact ⟨i, ops, rfl, rfl⟩

/-- Only what ends as it should goes on. -/
def nk {X : Type} (D : St → Option X) : Ex → St → Option X
  | .norm, s => D s
  | _, _ => none
theorem nk_some {X : Type} {D : St → Option X} {ex : Ex} {s : St} {x : X} (h : nk D ex s = some x) : ex = .norm ∧ D s = some x := by
  cases ex <;> first | exact ⟨rfl, h⟩ | cases h
/-- The first parts of a chain of code. -/
def spineC : Nat → Code → List Code
  | 0, _ => []
  | n + 1, c => kid 0 c :: spineC n (kid 1 c)
def back : Nat → Code → Code
  | 0, c => c
  | n + 1, c => back n (kid 1 c)
def allSeq : Nat → Code → Bool
  | 0, _ => true
  | n + 1, c => isSeq c && allSeq n (kid 1 c)
/-- Codes one by one. -/
def chainE {X : Type} (C : Ctx) (E : Ev) (fid base k : Nat) (res : List Nat) (out : Option Nat) (bid : Nat) : List Code → (St → Option X) → St → Option X
  | [], F, s => F s
  | c :: cs, F, s => codeE C E fid base k res out bid c s (nk (chainE C E fid base k res out bid cs F))

section
variable {P : Program} {C : Ctx} {fid N n : Nat} {ro : Option Nat} {w0 : World} {σ0 : Sg} {h0 : List Blk}

theorem Sat.seq' {c : Code} {s : St} {Q1 Post : Ex → St → Prop} (hc : isSeq c = true) (h1 : Sat P C fid N ro n w0 σ0 h0 (kid 0 c) s Q1) (h2 : ∀ s', Q1 .norm s' → Sat P C fid N ro n w0 σ0 h0 (kid 1 c) s' Post) (h3 : ∀ ex s', ex ≠ .norm → Q1 ex s' → Post ex s') : Sat P C fid N ro n w0 σ0 h0 c s Post := by
  rw [seq_of hc]; exact Sat.seq h1 h2 h3
/-- A piece that ends in one state, then the rest. -/
theorem Sat.then {c : Code} {s s1 : St} {Post : Ex → St → Prop} (hc : isSeq c = true) (h1 : Sat P C fid N ro n w0 σ0 h0 (kid 0 c) s fun ex s' => ex = .norm ∧ s' = s1) (h2 : Sat P C fid N ro n w0 σ0 h0 (kid 1 c) s1 Post) : Sat P C fid N ro n w0 σ0 h0 c s Post :=
  Sat.seq' hc h1 (fun s' h => h.2 ▸ h2) fun ex s' hne h => absurd h.1 hne
theorem Sat.cond' {c : Code} {s : St} {b : Bool} {Post : Ex → St → Prop} (hc : isCond c = true) (e : ev s.env (opC c) = .d (.bool b)) (h : Sat P C fid N ro n w0 σ0 h0 (bif b then kid 0 c else kid 1 c) s Post) : Sat P C fid N ro n w0 σ0 h0 c s Post := by
  rw [cond_of hc]; exact Sat.cond e h
theorem Sat.block' {id : Nat} {c : Code} {s : St} {Q1 Post : Ex → St → Prop} (hc : isBlock id c = true) (h : Sat P C fid N ro n w0 σ0 h0 (kid 0 c) s Q1) (h1 : ∀ s', Q1 .norm s' → Post .norm s') (h2 : ∀ s', Q1 .ret s' → Post .ret s') (h3 : ∀ i s', Q1 (.exit i) s' → if i = id then Post .norm s' else Post (.exit i) s') : Sat P C fid N ro n w0 σ0 h0 c s Post := by
  rw [block_of hc]; exact Sat.block h h1 h2 h3
theorem Sat.loop' (hi0 : HInv w0 σ0 h0) {c : Code} {bid : Nat} {Post : Ex → St → Prop} (hc : isLoop c = true) (I : Nat → St → Prop)
    (hb : ∀ m s, I m s → ∃ s1, tidyP h0.length (C.pol fid bid) s = some s1 ∧ Sat P C fid N ro n w0 σ0 h0 (kid 0 c) s1 fun ex s' => match ex with
      | .norm => ∃ m', m' < m ∧ I m' s'
      | e => Post e s') : ∀ m s, I m s → Sat P C fid N ro n w0 σ0 h0 c s Post := by
  rw [loop_of hc]; exact Sat.loop hi0 I hb
theorem Sat.skip' {c : Code} {s : St} {Post : Ex → St → Prop} (h : Post .norm s) (hc : c = .skip) : Sat P C fid N ro n w0 σ0 h0 c s Post := by
  subst hc
  intro a w σ DF Q hok hs hp hmk hQ
  exact wpIn_skip (hQ .norm s .normal a w σ DF h rfl hs hp hmk)

/-- Code whose outcome is told: what is shown of it is a value that its outcome has. -/
theorem Sat.code' (hT : TOK P C.T) (hE : EqOK P C.T) (hm : P.follows .mixedOrders = true) {E : Ev} (hV : EvOK P E) {k : Nat} {res : List Nat} {out : Option Nat} (ho : ∀ M, out = some M → M = N ∧ ro = none) (hi0 : HInv w0 σ0 h0)
    {c : Code} {bid : Nat} {s : St} {X : Type} (D : Ex → St → Option X) {x : X} (h : codeE C E fid h0.length k res out bid c s D = some x) : Sat P C fid N ro n w0 σ0 h0 c s fun ex s' => D ex s' = some x :=
  fun a w σ DF Q hok hs hp hmk hQ => codeE_wp hT hE hm hV ho hi0 c bid s D a w σ DF Q hok hs hp hmk h fun ex s' e a' w' σ' DF' k1 => hQ ex s' e a' w' σ' DF' k1
/-- The first parts of a chain are told; then the rest. -/
theorem Sat.spine (hT : TOK P C.T) (hE : EqOK P C.T) (hm : P.follows .mixedOrders = true) {E : Ev} (hV : EvOK P E) {k : Nat} {res : List Nat} {out : Option Nat} (ho : ∀ M, out = some M → M = N ∧ ro = none) (hi0 : HInv w0 σ0 h0) {bid : Nat} {Post : Ex → St → Prop} {X : Type} {x : X} (F : St → Option X) :
    ∀ (m : Nat) (c : Code) (s : St), allSeq m c = true → chainE C E fid h0.length k res out bid (Go.AE.spineC m c) F s = some x → (∀ s', F s' = some x → Sat P C fid N ro n w0 σ0 h0 (back m c) s' Post) → Sat P C fid N ro n w0 σ0 h0 c s Post
  | 0, c, s, _, h, hF => hF s h
  | m + 1, c, s, ha, h, hF => by
    simp only [allSeq, Bool.and_eq_true] at ha
    refine Sat.seq' ha.1 (Sat.code' hT hE hm hV ho hi0 _ h) (fun s' h' => ?_) (fun ex s' hne h' => absurd (nk_some h').1 hne)
    exact Sat.spine hT hE hm hV ho hi0 F m (kid 1 c) s' ha.2 (nk_some h').2 hF
/-- A region that takes a map's next entry first. -/
theorem Sat.next' (hT : TOK P C.T) (hE : EqOK P C.T) {E : Ev} (hV : EvOK P E) {c : Code} {s : St} {Post : Ex → St → Prop} {o : Oper} {x : Operand} {rest : List Oper} (hc : isReg c = true) (hops : opsOf c = o :: rest) (hop : o.op = .next x false) (hgd : o.guard = none)
    {b m nn : Nat} {seen : List Nat} {es : List (DV × DV)} (hev : ev s.env x = .ref b 0) (hb : nth s.heap b = some (.mit m nn seen)) (hm : nth s.heap m = some (.mp es)) (hn : es.length = nn)
    (hall : ∀ v h', NextOut b m nn seen es s.heap v h' → runE C E (opsOf c) rest (putE o.dst v s.env) h' (fun env h => ind Post .norm ⟨env, h, s.marks⟩) = some ()) : Sat P C fid N ro n w0 σ0 h0 c s Post := by
  obtain ⟨i, ops, e1, e2⟩ := reg_of hc
  rw [← e2] at hall hops
  rw [e1]
  exact Sat.region_next hT hE hV hops hop hgd hev hb hm hn hall

/-- A region that reads the entry of an iterator first. -/
theorem Sat.entry' (hT : TOK P C.T) (hE : EqOK P C.T) {E : Ev} (hV : EvOK P E) {c : Code} {s : St} {X : Type} (D : Ex → St → Option X) {r : X} {o : Oper} {x : Operand} {rest : List Oper} (hc : isReg c = true) (hops : opsOf c = o :: rest) (hop : o.op = .entry x) (hgd : o.guard = none)
    {b m i : Nat} {seen : List Nat} {es : List (DV × DV)} {e : DV × DV} (hev : ev s.env x = .ref b 0) (hb : nth s.heap b = some (.mit m es.length seen)) (hm : nth s.heap m = some (.mp es)) (hl : seen.getLast? = some i) (he : nth es i = some e)
    (hall : runE C E (opsOf c) rest (putE o.dst (.d (.tup [e.1, e.2])) s.env) s.heap (fun env h => D .norm ⟨env, h, s.marks⟩) = some r) : Sat P C fid N ro n w0 σ0 h0 c s fun ex s' => D ex s' = some r := by
  obtain ⟨id, ops, e1, e2⟩ := reg_of hc
  rw [← e2] at hall hops
  rw [e1]
  intro a w σ DF Q hok hs hp hmk hQ
  have hd : ∀ o ∈ ops.toList, ∀ t, o.dst = some t → t < N := by
    intro o ho t ht
    simp only [okCode, Bool.and_eq_true, List.all_eq_true] at hok
    have := hok.1 o ho
    rw [ht] at this
    simpa [Nat.blt_eq] using this
  refine wpIn_region ?_
  have hsz : ops.size = rest.length + 1 := by rw [← Array.length_toList, hops]; rfl
  rw [List.range_eq_range', hsz, List.range'_succ]
  have ho : ops[0]? = some o := by rw [← Array.getElem?_toList, hops]; rfl
  simp only [wpOpsIn, ho]
  have hwant : Region.wanted o (yielded ops a.tmps) = true := by unfold Region.wanted; rw [hgd]
  rw [if_pos hwant]
  refine ⟨fun _ _ => trivial, ?_⟩
  rw [semAt_FW ro o a.eval (by rw [hop]; intro c; simp)]
  have hx := ev_rel hs.inv.glob hs.env x
  rw [hev] at hx
  obtain ⟨v, hv, u, k1, k4⟩ := entryE_sound (P := P) (r := AV.d (.tup [e.1, e.2])) (K := some) hs.inv hx (by
    unfold entryE
    simp only [hb, hm, hl, he]
    simp)
  cases hv
  have hO : Out P w σ s.heap (execOp a.eval o) (.d (.tup [e.1, e.2])) s.heap := by
    have := Out.made (P := P) k1 hs.inv (Step.refl _ _ _) k4
    unfold execOp
    rw [hop]
    exact this
  obtain ⟨nx, u', w2, σ2, j1, j2, j3, j4, j5⟩ := hO
  rw [j1]
  have hgo := runE_wp (K := fun env h => D .norm ⟨env, h, s.marks⟩) hT hE hV (ops := ops) (ro := ro) (n := n) (Q := Q) rest [o] (putE o.dst (.d (.tup [e.1, e.2])) s.env) s.heap (a.put o.dst u') w2 σ2 (by rw [hops]; rfl) (fun o' ho' => hd o' (by rw [hops]; exact List.mem_cons_of_mem _ ho')) (SR.put ⟨hs.inv, hs.env, hs.size, hs.defers⟩ j3 j4 j5 (hd o (by rw [hops]; exact List.mem_cons_self ..))) hall
    (fun env' h2 a' w3 σ3 q1 q2 q3 => hQ .norm ⟨env', h2, s.marks⟩ .normal a' w3 σ3 DF q1 rfl q2 ((hp.trans j4).trans q3) ((hmk.mono j4.keeps hs.inv.len).mono q3.keeps j3.len))
  cases nx <;> simp [taken] at j2
  · subst j2; exact hgo
  · subst j2; exact hgo
end
end Go.AE

/- Loops whose rounds are walked whole, with the loops in them. -/
namespace Go.AE
open Go

section
variable {C : Ctx} {E : Ev} {fid base : Nat} {res : List Nat} {out : Option Nat}

theorem iter_mono {k k' : Nat} {bid : Nat} {b : Code} {tid : St → Option St} (ih : ∀ (s : St) (ex : Ex) (s' : St), (∀ (R : Type) (K : Ex → St → Option R), codeE C E fid base k res out bid b s K = K ex s') → ∀ (R : Type) (K : Ex → St → Option R), codeE C E fid base k' res out bid b s K = K ex s') : ∀ (n n' : Nat), n ≤ n' → ∀ (s : St) (ex : Ex) (s' : St),
    (∀ (R : Type) (K : Ex → St → Option R), iterE (fun s K => codeE C E fid base k res out bid b s K) tid n s K = K ex s') → ∀ (R : Type) (K : Ex → St → Option R), iterE (fun s K => codeE C E fid base k' res out bid b s K) tid n' s K = K ex s'
  | 0, _, _, s, ex, s', h => by have := h Unit fun _ _ => some (); cases this
  | n + 1, 0, hn, _, _, _, _ => by omega
  | n + 1, n' + 1, hn, s, ex, s', h => by
    intro R K
    simp only [iterE] at h ⊢
    cases ht : tid s with
    | none => rw [ht] at h; have := h Unit fun _ _ => some (); cases this
    | some s1 =>
      rw [ht] at h
      simp only [Option.bind_some] at h ⊢
      rcases fac_codeE (C := C) (E := E) (fid := fid) (base := base) (k := k) (res := res) (out := out) b bid s1 with ⟨e2, s2, h1⟩ | h1
      · replace h1 : ∀ (R : Type) (K : Ex → St → Option R), codeE C E fid base k res out bid b s1 K = K e2 s2 := h1
        have r1 := ih s1 e2 s2 h1
        rw [r1]
        cases e2 with
        | norm =>
          refine iter_mono ih n n' (by omega) s2 ex s' (fun R K => ?_) R K
          have := h R K
          rw [h1] at this
          exact this
        | exit i => have := h R K; rw [h1] at this; exact this
        | ret => have := h R K; rw [h1] at this; exact this
      · replace h1 : ∀ (R : Type) (K : Ex → St → Option R), codeE C E fid base k res out bid b s1 K = none := h1
        have := h Unit fun _ _ => some ()
        rw [h1] at this; cases this

/-- More rounds do no harm. -/
theorem codeE_mono {k k' : Nat} (hk : k ≤ k') : ∀ (c : Code) (bid : Nat) (s : St) (ex : Ex) (s' : St), (∀ (R : Type) (K : Ex → St → Option R), codeE C E fid base k res out bid c s K = K ex s') → ∀ (R : Type) (K : Ex → St → Option R), codeE C E fid base k' res out bid c s K = K ex s' := by
  intro c
  induction c with
  | seq a b iha ihb =>
    intro bid s ex s' h R K
    rcases fac_codeE (C := C) (E := E) (fid := fid) (base := base) (k := k) (res := res) (out := out) a bid s with ⟨e1, s1, h1⟩ | h1
    · replace h1 : ∀ (R : Type) (K : Ex → St → Option R), codeE C E fid base k res out bid a s K = K e1 s1 := h1
      have r1 := iha bid s e1 s1 h1
      simp only [codeE] at h ⊢
      rw [r1]
      cases e1 with
      | norm =>
        refine ihb bid s1 ex s' (fun R K => ?_) R K
        have := h R K
        rw [h1] at this
        exact this
      | exit i => have := h R K; rw [h1] at this; exact this
      | ret => have := h R K; rw [h1] at this; exact this
    · replace h1 : ∀ (R : Type) (K : Ex → St → Option R), codeE C E fid base k res out bid a s K = none := h1
      have := h Unit fun _ _ => some ()
      simp only [codeE] at this
      rw [h1] at this; cases this
  | cond x a b iha ihb =>
    intro bid s ex s' h R K
    unfold codeE at h ⊢
    cases hx : ev s.env x with
    | d v =>
      cases v with
      | bool y =>
        rw [hx] at h
        cases y with
        | true => exact iha bid s ex s' h R K
        | false => exact ihb bid s ex s' h R K
      | _ => rw [hx] at h; have := h Unit fun _ _ => some (); cases this
    | _ => rw [hx] at h; have := h Unit fun _ _ => some (); cases this
  | block id b ih =>
    intro bid s ex s' h R K
    rcases fac_codeE (C := C) (E := E) (fid := fid) (base := base) (k := k) (res := res) (out := out) b id s with ⟨e1, s1, h1⟩ | h1
    · replace h1 : ∀ (R : Type) (K : Ex → St → Option R), codeE C E fid base k res out id b s K = K e1 s1 := h1
      have r1 := ih id s e1 s1 h1
      simp only [codeE] at h ⊢
      rw [r1]
      have := h R K
      rw [h1] at this
      exact this
    · replace h1 : ∀ (R : Type) (K : Ex → St → Option R), codeE C E fid base k res out id b s K = none := h1
      have := h Unit fun _ _ => some ()
      simp only [codeE] at this
      rw [h1] at this; cases this
  | loop b ih =>
    intro bid s ex s' h R K
    simp only [codeE] at h ⊢
    exact iter_mono (fun s ex s' => ih bid s ex s') k k' hk s ex s' h R K
  | scope b ih =>
    intro bid s ex s' h R K
    simp only [codeE] at h ⊢
    exact ih bid s ex s' h R K
  | _ => intro bid s ex s' h R K; have := h R K; simpa only [codeE] using this

theorem runs_of_codeE {X : Type} {k bid : Nat} {c : Code} {s : St} {D : Ex → St → Option X} {x : X} (h : codeE C E fid base k res out bid c s D = some x) : ∃ ex s1, D ex s1 = some x ∧ Runs C E fid base res out bid c s ex s1 := by
  obtain ⟨e1, s1, h1, h2⟩ := (fac_codeE (C := C) (E := E) (fid := fid) (base := base) (k := k) (res := res) (out := out) c bid s).keep h
  exact ⟨e1, s1, h1, k, fun k' hk => codeE_mono hk c bid s e1 s1 h2⟩
end

section
variable {C : Ctx} {E : Ev} {fid base : Nat} {fn : Func}
/-- One round, walked with all loops in it. -/
def inR {R : Type} (C : Ctx) (E : Ev) (fid base : Nat) (fn : Func) (k t : Nat) (S : St) (K : Ex → St → Option R) : Option R :=
  codeE C E fid base k (resTmps fn.results.toList) (some fn.ntmps) t (loopOf fn t) S K
/-- All rounds. -/
def inL {R : Type} (C : Ctx) (E : Ev) (fid base : Nat) (fn : Func) (k t : Nat) (S : St) (K : Ex → St → Option R) : Option R :=
  inR C E fid base fn k t S fun ex s => match ex with
    | .norm => codeE C E fid base k (resTmps fn.results.toList) (some fn.ntmps) t (.loop (loopOf fn t)) s K
    | e => K e s

theorem LoopAt.nextI {k t : Nat} {S S' s' : St} {e : Ex} (h : inR C E fid base fn k t S (roundD C fid base t) = some (.norm, S')) (h2 : LoopAt C E fid base fn t S' e s') : LoopAt C E fid base fn t S e s' := by
  obtain ⟨e1, s1, h1, k1, r1⟩ := runs_of_codeE h
  have h3 : e1 = .norm ∧ tidyP base (C.pol fid t) s1 = some S' := by
    cases e1 with
    | norm => simp only [roundD, Option.map_eq_some_iff, Prod.mk.injEq] at h1; obtain ⟨S2, q, _, rfl⟩ := h1; exact ⟨rfl, q⟩
    | exit i =>
      simp only [roundD] at h1
      obtain ⟨_, h1⟩ := cond_none h1
      simp at h1
    | ret => simp [roundD] at h1
  obtain ⟨rfl, h3⟩ := h3
  obtain ⟨k2, j2, r2⟩ := h2
  refine ⟨max k1 k2, j2 + 1, fun k hk j hj s hs R K => ?_⟩
  obtain ⟨j', rfl⟩ : ∃ j', j = j' + 1 := ⟨j - 1, by omega⟩
  simp only [iterE, hs, Option.bind_some]
  rw [r1 k (by omega)]
  exact r2 k (by omega) j' (by omega) s1 h3 R K

theorem LoopAt.outI {k t : Nat} {S S' : St} {e : Ex} (hne : e ≠ .norm) (h : inR C E fid base fn k t S (roundD C fid base t) = some (e, S')) : LoopAt C E fid base fn t S e S' := by
  obtain ⟨e1, s1, h1, k1, r1⟩ := runs_of_codeE h
  have h3 : e1 = e ∧ s1 = S' := by
    cases e1 with
    | norm => simp only [roundD, Option.map_eq_some_iff, Prod.mk.injEq] at h1; obtain ⟨S2, q, rfl, _⟩ := h1; exact absurd rfl hne
    | exit i =>
      simp only [roundD] at h1
      obtain ⟨_, h1⟩ := cond_none h1
      simp only [Option.some.injEq, Prod.mk.injEq] at h1
      exact h1
    | ret => simp only [roundD, Option.some.injEq, Prod.mk.injEq] at h1; exact h1
  obtain ⟨rfl, rfl⟩ := h3
  refine ⟨k1, 1, fun k hk j hj s hs R K => ?_⟩
  obtain ⟨j', rfl⟩ : ∃ j', j = j' + 1 := ⟨j - 1, by omega⟩
  simp only [iterE, hs, Option.bind_some]
  rw [r1 k hk]
  cases e1 with
  | norm => exact absurd rfl hne
  | exit i => rfl
  | ret => rfl

/-- A loop walked whole. -/
theorem LoopAt.inl {k t : Nat} {S S' : St} {e : Ex} (h : inL C E fid base fn k t S (fun ex s => some (ex, s)) = some (e, S')) : LoopAt C E fid base fn t S e S' := by
  obtain ⟨e1, s1, h1, k1, r1⟩ := runs_of_codeE h
  cases e1 with
  | norm =>
    obtain ⟨e2, s2, h2, k2, r2⟩ := runs_of_codeE h1
    simp only [Option.some.injEq, Prod.mk.injEq] at h2
    obtain ⟨rfl, rfl⟩ := h2
    refine ⟨max k1 k2, k1 + k2 + 1, fun k hk j hj s hs R K => ?_⟩
    obtain ⟨j', rfl⟩ : ∃ j', j = j' + 1 := ⟨j - 1, by omega⟩
    simp only [iterE, hs, Option.bind_some]
    rw [r1 k (by omega)]
    have h5 := r2 k (by omega)
    have h6 := r2 (max k1 k2) (by omega)
    simp only [codeE] at h5 h6
    have q : max k1 k2 ≤ j' := by omega
    have h7 := iter_mono (C := C) (E := E) (fid := fid) (base := base) (k := max k1 k2) (k' := k) (fun s ex s' hh => codeE_mono hk (loopOf fn t) t s ex s' hh) (max k1 k2) j' q s1 e2 s2 h6
    exact h7 R K
  | exit i =>
    simp only [Option.some.injEq, Prod.mk.injEq] at h1
    obtain ⟨rfl, rfl⟩ := h1
    refine ⟨k1, 1, fun k hk j hj s hs R K => ?_⟩
    obtain ⟨j', rfl⟩ : ∃ j', j = j' + 1 := ⟨j - 1, by omega⟩
    simp only [iterE, hs, Option.bind_some]
    rw [r1 k hk]
  | ret =>
    simp only [Option.some.injEq, Prod.mk.injEq] at h1
    obtain ⟨rfl, rfl⟩ := h1
    refine ⟨k1, 1, fun k hk j hj s hs R K => ?_⟩
    obtain ⟨j', rfl⟩ : ∃ j', j = j' + 1 := ⟨j - 1, by omega⟩
    simp only [iterE, hs, Option.bind_some]
    rw [r1 k hk]
end
end Go.AE
