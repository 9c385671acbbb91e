import Derived.Test.YtgabhnekhdfhcaaLB
import Derived.Deep.LoopGhost
import Derived.Laws.Externs
import Derived.Lib.Overlaps
import Derived.WalkKit
import Derived.ProofKit
import Derived.OpenShut
import Derived.JoinedCond
import Derived.WideKeyArgs
import Derived.Deep.Slices
namespace Go.Aw
open Go
set_option linter.unusedVariables false
set_option linter.unusedSimpArgs false
set_option linter.unusedSectionVars false
variable {P : Program}

/-! ### one operation of a region, its guard too -/
def strip : AV → Bool × AV
  | .cond g x => (g, x)
  | x => (true, x)
def rdS (st : St) (x : Operand) : AV := (strip (opd st x)).2
def gdS (st : St) (x : Operand) : Bool := (strip (opd st x)).1

def idsL (rd : Operand → AV) : List Operand → List Nat
  | [] => []
  | x :: xs => idsOf (rd x) ++ idsL rd xs

/-- What is known of the owned that an operation names. -/
def lkS (st : St) (xs : List Operand) : Nat → Option Own := fun id => if id ∈ idsL (rdS st) xs then look st.own id else Option.none

def allG (st : St) : List Operand → Prop
  | [] => True
  | x :: xs => gdS st x = true ∧ allG st xs

/-- && and ||. -/
def pickA (st : St) (c a b : Operand) (nx : Nat) : Option Res :=
  match rdS st c, rdS st a, rdS st b with
  | .v (.bool x), .v (.bool p), .v (.bool q) => some ⟨gdS st c = true ∧ (x = true → gdS st a = true) ∧ (x = false → gdS st b = true), .v (.bool (bif x then p else q)), [], nx⟩
  | _, _, _ => Option.none

/-- Nothing is known of it. -/
def isJunk : AV → Bool
  | .junk => true
  | _ => false
/-- Operands without which nothing is told. -/
def junkOps : Op → List Operand
  | .binOp _ _ x y _ => [x, y]
  | .unOp _ _ x => [x]
  | .load _ x => [x]
  | .nilCheck x => [x]
  | .fieldAddr _ x _ => [x]
  | .field _ x _ => [x]
  | .indexAddr _ x _ => [x]
  | .index _ x _ => [x]
  | .slice _ x _ _ _ => [x]
  | .convert _ _ x => [x]
  | .extract x _ => [x]
  | .call c => match c.callee with
    | .builtin .len => c.args.toList
    | _ => []
  | _ => []
def junkAny (st : St) : List Operand → Bool
  | [] => false
  | x :: r => isJunk (rdS st x) || junkAny st r
def junkRes : Op → AV
  | .binOp .eql _ _ _ _ => .v (.bool false)
  | .binOp .neq _ _ _ _ => .v (.bool false)
  | .binOp .lss _ _ _ _ => .v (.bool false)
  | .binOp .leq _ _ _ _ => .v (.bool false)
  | .binOp .gtr _ _ _ _ => .v (.bool false)
  | .binOp .geq _ _ _ _ => .v (.bool false)
  | .unOp _ _ _ => .v (.bool false)
  | _ => .junk

def opR (P : Program) (T : Tab) (o : Op) (st : St) : Option Res :=
  match o with
  | .pick c a b => pickA st c a b st.next
  | o => if junkAny st (junkOps o) = true then some ⟨False, junkRes o, [], st.next⟩ else match opG P T o (rdS st) (lkS st o.operands.toList) st.next with
    | some R => some ⟨allG st o.operands.toList ∧ R.c, R.r, R.up, R.nx⟩
    | Option.none => Option.none

/-- A guard: is it there, and under which Bool does the operation run? -/
def guardB (st : St) (ops : Array Oper) (g : Option (Nat × Bool)) : Option (Option Bool) :=
  match g with
  | Option.none => some Option.none
  | some (j, want) =>
    match (ops[j]?).bind (·.dst) with
    | some d => match opd st (.tmp d) with
      | .v (.bool b) => some (some (b == want))
      | .cond g' (.v (.bool b)) => some (some (g' && (b == want)))
      | _ => Option.none
    | Option.none => Option.none

def wrapR (g : Option Bool) (R : Res) : Option Res :=
  match g with
  | Option.none => some R
  | some g => match R.up with
    | [] => some ⟨g = true → R.c, .cond g R.r, [], R.nx⟩
    | _ => Option.none

/-- One step: its condition, what it leaves. -/
def stepO (P : Program) (T : Tab) (ops : Array Oper) (o : Oper) (st : St) : Option Res :=
  match guardB st ops o.guard with
  | some g => match opR P T o.op st with
    | some R => wrapR g R
    | Option.none => Option.none
  | Option.none => Option.none

/-- Numbers that are new are above all that are there. -/
def freshOk (st : St) (R : Res) : Bool :=
  match R.nx == st.next with
  | true => true
  | false => st.own.all (fun q => decide (q.1 < st.next))

section
variable {F : Fr} {γ : Locs} {st : St} {a : Act} {w : World}

theorem rep_strip (hI : Inv F γ st a w) (x : Operand) (h : gdS st x = true) : Rep w (okOf F γ w) (rdS st x) γ (a.eval x) := by
  have hx := rep_opd hI x
  unfold gdS at h
  unfold rdS
  unfold strip at h ⊢
  split at h
  · rename_i g y he
    rw [he] at hx
    simp only [Rep] at hx
    simp only at h ⊢
    exact hx.1 h
  · exact hx

theorem allG_mem : ∀ {xs : List Operand}, allG st xs → ∀ x ∈ xs, gdS st x = true
  | y :: ys, h, x, hx => by
    rcases List.mem_cons.1 hx with rfl | hx
    · exact h.1
    · exact allG_mem h.2 x hx

theorem opR_sound {T : Tab} (hT : ∀ f C, T f = some C → Good P f C) {γ0 : Locs} {w0 : World} (hL : Left F γ0 γ w0 w) (hI : Inv F γ st a w) {st0 : St} {o : Oper} {R : Res} (h : opR P T o.op st0 = some R) (hc : R.c)
    (hsame : ∀ x ∈ o.op.operands.toList, opd st x = opd st0 x) (hlk : ∀ id ∈ idsL (rdS st0) o.op.operands.toList, look st.own id = look st0.own id)
    (hfr : ∀ id, st0.next ≤ id → id < R.nx → look st.own id = Option.none) (hd : dstOk o.dst st.nt = true) {Q : Exit → Act → World → Prop} : o.wp P a w (After P F γ0 w0 st o.dst R) Q := by
  have hrd : ∀ x ∈ o.op.operands.toList, rdS st x = rdS st0 x := fun x hx => by unfold rdS; rw [hsame x hx]
  have hgd : ∀ x ∈ o.op.operands.toList, gdS st x = gdS st0 x := fun x hx => by unfold gdS; rw [hsame x hx]
  unfold opR at h
  split at h
  · rename_i c x y hop
    obtain ⟨dst, op, type, pos, after, guard⟩ := o
    simp only at hop hsame hrd hgd hd ⊢
    subst hop
    unfold pickA at h
    split at h
    · rename_i b p q h1 h2 h3
      simp only [Option.some.injEq] at h
      subst h
      obtain ⟨c1, c2, c3⟩ := hc
      have m1 : c ∈ (Op.pick c x y).operands.toList := by simp [Op.operands]
      have m2 : x ∈ (Op.pick c x y).operands.toList := by simp [Op.operands]
      have m3 : y ∈ (Op.pick c x y).operands.toList := by simp [Op.operands]
      have e1 := rep_strip hI c (by rw [hgd c m1]; exact c1)
      rw [hrd c m1, h1] at e1
      simp only [Rep] at e1
      refine wp_value (w' := w) (v := if b then a.eval x else a.eval y) (by simp only [execOp, e1, asBool, Sem.run_bind, Sem.run_pure, Result.andThen_ok]) (after_of (P := P) hd hL { hI with env := hI.env } ?_)
      simp only [Rep]
      cases b with
      | true =>
        have e2 := rep_strip hI x (by rw [hgd x m2]; exact c2 rfl)
        rw [hrd x m2, h2] at e2
        simp only [Rep] at e2
        simp [e2]
      | false =>
        have e3 := rep_strip hI y (by rw [hgd y m3]; exact c3 rfl)
        rw [hrd y m3, h3] at e3
        simp only [Rep] at e3
        simp [e3]
    · cases h
  · split at h
    · simp only [Option.some.injEq] at h
      subst h
      exact hc.elim
    split at h
    · rename_i R0 hR
      simp only [Option.some.injEq] at h
      subst h
      obtain ⟨c1, c2⟩ := hc
      have := exec_sound (o := o) hT hL hI (rd := rdS st0) (fun x hx => by
        have := rep_strip hI x (by rw [hgd x hx]; exact allG_mem c1 x hx)
        rw [hrd x hx] at this; exact this) (lk := lkS st0 o.op.operands.toList) (fun id ow hl => by
        unfold lkS at hl
        split at hl
        · rename_i hm; rw [hlk id hm]; exact hl
        · cases hl) hR c2 hfr hd (Q := Q)
      exact this
    · cases h
end
end Go.Aw
namespace Go.Aw
open Go
set_option linter.unusedVariables false
set_option linter.unusedSimpArgs false
set_option linter.unusedSectionVars false
variable {P : Program} {F : Fr} {γ : Locs} {st : St} {a : Act} {w : World}

/-- A region's operations in the order of the text. -/
def runOps (P : Program) (T : Tab) (ops : Array Oper) : List Oper → St → Option (Prop × St)
  | [], st => some (True, st)
  | o :: r, st =>
    match stepO P T ops o st with
    | some R =>
      match runOps P T ops r (applyR st o.dst R) with
      | some (c, st') => some (R.c ∧ freshOk st R = true ∧ dstOk o.dst st.nt = true ∧ c, st')
      | Option.none => Option.none
    | Option.none => Option.none

theorem Inv.ext (hI : Inv F γ st a w) {st' : St} (he : ∀ i, look st'.env i = look st.env i ∨ look st'.env i = Option.none) (ho : ∀ i, look st'.own i = look st.own i) (hn : st'.nt = st.nt) : Inv F γ st' a w :=
  { hI with
    nt := hI.nt.trans hn.symm
    env := fun i x h => by
      rcases he i with e | e
      · exact hI.env i x (by rw [← e]; exact h)
      · rw [e] at h; cases h
    own := fun id o h => hI.own id o (by rw [← ho]; exact h)
    dom := fun id l h => by obtain ⟨o, h1⟩ := hI.dom id l h; exact ⟨o, by rw [ho]; exact h1⟩ }

/-- What stands in a temporary is said more weakly. -/
theorem inv_weaken {d : Option Nat} {x y : AV} (hI : Inv F γ { st with env := putE st.env d x } a w) (hxy : ∀ u, Rep w (okOf F γ w) x γ u → Rep w (okOf F γ w) y γ u) : Inv F γ { st with env := putE st.env d y } a w := by
  cases d with
  | none => exact hI
  | some d =>
    refine { hI with nt := hI.nt, env := fun i z h => ?_, own := hI.own, dom := hI.dom }
    simp only [putE, look] at h
    split at h
    · rename_i e
      cases h
      exact hxy _ (hI.env i x (by simp [putE, look, e]))
    · rename_i e
      exact hI.env i z (by simp only [putE, look]; rw [if_neg e]; exact h)

theorem fresh_look {R : Res} (h : freshOk st R = true) : ∀ id, st.next ≤ id → id < R.nx → look st.own id = Option.none := by
  intro id h1 h2
  unfold freshOk at h
  split at h
  · rename_i e
    have : R.nx = st.next := by simpa using e
    omega
  · cases hl : look st.own id with
    | none => rfl
    | some o =>
      have := List.all_eq_true.1 h (id, o) (look_mem hl)
      simp at this
      omega

theorem wanted_none {ops : Array Oper} {o : Oper} {tmps : Array Value} (h : o.guard = Option.none) : Region.wanted o (yielded ops tmps) = true := by simp [Region.wanted, h]

theorem guardB_sound (hI : Inv F γ st a w) {ops : Array Oper} {o : Oper} {g : Option Bool} (h : guardB st ops o.guard = some g) : (g = Option.none ∧ Region.wanted o (yielded ops a.tmps) = true) ∨ ∃ b, g = some b ∧ Region.wanted o (yielded ops a.tmps) = b := by
  unfold guardB at h
  split at h
  · rename_i hg
    simp only [Option.some.injEq] at h
    exact .inl ⟨h.symm, wanted_none hg⟩
  · rename_i j want hg
    refine .inr ?_
    split at h
    · rename_i d hd
      have hx := rep_opd hI (.tmp d)
      have hev : a.eval (.tmp d) = a.tmps.getD d undef := rfl
      rw [hev] at hx
      have hw : Region.wanted o (yielded ops a.tmps) = (yielded ops a.tmps j == some want) := by simp [Region.wanted, hg]
      have hy : yielded ops a.tmps j = (match a.tmps[d]? with | some (.bool b) => some b | _ => Option.none) := by unfold yielded; rw [hd]; rfl
      have hget : ∀ v : Value, a.tmps.getD d undef = v → v ≠ undef → a.tmps[d]? = some v := by
        intro v h1 h2
        rw [Array.getD_eq_getD_getElem?] at h1
        cases hq : a.tmps[d]? with
        | none => rw [hq] at h1; exact absurd h1.symm h2
        | some z => rw [hq] at h1; simp at h1; rw [h1]
      split at h
      · rename_i b hb
        simp only [Option.some.injEq] at h
        subst h
        rw [hb] at hx
        simp only [Rep] at hx
        refine ⟨_, rfl, ?_⟩
        rw [hw, hy, hget _ hx (by simp [undef])]
        cases b <;> cases want <;> rfl
      · rename_i g' b hb
        simp only [Option.some.injEq] at h
        subst h
        rw [hb] at hx
        simp only [Rep] at hx
        refine ⟨_, rfl, ?_⟩
        cases g' with
        | true =>
          rw [hw, hy, hget _ (hx.1 rfl) (by simp [undef])]
          cases b <;> cases want <;> rfl
        | false =>
          have hu := hx.2 rfl
          rw [hw, hy]
          rw [Array.getD_eq_getD_getElem?] at hu
          cases hq : a.tmps[d]? with
          | none => cases want <;> rfl
          | some z =>
            rw [hq] at hu
            simp at hu
            subst hu
            cases want <;> rfl
      · cases h
    · cases h

/-- A step whatever the order: off the state of the text's order. -/
theorem step_sound {T : Tab} (hT : ∀ f C, T f = some C → Good P f C) {γ0 : Locs} {w0 : World} (hL : Left F γ0 γ w0 w) (hI : Inv F γ st a w) {st0 : St} {ops : Array Oper} {o : Oper} {R : Res} (h : stepO P T ops o st0 = some R) (hc : R.c)
    (hsame : ∀ x ∈ o.op.operands.toList, opd st x = opd st0 x) (hg0 : guardB st ops o.guard = guardB st0 ops o.guard) (hlk : ∀ id ∈ idsL (rdS st0) o.op.operands.toList, look st.own id = look st0.own id)
    (hfr : ∀ id, st0.next ≤ id → id < R.nx → look st.own id = Option.none) (hd : dstOk o.dst st.nt = true) {Q : Exit → Act → World → Prop} {K : Act → World → Prop} (hK : ∀ a' w', After P F γ0 w0 st o.dst R a' w' → K a' w') :
    if Region.wanted o (yielded ops a.tmps) then o.wp P a w K Q else K (a.put o.dst undef) w := by
  unfold stepO at h
  split at h
  case h_2 => cases h
  rename_i g hg
  split at h
  case h_2 => cases h
  rename_i R0 hR0
  have hgs := guardB_sound hI (hg0.trans hg)
  unfold wrapR at h
  rcases hgs with ⟨rfl, hw⟩ | ⟨b, rfl, hw⟩
  · simp only [Option.some.injEq] at h
    subst h
    rw [hw]
    simp only [if_true]
    exact Oper.wp_mono hK (opR_sound hT hL hI hR0 hc hsame hlk hfr hd)
  · simp only at h
    split at h
    · rename_i hup
      simp only [Option.some.injEq] at h
      subst h
      rw [hw]
      cases b with
      | true =>
        simp only [if_true]
        refine Oper.wp_mono (fun a' w' ha => hK a' w' ?_) (opR_sound hT hL hI hR0 (hc rfl) hsame hlk hfr hd)
        obtain ⟨γ', h1, hL1⟩ := ha
        refine ⟨γ', ?_, hL1⟩
        have h2 : Inv F γ' { st with own := R0.up ++ st.own, next := R0.nx, env := putE st.env o.dst R0.r } a' w' := h1
        rw [hup] at h2
        exact inv_weaken (st := { st with own := [] ++ st.own, next := R0.nx }) h2 fun u hu => by simp only [Rep]; exact ⟨fun _ => hu, (fun e => by cases e)⟩
      | false =>
        simp only [Bool.false_eq_true, if_false]
        refine hK _ _ ⟨γ, ?_, hL⟩
        exact ({ hI with env := hI.env } : Inv F γ { st with own := [] ++ st.own, next := R0.nx } a w).putE hd (by simp only [Rep]; exact ⟨(fun e => by cases e), fun _ => trivial⟩)
    · cases h

theorem runOps_sound {T : Tab} (hT : ∀ f C, T f = some C → Good P f C) {γ0 : Locs} {w0 : World} {ops : Array Oper} {Q : Exit → Act → World → Prop} : ∀ (l : List Oper) {st st' : St} {γ : Locs} {a : Act} {w : World} {c : Prop}, Left F γ0 γ w0 w → Inv F γ st a w → runOps P T ops l st = some (c, st') → c →
    (∀ γ' a' w', Inv F γ' st' a' w' → Left F γ0 γ' w0 w' → Q .normal a' w') → wpList P ops Q l a w
  | [], st, st', γ, a, w, c, hL, hI, h, hc, hQ => by
    simp only [runOps, Option.some.injEq, Prod.mk.injEq] at h
    obtain ⟨_, rfl⟩ := h
    exact hQ γ a w hI hL
  | o :: r, st, st', γ, a, w, c, hL, hI, h, hc, hQ => by
    simp only [runOps] at h
    split at h
    · rename_i R hR
      split at h
      · rename_i c' st'' hr
        simp only [Option.some.injEq, Prod.mk.injEq] at h
        obtain ⟨rfl, rfl⟩ := h
        obtain ⟨c1, c2, c3, c4⟩ := hc
        have hst := step_sound (K := wpList P ops Q r) (Q := Q) hT hL hI hR c1 (fun _ _ => rfl) rfl (fun _ _ => rfl) (fresh_look c2) c3 (fun a' w' ⟨γ', h', hL'⟩ => runOps_sound hT r hL' h' hr c4 hQ)
        unfold wpList
        split
        · rename_i hw; rw [if_pos hw] at hst; exact .inl hst
        · rename_i hw; rw [if_neg hw] at hst; exact hst
      · cases h
    · cases h

theorem region_sound {T : Tab} (hT : ∀ f C, T f = some C → Good P f C) {γ0 : Locs} {w0 : World} (hL : Left F γ0 γ w0 w) {id : Nat} {ops : Array Oper} {Q : Exit → Act → World → Prop} (hI : Inv F γ st a w) {c : Prop} {st' : St} (h : runOps P T ops ops.toList st = some (c, st')) (hc : c)
    (hQ : ∀ γ' a' w', Inv F γ' st' a' w' → Left F γ0 γ' w0 w' → Q .normal a' w') : (Code.region id ops false).wp P Q a w :=
  wp_region_list (runOps_sound hT ops.toList hL hI h hc hQ)
end Go.Aw
namespace Go.Aw
open Go
set_option linter.unusedVariables false
set_option linter.unusedSimpArgs false
set_option linter.unusedSectionVars false
variable {P : Program}

/-! ### what is kept at a loop's head -/
mutual
def seen (ids : List Nat) : AV → Prop
  | .op id _ _ => id ∈ ids
  | .os id _ _ _ => id ∈ ids
  | .om id => id ∈ ids
  | .sl _ (.own id) => id ∈ ids
  | .sl _ .none => True
  | .sl _ .tight => True
  | .ifc _ x => seen ids x
  | .agg cs => seenL ids cs
  | .tup cs => seenL ids cs
  | .fn _ first caps => seenL ids first ∧ seenL ids caps
  | .cond _ x => seen ids x
  | .v _ => True
  | .str _ => True
  | .ref _ => True
  | .ub => True
  | .junk => True
def seenL (ids : List Nat) : List AV → Prop
  | [] => True
  | c :: cs => seen ids c ∧ seenL ids cs
end

def seenO (ids : List Nat) : Own → Prop
  | .arr _ xs => seenL ids xs.flatten
  | .spare _ _ => True
  | .dead => True
  | .map kvs => seenL ids (kvs.map (·.2))

theorem seenL_map {α : Type} (ids : List Nat) (f : α → AV) (l : List α) (h : ∀ x, seen ids (f x)) : seenL ids (l.map f) := by
  induction l with
  | nil => simp [seenL]
  | cons x l ih => simp only [List.map_cons, seenL]; exact ⟨h x, ih⟩
theorem seenL_append (ids : List Nat) : ∀ {xs ys : List AV}, seenL ids (xs ++ ys) ↔ seenL ids xs ∧ seenL ids ys
  | [], ys => by simp [seenL]
  | x :: xs, ys => by simp only [List.cons_append, seenL, seenL_append, and_assoc]
theorem seenL_flat_map {α : Type} (ids : List Nat) (f : α → List AV) (l : List α) (h : ∀ x, seenL ids (f x)) : seenL ids (l.map f).flatten := by
  induction l with
  | nil => simp [seenL]
  | cons x l ih => simp only [List.map_cons, List.flatten_cons]; exact (seenL_append ids).2 ⟨h x, ih⟩

section
variable {w : World} {ok ok' : Ok} {γ γ' : Locs} {ids : List Nat} (hg : ∀ id ∈ ids, γ' id = γ id)
include hg
mutual
theorem Rep_seen : ∀ (x : AV), seen ids x → ∀ {u : Value}, Rep w ok x γ u → Rep w ok x γ' u
  | .op id i off, h, u, hx => by simp only [Rep] at hx ⊢; rw [hg id (by simpa [seen] using h)]; exact hx
  | .os id off len _, h, u, hx => by simp only [Rep] at hx ⊢; rw [hg id (by simpa [seen] using h)]; exact hx
  | .om id, h, u, hx => by simp only [Rep] at hx ⊢; rw [hg id (by simpa [seen] using h)]; exact hx
  | .sl xs .none, h, u, hx => by simpa only [Rep, spareOk] using hx
  | .sl xs .tight, h, u, hx => by simpa only [Rep, spareOk] using hx
  | .sl xs (.own id), h, u, hx => by simp only [Rep, spareOk] at hx ⊢; rw [hg id (by simpa [seen] using h)]; exact hx
  | .ifc t x, h, u, hx => by
    simp only [Rep] at hx ⊢
    obtain ⟨y, rfl, h1⟩ := hx
    exact ⟨y, rfl, Rep_seen x (by simpa [seen] using h) h1⟩
  | .agg cs, h, u, hx => by
    simp only [Rep] at hx ⊢
    obtain ⟨vs, rfl, h1, h2⟩ := hx
    exact ⟨vs, rfl, RepL_seen cs (by simpa [seen] using h) h1, h2⟩
  | .tup cs, h, u, hx => by
    simp only [Rep] at hx ⊢
    obtain ⟨vs, rfl, h1⟩ := hx
    exact ⟨vs, rfl, RepL_seen cs (by simpa [seen] using h) h1⟩
  | .fn f first caps, h, u, hx => by
    simp only [seen] at h
    simp only [Rep] at hx ⊢
    obtain ⟨fs, cs, rfl, h1, h2⟩ := hx
    exact ⟨fs, cs, rfl, RepL_seen first h.1 h1, RepL_seen caps h.2 h2⟩
  | .cond g x, h, u, hx => by
    simp only [Rep] at hx ⊢
    exact ⟨fun e => Rep_seen x (by simpa [seen] using h) (hx.1 e), hx.2⟩
  | .v _, _, u, hx => hx
  | .str _, _, u, hx => hx
  | .ref _, _, u, hx => hx
  | .ub, _, u, hx => hx
  | .junk, _, u, hx => by simp only [Rep]
theorem RepL_seen : ∀ (xs : List AV), seenL ids xs → ∀ {us : List Value}, RepL w ok xs γ us → RepL w ok xs γ' us
  | [], _, us, h => h
  | x :: xs, hs, us, h => by
    simp only [seenL] at hs
    simp only [RepL] at h ⊢
    obtain ⟨u, r, rfl, h1, h2⟩ := h
    exact ⟨u, r, rfl, Rep_seen x hs.1 h1, RepL_seen xs hs.2 h2⟩
end
theorem KV_seen : ∀ {kvs : List (Value × AV)} {es : List MapEntry}, seenL ids (kvs.map (·.2)) → KV w ok γ kvs es → KV w ok γ' kvs es
  | [], es, _, h => h
  | (k, x) :: r, es, hs, h => by
    simp only [List.map_cons, seenL] at hs
    simp only [KV] at h ⊢
    obtain ⟨e, es', rfl, h1, h2, h3⟩ := h
    exact ⟨e, es', rfl, h1, Rep_seen hg x hs.1 h2, KV_seen hs.2 h3⟩
end

def pick1 {α : Type} (l : List (Nat × α)) : List Nat → List (Nat × α)
  | [] => []
  | i :: r => match look l i with
    | some x => (i, x) :: pick1 l r
    | Option.none => pick1 l r

theorem look_pick1 {α : Type} (l : List (Nat × α)) : ∀ (L : List Nat) (i : Nat) (x : α), look (pick1 l L) i = some x → i ∈ L ∧ look l i = some x
  | [], i, x, h => by simp [pick1, look] at h
  | j :: r, i, x, h => by
    unfold pick1 at h
    cases hj : look l j with
    | none => rw [hj] at h; obtain ⟨h1, h2⟩ := look_pick1 l r i x h; exact ⟨by simp [h1], h2⟩
    | some y =>
      rw [hj] at h
      simp only [look] at h
      split at h
      · rename_i e; subst e; cases h; exact ⟨by simp, hj⟩
      · obtain ⟨h1, h2⟩ := look_pick1 l r i x h; exact ⟨by simp [h1], h2⟩
theorem look_pick1_some {α : Type} (l : List (Nat × α)) : ∀ (L : List Nat) (i : Nat) (x : α), i ∈ L → look l i = some x → look (pick1 l L) i = some x
  | [], i, x, h, _ => by cases h
  | j :: r, i, x, h, hx => by
    unfold pick1
    cases hj : look l j with
    | none =>
      refine look_pick1_some l r i x ?_ hx
      rcases List.mem_cons.1 h with rfl | h
      · rw [hj] at hx; cases hx
      · exact h
    | some y =>
      simp only [look]
      split
      · rename_i e; subst e; rw [hj] at hx; exact hx
      · rename_i e; exact look_pick1_some l r i x ((List.mem_cons.1 h).resolve_left e) hx

def dropSp (ids : List Nat) : AV → AV
  | .sl xs (.own id) => if ids.contains id then .sl xs (.own id) else .sl xs .none
  | x => x

structure Keep where
  slots : List Nat
  ids : List Nat
  next : Nat
  toks : List (Nat × Nat × Nat) := []

/-- A slice without room is given a number for its room. -/
def tokSt : List (Nat × Nat × Nat) → St → Option (Prop × St)
  | [], st => some (True, st)
  | (slot, id, esz) :: r, st =>
    match look st.env slot with
    | some (.sl xs .tight) =>
      match look st.own id with
      | Option.none => tokSt r { st with env := (slot, .sl xs (.own id)) :: st.env, own := (id, .spare esz xs.length) :: st.own }
      | some _ => Option.none
    | some (.sl _ (.own id')) => if id' = id then tokSt r st else Option.none
    | _ => Option.none

def allSeen (ids : List Nat) : List (Nat × AV) → Prop
  | [] => True
  | (_, x) :: r => seen ids x ∧ allSeen ids r
def allSeenO (ids : List Nat) : List (Nat × Own) → Prop
  | [] => True
  | (_, x) :: r => seenO ids x ∧ allSeenO ids r

def keepSt (K : Keep) (st : St) : Option (Prop × St) :=
  match tokSt K.toks st with
  | some (c, st1) =>
    let env := (pick1 st1.env K.slots).map fun p => (p.1, dropSp K.ids p.2)
    let own := pick1 st1.own K.ids
    some (c ∧ allSeen K.ids env ∧ allSeenO K.ids own, { env := env, own := own, next := K.next, nt := st.nt })
  | Option.none => Option.none

section
variable {F : Fr} {γ : Locs} {st : St} {a : Act} {w : World}

theorem inv_tok (hI : Inv F γ st a w) {slot id esz : Nat} {xs : List (List AV)} (hs : look st.env slot = some (.sl xs .tight)) (hid : look st.own id = Option.none) :
    ∃ γ', Inv F γ' { st with env := (slot, .sl xs (.own id)) :: st.env, own := (id, .spare esz xs.length) :: st.own } a w := by
  have hg := look_none_of hI hid
  obtain ⟨q1, q2⟩ := hI.upd (id := id) (nx := st.next) (obj := .spare esz xs.length) (l' := .full esz xs.length) (w' := w) rfl rfl rfl (Nat.le_refl _) (fun l hl => by rw [hg] at hl; cases hl)
    (fun _ _ _ => rfl) (fun _ _ _ => rfl) (fun b hb => by cases hb) (fun _ _ _ => trivial) (fun hL => .inl (by simp [Locs.set]))
  refine ⟨_, { q1 with nt := q1.nt, env := fun i x h => ?_, own := q1.own, dom := q1.dom }⟩
  simp only [look] at h
  split at h
  · rename_i e
    subst e
    cases h
    have := hI.env i _ hs
    simp only [Rep] at this ⊢
    obtain ⟨base, cap, e1, h1, h2, h3, h4⟩ := this
    refine ⟨base, cap, e1, h1, h2, ?_, ?_⟩
    · unfold spareOk at h3 ⊢
      simp only [Locs.set, if_true]
      exact ⟨Nat.le_refl _, fun _ => h3⟩
    · cases base with
      | none => exact h4
      | some ad => exact ⟨h4.1, RepEs_mono q2.ok q2.cell _ h4.2⟩
  · exact q1.env i x h

theorem inv_tok' (hI : Inv F γ st a w) {γ0 : Locs} {w0 : World} (hL : Left F γ0 γ w0 w) {slot id esz : Nat} {xs : List (List AV)} (hs : look st.env slot = some (.sl xs .tight)) (hid : look st.own id = Option.none) :
    ∃ γ', Inv F γ' { st with env := (slot, .sl xs (.own id)) :: st.env, own := (id, .spare esz xs.length) :: st.own } a w ∧ Left F γ0 γ' w0 w := by
  have hg := look_none_of hI hid
  obtain ⟨q1, q2⟩ := hI.upd (id := id) (nx := st.next) (obj := .spare esz xs.length) (l' := .full esz xs.length) (w' := w) rfl rfl rfl (Nat.le_refl _) (fun l hl => by rw [hg] at hl; cases hl)
    (fun _ _ _ => rfl) (fun _ _ _ => rfl) (fun b hb => by cases hb) (fun _ _ _ => trivial) (fun hL => .inl (by simp [Locs.set]))
  refine ⟨_, { q1 with nt := q1.nt, env := fun i x h => ?_, own := q1.own, dom := q1.dom }, hL.trans q2⟩
  simp only [look] at h
  split at h
  · rename_i e
    subst e
    cases h
    have := hI.env i _ hs
    simp only [Rep] at this ⊢
    obtain ⟨base, cap, e1, h1, h2, h3, h4⟩ := this
    refine ⟨base, cap, e1, h1, h2, ?_, ?_⟩
    · unfold spareOk at h3 ⊢
      simp only [Locs.set, if_true]
      exact ⟨Nat.le_refl _, fun _ => h3⟩
    · cases base with
      | none => exact h4
      | some ad => exact ⟨h4.1, RepEs_mono q2.ok q2.cell _ h4.2⟩
  · exact q1.env i x h

theorem inv_toks : ∀ (l : List (Nat × Nat × Nat)) {st st' : St} {γ : Locs} {c : Prop}, Inv F γ st a w → tokSt l st = some (c, st') → ∃ γ', Inv F γ' st' a w
  | [], st, st', γ, c, hI, h => by simp only [tokSt, Option.some.injEq, Prod.mk.injEq] at h; obtain ⟨_, rfl⟩ := h; exact ⟨γ, hI⟩
  | (slot, id, esz) :: r, st, st', γ, c, hI, h => by
    simp only [tokSt] at h
    split at h
    · rename_i xs hs
      split at h
      · rename_i hid
        obtain ⟨γ', h1⟩ := inv_tok hI (esz := esz) hs hid
        exact inv_toks r h1 h
      · cases h
    · split at h
      · exact inv_toks r hI h
      · cases h
    · cases h

theorem allSeen_mem {ids : List Nat} : ∀ {l : List (Nat × AV)}, allSeen ids l → ∀ p ∈ l, seen ids p.2
  | (k, y) :: r, h, p, hp => by
    rcases List.mem_cons.1 hp with rfl | hp
    · exact h.1
    · exact allSeen_mem h.2 p hp
theorem allSeenO_mem {ids : List Nat} : ∀ {l : List (Nat × Own)}, allSeenO ids l → ∀ p ∈ l, seenO ids p.2
  | (k, y) :: r, h, p, hp => by
    rcases List.mem_cons.1 hp with rfl | hp
    · exact h.1
    · exact allSeenO_mem h.2 p hp

theorem look_map {α β : Type} (f : α → β) : ∀ (l : List (Nat × α)) (i : Nat), look (l.map fun p => (p.1, f p.2)) i = (look l i).map f
  | [], i => rfl
  | (k, x) :: r, i => by
    simp only [List.map_cons, look]
    split
    · rfl
    · exact look_map f r i

def cutLocs (γ : Locs) (ids : List Nat) : Locs := fun id => if id ∈ ids then γ id else Option.none

theorem ok_cut (γ : Locs) (ids : List Nat) (b o : Nat) (h : okOf F γ w b o) : okOf F (cutLocs γ ids) w b o :=
  ⟨h.1, h.2.1, fun id l hl => by
    unfold cutLocs at hl
    split at hl
    · exact h.2.2 id l hl
    · cases hl⟩

/-- What is owned is let go: it may be seen from then on. -/
theorem inv_cut (hI : Inv F γ st a w) {ids : List Nat} {env : List (Nat × AV)} {own : List (Nat × Own)} {nx : Nat}
    (henv : ∀ i x, look env i = some x → ∃ y, look st.env i = some y ∧ x = dropSp ids y ∧ seen ids x) (hown : ∀ id o, look own id = some o → id ∈ ids ∧ look st.own id = some o ∧ seenO ids o)
    (hdom : ∀ id ∈ ids, ∀ o, look st.own id = some o → look own id = some o) : Inv F (cutLocs γ ids) { env := env, own := own, next := nx, nt := st.nt } a w := by
  have hok := ok_cut (F := F) (w := w) γ ids
  have hid : ∀ id ∈ ids, cutLocs γ ids id = γ id := fun id h => by simp [cutLocs, h]
  have hsub : ∀ id l, cutLocs γ ids id = some l → γ id = some l := fun id l h => by
    unfold cutLocs at h
    split at h
    · exact h
    · cases h
  refine { os := hI.os, tape := hI.tape, output := hI.output, base := hI.base, xvis := hI.xvis, size := hI.size, keep := hI.keep, defers := hI.defers, nt := hI.nt, env := ?_, own := ?_, dom := ?_, blk := fun id l b h => hI.blk id l b (hsub id l h), dist := fun id id' l l' b h h' => hI.dist id id' l l' b (hsub id l h) (hsub id' l' h') }
  · intro i x h
    obtain ⟨y, h1, rfl, h3⟩ := henv i x h
    have hy := hI.env i y h1
    have hdr : Rep w (okOf F γ w) (dropSp ids y) γ (a.tmps.getD i undef) := by
      unfold dropSp
      split
      · split
        · exact hy
        · simp only [Rep] at hy ⊢
          obtain ⟨base, cap, e1, g1, g2, g3, g4⟩ := hy
          exact ⟨base, cap, e1, g1, g2, trivial, g4⟩
      · exact hy
    exact Rep_seen hid _ h3 (Rep_mono hok (fun _ _ _ => rfl) _ (LocsLe.refl _) hdr)
  · intro id o h
    obtain ⟨hm, h1, h2⟩ := hown id o h
    have ho := hI.own id o h1
    have hidd := hid id hm
    cases o with
    | arr esz xs =>
      obtain ⟨b, n, cur, et, fr, g1, g2, g3, g4, g5, g6, g7, g8, g9⟩ := ho
      exact ⟨b, n, cur, et, fr, hidd.trans g1, g2, g3, g4, g5, g6, g7, g8, RepL_seen hid _ h2 (RepL_mono hok (fun _ _ _ => rfl) _ (LocsLe.refl _) g9)⟩
    | spare esz n =>
      rcases ho with g1 | ⟨b, u, s, cur, et, fr, g1, g2⟩
      · exact .inl (hidd.trans g1)
      · exact .inr ⟨b, u, s, cur, et, fr, hidd.trans g1, g2⟩
    | dead =>
      obtain ⟨b, e, n, g1⟩ := ho
      exact ⟨b, e, n, hidd.trans g1⟩
    | map kvs =>
      obtain ⟨b, es, clock, g1, g2, g3, g4⟩ := ho
      exact ⟨b, es, clock, hidd.trans g1, g2, KV_seen hid h2 (KV_mono hok (fun _ _ _ => rfl) (LocsLe.refl _) _ g3), g4⟩
  · intro id l h
    have hm : id ∈ ids := by
      unfold cutLocs at h
      split at h
      · assumption
      · cases h
    obtain ⟨o, ho⟩ := hI.dom id l (hsub id l h)
    exact ⟨o, hdom id hm o ho⟩

theorem inv_keep (hI : Inv F γ st a w) {K : Keep} {c : Prop} {st' : St} (h : keepSt K st = some (c, st')) (hc : c) : ∃ γ', Inv F γ' st' a w := by
  unfold keepSt at h
  split at h
  · rename_i c1 st1 ht
    simp only [Option.some.injEq, Prod.mk.injEq] at h
    obtain ⟨rfl, rfl⟩ := h
    obtain ⟨_, h2, h3⟩ := hc
    obtain ⟨γ1, hI1⟩ := inv_toks K.toks hI ht
    have hnt : st1.nt = st.nt := by rw [← hI1.nt, hI.nt]
    refine ⟨cutLocs γ1 K.ids, ?_⟩
    rw [← hnt]
    refine inv_cut hI1 ?_ ?_ ?_
    · intro i x hx
      have hm := allSeen_mem h2 (i, x) (look_mem hx)
      rw [look_map] at hx
      cases hl : look (pick1 st1.env K.slots) i with
      | none => rw [hl] at hx; cases hx
      | some y =>
        rw [hl] at hx
        simp only [Option.map_some, Option.some.injEq] at hx
        exact ⟨y, (look_pick1 _ _ _ _ hl).2, hx.symm, hm⟩
    · intro id o ho
      obtain ⟨g1, g2⟩ := look_pick1 _ _ _ _ ho
      exact ⟨g1, g2, allSeenO_mem h3 (id, o) (look_mem ho)⟩
    · intro id hid o ho
      exact look_pick1_some _ _ _ _ hid ho
  · cases h
end
end Go.Aw
namespace Go.Aw
open Go
set_option linter.unusedVariables false
set_option linter.unusedSimpArgs false
set_option linter.unusedSectionVars false
variable {P : Program} {F : Fr} {γ : Locs} {st : St} {a : Act} {w : World}

/-! ### a region whose order is drawn -/
structure Step where
  i : Nat
  o : Oper
  st : St
  R : Res

def stepsOf (P : Program) (T : Tab) (ops : Array Oper) : Nat → List Oper → St → Option (List Step × St)
  | _, [], st => some ([], st)
  | i, o :: r, st =>
    match stepO P T ops o st with
    | some R =>
      match stepsOf P T ops (i + 1) r (applyR st o.dst R) with
      | some (l, st') => some (⟨i, o, st, R⟩ :: l, st')
      | Option.none => Option.none
    | Option.none => Option.none

def mix : List Step → (Nat → Bool) → St → St
  | [], _, st => st
  | s :: r, p, st => mix r p (if p s.i then applyR st s.o.dst s.R else st)

theorem mix_false : ∀ (l : List Step) (p : Nat → Bool) (st : St), (∀ s ∈ l, p s.i = false) → mix l p st = st
  | [], p, st, h => rfl
  | s :: r, p, st, h => by
    unfold mix
    rw [h s (by simp)]
    exact mix_false r p st fun s hs => h s (by simp [hs])

theorem mix_congr : ∀ (l : List Step) (p q : Nat → Bool) (st : St), (∀ s ∈ l, p s.i = q s.i) → mix l p st = mix l q st
  | [], p, q, st, h => rfl
  | s :: r, p, q, st, h => by
    unfold mix
    rw [h s (by simp)]
    exact mix_congr r p q _ fun s hs => h s (by simp [hs])

theorem stepsOf_spec {T : Tab} {ops : Array Oper} : ∀ (ol : List Oper) (k : Nat) (st : St) {l : List Step} {st' : St}, stepsOf P T ops k ol st = some (l, st') →
    l.length = ol.length ∧ (∀ (j : Nat) (s : Step), l[j]? = some s → s.i = k + j ∧ ol[j]? = some s.o) ∧
    (∀ s ∈ l, k ≤ s.i ∧ stepO P T ops s.o s.st = some s.R ∧ s.st = mix l (fun j => decide (j < s.i)) st ∧ applyR s.st s.o.dst s.R = mix l (fun j => decide (j < s.i + 1)) st) ∧ st' = mix l (fun _ => true) st
  | [], k, st, l, st', h => by
    simp only [stepsOf, Option.some.injEq, Prod.mk.injEq] at h
    obtain ⟨rfl, rfl⟩ := h
    exact ⟨rfl, by simp, by simp, rfl⟩
  | o :: r, k, st, l, st', h => by
    simp only [stepsOf] at h
    split at h
    case h_2 => cases h
    rename_i R hR
    split at h
    case h_2 => cases h
    rename_i l0 st0 h0
    simp only [Option.some.injEq, Prod.mk.injEq] at h
    obtain ⟨rfl, rfl⟩ := h
    obtain ⟨e1, e2, e3, e4⟩ := stepsOf_spec r (k + 1) _ h0
    refine ⟨by simp [e1], ?_, ?_, ?_⟩
    · intro j s hs
      cases j with
      | zero => simp only [List.getElem?_cons_zero, Option.some.injEq] at hs; subst hs; simp
      | succ j =>
        simp only [List.getElem?_cons_succ] at hs ⊢
        obtain ⟨h1, h2⟩ := e2 j s hs
        exact ⟨by omega, h2⟩
    · intro s hs
      rcases List.mem_cons.1 hs with rfl | hs
      · refine ⟨Nat.le_refl _, hR, ?_, ?_⟩
        · rw [mix_false]
          intro s hs
          rcases List.mem_cons.1 hs with rfl | hs
          · simp
          · have := (e3 s hs).1; simp only [decide_eq_false_iff_not]; omega
        · unfold mix
          have hk : (decide (k < k + 1)) = true := by simp
          simp only [hk, if_true]
          rw [mix_false]
          intro s hs
          have := (e3 s hs).1; simp only [decide_eq_false_iff_not]; omega
      · obtain ⟨h1, h2, h3, h4⟩ := e3 s hs
        refine ⟨by omega, h2, ?_, ?_⟩
        · unfold mix
          have hk : (decide (k < s.i)) = true := by simp; omega
          simp only [hk, if_true]
          exact h3
        · unfold mix
          have hk : (decide (k < s.i + 1)) = true := by simp; omega
          simp only [hk, if_true]
          exact h4
    · unfold mix
      exact e4

theorem mix_env (l : List Step) (p q : Nat → Bool) (x : Nat) (h : ∀ s ∈ l, s.o.dst = some x → p s.i = q s.i) : ∀ st st', look st.env x = look st'.env x → look (mix l p st).env x = look (mix l q st').env x := by
  induction l with
  | nil => intro st st' e; exact e
  | cons s r ih =>
    intro st st' e
    unfold mix
    refine ih (fun s hs => h s (by simp [hs])) _ _ ?_
    have ap : ∀ st : St, look (applyR st s.o.dst s.R).env x = if s.o.dst = some x then some s.R.r else look st.env x := by
      intro st
      unfold applyR putE
      cases hd : s.o.dst with
      | none => simp
      | some d =>
        simp only [look, Option.some.injEq]
        by_cases hxd : x = d
        · subst hxd; simp
        · rw [if_neg hxd, if_neg (fun e => hxd e.symm)]
    by_cases hd : s.o.dst = some x
    · have hpq := h s (by simp) hd
      rw [hpq]
      split
      · rw [ap, ap, if_pos hd, if_pos hd]
      · exact e
    · have h1 : look (if p s.i then applyR st s.o.dst s.R else st).env x = look st.env x := by
        split
        · rw [ap, if_neg hd]
        · rfl
      have h2 : look (if q s.i then applyR st' s.o.dst s.R else st').env x = look st'.env x := by
        split
        · rw [ap, if_neg hd]
        · rfl
      rw [h1, h2]; exact e

theorem look_up {up own : List (Nat × Own)} {id : Nat} (h : id ∉ up.map Prod.fst) : look (up ++ own) id = look own id := by
  rw [look_append]
  cases hl : look up id with
  | none => rfl
  | some o => exact absurd (List.mem_map.2 ⟨(id, o), look_mem hl, rfl⟩) h

theorem mix_own (l : List Step) (p q : Nat → Bool) (id : Nat) (h : ∀ s ∈ l, id ∈ s.R.up.map Prod.fst → p s.i = q s.i) : ∀ st st', look st.own id = look st'.own id → look (mix l p st).own id = look (mix l q st').own id := by
  induction l with
  | nil => intro st st' e; exact e
  | cons s r ih =>
    intro st st' e
    unfold mix
    refine ih (fun s hs => h s (by simp [hs])) _ _ ?_
    by_cases hd : id ∈ s.R.up.map Prod.fst
    · have hpq := h s (by simp) hd
      rw [hpq]
      split
      · unfold applyR; simp only [look_append, e]
      · exact e
    · have h1 : ∀ (b : Bool) (st : St), look (if b then applyR st s.o.dst s.R else st).own id = look st.own id := by
        intro b st
        split
        · unfold applyR; simp only; rw [look_up hd]
        · rfl
      rw [h1, h1]; exact e

theorem mix_nt (l : List Step) (p : Nat → Bool) : ∀ st, (mix l p st).nt = st.nt := by
  induction l with
  | nil => intro st; rfl
  | cons s r ih =>
    intro st
    unfold mix
    rw [ih]
    split <;> rfl

/-! ### what comes ahead of what -/
def ancOf (acc : List Nat) (o : Oper) : Nat := o.after.toList.foldl (fun m e => if Region.binds .any e then (m ||| (1 <<< e.on)) ||| acc.getD e.on 0 else m) 0
def ancs : List Oper → List Nat → List Nat
  | [], acc => acc
  | o :: r, acc => ancs r (acc ++ [ancOf acc o])

def Closed (ops : Array Oper) (S : Nat → Bool) : Prop := ∀ (j : Nat) (o : Oper), ops[j]? = some o → S j = true → ∀ e ∈ o.after.toList, Region.binds .any e = true → S e.on = true

theorem fold_bits {S : Nat → Bool} {acc : List Nat} (hacc : ∀ (j : Nat) (m : Nat), acc[j]? = some m → S j = true → ∀ b, m.testBit b = true → S b = true) :
    ∀ (es : List Edge) (m : Nat), (∀ e ∈ es, Region.binds .any e = true → S e.on = true) → (∀ b, m.testBit b = true → S b = true) →
      ∀ b, (es.foldl (fun m e => if Region.binds .any e then (m ||| (1 <<< e.on)) ||| acc.getD e.on 0 else m) m).testBit b = true → S b = true
  | [], m, _, hm, b, hb => hm b hb
  | e :: es, m, he, hm, b, hb => by
    simp only [List.foldl_cons] at hb
    refine fold_bits hacc es _ (fun e' h' => he e' (by simp [h'])) ?_ b hb
    intro c hc
    split at hc
    · rename_i hbind
      have hS := he e (by simp) hbind
      simp only [Nat.testBit_or, Bool.or_eq_true] at hc
      rcases hc with (hc | hc) | hc
      · exact hm c hc
      · rw [Nat.one_shiftLeft, Nat.testBit_two_pow] at hc
        simp only [decide_eq_true_eq] at hc
        exact hc ▸ hS
      · rw [List.getD_eq_getElem?_getD] at hc
        cases hg : acc[e.on]? with
        | none => rw [hg] at hc; simp at hc
        | some m' => rw [hg] at hc; exact hacc _ _ hg hS c hc
    · exact hm c hc

theorem ancs_spec {ops : Array Oper} {S : Nat → Bool} (hS : Closed ops S) : ∀ (r : List Oper) (acc : List Nat), (∀ (j : Nat), r[j]? = ops[acc.length + j]?) →
    (∀ (j : Nat) (m : Nat), acc[j]? = some m → (∀ o, ops[j]? = some o → ∀ e ∈ o.after.toList, Region.binds .any e = true → S e.on = true) → ∀ b, m.testBit b = true → S b = true) →
    ∀ (j : Nat) (m : Nat), (ancs r acc)[j]? = some m → (∀ o, ops[j]? = some o → ∀ e ∈ o.after.toList, Region.binds .any e = true → S e.on = true) → ∀ b, m.testBit b = true → S b = true
  | [], acc, _, hacc => hacc
  | o :: r, acc, hr, hacc => by
    unfold ancs
    refine ancs_spec hS r _ (fun j => ?_) ?_
    · have := hr (j + 1)
      simp only [List.getElem?_cons_succ] at this
      rw [this]; simp; congr 1; omega
    · intro j m hm hpre b hb
      rcases Nat.lt_or_ge j acc.length with hj | hj
      · rw [List.getElem?_append_left hj] at hm
        exact hacc j m hm hpre b hb
      · rw [List.getElem?_append_right hj] at hm
        have hj0 : j = acc.length := by
          rcases Nat.lt_or_ge (j - acc.length) 1 with h | h
          · omega
          · rw [List.getElem?_eq_none (by simpa using h)] at hm; cases hm
        subst hj0
        simp only [Nat.sub_self, List.getElem?_cons_zero, Option.some.injEq] at hm
        subst hm
        have ho : ops[acc.length]? = some o := by have := hr 0; simp only [List.getElem?_cons_zero, Nat.add_zero] at this; exact this.symm
        refine fold_bits (S := S) (fun j' m' h' hSj => hacc j' m' h' (fun o' ho' e he hbd => hS j' o' ho' hSj e he hbd)) _ 0 (fun e he => hpre o ho e he) (by simp) b hb

/-- An operation that makes nothing and writes nothing. -/
def quietO (o : Op) : Bool :=
  match o with
  | .move _ | .assign _ | .build _ _ | .load _ _ | .nilCheck _ | .binOp _ _ _ _ _ | .unOp _ _ _ | .makeInterface _ _ | .slice _ _ _ _ _ | .fieldAddr _ _ _ | .field _ _ _ | .indexAddr _ _ _ | .index _ _ _ | .lookup _ _ _ _ | .extract _ _ | .pick _ _ _ => true
  | .call c => match c.callee with
    | .builtin .len | .builtin .cap | .builtin .min | .builtin .max => true
    | _ => false
  | _ => false

theorem ofP_quiet {nx : Nat} {x : Option (Prop × AV)} {R : Res} (h : ofP nx x = some R) : R.up = [] ∧ R.nx = nx := by
  obtain ⟨c, r, _, rfl⟩ := ofP_some h; exact ⟨rfl, rfl⟩

theorem builtinR_quiet {fresh : Bool} {b : Builtin} {ts : List TypeId} {rd : Operand → AV} {as : List Operand} {lk : Nat → Option Own} {nx : Nat} {R : Res} (hq : (match b with | .len | .cap | .min | .max => true | _ => false) = true) (h : builtinR P fresh b ts rd as lk nx = some R) : R.up = [] ∧ R.nx = nx := by
  unfold builtinR at h
  split at h
  · exact ofP_quiet h
  · simp at hq
  · exact ofP_quiet h
  · simp at hq
  · exact ofP_quiet h
  · exact ofP_quiet h
  · cases h

theorem opG_quiet {T : Tab} {o : Op} {rd : Operand → AV} {lk : Nat → Option Own} {nx : Nat} {R : Res} (hq : quietO o = true) (h : opG P T o rd lk nx = some R) : R.up = [] ∧ R.nx = nx := by
  cases o <;> simp only [quietO, Bool.false_eq_true] at hq <;> simp only [opG, reduceCtorEq] at h
  case move => simp only [Option.some.injEq] at h; subst h; exact ⟨rfl, rfl⟩
  case assign => simp only [Option.some.injEq] at h; subst h; exact ⟨rfl, rfl⟩
  case slice =>
    split at h
    · cases h
    · exact ofP_quiet h
  case call c =>
    obtain ⟨callee, args, ats⟩ := c
    cases callee <;> simp only [Bool.false_eq_true] at hq
    rename_i b
    refine builtinR_quiet ?_ h
    cases b <;> first | rfl | (simp at hq)
  all_goals exact ofP_quiet h

theorem stepO_quiet {T : Tab} {ops : Array Oper} {o : Oper} {st : St} {R : Res} (hq : quietO o.op = true) (h : stepO P T ops o st = some R) : R.up = [] ∧ R.nx = st.next := by
  unfold stepO at h
  split at h
  case h_2 => cases h
  split at h
  case h_2 => cases h
  rename_i R0 hR0
  have h0 : R0.up = [] ∧ R0.nx = st.next := by
    unfold opR at hR0
    split at hR0
    · unfold pickA at hR0
      split at hR0
      · simp only [Option.some.injEq] at hR0; subst hR0; exact ⟨rfl, rfl⟩
      · cases hR0
    · split at hR0
      · simp only [Option.some.injEq] at hR0; subst hR0; exact ⟨rfl, rfl⟩
      split at hR0
      · rename_i R1 h1
        simp only [Option.some.injEq] at hR0
        subst hR0
        exact (opG_quiet hq h1 : R1.up = [] ∧ R1.nx = st.next)
      · cases hR0
  unfold wrapR at h
  split at h
  · simp only [Option.some.injEq] at h; subst h; exact h0
  · split at h
    · simp only [Option.some.injEq] at h; subst h; exact ⟨rfl, h0.2⟩
    · cases h
end Go.Aw
namespace Go.Aw
open Go
set_option linter.unusedVariables false
set_option linter.unusedSimpArgs false
set_option linter.unusedSectionVars false
variable {P : Program} {F : Fr} {γ : Locs} {st : St} {a : Act} {w : World}

def pairOk (ops : Array Oper) (an : List Nat) (un : List (Nat × Nat)) (i j : Nat) : Bool :=
  match ops[i]?, ops[j]? with
  | some x, some y => (an.getD j 0).testBit i || (x.apart ops y && ((quietO x.op && quietO y.op) || un.contains (i, j)))
  | _, _ => true
def edgesOk (ops : Array Oper) : Bool := (List.range ops.size).all fun i => match ops[i]? with
  | some o => o.after.toList.all fun e => !Region.binds .any e || decide (e.on < i)
  | Option.none => true
def drawOk (ops : Array Oper) (un : List (Nat × Nat)) : Bool :=
  let an := ancs ops.toList []
  edgesOk ops && (List.range ops.size).all fun j => (List.range j).all fun i => pairOk ops an un i j

/-- The pairs that no order binds and of which one is loud. -/
def unOf (ops : Array Oper) : List (Nat × Nat) :=
  let an := ancs ops.toList []
  (List.range ops.size).flatMap fun j => (List.range j).filterMap fun i => match ops[i]?, ops[j]? with
    | some x, some y => if (an.getD j 0).testBit i || (quietO x.op && quietO y.op) then Option.none else some (i, j)
    | _, _ => Option.none

def Step.ids (s : Step) : List Nat := idsL (rdS s.st) s.o.op.operands.toList
def Step.made (s : Step) : List Nat := s.R.up.map Prod.fst ++ List.range' s.st.next (s.R.nx - s.st.next)

def needs (un : List (Nat × Nat)) (i : Nat) : Bool := un.any fun p => p.1 == i || p.2 == i

def runDraw (P : Program) (T : Tab) (ops : Array Oper) (un : List (Nat × Nat)) : Nat → List Oper → St → Option (Prop × List (List Nat × List Nat) × St)
  | _, [], st => some (True, [], st)
  | i, o :: r, st =>
    match stepO P T ops o st with
    | some R =>
      match runDraw P T ops un (i + 1) r (applyR st o.dst R) with
      | some (c, l, st') => some (R.c ∧ freshOk st R = true ∧ dstOk o.dst st.nt = true ∧ c, (if needs un i then (idsL (rdS st) o.op.operands.toList, R.up.map Prod.fst ++ List.range' st.next (R.nx - st.next)) else ([], [])) :: l, st')
      | Option.none => Option.none
    | Option.none => Option.none

def unOk (l : List (List Nat × List Nat)) : List (Nat × Nat) → Prop
  | [] => True
  | (i, j) :: r => (match l[i]?, l[j]? with
    | some x, some y => (∀ id ∈ x.2, id ∉ y.1 ∧ id ∉ y.2) ∧ (∀ id ∈ y.2, id ∉ x.1)
    | _, _ => False) ∧ unOk l r

theorem runDraw_spec {T : Tab} {ops : Array Oper} {un : List (Nat × Nat)} : ∀ (ol : List Oper) (k : Nat) (st : St) {c : Prop} {ms : List (List Nat × List Nat)} {st' : St}, runDraw P T ops un k ol st = some (c, ms, st') →
    ∃ l, stepsOf P T ops k ol st = some (l, st') ∧ (c → ∀ s ∈ l, s.R.c ∧ freshOk s.st s.R = true ∧ dstOk s.o.dst s.st.nt = true) ∧ ∀ (j : Nat) (s : Step), l[j]? = some s → needs un (k + j) = true → ms[j]? = some (s.ids, s.made)
  | [], k, st, c, ms, st', h => by
    simp only [runDraw, Option.some.injEq, Prod.mk.injEq] at h
    obtain ⟨_, rfl, rfl⟩ := h
    exact ⟨[], rfl, by simp, by simp⟩
  | o :: r, k, st, c, ms, st', h => by
    simp only [runDraw] at h
    split at h
    case h_2 => cases h
    rename_i R hR
    split at h
    case h_2 => cases h
    rename_i c0 l0 st0 h0
    simp only [Option.some.injEq, Prod.mk.injEq] at h
    obtain ⟨rfl, rfl, rfl⟩ := h
    obtain ⟨l, e1, e2, e3⟩ := runDraw_spec r (k + 1) _ h0
    refine ⟨⟨k, o, st, R⟩ :: l, by simp [stepsOf, hR, e1], ?_, ?_⟩
    · intro hc s hs
      obtain ⟨c1, c2, c3, c4⟩ := hc
      rcases List.mem_cons.1 hs with rfl | hs
      · exact ⟨c1, c2, c3⟩
      · exact e2 c4 s hs
    · intro j s hs hn
      cases j with
      | zero =>
        simp only [List.getElem?_cons_zero, Option.some.injEq] at hs
        subst hs
        simp only [List.getElem?_cons_zero]
        have hn' : needs un k = true := hn
        rw [if_pos hn']
        rfl
      | succ j =>
        simp only [List.getElem?_cons_succ] at hs ⊢
        exact e3 j s hs (by rw [show k + 1 + j = k + (j + 1) from by omega]; exact hn)

theorem unOk_mem {ms : List (List Nat × List Nat)} : ∀ {un : List (Nat × Nat)}, unOk ms un → ∀ i j, (i, j) ∈ un → ∀ x y, ms[i]? = some x → ms[j]? = some y → (∀ id ∈ x.2, id ∉ y.1 ∧ id ∉ y.2) ∧ (∀ id ∈ y.2, id ∉ x.1)
  | (p, q) :: r, h, i, j, hm, x, y, hx, hy => by
    simp only [unOk] at h
    rcases List.mem_cons.1 hm with e | hm
    · simp only [Prod.mk.injEq] at e
      obtain ⟨rfl, rfl⟩ := e
      have := h.1
      rw [hx, hy] at this
      exact this
    · exact unOk_mem h.2 i j hm x y hx hy

/-- Two steps that do not touch each other. -/
structure Apart (ops : Array Oper) (s t : Step) : Prop where
  a1 : ∀ d, s.o.dst = some d → d ∉ t.o.looksAt ops
  a2 : ∀ d, s.o.dst = some d → t.o.dst ≠ some d
  a3 : ∀ d, t.o.dst = some d → d ∉ s.o.looksAt ops
  b1 : ∀ id ∈ s.made, id ∉ t.ids ∧ id ∉ t.made
  b2 : ∀ id ∈ t.made, id ∉ s.ids

theorem Apart.symm {ops : Array Oper} {s t : Step} (h : Apart ops s t) : Apart ops t s :=
  ⟨h.a3, fun d h1 h2 => h.a2 d h2 h1, h.a1, fun id h1 => ⟨h.b2 id h1, fun h2 => (h.b1 id h2).2 h1⟩, fun id h1 => (h.b1 id h1).1⟩

theorem countP_set {p q : Nat → Bool} {i : Nat} : ∀ (l : List Nat), i ∈ l → p i = true → q i = false → (∀ j, q j = true → p j = true) → l.countP q + 1 ≤ l.countP p
  | x :: r, hi, hp, hq, hle => by
    have hmono : r.countP q ≤ r.countP p := List.countP_mono_left fun j _ => hle j
    simp only [List.countP_cons]
    rcases List.mem_cons.1 hi with rfl | hi
    · simp [hp, hq]; omega
    · have := countP_set r hi hp hq hle
      cases hqx : q x with
      | true => simp [hle x hqx]; omega
      | false => simp; omega

section go
variable {T : Tab} {ops : Array Oper} {un : List (Nat × Nat)} {st0 st' : St} {l : List Step} {Q : Exit → Act → World → Prop}

theorem mem_idx (hl : ∀ (j : Nat) (s : Step), l[j]? = some s → s.i = 0 + j ∧ ops.toList[j]? = some s.o) {s : Step} (hs : s ∈ l) : l[s.i]? = some s ∧ ops[s.i]? = some s.o := by
  obtain ⟨j, hj⟩ := List.mem_iff_getElem?.1 hs
  obtain ⟨h1, h2⟩ := hl j s hj
  have : j = s.i := by omega
  subst this
  exact ⟨hj, by simpa using h2⟩

theorem draw_go (hT : ∀ f C, T f = some C → Good P f C) {γ0 : Locs} {w0 : World} (hlen : l.length = ops.size) (hl : ∀ (j : Nat) (s : Step), l[j]? = some s → s.i = 0 + j ∧ ops.toList[j]? = some s.o)
    (hs : ∀ s ∈ l, 0 ≤ s.i ∧ stepO P T ops s.o s.st = some s.R ∧ s.st = mix l (fun j => decide (j < s.i)) st0 ∧ applyR s.st s.o.dst s.R = mix l (fun j => decide (j < s.i + 1)) st0)
    (hend : st' = mix l (fun _ => true) st0) (hc : ∀ s ∈ l, s.R.c ∧ freshOk s.st s.R = true ∧ dstOk s.o.dst s.st.nt = true) (hed : edgesOk ops = true)
    (hap : ∀ s ∈ l, ∀ t ∈ l, s.i < t.i → (∃ m, (ancs ops.toList [])[t.i]? = some m ∧ m.testBit s.i = true) ∨ Apart ops s t)
    (hQ : ∀ γ' a' w', Inv F γ' st' a' w' → Left F γ0 γ' w0 w' → Q .normal a' w') :
    ∀ (fuel : Nat) (listed : Array Bool) (γ : Locs) (a : Act) (w : World), (List.range ops.size).countP (fun j => !listed.getD j false) ≤ fuel → listed.size = ops.size → Closed ops (fun j => listed.getD j false) →
      Left F γ0 γ w0 w → Inv F γ (mix l (fun j => listed.getD j false) st0) a w → wpAny P .any ops Q fuel listed a w := by
  have allDone : ∀ (listed : Array Bool) (γ : Locs) (a : Act) (w : World), (∀ j, j < ops.size → listed.getD j false = true) → Left F γ0 γ w0 w → Inv F γ (mix l (fun j => listed.getD j false) st0) a w → Q .normal a w := by
    intro listed γ a w h hL hI
    refine hQ γ a w ?_ hL
    rw [hend, ← mix_congr l (fun j => listed.getD j false) (fun _ => true) st0]
    · exact hI
    · intro s hs
      refine h s.i ?_
      have := (mem_idx hl hs).1
      rw [← hlen]
      exact (List.getElem?_eq_some_iff.1 this).1
  have hgd : ∀ (listed : Array Bool) (j : Nat), listed.size = ops.size → j < ops.size → listed.getD j true = listed.getD j false := by
    intro listed j h1 h2
    rw [Array.getD_eq_getD_getElem?, Array.getD_eq_getD_getElem?, Array.getElem?_eq_getElem (by omega)]
    rfl
  have notReady : ∀ (listed : Array Bool), listed.size = ops.size → Region.ready .any ops listed = [] → ∀ j, j < ops.size → listed.getD j false = true := by
    intro listed hsz hr j
    induction j using Nat.strongRecOn with
    | _ j ih =>
      intro hj
      cases hg : listed.getD j false with
      | true => rfl
      | false =>
        exfalso
        have hm : j ∈ Region.ready .any ops listed := by
          rw [mem_ready]
          refine ⟨by rw [hgd listed j hsz hj]; exact hg, ops[j], Array.getElem?_eq_getElem hj, fun e he hb => ?_⟩
          have h1 := List.all_eq_true.1 hed j (by simpa using hj)
          rw [Array.getElem?_eq_getElem hj] at h1
          have h2 := List.all_eq_true.1 h1 e (by simpa using he)
          simp [hb] at h2
          exact ih e.on h2 (by omega)
        rw [hr] at hm
        cases hm
  intro fuel
  induction fuel with
  | zero =>
    intro listed γ a w hcnt hsz hcl hL hI
    have h0 : ∀ j, j < ops.size → listed.getD j false = true := by
      intro j hj
      have := List.countP_eq_zero.1 (Nat.le_zero.1 hcnt) j (by simpa using hj)
      simpa using this
    refine ⟨?_, allDone listed γ a w h0 hL hI⟩
    rw [List.eq_nil_iff_forall_not_mem]
    intro j hj
    rw [mem_ready] at hj
    obtain ⟨h1, o, h2, _⟩ := hj
    have hj := (Array.getElem?_eq_some_iff.1 h2).1
    rw [hgd listed j hsz hj, h0 j hj] at h1
    cases h1
  | succ fuel ih =>
    intro listed γ a w hcnt hsz hcl hL hI
    refine ⟨fun hr => allDone listed γ a w (notReady listed hsz hr) hL hI, fun i hi => ?_⟩
    rw [mem_ready] at hi
    obtain ⟨h1, o, ho, hpre⟩ := hi
    have hilt := (Array.getElem?_eq_some_iff.1 ho).1
    rw [hgd listed i hsz hilt] at h1
    obtain ⟨s, hsl⟩ : ∃ s, l[i]? = some s := ⟨_, List.getElem?_eq_getElem (by omega)⟩
    have hsm : s ∈ l := List.mem_of_getElem? hsl
    obtain ⟨e1, e2⟩ := hl i s hsl
    have hsi : s.i = i := by omega
    have hso : s.o = o := by
      have : ops[i]? = some s.o := by simpa using e2
      rw [ho] at this; cases this; rfl
    obtain ⟨_, g1, g2, g3⟩ := hs s hsm
    obtain ⟨c1, c2, c3⟩ := hc s hsm
    let S : Nat → Bool := fun j => listed.getD j false
    have h1S : S i = false := h1
    have hanc := ancs_spec (ops := ops) (S := S) hcl ops.toList [] (fun j => by simp) (fun j m h => by simp at h)
    have H : ∀ t ∈ l, S t.i ≠ decide (t.i < i) → Apart ops t s := by
      intro t ht hne
      obtain ⟨m1, m2⟩ := mem_idx hl ht
      by_cases hlt : t.i < i
      · have hS : S t.i = false := by
          cases h : S t.i with
          | false => rfl
          | true => rw [h] at hne; simp [hlt] at hne
        rcases hap t ht s hsm (by omega) with ⟨m, hm, hb⟩ | h
        · exfalso
          rw [hsi] at hm
          have := hanc i m hm (fun o' ho' e he hbd => by rw [ho] at ho'; cases ho'; exact hpre e (by simpa using he) hbd) _ hb
          rw [hS] at this; cases this
        · exact h
      · have hS : S t.i = true := by
          cases h : S t.i with
          | true => rfl
          | false => rw [h] at hne; simp [hlt] at hne
        have hne2 : t.i ≠ i := fun e => by rw [e, h1S] at hS; cases hS
        rcases hap s hsm t ht (by omega) with ⟨m, hm, hb⟩ | h
        · exfalso
          have := hanc t.i m hm (fun o' ho' e he hbd => hcl t.i o' ho' hS e he hbd) _ hb
          rw [hsi, h1S] at this; cases this
        · exact h.symm
    have Hag : ∀ t ∈ l, ¬ Apart ops t s → S t.i = decide (t.i < i) := fun t ht hn => by
      rcases Classical.em (S t.i = decide (t.i < i)) with h | h
      · exact h
      · exact absurd (H t ht h) hn
    have hstS : s.st = mix l (fun j => decide (j < i)) st0 := by rw [g2, hsi]
    -- what the operation looks at
    have hslot : ∀ t ∈ s.o.looksAt ops, look (mix l S st0).env t = look s.st.env t := by
      intro t ht
      rw [hstS]
      exact mix_env l S _ t (fun u hu hd => Hag u hu fun hA => hA.a1 t hd ht) st0 st0 rfl
    have hopd : ∀ x ∈ s.o.op.operands.toList, opd (mix l S st0) x = opd s.st x := by
      intro x hx
      cases x with
      | tmp t =>
        have := hslot t (List.mem_append_left _ (List.mem_filterMap.2 ⟨.tmp t, hx, rfl⟩))
        simp only [opd, this]
      | _ => rfl
    have hgu : guardB (mix l S st0) ops s.o.guard = guardB s.st ops s.o.guard := by
      unfold guardB
      cases hg : s.o.guard with
      | none => rfl
      | some p =>
        obtain ⟨j, want⟩ := p
        simp only
        cases hd : (ops[j]?).bind (·.dst) with
        | none => rfl
        | some d =>
          have := hslot d (List.mem_append_right _ (by simp [hg, hd]))
          simp only [opd, this]
    have hown : ∀ id, id ∈ s.ids ∨ id ∈ s.made → look (mix l S st0).own id = look s.st.own id := by
      intro id hid
      rw [hstS]
      refine mix_own l S _ id (fun u hu hd => Hag u hu fun hA => ?_) st0 st0 rfl
      have := hA.b1 id (List.mem_append_left _ hd)
      rcases hid with h | h
      · exact this.1 h
      · exact this.2 h
    have hfr : ∀ id, s.st.next ≤ id → id < s.R.nx → look (mix l S st0).own id = Option.none := by
      intro id k1 k2
      rw [hown id (.inr (List.mem_append_right _ (by rw [List.mem_range'_1]; omega)))]
      exact fresh_look c2 id k1 k2
    have hnt : (mix l S st0).nt = s.st.nt := by rw [mix_nt, hstS, mix_nt]
    let S' : Nat → Bool := fun j => (listed.setIfInBounds i true).getD j false
    have hS' : ∀ j, j ≠ i → S' j = S j := fun j hj => getD_set_ne false (Ne.symm hj)
    have hSi : S' i = true := by simp [S', Array.getD_eq_getD_getElem?, Array.getElem?_setIfInBounds, hsz, hilt]
    have huniq : ∀ t ∈ l, t.i = i → t = s := fun t ht e => by
      have := (mem_idx hl ht).1
      rw [e, hsl] at this
      cases this; rfl
    have hK : ∀ a' w', After P F γ0 w0 (mix l S st0) s.o.dst s.R a' w' → wpAny P .any ops Q fuel (listed.setIfInBounds i true) a' w' := by
      intro a' w' ⟨γ', hA, hL'⟩
      refine ih (listed.setIfInBounds i true) γ' a' w' ?_ (by simpa using hsz) ?_ hL' ?_
      · have := countP_set (p := fun j => !S j) (q := fun j => !S' j) (i := i) (List.range ops.size) (by simpa using hilt) (by simp [h1S]) (by simp [hSi]) (fun j hj => by
          by_cases e : j = i
          · subst e; simp [hSi] at hj
          · rw [← hS' j e]; exact hj)
        have hcnt' : (List.range ops.size).countP (fun j => !S j) ≤ fuel + 1 := hcnt
        show (List.range ops.size).countP (fun j => !S' j) ≤ fuel
        omega
      · intro j o' ho' hj e he hb
        by_cases hji : j = i
        · subst hji
          rw [ho] at ho'
          cases ho'
          exact getD_set_true (hpre e (by simpa using he) hb)
        · exact getD_set_true (hcl j o' ho' ((hS' j hji).symm.trans hj) e he hb)
      · refine hA.ext (fun x => .inl ?_) (fun id => ?_) (by rw [mix_nt]; show st0.nt = (mix l S st0).nt; rw [mix_nt])
        · show look (mix l S' st0).env x = look (putE (mix l S st0).env s.o.dst s.R.r) x
          by_cases hd : s.o.dst = some x
          · rw [hd]
            simp only [putE, look, if_true]
            have h2 : look (mix l S' st0).env x = look (mix l (fun j => decide (j < s.i + 1)) st0).env x := by
              refine mix_env l S' _ x (fun u hu hdu => ?_) st0 st0 rfl
              by_cases hui : u.i = i
              · show S' u.i = decide (u.i < s.i + 1)
                rw [hui, hSi, hsi]; simp
              · have := Hag u hu fun hA => hA.a2 x hdu hd
                show S' u.i = decide (u.i < s.i + 1)
                rw [hS' _ hui, this, hsi]
                congr 1
                exact propext ⟨fun h => by omega, fun h => by omega⟩
            rw [h2, ← g3]
            simp [applyR, hd, putE, look]
          · have h2 : look (putE (mix l S st0).env s.o.dst s.R.r) x = look (mix l S st0).env x := by
              unfold putE
              cases hdd : s.o.dst with
              | none => rfl
              | some d =>
                simp only [look]
                rw [if_neg (fun e => hd (by rw [hdd, e]))]
            rw [h2]
            refine mix_env l S' S x (fun u hu hdu => hS' _ fun e => hd ?_) st0 st0 rfl
            rw [← huniq u hu e]; exact hdu
        · show look (mix l S' st0).own id = look (s.R.up ++ (mix l S st0).own) id
          by_cases hd : id ∈ s.R.up.map Prod.fst
          · have h2 : look (mix l S' st0).own id = look (mix l (fun j => decide (j < s.i + 1)) st0).own id := by
              refine mix_own l S' _ id (fun u hu hdu => ?_) st0 st0 rfl
              by_cases hui : u.i = i
              · show S' u.i = decide (u.i < s.i + 1)
                rw [hui, hSi, hsi]; simp
              · have := Hag u hu fun hA => (hA.b1 id (List.mem_append_left _ hdu)).2 (List.mem_append_left _ hd)
                show S' u.i = decide (u.i < s.i + 1)
                rw [hS' _ hui, this, hsi]
                congr 1
                exact propext ⟨fun h => by omega, fun h => by omega⟩
            rw [h2, ← g3]
            show look (s.R.up ++ s.st.own) id = _
            rw [look_append, look_append, hown id (.inr (List.mem_append_left _ hd))]
          · rw [look_up hd]
            refine mix_own l S' S id (fun u hu hdu => hS' _ fun e => hd ?_) st0 st0 rfl
            rw [← huniq u hu e]; exact hdu
    unfold wpOp
    rw [ho]
    simp only
    have := step_sound (P := P) (K := wpAny P .any ops Q fuel (listed.setIfInBounds i true)) (Q := Q) hT hL hI g1 c1 hopd hgu (fun id hid => hown id (.inl hid)) hfr (by rw [hnt]; exact c3) hK
    rw [hso] at this
    split
    · rename_i hw; rw [if_pos hw] at this; exact .inl this
    · rename_i hw; rw [if_neg hw] at this; exact this
end go

theorem draw_sound {T : Tab} (hT : ∀ f C, T f = some C → Good P f C) {γ0 : Locs} {w0 : World} (hL : Left F γ0 γ w0 w) {id : Nat} {ops : Array Oper} {Q : Exit → Act → World → Prop} {un : List (Nat × Nat)} (hm : P.follows .mixedOrders = true) (hI : Inv F γ st a w) {c : Prop} {ms : List (List Nat × List Nat)} {st' : St}
    (hok : drawOk ops un = true) (h : runDraw P T ops un 0 ops.toList st = some (c, ms, st')) (hc : c) (hu : unOk ms un)
    (hQ : ∀ γ' a' w', Inv F γ' st' a' w' → Left F γ0 γ' w0 w' → Q .normal a' w') : (Code.region id ops true).wp P Q a w := by
  obtain ⟨l, e1, e2, e3⟩ := runDraw_spec _ _ _ h
  obtain ⟨f1, f2, f3, f4⟩ := stepsOf_spec _ _ _ e1
  unfold drawOk at hok
  simp only [Bool.and_eq_true] at hok
  obtain ⟨k1, k2⟩ := hok
  refine wp_region_any hm (draw_go hT (by simpa using f1) f2 f3 f4 (e2 hc) k1 ?_ hQ ops.size (Array.replicate ops.size false) γ a _ ?_ (by simp) ?_ ⟨hL.le, hL.ok, hL.cell⟩ ?_)
  · intro s hs t ht hst
    obtain ⟨m1, m2⟩ := mem_idx f2 hs
    obtain ⟨n1, n2⟩ := mem_idx f2 ht
    have htl := (Array.getElem?_eq_some_iff.1 n2).1
    have := List.all_eq_true.1 (List.all_eq_true.1 k2 t.i (by simpa using htl)) s.i (by simpa using hst)
    unfold pairOk at this
    rw [m2, n2] at this
    simp only [Bool.or_eq_true, Bool.and_eq_true] at this
    rcases this with h1 | ⟨h1, h2⟩
    · refine .inl ?_
      rw [List.getD_eq_getElem?_getD] at h1
      cases hg : (ancs ops.toList [])[t.i]? with
      | none => rw [hg] at h1; simp at h1
      | some m => rw [hg] at h1; exact ⟨m, rfl, h1⟩
    · obtain ⟨p1, p2, p3⟩ := Oper.apart_spec h1
      refine .inr ⟨p1, p2, p3, ?_, ?_⟩
      · rcases h2 with ⟨q1, q2⟩ | h2
        · obtain ⟨u1, u2⟩ := stepO_quiet q1 (f3 s hs).2.1
          intro id hid
          simp [Step.made, u1, u2] at hid
        · have hum := List.contains_iff_mem.1 h2
          exact (unOk_mem hu s.i t.i hum _ _ (e3 s.i s m1 (by simp [needs]; exact ⟨_, _, hum, .inl rfl⟩)) (e3 t.i t n1 (by simp [needs]; exact ⟨_, _, hum, .inr rfl⟩))).1
      · rcases h2 with ⟨q1, q2⟩ | h2
        · obtain ⟨u1, u2⟩ := stepO_quiet q2 (f3 t ht).2.1
          intro id hid
          simp [Step.made, u1, u2] at hid
        · have hum := List.contains_iff_mem.1 h2
          exact (unOk_mem hu s.i t.i hum _ _ (e3 s.i s m1 (by simp [needs]; exact ⟨_, _, hum, .inl rfl⟩)) (e3 t.i t n1 (by simp [needs]; exact ⟨_, _, hum, .inr rfl⟩))).2
  · exact Nat.le_trans (List.countP_le_length) (by simp)
  · intro j o ho hj
    have hj' : (Array.replicate ops.size false).getD j false = true := hj
    rw [Array.getD_eq_getD_getElem?, Array.getElem?_replicate] at hj'
    split at hj' <;> cases hj'
  · have : mix l (fun j => (Array.replicate ops.size false).getD j false) st = st := mix_false _ _ _ fun s _ => by
      simp only [Array.getD_eq_getD_getElem?, Array.getElem?_replicate]; split <;> rfl
    rw [this]
    exact hI.core (w' := { w with drawn := w.drawn + 1 }) (own' := st.own) (nx := st.next) rfl rfl rfl (Nat.le_refl _) (LocsLe.refl _) (fun _ _ h => h) (fun _ _ _ => rfl) (fun _ _ _ => rfl)
      (fun id o h => OwnRep_mono (w := w) (fun _ _ h => h) (fun _ _ _ => rfl) (LocsLe.refl _) rfl (fun _ _ _ _ => rfl) (hI.own id o h)) hI.dom hI.blk hI.dist
end Go.Aw
namespace Go.Aw
open Go
set_option linter.unusedVariables false
set_option linter.unusedSimpArgs false
set_option linter.unusedSectionVars false
variable {P : Program} {T : Tab} {fix : List Nat}

/-! ### code -/
inductive Ex where
  | normal
  | exit (id : Nat)
  | ret
def Ex.out : Ex → Exit
  | .normal => .normal
  | .exit id => .exit id
  | .ret => .ret

def Awp (P : Program) (T : Tab) (fix : List Nat) (c : Code) (Q : Ex → St → Prop) (st : St) : Prop :=
  (∀ f C, T f = some C → Good P f C) → ∀ (F : Fr) (γ0 : Locs) (w0 : World) (γ : Locs) (a : Act) (w : World) (Q' : Exit → Act → World → Prop), (∀ id l, γ0 id = some l → id ∈ fix) →
    (∀ e st' γ' a' w', Q e st' → Inv F γ' st' a' w' → Left F γ0 γ' w0 w' → Q' e.out a' w') → Inv F γ st a w → Left F γ0 γ w0 w → c.wp P Q' a w

def andThen (K : St → Prop) (Q : Ex → St → Prop) : Ex → St → Prop
  | .normal, st => K st
  | e, st => Q e st
def inBlock (id : Nat) (Q : Ex → St → Prop) : Ex → St → Prop
  | .exit i, st => if i = id then Q .normal st else Q (.exit i) st
  | e, st => Q e st

variable {Q : Ex → St → Prop} {st : St}

theorem awp_skip (h : Q .normal st) : Awp P T fix .skip Q st := fun hT F γ0 w0 γ a w Q' hf hQ hI hL => wp_skip (hQ .normal st γ a w h hI hL)
theorem awp_ret (h : Q .ret st) : Awp P T fix .ret Q st := fun hT F γ0 w0 γ a w Q' hf hQ hI hL => wp_ret (hQ .ret st γ a w h hI hL)
theorem awp_exit {id : Nat} (h : Q (.exit id) st) : Awp P T fix (.exit id) Q st := fun hT F γ0 w0 γ a w Q' hf hQ hI hL => wp_exit (hQ (.exit id) st γ a w h hI hL)

theorem awp_mono {c : Code} {Q2 : Ex → St → Prop} (h : Awp P T fix c Q st) (hq : ∀ e st, Q e st → Q2 e st) : Awp P T fix c Q2 st :=
  fun hT F γ0 w0 γ a w Q' hf hQ hI hL => h hT F γ0 w0 γ a w Q' hf (fun e st' γ' a' w' q => hQ e st' γ' a' w' (hq _ _ q)) hI hL

theorem awp_seq {x y : Code} (h : Awp P T fix x (andThen (Awp P T fix y Q) Q) st) : Awp P T fix (.seq x y) Q st := fun hT F γ0 w0 γ a w Q' hf hQ hI hL => by
  refine wp_seq (h hT F γ0 w0 γ a w _ hf ?_ hI hL)
  intro e st' γ' a' w' hq hI' hL'
  cases e with
  | normal => exact hq hT F γ0 w0 γ' a' w' Q' hf hQ hI' hL'
  | exit id => exact hQ (.exit id) st' γ' a' w' hq hI' hL'
  | ret => exact hQ .ret st' γ' a' w' hq hI' hL'

theorem awp_cond {c : Operand} {x y : Code} {b : Bool} (hc : opd st c = .v (.bool b)) (ht : b = true → Awp P T fix x Q st) (he : b = false → Awp P T fix y Q st) : Awp P T fix (.cond c x y) Q st := fun hT F γ0 w0 γ a w Q' hf hQ hI hL => by
  have hx := rep_opd hI c
  rw [hc] at hx
  simp only [Rep] at hx
  refine wp_cond hx ?_
  cases b with
  | true => exact ht rfl hT F γ0 w0 γ a w Q' hf hQ hI hL
  | false => exact he rfl hT F γ0 w0 γ a w Q' hf hQ hI hL

/-- A condition of which nothing is known. -/
theorem awp_cond_ub {c : Operand} {x y : Code} (hc : opd st c = .ub) (ht : Awp P T fix x Q st) (he : Awp P T fix y Q st) : Awp P T fix (.cond c x y) Q st := fun hT F γ0 w0 γ a w Q' hf hQ hI hL => by
  have hx := rep_opd hI c
  rw [hc] at hx
  simp only [Rep] at hx
  obtain ⟨b, hb⟩ := hx
  refine wp_cond hb ?_
  cases b with
  | true => exact ht hT F γ0 w0 γ a w Q' hf hQ hI hL
  | false => exact he hT F γ0 w0 γ a w Q' hf hQ hI hL

theorem awp_block {id : Nat} {c : Code} (h : Awp P T fix c (inBlock id Q) st) : Awp P T fix (.block id c) Q st := fun hT F γ0 w0 γ a w Q' hf hQ hI hL => by
  refine wp_block (h hT F γ0 w0 γ a w _ hf ?_ hI hL)
  intro e st' γ' a' w' hq hI' hL'
  cases e with
  | normal => exact hQ .normal st' γ' a' w' hq hI' hL'
  | exit i =>
    simp only [inBlock] at hq
    show Exit.inBlock id Q' (.exit i) a' w'
    unfold Exit.inBlock
    by_cases h : i = id
    · rw [if_pos h] at hq
      simp only [h, if_true]
      exact hQ .normal st' γ' a' w' hq hI' hL'
    · rw [if_neg h] at hq
      simp only [h, if_false]
      exact hQ (.exit i) st' γ' a' w' hq hI' hL'
  | ret => exact hQ .ret st' γ' a' w' hq hI' hL'

theorem awp_region {id : Nat} {ops : Array Oper} {c : Prop} {st' : St} (h : runOps P T ops ops.toList st = some (c, st')) (hc : c) (hq : Q .normal st') : Awp P T fix (.region id ops false) Q st := fun hT F γ0 w0 γ a w Q' hf hQ hI hL =>
  region_sound hT hL hI h hc fun γ' a' w' hI' hL' => hQ .normal st' γ' a' w' hq hI' hL'

theorem awp_draw {id : Nat} {ops : Array Oper} {c : Prop} {ms : List (List Nat × List Nat)} {st' : St} (hm : P.follows .mixedOrders = true) (un : List (Nat × Nat)) (hok : drawOk ops un = true)
    (h : runDraw P T ops un 0 ops.toList st = some (c, ms, st')) (hc : c) (hu : unOk ms un) (hq : Q .normal st') : Awp P T fix (.region id ops true) Q st := fun hT F γ0 w0 γ a w Q' hf hQ hI hL =>
  draw_sound hT hL hm hI hok h hc hu fun γ' a' w' hI' hL' => hQ .normal st' γ' a' w' hq hI' hL'

/-- A fact that holds of what is there. -/
theorem awp_fact {c : Code} {p : Prop} (h : ∀ F γ a w, Inv F γ st a w → p) (k : p → Awp P T fix c Q st) : Awp P T fix c Q st := fun hT F γ0 w0 γ a w Q' hf hQ hI hL =>
  k (h F γ a w hI) hT F γ0 w0 γ a w Q' hf hQ hI hL

theorem sl_len {i : Nat} {xs : List (List AV)} {sp : Spare} (h : look st.env i = some (.sl xs sp)) : ∀ F γ a w, Inv F γ st a w → xs.length ≤ maxLen := fun F γ a w hI => by
  have := hI.env i _ h
  simp only [Rep] at this
  obtain ⟨base, cap, _, h1, h2, _⟩ := this
  omega

theorem left_cut {F : Fr} {γ0 γ : Locs} {w0 w : World} {ids : List Nat} (h : Left F γ0 γ w0 w) (hids : ∀ id l, γ0 id = some l → id ∈ ids) : Left F γ0 (cutLocs γ ids) w0 w :=
  ⟨fun id l hl => by
    obtain ⟨l', h1, h2⟩ := h.le id l hl
    exact ⟨l', by simp [cutLocs, hids id l hl, h1], h2⟩, fun b o hb => ok_cut γ ids b o (h.ok b o hb), h.cell⟩

theorem left_toks {F : Fr} {γ0 : Locs} {w0 w : World} {a : Act} : ∀ (l : List (Nat × Nat × Nat)) {st st' : St} {γ : Locs} {c : Prop}, Inv F γ st a w → Left F γ0 γ w0 w → tokSt l st = some (c, st') → ∃ γ', Inv F γ' st' a w ∧ Left F γ0 γ' w0 w
  | [], st, st', γ, c, hI, hL, h => by simp only [tokSt, Option.some.injEq, Prod.mk.injEq] at h; obtain ⟨_, rfl⟩ := h; exact ⟨γ, hI, hL⟩
  | (slot, id, esz) :: r, st, st', γ, c, hI, hL, h => by
    simp only [tokSt] at h
    split at h
    · rename_i xs hs
      split at h
      · rename_i hid
        obtain ⟨γ', h1, h2⟩ := inv_tok' hI hL (esz := esz) hs hid
        exact left_toks r h1 h2 h
      · cases h
    · split at h
      · exact left_toks r hI hL h
      · cases h
    · cases h

theorem left_keep {F : Fr} {γ0 γ : Locs} {w0 w : World} {a : Act} (hI : Inv F γ st a w) (hL : Left F γ0 γ w0 w) {K : Keep} {c : Prop} {st' : St} (h : keepSt K st = some (c, st')) (hc : c) (hids : ∀ id l, γ0 id = some l → id ∈ K.ids) : ∃ γ', Inv F γ' st' a w ∧ Left F γ0 γ' w0 w := by
  unfold keepSt at h
  split at h
  · rename_i c1 st1 ht
    simp only [Option.some.injEq, Prod.mk.injEq] at h
    obtain ⟨rfl, rfl⟩ := h
    obtain ⟨_, h2, h3⟩ := hc
    obtain ⟨γ1, hI1, hL1⟩ := left_toks K.toks hI hL ht
    have hnt : st1.nt = st.nt := by rw [← hI1.nt, hI.nt]
    refine ⟨cutLocs γ1 K.ids, ?_, left_cut hL1 hids⟩
    rw [← hnt]
    refine inv_cut hI1 ?_ ?_ ?_
    · intro i x hx
      have hm := allSeen_mem h2 (i, x) (look_mem hx)
      rw [look_map] at hx
      cases hl : look (pick1 st1.env K.slots) i with
      | none => rw [hl] at hx; cases hx
      | some y =>
        rw [hl] at hx
        simp only [Option.map_some, Option.some.injEq] at hx
        exact ⟨y, (look_pick1 _ _ _ _ hl).2, hx.symm, hm⟩
    · intro id o ho
      obtain ⟨g1, g2⟩ := look_pick1 _ _ _ _ ho
      exact ⟨g1, g2, allSeenO_mem h3 (id, o) (look_mem ho)⟩
    · intro id hid o ho
      exact look_pick1_some _ _ _ _ hid ho
  · cases h

/-- What is kept, at any place. -/
theorem awp_keep {c : Code} (K : Keep) {p : Prop} {st1 : St} (h : keepSt K st = some (p, st1)) (hp : p) (hfix : ∀ id ∈ fix, id ∈ K.ids) (k : Awp P T fix c Q st1) : Awp P T fix c Q st := fun hT F γ0 w0 γ a w Q' hf hQ hI hL => by
  obtain ⟨γ', h1, h2⟩ := left_keep hI hL h hp (fun id l hl => hfix id (hf id l hl))
  exact k hT F γ0 w0 γ' a w Q' hf hQ h1 h2

/-- A round's end: what is kept stands in the relation at a smaller number. -/
def Again (K : Keep) (I : Nat → St → Prop) (n : Nat) (st : St) : Prop := ∃ p st1, keepSt K st = some (p, st1) ∧ p ∧ ∃ m, m < n ∧ I m st1

theorem awp_loop {c : Code} (K : Keep) (I : Nat → St → Prop) (n0 : Nat) (hfix : ∀ id ∈ fix, id ∈ K.ids) (h0 : ∃ p st1, keepSt K st = some (p, st1) ∧ p ∧ I n0 st1)
    (round : ∀ n st, I n st → Awp P T fix c (andThen (Again K I n) Q) st) : Awp P T fix (.loop c) Q st := fun hT F γ0 w0 γ a w Q' hf hQ hI hL => by
  obtain ⟨p, st1, h1, h2, h3⟩ := h0
  obtain ⟨γ1, hI1, hL1⟩ := left_keep hI hL h1 h2 (fun id l hl => hfix id (hf id l hl))
  refine wp_loop_ghost (fun n a w => ∃ γ st, I n st ∧ Inv F γ st a w ∧ Left F γ0 γ w0 w) n0 ⟨γ1, st1, h3, hI1, hL1⟩ ?_
  intro n a w ⟨γ2, st2, g1, g2, g3⟩
  refine round n st2 g1 hT F γ0 w0 γ2 a w _ hf ?_ g2 g3
  intro e st' γ' a' w' hq hI' hL'
  cases e with
  | normal =>
    obtain ⟨p, st3, k1, k2, m, k3, k4⟩ := hq
    obtain ⟨γ3, hI3, hL3⟩ := left_keep hI' hL' k1 k2 (fun id l hl => hfix id (hf id l hl))
    exact ⟨m, k3, γ3, st3, k4, hI3, hL3⟩
  | exit id => exact hQ (.exit id) st' γ' a' w' hq hI' hL'
  | ret => exact hQ .ret st' γ' a' w' hq hI' hL'
end Go.Aw
namespace Go.Aw
open Go
set_option linter.unusedVariables false
set_option linter.unusedSimpArgs false
set_option linter.unusedSectionVars false
variable {P : Program} {T : Tab} {fix : List Nat} {F : Fr} {γ : Locs} {st : St} {a : Act} {w : World}

/-! ### a function's results -/
def tmpsOf : List ResultVar → Option (List Nat)
  | [] => some []
  | .tmp t :: r => (tmpsOf r).map (t :: ·)
  | .cell _ _ :: _ => Option.none

theorem run_mapM (tmps : Array Value) (w : World) : ∀ (rs : List ResultVar) (ts : List Nat), tmpsOf rs = some ts →
   (rs.mapM (m := Sem) fun | .tmp t => pure (tmps.getD t undef) | .cell a t => do loadVar t (← asAddr (tmps.getD a undef))).run P w = .ok (ts.map fun t => tmps.getD t undef) w
  | [], ts, h => by
    simp only [tmpsOf, Option.some.injEq] at h; subst h
    simp
  | .tmp t :: r, ts, h => by
    simp only [tmpsOf] at h
    cases hr : tmpsOf r with
    | none => rw [hr] at h; cases h
    | some ts' =>
      rw [hr] at h
      simp only [Option.map_some, Option.some.injEq] at h
      subst h
      have := run_mapM tmps w r ts' hr
      rw [List.mapM_cons]
      simp only [Sem.run_bind, Sem.run_pure, Result.andThen_ok, this, List.map_cons]
  | .cell _ _ :: _, ts, h => by simp [tmpsOf] at h

theorem results_run {fn : Func} {ts : List Nat} (h : tmpsOf fn.results.toList = some ts) (tmps : Array Value) (w : World) :
    (results fn tmps).run P w = .ok (let vs := (ts.map fun t => tmps.getD t undef).toArray; if h : vs.size = 1 then vs[0] else .tuple vs) w := by
  unfold results
  rw [Array.mapM_eq_mapM_toList]
  have := run_mapM (P := P) tmps w fn.results.toList ts h
  simp only [Sem.run_bind, map_eq_pure_bind, Sem.run_pure] 
  erw [this]
  rfl

def resA (st : St) (rs : List ResultVar) : Option AV :=
  match tmpsOf rs with
  | some [t] => some (opd st (.tmp t))
  | some ts => some (.tup (ts.map fun t => opd st (.tmp t)))
  | Option.none => Option.none

theorem rep_tmps (hI : Inv F γ st a w) : ∀ (ts : List Nat), RepL w (okOf F γ w) (ts.map fun t => opd st (.tmp t)) γ (ts.map fun t => a.tmps.getD t undef)
  | [] => by simp [RepL]
  | t :: ts => by
    simp only [List.map_cons, RepL]
    exact ⟨_, _, rfl, rep_opd hI (.tmp t), rep_tmps hI ts⟩

theorem resA_sound (hI : Inv F γ st a w) {fn : Func} {x : AV} (h : resA st fn.results.toList = some x) : ∃ v, (results fn a.tmps).run P w = .ok v w ∧ Rep w (okOf F γ w) x γ v := by
  unfold resA at h
  split at h
  · rename_i t ht
    simp only [Option.some.injEq] at h
    subst h
    exact ⟨_, results_run ht a.tmps w, rep_opd hI (.tmp t)⟩
  · rename_i ts hne ht
    simp only [Option.some.injEq] at h
    subst h
    refine ⟨_, results_run ht a.tmps w, ?_⟩
    have hs : ((ts.map fun t => a.tmps.getD t undef).toArray).size ≠ 1 := by
      intro e
      simp at e
      match ts, e, hne with
      | [t], _, hne => exact hne t rfl
    simp only [dif_neg hs, Rep]
    exact ⟨_, rfl, rep_tmps hI ts⟩
  · cases h

/-! ### what is handed out -/
def out1 (keep : List Nat) (lk : Nat → Option Own) (x : AV) : Option (Prop × AV) :=
  match x with
  | .op id i off =>
    if id ∈ keep then some (True, .op id i off) else
      match lk id with
      | some (.arr esz xs) => some (i < xs.length ∧ off ≤ esz ∧ ∀ c ∈ (((xs.getD i []).drop off).map imm1), pure1 c = true, .ref (((xs.getD i []).drop off).map imm1))
      | _ => Option.none
  | .os id off len cp =>
    if id ∈ keep then some (True, .os id off len cp) else
      match lk id with
      | some (.arr esz xs) => some (off + len ≤ xs.length ∧ ∀ cs ∈ ((xs.drop off).take len), ∀ c ∈ cs, pure1 c = true, .sl ((xs.drop off).take len) .none)
      | _ => Option.none
  | .sl xs (.own id) => if id ∈ keep then some (True, .sl xs (.own id)) else some (True, .sl xs .none)
  | .sl xs .none => some (True, .sl xs .none)
  | .sl xs .tight => some (True, .sl xs .tight)
  | .v x => some (True, .v x)
  | .str l => some (True, .str l)
  | .ref cs => some (True, .ref cs)
  | x => some (seen keep x, x)

def outL (keep : List Nat) (lk : Nat → Option Own) : List AV → Option (Prop × List AV)
  | [] => some (True, [])
  | x :: xs =>
    match out1 keep lk x, outL keep lk xs with
    | some (c, y), some (d, ys) => some (c ∧ d, y :: ys)
    | _, _ => Option.none

def outA (keep : List Nat) (lk : Nat → Option Own) (x : AV) : Option (Prop × AV) :=
  match x with
  | .tup cs => match outL keep lk cs with
    | some (c, ys) => some (c, .tup ys)
    | Option.none => Option.none
  | x => out1 keep lk x

theorem ok_frz (hI : Inv F γ st a w) {keep : List Nat} {id b e n : Nat} (hg : γ id = some (.arr b e n)) (hid : id ∉ keep) (o : Nat) : okOf F (cutLocs γ keep) w b o := by
  obtain ⟨h1, h2⟩ := hI.blk id _ b hg rfl
  refine ⟨h1, fun h => ?_, fun id2 l2 hc => ?_⟩
  · rcases h2 with h2 | h2
    · omega
    · exact hI.xvis b o h2
  · unfold cutLocs at hc
    split at hc
    · rename_i hm
      have hne : ∀ b', l2.block = some b' → b ≠ b' := fun b' hb' e => hid (by rw [hI.dist id id2 _ l2 b hg hc rfl (by rw [hb', e])]; exact hm)
      cases l2 with
      | arr b' _ _ => exact hne b' rfl
      | map b' => exact hne b' rfl
      | spare _ _ b' _ _ => exact fun e => absurd e (hne b' rfl)
      | full _ _ => trivial
      | dead _ _ _ => trivial
    · cases hc

theorem out1_sound {keep : List Nat} {lk : Nat → Option Own} (hlk : ∀ id o, lk id = some o → look st.own id = some o) (hI : Inv F γ st a w) {x y : AV} {c : Prop} (h : out1 keep lk x = some (c, y)) (hc : c) {u : Value} (hx : Rep w (okOf F γ w) x γ u) :
    Rep w (okOf F (cutLocs γ keep) w) y (cutLocs γ keep) u := by
  have hok := ok_cut (F := F) (w := w) γ keep
  have hk : ∀ id ∈ keep, cutLocs γ keep id = γ id := fun id h => by simp [cutLocs, h]
  have up : ∀ {z : AV}, Rep w (okOf F γ w) z γ u → Rep w (okOf F (cutLocs γ keep) w) z γ u := fun h => Rep_mono hok (fun _ _ _ => rfl) _ (LocsLe.refl _) h
  have same : ∀ {z : AV}, seen keep z → Rep w (okOf F γ w) z γ u → Rep w (okOf F (cutLocs γ keep) w) z (cutLocs γ keep) u := fun hs h => Rep_seen hk _ hs (up h)
  unfold out1 at h
  split at h
  · rename_i id i off
    split at h
    · rename_i hm
      simp only [Option.some.injEq, Prod.mk.injEq] at h
      obtain ⟨_, rfl⟩ := h
      exact same (by simpa [seen] using hm) hx
    · rename_i hn
      split at h
      · rename_i esz xs hl
        simp only [Option.some.injEq, Prod.mk.injEq] at h
        obtain ⟨rfl, rfl⟩ := h
        obtain ⟨c1, c2, c3⟩ := hc
        obtain ⟨b, n, cur, et, fr, g1, g2, g3, g4, g5, g6, g7, g8, g9⟩ := hI.own id _ (hlk id _ hl)
        simp only [Rep] at hx
        obtain ⟨b', esz', n', e1, rfl⟩ := hx
        rw [g1] at e1
        cases e1
        obtain ⟨us, k1, k2, k3, k4⟩ := OwnArr_seg (F := F) (esz := esz) (off := off) (k := esz - off) g2 g3 g5 g7 g8 g9 c1 (by omega)
        have hlen : ((xs.getD i []).drop off).length = esz - off := by
          have : xs.getD i [] = xs[i] := by simp [List.getD, List.getElem?_eq_getElem c1]
          rw [List.length_drop, this, g7 _ (List.getElem_mem c1)]
        rw [List.take_of_length_le (show ((xs.getD i []).drop off).length ≤ esz - off from by omega)] at k3
        simp only [Rep]
        refine ⟨b, _, rfl, RepC_of_cells (us := us) ?_ k4 k2 (fun j _ => ok_frz hI g1 hn _)⟩
        exact RepL_mono hok (fun _ _ _ => rfl) _ (LocsLe.refl _) (RepL_pure c3 (RepL_imm1 k3))
      · cases h
  · rename_i id off len cp
    split at h
    · rename_i hm
      simp only [Option.some.injEq, Prod.mk.injEq] at h
      obtain ⟨_, rfl⟩ := h
      exact same (by simpa [seen] using hm) hx
    · rename_i hn
      split at h
      · rename_i esz xs hl
        simp only [Option.some.injEq, Prod.mk.injEq] at h
        obtain ⟨rfl, rfl⟩ := h
        obtain ⟨c1, c2⟩ := hc
        obtain ⟨b, n, cur, et, fr, g1, g2, g3, g4, g5, g6, g7, g8, g9⟩ := hI.own id _ (hlk id _ hl)
        simp only [Rep] at hx
        obtain ⟨b', esz', n', cap, oo, e1, rfl, e0, e2, e3, e4, e5⟩ := hx
        rw [g1] at e1
        cases e1
        rcases Nat.eq_zero_or_pos len with hl0 | hl0
        · subst hl0
          simp only [List.take_zero, Rep]
          exact ⟨some ⟨b, oo, Option.none⟩, cap, rfl, by simp, e4, trivial, rfl, by simp only [RepEs]⟩
        have hoo : oo = off * esz := by
          rcases e0 with e0 | e0
          · omega
          · exact e0
        subst hoo
        have hu1 : ∀ cs ∈ xs.drop off, cs.length = esz := fun cs hcs => g7 cs (List.mem_of_mem_drop hcs)
        have hfl : ((xs.drop off).take len).flatten = (xs.flatten.drop (off * esz)).take (len * esz) := by rw [flat_take hu1, flat_drop xs off g7]
        have hxl : ((xs.drop off).take len).length = len := by simp; omega
        have hL := flat_length xs g7
        have hle : (off + len) * esz ≤ xs.length * esz := Nat.mul_le_mul_right _ c1
        have hle2 : xs.length * esz ≤ n * esz := Nat.mul_le_mul_right _ g5
        rw [Nat.add_mul] at hle
        have hR : RepL w (okOf F γ w) ((xs.drop off).take len).flatten γ ((cur.toList.drop (off * esz)).take (len * esz)) := by
          rw [hfl]
          have := RepL_take (len * esz) (RepL_drop (off * esz) g9)
          rw [hL, List.drop_take, List.take_take, Nat.min_eq_left (by omega)] at this
          exact this
        simp only [Rep]
        refine ⟨some ⟨b, off * esz, Option.none⟩, cap, by rw [hxl], by rw [hxl]; exact e2, e4, trivial, rfl, RepEs_flatten ?_⟩
        refine RepC_of_cells (us := (cur.toList.drop (off * esz)).take (len * esz)) ?_ (fun y hy => g8 y (List.mem_of_mem_drop (List.mem_of_mem_take hy))) ?_ (fun j _ => ok_frz hI g1 hn _)
        · refine RepL_mono hok (fun _ _ _ => rfl) _ (LocsLe.refl _) (RepL_pure (fun x hx => ?_) hR)
          obtain ⟨cs, h1, h2⟩ := List.mem_flatten.1 hx
          exact c2 cs h1 x h2
        · intro j v hj
          rw [List.getElem?_take] at hj
          split at hj
          · rw [List.getElem?_drop] at hj
            rw [cell_of_row w b _ cur et fr g2]
            simpa using hj
          · cases hj
      · cases h
  · rename_i xs id
    split at h
    · rename_i hm
      simp only [Option.some.injEq, Prod.mk.injEq] at h
      obtain ⟨_, rfl⟩ := h
      exact same (by simpa [seen] using hm) hx
    · simp only [Option.some.injEq, Prod.mk.injEq] at h
      obtain ⟨_, rfl⟩ := h
      refine same (by simp [seen]) ?_
      simp only [Rep] at hx ⊢
      obtain ⟨base, cap, e1, g1, g2, g3, g4⟩ := hx
      exact ⟨base, cap, e1, g1, g2, trivial, g4⟩
  · simp only [Option.some.injEq, Prod.mk.injEq] at h
    obtain ⟨_, rfl⟩ := h
    exact same (by simp [seen]) hx
  · simp only [Option.some.injEq, Prod.mk.injEq] at h
    obtain ⟨_, rfl⟩ := h
    exact same (by simp [seen]) hx
  · simp only [Option.some.injEq, Prod.mk.injEq] at h
    obtain ⟨_, rfl⟩ := h
    exact same (by simp [seen]) hx
  · simp only [Option.some.injEq, Prod.mk.injEq] at h
    obtain ⟨_, rfl⟩ := h
    exact same (by simp [seen]) hx
  · simp only [Option.some.injEq, Prod.mk.injEq] at h
    obtain ⟨_, rfl⟩ := h
    exact same (by simp [seen]) hx
  · simp only [Option.some.injEq, Prod.mk.injEq] at h
    obtain ⟨rfl, rfl⟩ := h
    exact same hc hx

theorem outL_sound {keep : List Nat} {lk : Nat → Option Own} (hlk : ∀ id o, lk id = some o → look st.own id = some o) (hI : Inv F γ st a w) : ∀ {xs ys : List AV} {c : Prop}, outL keep lk xs = some (c, ys) → c → ∀ {us : List Value}, RepL w (okOf F γ w) xs γ us →
    RepL w (okOf F (cutLocs γ keep) w) ys (cutLocs γ keep) us
  | [], ys, c, h, hc, us, hu => by
    simp only [outL, Option.some.injEq, Prod.mk.injEq] at h
    obtain ⟨_, rfl⟩ := h
    simpa only [RepL] using hu
  | x :: xs, ys, c, h, hc, us, hu => by
    simp only [outL] at h
    split at h
    · rename_i c1 y d ys' h1 h2
      simp only [Option.some.injEq, Prod.mk.injEq] at h
      obtain ⟨rfl, rfl⟩ := h
      simp only [RepL] at hu ⊢
      obtain ⟨u, r, rfl, hu1, hu2⟩ := hu
      exact ⟨u, r, rfl, out1_sound hlk hI h1 hc.1 hu1, outL_sound hlk hI h2 hc.2 hu2⟩
    · cases h

theorem outA_sound {keep : List Nat} {lk : Nat → Option Own} (hlk : ∀ id o, lk id = some o → look st.own id = some o) (hI : Inv F γ st a w) {x y : AV} {c : Prop} (h : outA keep lk x = some (c, y)) (hc : c) {u : Value} (hx : Rep w (okOf F γ w) x γ u) :
    Rep w (okOf F (cutLocs γ keep) w) y (cutLocs γ keep) u := by
  unfold outA at h
  split at h
  · split at h
    · rename_i cs c1 ys h1
      simp only [Option.some.injEq, Prod.mk.injEq] at h
      obtain ⟨rfl, rfl⟩ := h
      simp only [Rep] at hx ⊢
      obtain ⟨vs, rfl, h2⟩ := hx
      exact ⟨vs, rfl, outL_sound hlk hI h1 hc h2⟩
    · cases h
  · exact out1_sound hlk hI h hc hx

/-- What is kept is what is told. -/
def sameL (keep : List Nat) (own fin : Nat → Option Own) : List Nat → Prop
  | [] => True
  | id :: r => (match own id with
    | some o => fin id = some o ∧ seenO keep o
    | Option.none => False) ∧ sameL keep own fin r

theorem sameL_mem {keep : List Nat} {own fin : Nat → Option Own} : ∀ {l : List Nat}, sameL keep own fin l → ∀ id ∈ l, ∃ o, own id = some o ∧ fin id = some o ∧ seenO keep o
  | x :: r, h, id, hid => by
    rcases List.mem_cons.1 hid with rfl | hid
    · have := h.1
      split at this
      · rename_i o ho; exact ⟨o, ho, this.1, this.2⟩
      · exact this.elim
    · exact sameL_mem h.2 id hid

/-- How a function ends. -/
def Fin (own : List (Nat × Own)) (rs : List ResultVar) (R : Res) (st : St) : Prop :=
  ∃ x c, resA st rs = some x ∧ outA ((R.up ++ own).map Prod.fst) (look st.own) x = some (c, R.r) ∧ c ∧ sameL ((R.up ++ own).map Prod.fst) (look st.own) (look (R.up ++ own)) ((R.up ++ own).map Prod.fst)

def entry (as : List AV) (own : List (Nat × Own)) (nx nt : Nat) : St := { env := (List.range as.length).zip as, own := own, next := nx, nt := nt }

def Done (own : List (Nat × Own)) (rs : List ResultVar) (R : Res) : Ex → St → Prop
  | .normal, st => Fin own rs R st
  | .ret, st => Fin own rs R st
  | .exit _, _ => False

theorem look_zip {α : Type} : ∀ (xs : List α) (k i : Nat), look ((List.range' k xs.length).zip xs) i = if k ≤ i then xs[i - k]? else Option.none
  | [], k, i => by simp [look]
  | x :: xs, k, i => by
    simp only [List.length_cons, List.range'_succ, List.zip_cons_cons, look]
    by_cases h : i = k
    · subst h; simp
    · rw [if_neg h, look_zip xs (k + 1) i]
      by_cases hk : k ≤ i
      · rw [if_pos hk, if_pos (by omega), show i - k = (i - (k + 1)) + 1 from by omega]; simp
      · rw [if_neg hk, if_neg (by omega)]

theorem good_of {f : FuncId} {fn : Func} {c : Code} {C : Ctr} (hT : ∀ f C, T f = some C → Good P f C) (hf : P.funcs[f]? = some fn) (hb : fn.body = some c) (hn : (fn.name == "runtime.NumGoroutine") = false)
    (h : ∀ nx as own R, C.run nx as own = some R → R.c → (∀ p ∈ own, p.1 < nx) → as.length ≤ fn.ntmps ∧ Awp P T (own.map Prod.fst) c (Done own fn.results.toList R) (entry as own nx fn.ntmps)) : Good P f C := by
  intro nx as own R hR hc F γ w vs hw hI hlt hvs o a K Q hK
  obtain ⟨hlen, hA⟩ := h nx as own R hR hc hlt
  have hvl : vs.length = as.length := RepL_length _ hvs
  have hcall : (callFunc f vs.toArray).run P w = .ok (.enter f vs.toArray) w := by
    unfold callFunc
    have hn' : (fn.name = "runtime.NumGoroutine") = False := by simpa using hn
    simp [hf, hn', hb]
  rw [hcall, Oper.upon_enter]
  refine Calls.mono (R := fun e w' => match e with | .returned v => (∃ γ', Inv F γ' (St0 (R.up ++ own) R.nx) act0 w' ∧ Left F γ γ' w w' ∧ Rep w' (okOf F γ' w') R.r γ' v) | _ => False) ?_ ?_
  · refine calls_of_wp hf hb ?_
    have hI0 : Inv F γ (entry as own nx fn.ntmps) { tmps := vs.toArray ++ Array.replicate (fn.ntmps - vs.toArray.size) undef, defers := [] } w := by
      refine { hI with defers := rfl, nt := ?_, env := ?_, own := hI.own, dom := hI.dom }
      · simp [entry]; omega
      · intro i x hx
        simp only [entry] at hx
        rw [List.range_eq_range', look_zip as 0 i, if_pos (Nat.zero_le _), Nat.sub_zero] at hx
        have hi : i < as.length := (List.getElem?_eq_some_iff.1 hx).1
        have hvi : i < vs.length := by omega
        obtain ⟨u, hu1, hu2⟩ := RepL_get _ hvs i x hx
        rw [Array.getD_eq_getD_getElem?, Array.getElem?_append_left (by simpa using hvi)]
        simp only [List.getElem?_toArray, hu1, Option.getD_some]
        exact hu2
    refine hA hT F γ w γ _ w _ ?_ ?_ hI0 (Left.refl _ _ _)
    · intro id l hl
      obtain ⟨ob, h1⟩ := hI.dom id l hl
      exact List.mem_map.2 ⟨(id, ob), look_mem h1, rfl⟩
    · intro e st' γ' a' w' hq hI' hL'
      have fin : Fin own fn.results.toList R st' → a'.defers = [] ∧ ∃ v, (results fn a'.tmps).run P w' = .ok v w' ∧ ∃ γ', Inv F γ' (St0 (R.up ++ own) R.nx) act0 w' ∧ Left F γ γ' w w' ∧ Rep w' (okOf F γ' w') R.r γ' v := by
        rintro ⟨x, c, h1, h2, h3, h4⟩
        obtain ⟨v, g1, g2⟩ := resA_sound (P := P) hI' h1
        refine ⟨hI'.defers, v, g1, cutLocs γ' ((R.up ++ own).map Prod.fst), ?_, left_cut hL' ?_, outA_sound (fun _ _ h => h) hI' h2 h3 g2⟩
        · have := inv_cut hI' (ids := (R.up ++ own).map Prod.fst) (env := []) (own := R.up ++ own) (nx := R.nx) (by intro i x hx; simp [look] at hx)
            (by
              intro id o ho
              have hm : id ∈ (R.up ++ own).map Prod.fst := List.mem_map.2 ⟨(id, o), look_mem ho, rfl⟩
              obtain ⟨o', k1, k2, k3⟩ := sameL_mem h4 id hm
              rw [ho] at k2
              cases k2
              exact ⟨hm, k1, k3⟩)
            (by
              intro id hid o ho
              obtain ⟨o', k1, k2, k3⟩ := sameL_mem h4 id hid
              rw [ho] at k1
              cases k1
              exact k2)
          exact { this with nt := rfl, defers := rfl, env := by intro i x hx; simp [St0, look] at hx }
        · intro id l hl
          obtain ⟨ob, h1⟩ := hI.dom id l hl
          exact List.mem_map.2 ⟨(id, ob), List.mem_append_right _ (look_mem h1), rfl⟩
      cases e with
      | normal => exact fin hq
      | ret => exact fin hq
      | exit id => exact hq.elim
  · intro e w' he
    cases e with
    | returned v => exact hK v w' he
    | panicked ch => exact he.elim
    | outgrown => exact he.elim
end Go.Aw
namespace Go.Aw
open Go
set_option linter.unusedVariables false
set_option linter.unusedSimpArgs false
set_option linter.unusedSectionVars false
variable {P : Program} {T : Tab} {fix : List Nat} {Q : Ex → St → Prop} {st : St}

/-! ### regions, one operation at a time -/
def guardL (st : St) (G : List (Option Nat)) (g : Option (Nat × Bool)) : Option (Option Bool) :=
  match g with
  | Option.none => some Option.none
  | some (j, want) =>
    match (G[j]?).join with
    | some d => match opd st (.tmp d) with
      | .v (.bool b) => some (some (b == want))
      | .cond g' (.v (.bool b)) => some (some (g' && (b == want)))
      | _ => Option.none
    | Option.none => Option.none

def stepL (P : Program) (T : Tab) (G : List (Option Nat)) (op : Op) (g : Option (Nat × Bool)) (st : St) : Option Res :=
  match guardL st G g with
  | some g => match opR P T op st with
    | some R => wrapR g R
    | Option.none => Option.none
  | Option.none => Option.none

theorem stepL_eq {G : List (Option Nat)} {ops : Array Oper} (hG : G = ops.toList.map (·.dst)) (o : Oper) (st : St) : stepL P T G o.op o.guard st = stepO P T ops o st := by
  have hg : guardL st G o.guard = guardB st ops o.guard := by
    unfold guardL guardB
    cases o.guard with
    | none => rfl
    | some p =>
      obtain ⟨j, want⟩ := p
      have : (G[j]?).join = (ops[j]?).bind (·.dst) := by
        subst hG
        simp only [List.getElem?_map, Array.getElem?_toList]
        cases ops[j]? <;> rfl
      simp only [this]
      rfl
  unfold stepL stepO
  rw [hg]
  all_goals rfl

def regL (P : Program) (T : Tab) (G : List (Option Nat)) : List Oper → St → (St → Prop) → Prop
  | [], st, K => K st
  | o :: l, st, K => ∃ R, stepL P T G o.op o.guard st = some R ∧ R.c ∧ freshOk st R = true ∧ dstOk o.dst st.nt = true ∧ regL P T G l (applyR st o.dst R) K

theorem regL_run {G : List (Option Nat)} {ops : Array Oper} (hG : G = ops.toList.map (·.dst)) {K : St → Prop} : ∀ (l : List Oper) (st : St), regL P T G l st K → ∃ c st', runOps P T ops l st = some (c, st') ∧ c ∧ K st'
  | [], st, h => ⟨True, st, rfl, trivial, h⟩
  | o :: l, st, h => by
    obtain ⟨R, h1, h2, h3, h4, h5⟩ := h
    obtain ⟨c, st', g1, g2, g3⟩ := regL_run hG l _ h5
    rw [stepL_eq hG] at h1
    exact ⟨R.c ∧ freshOk st R = true ∧ dstOk o.dst st.nt = true ∧ c, st', by simp only [runOps, h1, g1], ⟨h2, h3, h4, g2⟩, g3⟩

theorem awp_sreg {id : Nat} {ops : Array Oper} {y : Code} (G : List (Option Nat)) (hG : G = ops.toList.map (·.dst)) (h : ∀ K : St → Prop, (∀ st, Awp P T fix y Q st → K st) → regL P T G ops.toList st K) : Awp P T fix (.seq (.region id ops false) y) Q st := by
  obtain ⟨c, st', h1, h2, h3⟩ := regL_run hG _ _ (h _ (fun _ h => h))
  exact awp_seq (awp_region h1 h2 h3)

theorem awp_reg {id : Nat} {ops : Array Oper} (G : List (Option Nat)) (hG : G = ops.toList.map (·.dst)) (h : ∀ K : St → Prop, (∀ st, Q .normal st → K st) → regL P T G ops.toList st K) : Awp P T fix (.region id ops false) Q st := by
  obtain ⟨c, st', h1, h2, h3⟩ := regL_run hG _ _ (h _ (fun _ h => h))
  exact awp_region h1 h2 h3

theorem regL_nil {G : List (Option Nat)} {K : St → Prop} (h : K st) : regL P T G [] st K := h

section
variable {G : List (Option Nat)} {K : St → Prop} {l : List Oper} {env : List (Nat × AV)} {own : List (Nat × Own)} {nx nt : Nat} {op : Op} {ty : TypeId} {pos : String} {af : Array Edge} {g : Option (Nat × Bool)}

/-- An operation that makes nothing. -/
theorem regL_p {d : Nat} {c : Prop} {r : AV} (h : stepL P T G op g ⟨env, own, nx, nt⟩ = some ⟨c, r, [], nx⟩) (hc : c) (hd : decide (d < nt) = true) (h4 : regL P T G l ⟨(d, r) :: env, own, nx, nt⟩ K) :
    regL P T G (⟨some d, op, ty, pos, af, g⟩ :: l) ⟨env, own, nx, nt⟩ K :=
  ⟨_, h, hc, by simp [freshOk], by simpa [dstOk] using hd, h4⟩
theorem regL_pn {c : Prop} {r : AV} (h : stepL P T G op g ⟨env, own, nx, nt⟩ = some ⟨c, r, [], nx⟩) (hc : c) (h4 : regL P T G l ⟨env, own, nx, nt⟩ K) :
    regL P T G (⟨Option.none, op, ty, pos, af, g⟩ :: l) ⟨env, own, nx, nt⟩ K :=
  ⟨_, h, hc, by simp [freshOk], rfl, h4⟩

/-- One that writes what is owned. -/
theorem regL_wn {c : Prop} {r : AV} {id : Nat} {o : Own} (h : stepL P T G op g ⟨env, own, nx, nt⟩ = some ⟨c, r, [(id, o)], nx⟩) (hc : c) (h4 : regL P T G l ⟨env, (id, o) :: own, nx, nt⟩ K) :
    regL P T G (⟨Option.none, op, ty, pos, af, g⟩ :: l) ⟨env, own, nx, nt⟩ K :=
  ⟨_, h, hc, by simp [freshOk], rfl, h4⟩
theorem regL_w {d : Nat} {c : Prop} {r : AV} {id : Nat} {o : Own} (h : stepL P T G op g ⟨env, own, nx, nt⟩ = some ⟨c, r, [(id, o)], nx⟩) (hc : c) (hd : decide (d < nt) = true) (h4 : regL P T G l ⟨(d, r) :: env, (id, o) :: own, nx, nt⟩ K) :
    regL P T G (⟨some d, op, ty, pos, af, g⟩ :: l) ⟨env, own, nx, nt⟩ K :=
  ⟨_, h, hc, by simp [freshOk], by simpa [dstOk] using hd, h4⟩

/-- One that makes something new. -/
theorem regL_n {d : Nat} {c : Prop} {r : AV} {up : List (Nat × Own)} {nx' : Nat} (h : stepL P T G op g ⟨env, own, nx, nt⟩ = some ⟨c, r, up, nx'⟩) (hc : c) (hd : decide (d < nt) = true) (hf : own.all (fun q => decide (q.1 < nx)) = true) (h4 : regL P T G l ⟨(d, r) :: env, up ++ own, nx', nt⟩ K) :
    regL P T G (⟨some d, op, ty, pos, af, g⟩ :: l) ⟨env, own, nx, nt⟩ K :=
  ⟨_, h, hc, by unfold freshOk; split; rfl; exact hf, by simpa [dstOk] using hd, h4⟩
theorem regL_n1 {d : Nat} {c : Prop} {r : AV} {id : Nat} {o : Own} {nx' : Nat} (h : stepL P T G op g ⟨env, own, nx, nt⟩ = some ⟨c, r, [(id, o)], nx'⟩) (hc : c) (hd : decide (d < nt) = true) (hf : own.all (fun q => decide (q.1 < nx)) = true) (h4 : regL P T G l ⟨(d, r) :: env, (id, o) :: own, nx', nt⟩ K) :
    regL P T G (⟨some d, op, ty, pos, af, g⟩ :: l) ⟨env, own, nx, nt⟩ K :=
  ⟨_, h, hc, by unfold freshOk; split; rfl; exact hf, by simpa [dstOk] using hd, h4⟩
end

/-! ### drawn regions whose unbound pairs are all quiet -/
theorem runDraw_nil {ops : Array Oper} : ∀ (l : List Oper) (i : Nat) (st : St) (c : Prop) (st' : St), runOps P T ops l st = some (c, st') → ∃ ms, runDraw P T ops [] i l st = some (c, ms, st')
  | [], i, st, c, st', h => by
    simp only [runOps, Option.some.injEq, Prod.mk.injEq] at h
    obtain ⟨rfl, rfl⟩ := h
    exact ⟨[], rfl⟩
  | o :: l, i, st, c, st', h => by
    simp only [runOps] at h
    split at h
    · rename_i R hR
      split at h
      · rename_i c' st'' hr
        simp only [Option.some.injEq, Prod.mk.injEq] at h
        obtain ⟨rfl, rfl⟩ := h
        obtain ⟨ms, hm⟩ := runDraw_nil l (i + 1) _ _ _ hr
        exact ⟨_, by simp only [runDraw, hR, hm]; rfl⟩
      · cases h
    · cases h

theorem awp_sdraw {id : Nat} {ops : Array Oper} {y : Code} (hm : P.follows .mixedOrders = true) (hok : drawOk ops [] = true) (G : List (Option Nat)) (hG : G = ops.toList.map (·.dst)) (h : ∀ K : St → Prop, (∀ st, Awp P T fix y Q st → K st) → regL P T G ops.toList st K) : Awp P T fix (.seq (.region id ops true) y) Q st := by
  obtain ⟨c, st', h1, h2, h3⟩ := regL_run hG _ _ (h _ (fun _ h => h))
  obtain ⟨ms, hms⟩ := runDraw_nil _ 0 _ _ _ h1
  exact awp_seq (awp_draw hm [] hok hms h2 trivial h3)
theorem awp_rdraw {id : Nat} {ops : Array Oper} (hm : P.follows .mixedOrders = true) (hok : drawOk ops [] = true) (G : List (Option Nat)) (hG : G = ops.toList.map (·.dst)) (h : ∀ K : St → Prop, (∀ st, Q .normal st → K st) → regL P T G ops.toList st K) : Awp P T fix (.region id ops true) Q st := by
  obtain ⟨c, st', h1, h2, h3⟩ := regL_run hG _ _ (h _ (fun _ h => h))
  obtain ⟨ms, hms⟩ := runDraw_nil _ 0 _ _ _ h1
  exact awp_draw hm [] hok hms h2 trivial h3

/-! ### drawn regions with pairs to be looked at -/
def regD (P : Program) (T : Tab) (G : List (Option Nat)) (un : List (Nat × Nat)) : Nat → List (List Nat × List Nat) → List Oper → St → (St → Prop) → Prop
  | _, acc, [], st, K => unOk acc.reverse un ∧ K st
  | i, acc, o :: l, st, K => ∃ R, stepL P T G o.op o.guard st = some R ∧ R.c ∧ freshOk st R = true ∧ dstOk o.dst st.nt = true ∧
      regD P T G un (i + 1) ((if needs un i then (idsL (rdS st) o.op.operands.toList, R.up.map Prod.fst ++ List.range' st.next (R.nx - st.next)) else ([], [])) :: acc) l (applyR st o.dst R) K

theorem regD_run {G : List (Option Nat)} {un : List (Nat × Nat)} {ops : Array Oper} (hG : G = ops.toList.map (·.dst)) {K : St → Prop} : ∀ (l : List Oper) (i : Nat) (acc : List (List Nat × List Nat)) (st : St), regD P T G un i acc l st K → ∃ c ms st', runDraw P T ops un i l st = some (c, ms, st') ∧ c ∧ unOk (acc.reverse ++ ms) un ∧ K st'
  | [], i, acc, st, h => ⟨True, [], st, rfl, trivial, by simpa using h.1, h.2⟩
  | o :: l, i, acc, st, h => by
    obtain ⟨R, h1, h2, h3, h4, h5⟩ := h
    obtain ⟨c, ms, st', g1, g2, g3, g4⟩ := regD_run hG l _ _ _ h5
    rw [stepL_eq hG] at h1
    exact ⟨R.c ∧ freshOk st R = true ∧ dstOk o.dst st.nt = true ∧ c, _, st', by simp only [runDraw, h1, g1]; rfl, ⟨h2, h3, h4, g2⟩, by simpa using g3, g4⟩

theorem awp_sdrawU {id : Nat} {ops : Array Oper} {y : Code} (hm : P.follows .mixedOrders = true) (un : List (Nat × Nat)) (hok : drawOk ops un = true) (G : List (Option Nat)) (hG : G = ops.toList.map (·.dst)) (h : ∀ K : St → Prop, (∀ st, Awp P T fix y Q st → K st) → regD P T G un 0 [] ops.toList st K) : Awp P T fix (.seq (.region id ops true) y) Q st := by
  obtain ⟨c, ms, st', h1, h2, h3, h4⟩ := regD_run hG _ _ _ _ (h _ (fun _ h => h))
  exact awp_seq (awp_draw hm un hok h1 h2 (by simpa using h3) h4)

section
variable {G : List (Option Nat)} {un : List (Nat × Nat)} {i : Nat} {acc : List (List Nat × List Nat)} {K : St → Prop} {l : List Oper} {env : List (Nat × AV)} {own : List (Nat × Own)} {nx nt : Nat} {op : Op} {ty : TypeId} {pos : String} {af : Array Edge} {g : Option (Nat × Bool)}
theorem regD_nil (hu : unOk acc.reverse un) (h : K st) : regD P T G un i acc [] st K := ⟨hu, h⟩
theorem regD_p {d : Nat} {c : Prop} {r : AV} (h : stepL P T G op g ⟨env, own, nx, nt⟩ = some ⟨c, r, [], nx⟩) (hc : c) (hd : decide (d < nt) = true) (hn : needs un i = false) (h4 : regD P T G un (i + 1) (([], []) :: acc) l ⟨(d, r) :: env, own, nx, nt⟩ K) :
    regD P T G un i acc (⟨some d, op, ty, pos, af, g⟩ :: l) ⟨env, own, nx, nt⟩ K :=
  ⟨_, h, hc, by simp [freshOk], by simpa [dstOk] using hd, by rw [hn]; exact h4⟩
theorem regD_q {d : Nat} {c : Prop} {r : AV} (h : stepL P T G op g ⟨env, own, nx, nt⟩ = some ⟨c, r, [], nx⟩) (hc : c) (hd : decide (d < nt) = true) (hn : needs un i = true) (ids : List Nat) (hids : idsL (rdS ⟨env, own, nx, nt⟩) op.operands.toList = ids)
    (h4 : regD P T G un (i + 1) ((ids, []) :: acc) l ⟨(d, r) :: env, own, nx, nt⟩ K) :
    regD P T G un i acc (⟨some d, op, ty, pos, af, g⟩ :: l) ⟨env, own, nx, nt⟩ K :=
  ⟨_, h, hc, by simp [freshOk], by simpa [dstOk] using hd, by rw [hn]; simp only [if_true, hids, List.map_nil, List.nil_append, Nat.sub_self, List.range'_zero]; exact h4⟩
end
end Go.Aw
namespace Go.Aw
open Go
set_option linter.unusedVariables false
set_option linter.unusedSimpArgs false
set_option linter.unusedSectionVars false
variable {P : Program} {T : Tab} {fix : List Nat} {Q : Ex → St → Prop} {st : St}

theorem fin_of {own : List (Nat × Own)} {rs : List ResultVar} {R : Res} {x y : AV} {c : Prop} (h1 : resA st rs = some x) (h2 : outA ((R.up ++ own).map Prod.fst) (look st.own) x = some (c, y)) (hc : c) (hy : y = R.r)
    (hs : sameL ((R.up ++ own).map Prod.fst) (look st.own) (look (R.up ++ own)) ((R.up ++ own).map Prod.fst)) : Fin own rs R st := ⟨x, c, h1, by rw [← hy]; exact h2, hc, hs⟩

theorem wrap64 {x : Int} (h1 : -9223372036854775808 ≤ x) (h2 : x ≤ 9223372036854775807) : IntKind.i64.wrap x = x := by
  unfold IntKind.wrap
  simp only [IntKind.signed, IntKind.bits]
  simp
  omega

theorem awp_seq_k {x y : Code} (h : ∀ K : St → Prop, (∀ st, Awp P T fix y Q st → K st) → Awp P T fix x (andThen K Q) st) : Awp P T fix (.seq x y) Q st := awp_seq (h _ fun _ h => h)

/-- What stands in a slot is said more weakly. -/
theorem awp_env {c : Code} {env : List (Nat × AV)} {own : List (Nat × Own)} {nx nt : Nat} (i : Nat) {x y : AV} (h : look env i = some x) (hxy : ∀ w ok γ u, Rep w ok x γ u → Rep w ok y γ u) (k : Awp P T fix c Q ⟨(i, y) :: env, own, nx, nt⟩) : Awp P T fix c Q ⟨env, own, nx, nt⟩ := fun hT F γ0 w0 γ a w Q' hf hQ hI hL =>
  k hT F γ0 w0 γ a w Q' hf hQ
    { hI with
      nt := hI.nt
      own := hI.own
      dom := hI.dom
      env := fun j z hz => by
        simp only [look] at hz
        split at hz
        · rename_i e; subst e; cases hz; exact hxy _ _ _ _ (hI.env j x h)
        · exact hI.env j z hz } hL

theorem rep_sl_none {w : World} {ok : Ok} {xs : List (List AV)} {sp : Spare} {γ : Locs} {u : Value} (h : Rep w ok (.sl xs sp) γ u) : Rep w ok (.sl xs .none) γ u := by
  simp only [Rep] at h ⊢
  obtain ⟨base, cap, e1, g1, g2, g3, g4⟩ := h
  exact ⟨base, cap, e1, g1, g2, trivial, g4⟩

/-- Ways come together: what is kept, and what holds of it. -/
theorem awp_join {x y : Code} (K : Keep) (J : St → Prop) (hfix : ∀ id ∈ fix, id ∈ K.ids) (h1 : Awp P T fix x (andThen (fun st => ∃ p st1, keepSt K st = some (p, st1) ∧ p ∧ J st1) Q) st) (h2 : ∀ st, J st → Awp P T fix y Q st) : Awp P T fix (.seq x y) Q st := by
  refine awp_seq (awp_mono h1 fun e st' h => ?_)
  cases e with
  | normal =>
    obtain ⟨p, st1, k1, k2, k3⟩ := h
    exact awp_keep K k1 k2 hfix (h2 st1 k3)
  | exit id => exact h
  | ret => exact h
end Go.Aw
namespace Go.Aw
open Go
set_option linter.unusedVariables false
variable {P : Program}
theorem tab_ok {l : List (Nat × Ctr)} (h : ∀ p ∈ l, Good P p.1 p.2) : ∀ f C, look l f = some C → Good P f C := fun f C hl => h (f, C) (look_mem hl)
@[simp] theorem flat_v_eq (x : Value) : Flat (.v x) = True := by simpa using Flat.v x
@[simp] theorem flat_str_eq (l : List UInt8) : Flat (.str l) = True := by simpa using Flat.str l
theorem tab_nil : ∀ f C, look ([] : List (Nat × Ctr)) f = some C → Good P f C := fun f C hl => by cases hl

theorem nth_map {α β : Type} [Inhabited β] (f : α → β) (l : List α) (i : Nat) (h : i < l.length) : nth (l.map f) (i : Int) = f l[i] := by
  simp [nth, List.getD, h]
theorem nth_nat {α : Type} [Inhabited α] (l : List α) (i : Nat) (h : i < l.length) : nth l (i : Int) = l[i] := by
  simp [nth, List.getD, h]

theorem maxLen_le {n : Nat} (h : n ≤ maxLen) : (n : Int) ≤ 9223372036854775807 := by
  have : maxLen ≤ 9223372036854775807 := by decide
  omega

/-! ### ints -/
def iC (i : Int) : List AV := [.v (.int .i64 i)]
@[simp] theorem iC_length (i : Int) : (iC i).length = 1 := rfl
def decInt : List AV → Option Int
  | [.v (.int .i64 a)] => some a
  | _ => Option.none
theorem decInt_C (j : Int) : decInt (iC j) = some j := rfl
theorem decInt_eq {cs : List AV} {j : Int} (h : decInt cs = some j) : cs = iC j := by
  unfold decInt at h
  split at h
  · cases h; rfl
  · cases h

/-- Elements that are told by a code. -/
def decL {α : Type} (d : List AV → Option α) : List (List AV) → Option (List α)
  | [] => some []
  | c :: r => match d c, decL d r with
    | some j, some js => some (j :: js)
    | _, _ => Option.none
theorem decL_C {α : Type} {d : List AV → Option α} {f : α → List AV} (h : ∀ x, d (f x) = some x) : ∀ js : List α, decL d (js.map f) = some js
  | [] => rfl
  | j :: js => by simp only [List.map_cons, decL, h, decL_C h js]
theorem decL_eq {α : Type} {d : List AV → Option α} {f : α → List AV} (h : ∀ c x, d c = some x → c = f x) : ∀ {xs : List (List AV)} {js : List α}, decL d xs = some js → xs = js.map f
  | [], js, hd => by cases hd; rfl
  | c :: r, js, hd => by
    simp only [decL] at hd
    split at hd
    · rename_i j js' h1 h2
      cases hd
      rw [h _ _ h1, decL_eq h h2]; rfl
    · cases hd
theorem decInts_C (js : List Int) : decL decInt (js.map iC) = some js := decL_C decInt_C js
theorem decInts_eq {xs : List (List AV)} {js : List Int} (h : decL decInt xs = some js) : xs = js.map iC := decL_eq (fun _ _ => decInt_eq) h
end Go.Aw
namespace Go.Aw
open Go
set_option linter.unusedVariables false
set_option linter.unusedSimpArgs false
set_option linter.unusedSectionVars false
variable {P : Program} {T : Tab} {fix : List Nat} {Q : Ex → St → Prop} {st : St} {F : Fr} {γ : Locs} {a : Act} {w : World}

/-! ### drawn regions: what is loud is bound to all others -/
def pairOkL (ops : Array Oper) (an : List Nat) (L : List Nat) (i j : Nat) : Bool :=
  match ops[i]?, ops[j]? with
  | some x, some y => (an.getD j 0).testBit i || (x.apart ops y && !L.contains i && !L.contains j)
  | _, _ => true
def drawOkL (ops : Array Oper) (L : List Nat) : Bool :=
  let an := ancs ops.toList []
  edgesOk ops && (List.range ops.size).all fun j => (List.range j).all fun i => pairOkL ops an L i j

theorem drawL_sound {T : Tab} (hT : ∀ f C, T f = some C → Good P f C) {γ0 : Locs} {w0 : World} (hL : Left F γ0 γ w0 w) {id : Nat} {ops : Array Oper} {Q : Exit → Act → World → Prop} {L : List Nat} (hm : P.follows .mixedOrders = true) (hI : Inv F γ st a w) {l : List Step} {st' : St}
    (hok : drawOkL ops L = true) (h : stepsOf P T ops 0 ops.toList st = some (l, st')) (hc : ∀ s ∈ l, s.R.c ∧ freshOk s.st s.R = true ∧ dstOk s.o.dst s.st.nt = true) (hq : ∀ s ∈ l, L.contains s.i = false → s.R.up = [] ∧ s.R.nx = s.st.next)
    (hQ : ∀ γ' a' w', Inv F γ' st' a' w' → Left F γ0 γ' w0 w' → Q .normal a' w') : (Code.region id ops true).wp P Q a w := by
  obtain ⟨f1, f2, f3, f4⟩ := stepsOf_spec _ _ _ h
  unfold drawOkL at hok
  simp only [Bool.and_eq_true] at hok
  obtain ⟨k1, k2⟩ := hok
  refine wp_region_any hm (draw_go hT (by simpa using f1) f2 f3 f4 hc k1 ?_ hQ ops.size (Array.replicate ops.size false) γ a _ ?_ (by simp) ?_ ⟨hL.le, hL.ok, hL.cell⟩ ?_)
  · intro s hs t ht hst
    obtain ⟨m1, m2⟩ := mem_idx f2 hs
    obtain ⟨n1, n2⟩ := mem_idx f2 ht
    have htl := (Array.getElem?_eq_some_iff.1 n2).1
    have := List.all_eq_true.1 (List.all_eq_true.1 k2 t.i (by simpa using htl)) s.i (by simpa using hst)
    unfold pairOkL at this
    rw [m2, n2] at this
    simp only [Bool.or_eq_true, Bool.and_eq_true, Bool.not_eq_true'] at this
    rcases this with h1 | ⟨⟨h1, h2⟩, h3⟩
    · refine .inl ?_
      rw [List.getD_eq_getElem?_getD] at h1
      cases hg : (ancs ops.toList [])[t.i]? with
      | none => rw [hg] at h1; simp at h1
      | some m => rw [hg] at h1; exact ⟨m, rfl, h1⟩
    · obtain ⟨p1, p2, p3⟩ := Oper.apart_spec h1
      obtain ⟨u1, u2⟩ := hq s hs h2
      obtain ⟨v1, v2⟩ := hq t ht h3
      refine .inr ⟨p1, p2, p3, ?_, ?_⟩
      · intro id hid
        simp [Step.made, u1, u2] at hid
      · intro id hid
        simp [Step.made, v1, v2] at hid
  · exact Nat.le_trans (List.countP_le_length) (by simp)
  · intro j o ho hj
    have hj' : (Array.replicate ops.size false).getD j false = true := hj
    rw [Array.getD_eq_getD_getElem?, Array.getElem?_replicate] at hj'
    split at hj' <;> cases hj'
  · have : mix l (fun j => (Array.replicate ops.size false).getD j false) st = st := mix_false _ _ _ fun s _ => by
      simp only [Array.getD_eq_getD_getElem?, Array.getElem?_replicate]; split <;> rfl
    rw [this]
    exact hI.core (w' := { w with drawn := w.drawn + 1 }) (own' := st.own) (nx := st.next) rfl rfl rfl (Nat.le_refl _) (LocsLe.refl _) (fun _ _ h => h) (fun _ _ _ => rfl) (fun _ _ _ => rfl)
      (fun id o h => OwnRep_mono (w := w) (fun _ _ h => h) (fun _ _ _ => rfl) (LocsLe.refl _) rfl (fun _ _ _ _ => rfl) (hI.own id o h)) hI.dom hI.blk hI.dist

def regQ (P : Program) (T : Tab) (G : List (Option Nat)) (L : List Nat) : Nat → List Oper → St → (St → Prop) → Prop
  | _, [], st, K => K st
  | i, o :: l, st, K => ∃ R, stepL P T G o.op o.guard st = some R ∧ R.c ∧ freshOk st R = true ∧ dstOk o.dst st.nt = true ∧ (L.contains i = false → R.up = [] ∧ R.nx = st.next) ∧ regQ P T G L (i + 1) l (applyR st o.dst R) K

theorem regQ_run {G : List (Option Nat)} {L : List Nat} {ops : Array Oper} (hG : G = ops.toList.map (·.dst)) {K : St → Prop} : ∀ (l : List Oper) (i : Nat) (st : St), regQ P T G L i l st K → ∃ ss st', stepsOf P T ops i l st = some (ss, st') ∧ (∀ s ∈ ss, s.R.c ∧ freshOk s.st s.R = true ∧ dstOk s.o.dst s.st.nt = true) ∧ (∀ s ∈ ss, L.contains s.i = false → s.R.up = [] ∧ s.R.nx = s.st.next) ∧ K st'
  | [], i, st, h => ⟨[], st, rfl, by simp, by simp, h⟩
  | o :: l, i, st, h => by
    obtain ⟨R, h1, h2, h3, h4, h5, h6⟩ := h
    obtain ⟨ss, st', g1, g2, g3, g4⟩ := regQ_run hG l _ _ h6
    rw [stepL_eq hG] at h1
    refine ⟨⟨i, o, st, R⟩ :: ss, st', by simp only [stepsOf, h1, g1], ?_, ?_, g4⟩
    · intro s hs
      rcases List.mem_cons.1 hs with rfl | hs
      · exact ⟨h2, h3, h4⟩
      · exact g2 s hs
    · intro s hs
      rcases List.mem_cons.1 hs with rfl | hs
      · exact h5
      · exact g3 s hs

theorem awp_qd {id : Nat} {ops : Array Oper} (hm : P.follows .mixedOrders = true) (L : List Nat) (hok : drawOkL ops L = true) (G : List (Option Nat)) (hG : G = ops.toList.map (·.dst)) (h : regQ P T G L 0 ops.toList st (Q .normal)) : Awp P T fix (.region id ops true) Q st := fun hT F γ0 w0 γ a w Q' hf hQ hI hL => by
  obtain ⟨ss, st', h1, h2, h3, h4⟩ := regQ_run hG _ _ _ h
  exact drawL_sound hT hL hm hI hok h1 h2 h3 fun γ' a' w' hI' hL' => hQ .normal st' γ' a' w' h4 hI' hL'

theorem awp_sq {id : Nat} {ops : Array Oper} {y : Code} (hm : P.follows .mixedOrders = true) (L : List Nat) (hok : drawOkL ops L = true) (G : List (Option Nat)) (hG : G = ops.toList.map (·.dst)) (h : ∀ K : St → Prop, (∀ st, Awp P T fix y Q st → K st) → regQ P T G L 0 ops.toList st K) : Awp P T fix (.seq (.region id ops true) y) Q st :=
  awp_seq (awp_qd hm L hok G hG (h _ fun _ h => h))
theorem awp_rq {id : Nat} {ops : Array Oper} (hm : P.follows .mixedOrders = true) (L : List Nat) (hok : drawOkL ops L = true) (G : List (Option Nat)) (hG : G = ops.toList.map (·.dst)) (h : ∀ K : St → Prop, (∀ st, Q .normal st → K st) → regQ P T G L 0 ops.toList st K) : Awp P T fix (.region id ops true) Q st :=
  awp_qd hm L hok G hG (h _ fun _ h => h)

section
variable {G : List (Option Nat)} {L : List Nat} {i : Nat} {K : St → Prop} {l : List Oper} {env : List (Nat × AV)} {own : List (Nat × Own)} {nx nt : Nat} {op : Op} {ty : TypeId} {pos : String} {af : Array Edge} {g : Option (Nat × Bool)}
theorem regQ_nil (h : K st) : regQ P T G L i [] st K := h
theorem regQ_p {d : Nat} {c : Prop} {r : AV} (h : stepL P T G op g ⟨env, own, nx, nt⟩ = some ⟨c, r, [], nx⟩) (hc : c) (hd : decide (d < nt) = true) (h4 : regQ P T G L (i + 1) l ⟨(d, r) :: env, own, nx, nt⟩ K) :
    regQ P T G L i (⟨some d, op, ty, pos, af, g⟩ :: l) ⟨env, own, nx, nt⟩ K :=
  ⟨_, h, hc, by simp [freshOk], by simpa [dstOk] using hd, fun _ => ⟨rfl, rfl⟩, h4⟩
theorem regQ_pn {c : Prop} {r : AV} (h : stepL P T G op g ⟨env, own, nx, nt⟩ = some ⟨c, r, [], nx⟩) (hc : c) (h4 : regQ P T G L (i + 1) l ⟨env, own, nx, nt⟩ K) :
    regQ P T G L i (⟨Option.none, op, ty, pos, af, g⟩ :: l) ⟨env, own, nx, nt⟩ K :=
  ⟨_, h, hc, by simp [freshOk], rfl, fun _ => ⟨rfl, rfl⟩, h4⟩
theorem regQ_wn {c : Prop} {r : AV} {id : Nat} {o : Own} (h : stepL P T G op g ⟨env, own, nx, nt⟩ = some ⟨c, r, [(id, o)], nx⟩) (hc : c) (hi : L.contains i = true) (h4 : regQ P T G L (i + 1) l ⟨env, (id, o) :: own, nx, nt⟩ K) :
    regQ P T G L i (⟨Option.none, op, ty, pos, af, g⟩ :: l) ⟨env, own, nx, nt⟩ K :=
  ⟨_, h, hc, by simp [freshOk], rfl, (fun e => by rw [hi] at e; cases e), h4⟩
theorem regQ_w {d : Nat} {c : Prop} {r : AV} {id : Nat} {o : Own} (h : stepL P T G op g ⟨env, own, nx, nt⟩ = some ⟨c, r, [(id, o)], nx⟩) (hc : c) (hi : L.contains i = true) (hd : decide (d < nt) = true) (h4 : regQ P T G L (i + 1) l ⟨(d, r) :: env, (id, o) :: own, nx, nt⟩ K) :
    regQ P T G L i (⟨some d, op, ty, pos, af, g⟩ :: l) ⟨env, own, nx, nt⟩ K :=
  ⟨_, h, hc, by simp [freshOk], by simpa [dstOk] using hd, (fun e => by rw [hi] at e; cases e), h4⟩
theorem regQ_n1 {d : Nat} {c : Prop} {r : AV} {id : Nat} {o : Own} {nx' : Nat} (h : stepL P T G op g ⟨env, own, nx, nt⟩ = some ⟨c, r, [(id, o)], nx'⟩) (hc : c) (hi : L.contains i = true) (hd : decide (d < nt) = true) (hf : own.all (fun q => decide (q.1 < nx)) = true) (h4 : regQ P T G L (i + 1) l ⟨(d, r) :: env, (id, o) :: own, nx', nt⟩ K) :
    regQ P T G L i (⟨some d, op, ty, pos, af, g⟩ :: l) ⟨env, own, nx, nt⟩ K :=
  ⟨_, h, hc, by unfold freshOk; split; rfl; exact hf, by simpa [dstOk] using hd, (fun e => by rw [hi] at e; cases e), h4⟩
end
end Go.Aw
namespace Go.Aw
open Go
set_option linter.unusedVariables false
variable {P : Program}

/-! ### a set of ints as a map -/
def setKv (ids : List Int) : List (Value × AV) := ids.map fun i => (Value.int .i64 i, AV.v (.bool true))
theorem mfind_set (a : Int) : ∀ ids : List Int, getA (mfind (.int .i64 a) (setKv ids)) (.v (.bool false)) = .v (.bool (ids.contains a))
  | [] => rfl
  | x :: r => by
    have ih := mfind_set a r
    simp only [setKv, List.map_cons, mfind, keyEq, List.contains_cons] at ih ⊢
    by_cases h : a = x
    · simp [h, getA]
    · simp only [h, decide_false, Bool.false_eq_true, if_false]
      rw [show (a == x) = false from by simpa using h]
      exact ih
theorem mput_set {a : Int} : ∀ {ids : List Int}, a ∉ ids → mput (.int .i64 a) (.v (.bool true)) (setKv ids) = setKv (ids ++ [a])
  | [], _ => rfl
  | x :: r, h => by
    have hx : ¬ a = x := fun e => h (by simp [e])
    have ih := mput_set (a := a) (ids := r) (fun hm => h (by simp [hm]))
    simp only [setKv, List.map_cons, mput, keyEq, hx, decide_false, Bool.false_eq_true, if_false, List.cons_append, List.map_append] at ih ⊢
    rw [ih]
theorem keysOk_set {kt : TypeId} (h : tInt P kt = some .i64) (a : Int) (ids : List Int) : keysOk P kt (.int .i64 a) (setKv ids) := by
  refine ⟨.int .i64, und_int h, rfl, ?_⟩
  intro p hp
  obtain ⟨i, _, rfl⟩ := List.mem_map.1 hp
  rfl
@[simp] theorem seenL_set (l : List Nat) (ids : List Int) : seenL l ((setKv ids).map (·.2)) = True := by
  have : (setKv ids).map (·.2) = ids.map fun _ => AV.v (.bool true) := by simp [setKv, Function.comp_def]
  simp only [this, eq_iff_iff, iff_true]
  exact seenL_map l _ ids fun _ => by simp [seen]
@[simp] theorem seenO_set (l : List Nat) (ids : List Int) : seenO l (.map (setKv ids)) = True := by
  have : (setKv ids).map (·.2) = ids.map fun _ => AV.v (.bool true) := by simp [setKv, Function.comp_def]
  simp only [seenO, this, eq_iff_iff, iff_true]
  exact seenL_map l _ ids fun _ => by simp [seen]
end Go.Aw
namespace Go.Aw
open Go
set_option linter.unusedVariables false
set_option linter.unusedSimpArgs false
set_option linter.unusedSectionVars false
variable {P : Program} {T : Tab} {fix : List Nat} {Q : Ex → St → Prop} {st : St} {F : Fr} {γ : Locs} {a : Act} {w : World}

def cNone : Ctr := ⟨[], fun _ _ _ => Option.none⟩
theorem good_none (f : FuncId) : Good P f cNone := fun nx as own R h => by cases h

/-- What was written stays as it is from here on. -/
theorem awp_die {c : Code} {env : List (Nat × AV)} {own : List (Nat × Own)} {nx nt : Nat} (slot id : Nat) {off len esz : Nat} {cp : Option Nat} {xs : List (List AV)} (hs : look env slot = some (.os id off len cp)) (ho : look own id = some (.arr esz xs))
    (hb : off + len ≤ xs.length) (hp : ∀ cs ∈ ((xs.drop off).take len), ∀ c ∈ cs, pure1 c = true) (k : Awp P T fix c Q ⟨(slot, .sl ((xs.drop off).take len) .none) :: env, (id, .dead) :: own, nx, nt⟩) : Awp P T fix c Q ⟨env, own, nx, nt⟩ := fun hT F γ0 w0 γ a w Q' hf hQ hI hL => by
  obtain ⟨b, n, cur, et, fr, g1, g2, g3, g4, g5, g6, g7, g8, g9⟩ := hI.own id _ ho
  have hx := hI.env slot _ hs
  obtain ⟨q1, q2⟩ := hI.upd (id := id) (nx := nx) (obj := .dead) (l' := .dead b esz n) (w' := w) rfl rfl rfl (Nat.le_refl _) (fun l hl => by rw [g1] at hl; cases hl; exact .die) (fun _ _ _ => rfl) (fun _ _ _ => rfl)
    (fun b hb => by cases hb) (fun _ _ _ => trivial) (fun hL => ⟨b, esz, n, by simp [Locs.set]⟩)
  have hnew : Rep w (okOf F (γ.set id (.dead b esz n)) w) (.sl ((xs.drop off).take len) .none) (γ.set id (.dead b esz n)) (a.tmps.getD slot undef) := by
    simp only [Rep] at hx
    obtain ⟨b', esz', n', cap, oo, e1, e2, e0, e3, e4, e5, e6⟩ := hx
    rw [g1] at e1
    cases e1
    rw [e2]
    have hxl : ((xs.drop off).take len).length = len := by simp; omega
    simp only [Rep]
    refine ⟨some ⟨b, oo, Option.none⟩, cap, by rw [hxl], by rw [hxl]; exact e3, e5, trivial, rfl, ?_⟩
    rcases Nat.eq_zero_or_pos len with h0 | h0
    · subst h0; simp only [List.take_zero, RepEs]
    have hoo : oo = off * esz := by
      rcases e0 with e0 | e0
      · omega
      · exact e0
    subst hoo
    have hu1 : ∀ cs ∈ xs.drop off, cs.length = esz := fun cs hcs => g7 cs (List.mem_of_mem_drop hcs)
    have hfl : ((xs.drop off).take len).flatten = (xs.flatten.drop (off * esz)).take (len * esz) := by rw [flat_take hu1, flat_drop xs off g7]
    have hLn := flat_length xs g7
    have hle : (off + len) * esz ≤ xs.length * esz := Nat.mul_le_mul_right _ hb
    have hle2 : xs.length * esz ≤ n * esz := Nat.mul_le_mul_right _ g5
    rw [Nat.add_mul] at hle
    have hR : RepL w (okOf F γ w) ((xs.drop off).take len).flatten γ ((cur.toList.drop (off * esz)).take (len * esz)) := by
      rw [hfl]
      have := RepL_take (len * esz) (RepL_drop (off * esz) g9)
      rw [hLn, List.drop_take, List.take_take, Nat.min_eq_left (by omega)] at this
      exact this
    refine RepEs_flatten (RepC_of_cells (us := (cur.toList.drop (off * esz)).take (len * esz)) ?_ (fun y hy => g8 y (List.mem_of_mem_drop (List.mem_of_mem_take hy))) ?_ (fun j _ => ?_))
    · refine RepL_mono q2.ok (fun _ _ _ => rfl) _ (LocsLe.refl _) (RepL_pure (fun x hx => ?_) hR)
      obtain ⟨cs, h1, h2⟩ := List.mem_flatten.1 hx
      exact hp cs h1 x h2
    · intro j v hj
      rw [List.getElem?_take] at hj
      split at hj
      · rw [List.getElem?_drop] at hj
        rw [cell_of_row w b _ cur et fr g2]
        simpa using hj
      · cases hj
    · have hbl := hI.blk id _ _ g1 rfl
      refine ⟨hbl.1, fun h => ?_, fun i l hl => ?_⟩
      · rcases hbl.2 with h2 | h2
        · exact absurd h (Nat.not_lt.2 h2)
        · exact hI.xvis _ _ h2
      · unfold Locs.set at hl
        split at hl
        · cases hl; trivial
        · rename_i hne
          have : ∀ b', l.block = some b' → b ≠ b' := fun b' hb' e => hne (hI.dist i id l _ b hl g1 (by rw [hb', e]) rfl)
          cases l with
          | arr b' _ _ => exact this b' rfl
          | map b' => exact this b' rfl
          | spare _ _ b' _ _ => exact fun e => absurd e (this b' rfl)
          | full _ _ => trivial
          | dead _ _ _ => trivial
  refine k hT F γ0 w0 _ a w Q' hf hQ { q1 with nt := q1.nt, own := q1.own, dom := q1.dom, env := fun i x h => ?_ } (hL.trans q2)
  simp only [look] at h
  split at h
  · rename_i e
    subst e
    cases h
    exact hnew
  · exact q1.env i x h

/-- How much room there is is told. -/
theorem awp_open {c : Code} {env : List (Nat × AV)} {own : List (Nat × Own)} {nx nt : Nat} (slot id : Nat) {off len esz : Nat} {cp : Option Nat} {xs : List (List AV)} (hs : look env slot = some (.os id off len cp)) (ho : look own id = some (.arr esz xs))
    (k : ∀ cap m : Nat, len ≤ cap → off + cap ≤ xs.length + m → cap ≤ maxLen → Awp P T fix c Q ⟨(slot, .os id off len (some cap)) :: env, (id, .arr esz (xs ++ List.replicate m (List.replicate esz .junk))) :: own, nx, nt⟩) : Awp P T fix c Q ⟨env, own, nx, nt⟩ := fun hT F γ0 w0 γ a w Q' hf hQ hI hL => by
  obtain ⟨b, n, cur, et, fr, g1, g2, g3, g4, g5, g6, g7, g8, g9⟩ := hI.own id _ ho
  have hx := hI.env slot _ hs
  have hx' := hx
  simp only [Rep] at hx
  obtain ⟨b', esz', n', cap, oo, e1, e2, e0, e3, e4, e5, e6⟩ := hx
  rw [g1] at e1
  cases e1
  have hself : γ.set id (.arr b esz n) = γ := by
    funext j; unfold Locs.set; split
    · rename_i hj; subst hj; exact g1.symm
    · rfl
  have hjunk : ∀ (m : Nat) (us : List Value), us.length = m * esz → RepL w (okOf F γ w) (List.replicate m (List.replicate esz AV.junk)).flatten γ us := by
    intro m us hul
    refine RepL_mk _ ?_ fun j x u hx hu => ?_
    · simp [hul]
    · have : x = .junk := by
        have hm := List.mem_of_getElem? hx
        obtain ⟨l, h1, h2⟩ := List.mem_flatten.1 hm
        rw [List.eq_of_mem_replicate h1] at h2
        exact List.eq_of_mem_replicate h2
      subst this
      simp only [Rep]
  have hLn := flat_length xs g7
  have hle2 : xs.length * esz ≤ n * esz := Nat.mul_le_mul_right _ g5
  obtain ⟨q1, q2⟩ := hI.upd (id := id) (nx := nx) (obj := .arr esz (xs ++ List.replicate (n - xs.length) (List.replicate esz .junk))) (l' := .arr b esz n) (w' := w) rfl rfl rfl (Nat.le_refl _) (fun l hl => by rw [g1] at hl; cases hl; exact .refl _) (fun _ _ _ => rfl) (fun _ _ _ => rfl)
    (fun b hb => .inr ⟨_, g1, hb⟩) (fun c o hco => hco.2.2 id _ g1) (fun hLf => by
      refine ⟨b, n, cur, et, fr, by simp [Locs.set], g2, g3, g4, by simp; omega, g6, ?_, g8, ?_⟩
      · intro cs hcs
        rcases List.mem_append.1 hcs with h | h
        · exact g7 cs h
        · rw [List.eq_of_mem_replicate h]; simp
      · have hfl : (xs ++ List.replicate (n - xs.length) (List.replicate esz AV.junk)).flatten.length = cur.toList.length := by
          simp [hLn, g3]
          rw [← Nat.add_mul]; congr 1; omega
        rw [hfl, List.take_of_length_le (Nat.le_refl _), List.flatten_append]
        have hcur : cur.toList = cur.toList.take xs.flatten.length ++ cur.toList.drop xs.flatten.length := (List.take_append_drop _ _).symm
        rw [hcur]
        refine hLf.repL (RepL_append g9 (hjunk _ _ ?_))
        simp [hLn, g3, Nat.sub_mul])
  rw [hself] at q1 q2
  refine k cap (n - xs.length) e3 (by omega) e5 hT F γ0 w0 γ a w Q' hf hQ { q1 with nt := q1.nt, own := q1.own, dom := q1.dom, env := fun i x h => ?_ } hL
  simp only [look] at h
  split at h
  · rename_i e
    subst e
    cases h
    rw [e2]
    simp only [Rep]
    exact ⟨b, esz, n, cap, oo, by rw [g1]; rfl, rfl, e0, e3, e4, e5, fun c hc => by cases hc; rfl⟩
  · exact q1.env i x h
end Go.Aw
namespace Go.Aw
open Go
set_option linter.unusedVariables false
set_option linter.unusedSimpArgs false
set_option linter.unusedSectionVars false
variable {P : Program} {T : Tab} {fix : List Nat} {Q : Ex → St → Prop} {st : St}
instance : Inhabited AV := ⟨.junk⟩

/-! ### contracts by codes -/
/-- How an argument is told. -/
structure Arg (α : Type) where
  dec : AV → Option α
  enc : α → AV
  ok : ∀ x a, dec x = some a → ∀ w ok γ u, Rep w ok x γ u → Rep w ok (enc a) γ u

/-- An element's cells. -/
structure Cod (α : Type) where
  c : α → List AV
  d : List AV → Option α
  dc : ∀ x, d (c x) = some x
  cd : ∀ cs x, d cs = some x → cs = c x

def argV {α : Type} (mk : α → Value) (de : Value → Option α) (h : ∀ v a, de v = some a → v = mk a) : Arg α where
  dec := fun x => match x with | .v v => de v | _ => Option.none
  enc := fun a => .v (mk a)
  ok := fun x a hd w ok γ u hr => by
    split at hd
    · rw [← h _ _ hd]; exact hr
    · cases hd

def argSl {α : Type} (c : Cod α) : Arg (List α) where
  dec := fun x => match x with | .sl cs _ => decL c.d cs | _ => Option.none
  enc := fun l => .sl (l.map c.c) .none
  ok := fun x a hd w ok γ u hr => by
    split at hd
    · rw [← decL_eq c.cd hd]; exact rep_sl_none hr
    · cases hd
def argAg {α : Type} (c : Cod α) : Arg α where
  dec := fun x => match x with | .agg cs => c.d cs | _ => Option.none
  enc := fun l => .agg (c.c l)
  ok := fun x a hd w ok γ u hr => by
    split at hd
    · rw [← c.cd _ _ hd]; exact hr
    · cases hd
def argS : Arg (List UInt8) where
  dec := fun x => match x with | .str l => some l | _ => Option.none
  enc := fun l => .str l
  ok := fun x a hd w ok γ u hr => by
    split at hd
    · cases hd; exact hr
    · cases hd
/-- An argument as it is. -/
def argX : Arg AV where
  dec := fun x => some x
  enc := fun x => x
  ok := fun x a hd w ok γ u hr => by cases hd; exact hr

def intD (k : IntKind) : Value → Option Int
  | .int k' a => if k' = k then some a else Option.none
  | _ => Option.none
def argI (k : IntKind) : Arg Int := argV (fun a => .int k a) (intD k) (fun v a h => by
  unfold intD at h
  split at h
  · split at h
    · rename_i e; cases h; rw [e]
    · cases h
  · cases h)
def boolD : Value → Option Bool
  | .bool b => some b
  | _ => Option.none
def argB : Arg Bool := argV (fun a => .bool a) boolD (fun v a h => by
  unfold boolD at h
  split at h
  · cases h; rfl
  · cases h)

theorem argI_dec (k : IntKind) (a : Int) : (argI k).dec (.v (.int k a)) = some a := by simp [argI, argV, intD]
theorem argI_enc (k : IntKind) (a : Int) : (argI k).enc a = .v (.int k a) := rfl
theorem argB_dec (a : Bool) : argB.dec (.v (.bool a)) = some a := rfl
theorem argB_enc (a : Bool) : argB.enc a = .v (.bool a) := rfl
theorem argS_dec (a : List UInt8) : argS.dec (.str a) = some a := rfl
theorem argS_enc (a : List UInt8) : argS.enc a = .str a := rfl
theorem argX_dec (a : AV) : argX.dec a = some a := rfl
theorem argX_enc (a : AV) : argX.enc a = a := rfl
theorem argSl_dec {α : Type} (c : Cod α) (l : List α) (sp : Spare) : (argSl c).dec (.sl (l.map c.c) sp) = some l := decL_C c.dc l
theorem argSl_enc {α : Type} (c : Cod α) (l : List α) : (argSl c).enc l = .sl (l.map c.c) .none := rfl
theorem argSl_nil {α : Type} (c : Cod α) (sp : Spare) : (argSl c).dec (.sl [] sp) = some [] := rfl
theorem argAg_dec {α : Type} (c : Cod α) (l : α) : (argAg c).dec (.agg (c.c l)) = some l := c.dc l
theorem argAg_enc {α : Type} (c : Cod α) (l : α) : (argAg c).enc l = .agg (c.c l) := rfl

def ctr0 (pre : Prop) (res : AV) : Ctr := ⟨[], fun nx al own => match al, own with
  | [], [] => some ⟨pre, res, [], nx⟩
  | _, _ => Option.none⟩
def ctr1 {α : Type} [Inhabited α] (A : Arg α) (pre : α → Prop) (res : α → AV) : Ctr := ⟨[], fun nx al own => match al, own with
  | [x], [] => match A.dec x with
    | some a => some ⟨pre a, res a, [], nx⟩
    | _ => some ⟨False, res default, [], nx⟩
  | _, _ => Option.none⟩
def ctr2 {α β : Type} [Inhabited α] [Inhabited β] (A : Arg α) (B : Arg β) (pre : α → β → Prop) (res : α → β → AV) : Ctr := ⟨[], fun nx al own => match al, own with
  | [x, y], [] => match A.dec x, B.dec y with
    | some a, some b => some ⟨pre a b, res a b, [], nx⟩
    | _, _ => some ⟨False, res default default, [], nx⟩
  | _, _ => Option.none⟩
def ctr3 {α β δ : Type} [Inhabited α] [Inhabited β] [Inhabited δ] (A : Arg α) (B : Arg β) (C : Arg δ) (pre : α → β → δ → Prop) (res : α → β → δ → AV) : Ctr := ⟨[], fun nx al own => match al, own with
  | [x, y, z], [] => match A.dec x, B.dec y, C.dec z with
    | some a, some b, some c => some ⟨pre a b c, res a b c, [], nx⟩
    | _, _, _ => some ⟨False, res default default default, [], nx⟩
  | _, _ => Option.none⟩
def ctr4 {α β δ ε : Type} [Inhabited α] [Inhabited β] [Inhabited δ] [Inhabited ε] (A : Arg α) (B : Arg β) (C : Arg δ) (D : Arg ε) (pre : α → β → δ → ε → Prop) (res : α → β → δ → ε → AV) : Ctr := ⟨[], fun nx al own => match al, own with
  | [x, y, z, u], [] => match A.dec x, B.dec y, C.dec z, D.dec u with
    | some a, some b, some c, some d => some ⟨pre a b c d, res a b c d, [], nx⟩
    | _, _, _, _ => some ⟨False, res default default default default, [], nx⟩
  | _, _ => Option.none⟩
def ctr5 {α β δ ε ζ : Type} [Inhabited α] [Inhabited β] [Inhabited δ] [Inhabited ε] [Inhabited ζ] (A : Arg α) (B : Arg β) (C : Arg δ) (D : Arg ε) (E : Arg ζ) (pre : α → β → δ → ε → ζ → Prop) (res : α → β → δ → ε → ζ → AV) : Ctr := ⟨[], fun nx al own => match al, own with
  | [x, y, z, u, v], [] => match A.dec x, B.dec y, C.dec z, D.dec u, E.dec v with
    | some a, some b, some c, some d, some e => some ⟨pre a b c d e, res a b c d e, [], nx⟩
    | _, _, _, _, _ => some ⟨False, res default default default default default, [], nx⟩
  | _, _ => Option.none⟩
def ctr6 {α β δ ε ζ η : Type} [Inhabited α] [Inhabited β] [Inhabited δ] [Inhabited ε] [Inhabited ζ] [Inhabited η] (A : Arg α) (B : Arg β) (C : Arg δ) (D : Arg ε) (E : Arg ζ) (G : Arg η) (pre : α → β → δ → ε → ζ → η → Prop) (res : α → β → δ → ε → ζ → η → AV) : Ctr := ⟨[], fun nx al own => match al, own with
  | [x, y, z, u, v, t], [] => match A.dec x, B.dec y, C.dec z, D.dec u, E.dec v, G.dec t with
    | some a, some b, some c, some d, some e, some g => some ⟨pre a b c d e g, res a b c d e g, [], nx⟩
    | _, _, _, _, _, _ => some ⟨False, res default default default default default default, [], nx⟩
  | _, _ => Option.none⟩

theorem awp_envs {c : Code} {env env' : List (Nat × AV)} {own : List (Nat × Own)} {nx nt : Nat} (h : ∀ i y, look env' i = some y → ∃ x, look env i = some x ∧ ∀ w ok γ u, Rep w ok x γ u → Rep w ok y γ u) (k : Awp P T fix c Q ⟨env', own, nx, nt⟩) : Awp P T fix c Q ⟨env, own, nx, nt⟩ := fun hT F γ0 w0 γ a w Q' hf hQ hI hL =>
  k hT F γ0 w0 γ a w Q' hf hQ
    { hI with
      nt := hI.nt
      own := hI.own
      dom := hI.dom
      env := fun j y hy => by
        obtain ⟨x, h1, h2⟩ := h j y hy
        exact h2 _ _ _ _ (hI.env j x h1) } hL

/-- A contract that says less. -/
theorem good_sub {f : FuncId} {C C' : Ctr} (h : Good P f C) (hs : ∀ nx al own R, C'.run nx al own = some R → R.c → ∃ R', C.run nx al own = some R' ∧ R'.c ∧ R'.r = R.r ∧ R'.up = R.up ∧ R'.nx = R.nx) : Good P f C' := by
  intro nx as own R hR hc F γ w vs hw hI hlt hvs
  obtain ⟨R', h1, h2, h3, h4, h5⟩ := hs nx as own R hR hc
  have := h nx as own R' h1 h2 F γ w vs hw hI hlt hvs
  rw [h3, h4, h5] at this
  exact this

section good
variable {f : FuncId} {fn : Func} {c : Code} (hT : ∀ f C, T f = some C → Good P f C) (hf : P.funcs[f]? = some fn) (hb : fn.body = some c) (hn : (fn.name == "runtime.NumGoroutine") = false)
include hT hf hb hn
theorem good0 {pre : Prop} {res : AV} (h : pre → ∀ nx, Awp P T [] c (Done [] fn.results.toList ⟨pre, res, [], nx⟩) ⟨[], [], nx, fn.ntmps⟩) : Good P f (ctr0 pre res) := by
  refine good_of hT hf hb hn fun nx as own R hR hc _ => ?_
  simp only [ctr0] at hR
  split at hR
  case h_2 => cases hR
  cases hR
  exact ⟨by simp, h hc nx⟩
theorem good1 {α : Type} [Inhabited α] {A : Arg α} {pre : α → Prop} {res : α → AV} (hl : Nat.ble 1 fn.ntmps = true) (h : ∀ a, pre a → ∀ nx, Awp P T [] c (Done [] fn.results.toList ⟨pre a, res a, [], nx⟩) ⟨[(0, A.enc a)], [], nx, fn.ntmps⟩) : Good P f (ctr1 A pre res) := by
  refine good_of hT hf hb hn fun nx as own R hR hc _ => ?_
  simp only [ctr1] at hR
  split at hR
  case h_2 => cases hR
  rename_i x
  split at hR
  case h_2 => (cases hR; exact hc.elim)
  rename_i a ha
  cases hR
  refine ⟨Nat.le_of_ble_eq_true hl, awp_envs ?_ (h a hc nx)⟩
  intro i y hy
  simp only [entry, List.length_cons, List.length_nil, List.range, List.range.loop, List.zip, List.zipWith] at hy ⊢
  simp only [look] at hy ⊢
  split at hy
  · rename_i e; cases hy; subst e; exact ⟨_, rfl, fun w ok γ u => A.ok _ _ ha w ok γ u⟩
  · cases hy
theorem good2 {α β : Type} [Inhabited α] [Inhabited β] {A : Arg α} {B : Arg β} {pre : α → β → Prop} {res : α → β → AV} (hl : Nat.ble 2 fn.ntmps = true) (h : ∀ a b, pre a b → ∀ nx, Awp P T [] c (Done [] fn.results.toList ⟨pre a b, res a b, [], nx⟩) ⟨[(0, A.enc a), (1, B.enc b)], [], nx, fn.ntmps⟩) : Good P f (ctr2 A B pre res) := by
  refine good_of hT hf hb hn fun nx as own R hR hc _ => ?_
  simp only [ctr2] at hR
  split at hR
  case h_2 => cases hR
  rename_i x y
  split at hR
  case h_2 => (cases hR; exact hc.elim)
  rename_i a b ha hb'
  cases hR
  refine ⟨Nat.le_of_ble_eq_true hl, awp_envs ?_ (h a b hc nx)⟩
  intro i y hy
  simp only [entry, List.length_cons, List.length_nil, List.range, List.range.loop, List.zip, List.zipWith] at hy ⊢
  simp only [look] at hy ⊢
  repeat' split at hy
  all_goals first | (cases hy; done) | (rename_i e; cases hy; subst e; first | exact ⟨_, rfl, A.ok _ _ ha⟩ | exact ⟨_, rfl, B.ok _ _ hb'⟩)
theorem good3 {α β δ : Type} [Inhabited α] [Inhabited β] [Inhabited δ] {A : Arg α} {B : Arg β} {C : Arg δ} {pre : α → β → δ → Prop} {res : α → β → δ → AV} (hl : Nat.ble 3 fn.ntmps = true) (h : ∀ a b d, pre a b d → ∀ nx, Awp P T [] c (Done [] fn.results.toList ⟨pre a b d, res a b d, [], nx⟩) ⟨[(0, A.enc a), (1, B.enc b), (2, C.enc d)], [], nx, fn.ntmps⟩) : Good P f (ctr3 A B C pre res) := by
  refine good_of hT hf hb hn fun nx as own R hR hc _ => ?_
  simp only [ctr3] at hR
  split at hR
  case h_2 => cases hR
  split at hR
  case h_2 => (cases hR; exact hc.elim)
  rename_i h1 h2 h3
  cases hR
  refine ⟨Nat.le_of_ble_eq_true hl, awp_envs ?_ (h _ _ _ hc nx)⟩
  intro i y hy
  simp only [entry, List.length_cons, List.length_nil, List.range, List.range.loop, List.zip, List.zipWith] at hy ⊢
  simp only [look] at hy ⊢
  repeat' split at hy
  all_goals first | (cases hy; done) | (rename_i e; cases hy; subst e; first | exact ⟨_, rfl, A.ok _ _ h1⟩ | exact ⟨_, rfl, B.ok _ _ h2⟩ | exact ⟨_, rfl, C.ok _ _ h3⟩)
theorem good4 {α β δ ε : Type} [Inhabited α] [Inhabited β] [Inhabited δ] [Inhabited ε] {A : Arg α} {B : Arg β} {C : Arg δ} {D : Arg ε} {pre : α → β → δ → ε → Prop} {res : α → β → δ → ε → AV} (hl : Nat.ble 4 fn.ntmps = true) (h : ∀ a b d e, pre a b d e → ∀ nx, Awp P T [] c (Done [] fn.results.toList ⟨pre a b d e, res a b d e, [], nx⟩) ⟨[(0, A.enc a), (1, B.enc b), (2, C.enc d), (3, D.enc e)], [], nx, fn.ntmps⟩) : Good P f (ctr4 A B C D pre res) := by
  refine good_of hT hf hb hn fun nx as own R hR hc _ => ?_
  simp only [ctr4] at hR
  split at hR
  case h_2 => cases hR
  split at hR
  case h_2 => (cases hR; exact hc.elim)
  rename_i h1 h2 h3 h4
  cases hR
  refine ⟨Nat.le_of_ble_eq_true hl, awp_envs ?_ (h _ _ _ _ hc nx)⟩
  intro i y hy
  simp only [entry, List.length_cons, List.length_nil, List.range, List.range.loop, List.zip, List.zipWith] at hy ⊢
  simp only [look] at hy ⊢
  repeat' split at hy
  all_goals first | (cases hy; done) | (rename_i e; cases hy; subst e; first | exact ⟨_, rfl, A.ok _ _ h1⟩ | exact ⟨_, rfl, B.ok _ _ h2⟩ | exact ⟨_, rfl, C.ok _ _ h3⟩ | exact ⟨_, rfl, D.ok _ _ h4⟩)
theorem good5 {α β δ ε ζ : Type} [Inhabited α] [Inhabited β] [Inhabited δ] [Inhabited ε] [Inhabited ζ] {A : Arg α} {B : Arg β} {C : Arg δ} {D : Arg ε} {E : Arg ζ} {pre : α → β → δ → ε → ζ → Prop} {res : α → β → δ → ε → ζ → AV} (hl : Nat.ble 5 fn.ntmps = true) (h : ∀ a b d e g, pre a b d e g → ∀ nx, Awp P T [] c (Done [] fn.results.toList ⟨pre a b d e g, res a b d e g, [], nx⟩) ⟨[(0, A.enc a), (1, B.enc b), (2, C.enc d), (3, D.enc e), (4, E.enc g)], [], nx, fn.ntmps⟩) : Good P f (ctr5 A B C D E pre res) := by
  refine good_of hT hf hb hn fun nx as own R hR hc _ => ?_
  simp only [ctr5] at hR
  split at hR
  case h_2 => cases hR
  split at hR
  case h_2 => (cases hR; exact hc.elim)
  rename_i h1 h2 h3 h4 h5
  cases hR
  refine ⟨Nat.le_of_ble_eq_true hl, awp_envs ?_ (h _ _ _ _ _ hc nx)⟩
  intro i y hy
  simp only [entry, List.length_cons, List.length_nil, List.range, List.range.loop, List.zip, List.zipWith] at hy ⊢
  simp only [look] at hy ⊢
  repeat' split at hy
  all_goals first | (cases hy; done) | (rename_i e; cases hy; subst e; first | exact ⟨_, rfl, A.ok _ _ h1⟩ | exact ⟨_, rfl, B.ok _ _ h2⟩ | exact ⟨_, rfl, C.ok _ _ h3⟩ | exact ⟨_, rfl, D.ok _ _ h4⟩ | exact ⟨_, rfl, E.ok _ _ h5⟩)
theorem good6 {α β δ ε ζ η : Type} [Inhabited α] [Inhabited β] [Inhabited δ] [Inhabited ε] [Inhabited ζ] [Inhabited η] {A : Arg α} {B : Arg β} {C : Arg δ} {D : Arg ε} {E : Arg ζ} {G : Arg η} {pre : α → β → δ → ε → ζ → η → Prop} {res : α → β → δ → ε → ζ → η → AV} (hl : Nat.ble 6 fn.ntmps = true) (h : ∀ a b d e g i, pre a b d e g i → ∀ nx, Awp P T [] c (Done [] fn.results.toList ⟨pre a b d e g i, res a b d e g i, [], nx⟩) ⟨[(0, A.enc a), (1, B.enc b), (2, C.enc d), (3, D.enc e), (4, E.enc g), (5, G.enc i)], [], nx, fn.ntmps⟩) : Good P f (ctr6 A B C D E G pre res) := by
  refine good_of hT hf hb hn fun nx as own R hR hc _ => ?_
  simp only [ctr6] at hR
  split at hR
  case h_2 => cases hR
  split at hR
  case h_2 => (cases hR; exact hc.elim)
  rename_i h1 h2 h3 h4 h5 h6
  cases hR
  refine ⟨Nat.le_of_ble_eq_true hl, awp_envs ?_ (h _ _ _ _ _ _ hc nx)⟩
  intro i y hy
  simp only [entry, List.length_cons, List.length_nil, List.range, List.range.loop, List.zip, List.zipWith] at hy ⊢
  simp only [look] at hy ⊢
  repeat' split at hy
  all_goals first | (cases hy; done) | (rename_i e; cases hy; subst e; first | exact ⟨_, rfl, A.ok _ _ h1⟩ | exact ⟨_, rfl, B.ok _ _ h2⟩ | exact ⟨_, rfl, C.ok _ _ h3⟩ | exact ⟨_, rfl, D.ok _ _ h4⟩ | exact ⟨_, rfl, E.ok _ _ h5⟩ | exact ⟨_, rfl, G.ok _ _ h6⟩)
end good
end Go.Aw
namespace Go.Aw
open Go
set_option linter.unusedVariables false
set_option linter.unusedSimpArgs false
set_option linter.unusedSectionVars false
variable {P : Program} {T : Tab} {fix : List Nat} {Q : Ex → St → Prop} {st : St}

attribute [go_sem] isJunk junkOps junkAny junkRes Bool.or_self stepL guardL opR opG rdS strip opd look constAV allG gdS Op.operands Call.operands wrapR pickA boxA cellsOf Value.oneCell' allocA ofP loadA storeA nilCheckA
  binX isNilS binA isCon binI binStr eqB nilP nilI nilS ubB eqCs eq1 unA convR convA strBytesA makeIfcA makeMapA makeSliceA isZero sliceA optI fieldAddrA fieldA indexAddrA indexA lookupA keyV mapUpdateA extractA
  buildA fillA buildSliceA chunks imm1 pure1 builtinR appendO srcX wishF appendA appendZ appC srcA capA copyA lenA minA callA prepA immA imm0 immL subOwn ownAV lkS idsL idsOf idsOf.idsL spl
attribute [go_sem] Nat.left_eq_add Nat.add_eq_left Nat.one_ne_zero Nat.add_assoc Option.getD_some Option.getD_none true_and and_true and_self List.map_cons List.map_nil List.append_nil List.nil_append List.cons_append
  List.mem_cons List.not_mem_nil or_false true_or or_true if_true List.getD_cons_zero List.getD_cons_succ List.drop_zero List.drop_succ_cons List.take_succ_cons List.take_zero List.length_cons List.length_nil
  List.set_cons_zero List.set_cons_succ Nat.zero_add Nat.add_zero Nat.lt_add_one Bool.false_and Bool.and_false Option.map_some Option.map_none Option.isSome Option.isNone Option.bind_some Bool.true_and Bool.and_true
  Option.join_some Option.join Bool.false_eq_true if_false List.getElem?_cons_succ List.getElem?_cons_zero id Option.toArray_none Option.toArray_some List.append_toArray Array.append_empty Array.empty_append List.length_map
  List.isEmpty_cons List.isEmpty_nil Bool.not_false Bool.not_true List.replicate_succ List.replicate_zero List.flatten_cons List.flatten_nil Nat.zero_mul Nat.one_mul Nat.mul_one forall_eq_or_imp forall_eq implies_true false_implies
  Nat.le_refl List.contains_cons List.elem_nil Bool.or_false List.all_cons Nat.zero_le List.contains_nil List.all_nil ne_eq not_true_eq_false not_false_eq_true
theorem wrapU64 {x : Int} (h1 : 0 ≤ x) (h2 : x ≤ 18446744073709551615) : IntKind.u64.wrap x = x := by
  unfold IntKind.wrap; simp only [IntKind.signed, IntKind.bits]; simp; omega
theorem wrapU32 {x : Int} (h1 : 0 ≤ x) (h2 : x ≤ 4294967295) : IntKind.u32.wrap x = x := by
  unfold IntKind.wrap; simp only [IntKind.signed, IntKind.bits]; simp; omega
theorem wrapU16 {x : Int} (h1 : 0 ≤ x) (h2 : x ≤ 65535) : IntKind.u16.wrap x = x := by
  unfold IntKind.wrap; simp only [IntKind.signed, IntKind.bits]; simp; omega
theorem wrapU8 {x : Int} (h1 : 0 ≤ x) (h2 : x ≤ 255) : IntKind.u8.wrap x = x := by
  unfold IntKind.wrap; simp only [IntKind.signed, IntKind.bits]; simp; omega
theorem fdivL (a : Int) (n : Nat) : a.fdiv (2 ^ n) = a / 2 ^ n := Int.fdiv_eq_ediv_of_nonneg a (Int.pow_nonneg (by omega))
theorem minLit (n m : Nat) (h : (OfNat.ofNat n : Nat) ≤ (OfNat.ofNat m : Nat)) : min (no_index (OfNat.ofNat n) : Nat) (no_index (OfNat.ofNat m) : Nat) = OfNat.ofNat n := Nat.min_eq_left h
theorem cast_div2 (n : Nat) : ((n : Int) / 2) = ((n / 2 : Nat) : Int) := by omega
theorem pow1I : (2 : Int) ^ 1 = 2 := rfl
theorem pow8I : (2 : Int) ^ 8 = 256 := rfl
theorem pow3I : (2 : Int) ^ 3 = 8 := rfl
theorem cast_add1 (n : Nat) : ((n : Int) + 1) = ((n + 1 : Nat) : Int) := by omega
theorem cast_addN (n m : Nat) : ((n : Int) + (m : Int)) = ((n + m : Nat) : Int) := by omega
theorem cast0 : ((0 : Nat) : Int) = 0 := rfl
theorem cast1 : ((1 : Nat) : Int) = 1 := rfl
theorem castLit (n : Nat) : ((no_index (OfNat.ofNat n) : Nat) : Int) = (OfNat.ofNat n : Int) := rfl
theorem toNat_one : Int.toNat 1 = 1 := rfl
attribute [go_sem] List.drop_zero minLit fdivL cast_div2 pow1I pow8I pow3I cast_add1 cast_addN cast0 cast1 castLit Int.toNat_natCast Int.toNat_sub Int.sub_zero toNat_one Nat.sub_zero Nat.add_sub_cancel sightA beq_self_eq_true Bool.or_true Bool.true_or
theorem look_self {α : Type} (r : List (Nat × α)) (k : Nat) (x : α) : look ((k, x) :: r) k = some x := by simp [look]
attribute [go_sem] argI_dec argI_enc argB_dec argB_enc argS_dec argS_enc argX_dec argX_enc ctr0 ctr1 ctr2 ctr3 ctr4 ctr5 ctr6

section
variable {G : List (Option Nat)} {K : St → Prop} {l : List Oper} {env : List (Nat × AV)} {own : List (Nat × Own)} {nx nt : Nat} {op : Op} {ty : TypeId} {pos : String} {af : Array Edge} {g : Option (Nat × Bool)} {L : List Nat} {i : Nat}
theorem oP {d : Nat} {c : Prop} {r : AV} (h4 : regL P T G l ⟨(d, r) :: env, own, nx, nt⟩ K)
    (h : stepL P T G op g ⟨env, own, nx, nt⟩ = some ⟨c, r, [], nx⟩ := by ((simp only [go_sem, ↓reduceIte, Nat.reduceAdd, Nat.reduceSub, Nat.reduceMul, Nat.reduceEqDiff, Nat.reduceLT, Nat.reduceLeDiff, Nat.reducePow, Nat.reduceBEq, reduceCtorEq, Int.toNat_zero]); ((try simp (disch := omega) only [wrap64, wrapU64, wrapU32, wrapU16, wrapU8, go_sem, Nat.reduceAdd]); rfl)))
    (hc : c := by first | trivial | omega | (simp; done) | (simp; omega) | (intro hg; simp only [hg, true_and, and_true]; first | done | trivial | omega | (simp; done) | (simp; omega)) | (intro hg; have hg2 := hg; simp at hg2; simp only [hg, true_and, and_true]; first | omega | (simp; omega)))
    (hd : decide (d < nt) = true := by rfl) : regL P T G (⟨some d, op, ty, pos, af, g⟩ :: l) ⟨env, own, nx, nt⟩ K := regL_p h hc hd h4
theorem oPn {c : Prop} {r : AV} (h4 : regL P T G l ⟨env, own, nx, nt⟩ K)
    (h : stepL P T G op g ⟨env, own, nx, nt⟩ = some ⟨c, r, [], nx⟩ := by ((simp only [go_sem, ↓reduceIte, Nat.reduceAdd, Nat.reduceSub, Nat.reduceMul, Nat.reduceEqDiff, Nat.reduceLT, Nat.reduceLeDiff, Nat.reducePow, Nat.reduceBEq, reduceCtorEq, Int.toNat_zero]); ((try simp (disch := omega) only [wrap64, wrapU64, wrapU32, wrapU16, wrapU8, go_sem, Nat.reduceAdd]); rfl)))
    (hc : c := by first | trivial | omega | (simp; done) | (simp; omega) | (intro hg; simp only [hg, true_and, and_true]; first | done | trivial | omega | (simp; done) | (simp; omega)) | (intro hg; have hg2 := hg; simp at hg2; simp only [hg, true_and, and_true]; first | omega | (simp; omega))) :
    regL P T G (⟨Option.none, op, ty, pos, af, g⟩ :: l) ⟨env, own, nx, nt⟩ K := regL_pn h hc h4
theorem oW {d : Nat} {c : Prop} {r : AV} {id : Nat} {o : Own} (h4 : regL P T G l ⟨(d, r) :: env, (id, o) :: own, nx, nt⟩ K)
    (h : stepL P T G op g ⟨env, own, nx, nt⟩ = some ⟨c, r, [(id, o)], nx⟩ := by ((simp only [go_sem, ↓reduceIte, Nat.reduceAdd, Nat.reduceSub, Nat.reduceMul, Nat.reduceEqDiff, Nat.reduceLT, Nat.reduceLeDiff, Nat.reducePow, Nat.reduceBEq, reduceCtorEq, Int.toNat_zero]); rfl))
    (hc : c := by first | trivial | omega | (simp; done) | (simp; omega))
    (hd : decide (d < nt) = true := by rfl) : regL P T G (⟨some d, op, ty, pos, af, g⟩ :: l) ⟨env, own, nx, nt⟩ K := regL_w h hc hd h4
theorem oWn {c : Prop} {r : AV} {id : Nat} {o : Own} (h4 : regL P T G l ⟨env, (id, o) :: own, nx, nt⟩ K)
    (h : stepL P T G op g ⟨env, own, nx, nt⟩ = some ⟨c, r, [(id, o)], nx⟩ := by ((simp only [go_sem, ↓reduceIte, Nat.reduceAdd, Nat.reduceSub, Nat.reduceMul, Nat.reduceEqDiff, Nat.reduceLT, Nat.reduceLeDiff, Nat.reducePow, Nat.reduceBEq, reduceCtorEq, Int.toNat_zero]); rfl))
    (hc : c := by first | trivial | omega | (simp; done) | (simp; omega)) : regL P T G (⟨Option.none, op, ty, pos, af, g⟩ :: l) ⟨env, own, nx, nt⟩ K := regL_wn h hc h4
theorem oN {d : Nat} {c : Prop} {r : AV} {id : Nat} {o : Own} {nx' : Nat} (h4 : regL P T G l ⟨(d, r) :: env, (id, o) :: own, nx', nt⟩ K)
    (h : stepL P T G op g ⟨env, own, nx, nt⟩ = some ⟨c, r, [(id, o)], nx'⟩ := by ((simp only [go_sem, ↓reduceIte, Nat.reduceAdd, Nat.reduceSub, Nat.reduceMul, Nat.reduceEqDiff, Nat.reduceLT, Nat.reduceLeDiff, Nat.reducePow, Nat.reduceBEq, reduceCtorEq, Int.toNat_zero]); rfl))
    (hc : c := by first | trivial | omega | (simp; done) | (simp; omega))
    (hf : own.all (fun q => decide (q.1 < nx)) = true := by simp)
    (hd : decide (d < nt) = true := by rfl) : regL P T G (⟨some d, op, ty, pos, af, g⟩ :: l) ⟨env, own, nx, nt⟩ K := regL_n1 h hc hd hf h4

theorem qP {d : Nat} {c : Prop} {r : AV} (h4 : regQ P T G L (i + 1) l ⟨(d, r) :: env, own, nx, nt⟩ K)
    (h : stepL P T G op g ⟨env, own, nx, nt⟩ = some ⟨c, r, [], nx⟩ := by ((simp only [go_sem, ↓reduceIte, Nat.reduceAdd, Nat.reduceSub, Nat.reduceMul, Nat.reduceEqDiff, Nat.reduceLT, Nat.reduceLeDiff, Nat.reducePow, Nat.reduceBEq, reduceCtorEq, Int.toNat_zero]); ((try simp (disch := omega) only [wrap64, wrapU64, wrapU32, wrapU16, wrapU8, go_sem, Nat.reduceAdd]); rfl)))
    (hc : c := by first | trivial | omega | (simp; done) | (simp; omega) | (intro hg; simp only [hg, true_and, and_true]; first | done | trivial | omega | (simp; done) | (simp; omega)) | (intro hg; have hg2 := hg; simp at hg2; simp only [hg, true_and, and_true]; first | omega | (simp; omega)))
    (hd : decide (d < nt) = true := by rfl) : regQ P T G L i (⟨some d, op, ty, pos, af, g⟩ :: l) ⟨env, own, nx, nt⟩ K := regQ_p h hc hd h4
theorem qPn {c : Prop} {r : AV} (h4 : regQ P T G L (i + 1) l ⟨env, own, nx, nt⟩ K)
    (h : stepL P T G op g ⟨env, own, nx, nt⟩ = some ⟨c, r, [], nx⟩ := by ((simp only [go_sem, ↓reduceIte, Nat.reduceAdd, Nat.reduceSub, Nat.reduceMul, Nat.reduceEqDiff, Nat.reduceLT, Nat.reduceLeDiff, Nat.reducePow, Nat.reduceBEq, reduceCtorEq, Int.toNat_zero]); ((try simp (disch := omega) only [wrap64, wrapU64, wrapU32, wrapU16, wrapU8, go_sem, Nat.reduceAdd]); rfl)))
    (hc : c := by first | trivial | omega | (simp; done) | (simp; omega) | (intro hg; simp only [hg, true_and, and_true]; first | done | trivial | omega | (simp; done) | (simp; omega)) | (intro hg; have hg2 := hg; simp at hg2; simp only [hg, true_and, and_true]; first | omega | (simp; omega))) :
    regQ P T G L i (⟨Option.none, op, ty, pos, af, g⟩ :: l) ⟨env, own, nx, nt⟩ K := regQ_pn h hc h4
theorem qW {d : Nat} {c : Prop} {r : AV} {id : Nat} {o : Own} (h4 : regQ P T G L (i + 1) l ⟨(d, r) :: env, (id, o) :: own, nx, nt⟩ K)
    (h : stepL P T G op g ⟨env, own, nx, nt⟩ = some ⟨c, r, [(id, o)], nx⟩ := by ((simp only [go_sem, ↓reduceIte, Nat.reduceAdd, Nat.reduceSub, Nat.reduceMul, Nat.reduceEqDiff, Nat.reduceLT, Nat.reduceLeDiff, Nat.reducePow, Nat.reduceBEq, reduceCtorEq, Int.toNat_zero]); rfl))
    (hc : c := by first | trivial | omega | (simp; done) | (simp; omega))
    (hi : L.contains i = true := by rfl)
    (hd : decide (d < nt) = true := by rfl) : regQ P T G L i (⟨some d, op, ty, pos, af, g⟩ :: l) ⟨env, own, nx, nt⟩ K := regQ_w h hc hi hd h4
theorem qWn {c : Prop} {r : AV} {id : Nat} {o : Own} (h4 : regQ P T G L (i + 1) l ⟨env, (id, o) :: own, nx, nt⟩ K)
    (h : stepL P T G op g ⟨env, own, nx, nt⟩ = some ⟨c, r, [(id, o)], nx⟩ := by ((simp only [go_sem, ↓reduceIte, Nat.reduceAdd, Nat.reduceSub, Nat.reduceMul, Nat.reduceEqDiff, Nat.reduceLT, Nat.reduceLeDiff, Nat.reducePow, Nat.reduceBEq, reduceCtorEq, Int.toNat_zero]); rfl))
    (hc : c := by first | trivial | omega | (simp; done) | (simp; omega))
    (hi : L.contains i = true := by rfl) : regQ P T G L i (⟨Option.none, op, ty, pos, af, g⟩ :: l) ⟨env, own, nx, nt⟩ K := regQ_wn h hc hi h4
theorem qN {d : Nat} {c : Prop} {r : AV} {id : Nat} {o : Own} {nx' : Nat} (h4 : regQ P T G L (i + 1) l ⟨(d, r) :: env, (id, o) :: own, nx', nt⟩ K)
    (h : stepL P T G op g ⟨env, own, nx, nt⟩ = some ⟨c, r, [(id, o)], nx'⟩ := by ((simp only [go_sem, ↓reduceIte, Nat.reduceAdd, Nat.reduceSub, Nat.reduceMul, Nat.reduceEqDiff, Nat.reduceLT, Nat.reduceLeDiff, Nat.reducePow, Nat.reduceBEq, reduceCtorEq, Int.toNat_zero]); rfl))
    (hc : c := by first | trivial | omega | (simp; done) | (simp; omega))
    (hi : L.contains i = true := by rfl)
    (hf : own.all (fun q => decide (q.1 < nx)) = true := by simp)
    (hd : decide (d < nt) = true := by rfl) : regQ P T G L i (⟨some d, op, ty, pos, af, g⟩ :: l) ⟨env, own, nx, nt⟩ K := regQ_n1 h hc hi hd hf h4
theorem oE (h : K st) : regL P T G [] st K := h
theorem qE (h : K st) : regQ P T G L i [] st K := h
theorem kRet {own : List (Nat × Own)} {rs : List ResultVar} {R : Res} {x y : AV} {c : Prop} (hy : y = R.r) (h1 : resA st rs = some x := by rfl) (h2 : outA ((R.up ++ own).map Prod.fst) (look st.own) x = some (c, y) := by rfl) (hc : c := by first | trivial | (simp; done))
    (hs : sameL ((R.up ++ own).map Prod.fst) (look st.own) (look (R.up ++ own)) ((R.up ++ own).map Prod.fst) := by trivial) : Fin own rs R st := fin_of h1 h2 hc hy hs
end
end Go.Aw
namespace Go.Aw
open Go
set_option linter.unusedVariables false
set_option linter.unusedSimpArgs false
set_option linter.unusedSectionVars false
variable {P : Program} {F : Fr} {γ : Locs} {st : St} {a : Act} {w : World}

theorem run_overlaps_own {P : Program} (w : World) (tS tR e : TypeId) (ht : P.underlying tS = some (.slice e)) (size : Nat) (hz : ∀ w, (Go.sizeOf e).run P w = .ok size w)
    (a b : Addr) (la ca lb cb : Nat) (hne : a.block ≠ b.block) (tB : TypeId) (kB : Nat)
    (hsa : la ≠ 0 → ∃ tA kA, w.shape? a.block = some (tA, kA + 1)) (hsb : w.shape? b.block = some (tB, kB))
    (hfb : lb ≠ 0 → w.frozen? b = false) (hfe : w.frozen? { block := b.block, off := kB } = false) :
    (Extern.SlicesOverlaps.overlaps #[tS, tS] #[tR] #[.slice (some a) la ca, .slice (some b) lb cb]).run P w = .ok (.bool false) w := by
  have hnb : (a.block != b.block) = true := by simpa using hne
  have hnb' : (a.block == b.block) = false := by simpa using hne
  change Sem.run P (α := Value) (do
    let some t := (#[tS, tS] : Array TypeId)[0]? | stuck "slices.overlaps: no parameter types"
    let .slice elem ← underlying t | stuck "slices.overlaps: slice type expected"
    let size ← sizeOf elem
    match (some a : Option Addr), (some b : Option Addr) with
    | some a, some b =>
      if la = 0 ∨ lb = 0 ∨ size = 0 then pure (Value.bool false)
      else if a.block != b.block && (← frozen a) && (← frozen b) then unsupported .addressObserved
      else do
        if a.block != b.block then do
          noView a; noView b
          if ← mayBeOne a b then return Value.bool ((← choose (.extern "sameAddr.stringBytes" 2)) == 1)
        pure (Value.bool (a.block == b.block && a.off < b.off + lb * size && b.off < a.off + la * size))
    | _, _ => pure (Value.bool false)) w = _
  by_cases h0 : la = 0 ∨ lb = 0 ∨ size = 0
  · simp [run_underlying ht, hz, h0]
  · obtain ⟨tA, kA, hsa⟩ := hsa (fun e => h0 (.inl e))
    have hfb := hfb (fun e => h0 (.inr (.inl e)))
    by_cases hfa : w.frozen? a = true
    · simp [run_underlying ht, hz, h0, hnb, hnb', frozen, noView, viewAt, mayBeOne, stringish, shape, Sem.run, hsa, hsb, hfa, hfb, hfe]
    · have hfa : w.frozen? a = false := by simpa using hfa
      by_cases hfc : w.frozen? { block := a.block, off := kA + 1 } = true
      · simp [run_underlying ht, hz, h0, hnb, hnb', frozen, noView, viewAt, mayBeOne, stringish, shape, Sem.run, hsa, hsb, hfa, hfb, hfe, hfc]
      · have hfc : w.frozen? { block := a.block, off := kA + 1 } = false := by simpa using hfc
        simp [run_underlying ht, hz, h0, hnb, hnb', frozen, noView, viewAt, mayBeOne, stringish, shape, Sem.run, hsa, hsb, hfa, hfb, hfe, hfc]

theorem run_overlaps_zero {P : Program} (w : World) (tS tR e : TypeId) (ht : P.underlying tS = some (.slice e)) (size : Nat) (hz : ∀ w, (Go.sizeOf e).run P w = .ok size w)
    (a b : Addr) (ca lb cb : Nat) : (Extern.SlicesOverlaps.overlaps #[tS, tS] #[tR] #[.slice (some a) 0 ca, .slice (some b) lb cb]).run P w = .ok (.bool false) w := by
  change Sem.run P (α := Value) (do
    let some t := (#[tS, tS] : Array TypeId)[0]? | stuck "slices.overlaps: no parameter types"
    let .slice elem ← underlying t | stuck "slices.overlaps: slice type expected"
    let size ← sizeOf elem
    pure (Value.bool false)) w = _
  simp [run_underlying ht, hz]

theorem awp_dieE {T : Tab} {fix : List Nat} {Q : Ex → St → Prop} {c : Code} {env : List (Nat × AV)} {own : List (Nat × Own)} {nx nt : Nat} (slot id : Nat) {off len esz : Nat} {cp : Option Nat} {xs : List (List AV)} (zs : List (List AV)) (hs : look env slot = some (.os id off len cp)) (ho : look own id = some (.arr esz xs))
    (hb : off + len ≤ xs.length) (hz : (xs.drop off).take len = zs) (hp : ∀ cs ∈ zs, ∀ c ∈ cs, pure1 c = true) (k : Awp P T fix c Q ⟨(slot, .sl zs .none) :: env, (id, .dead) :: own, nx, nt⟩) : Awp P T fix c Q ⟨env, own, nx, nt⟩ := by
  subst hz
  exact awp_die slot id hs ho hb hp k

/-- slices.overlaps of what is read and what is owned. -/
def cOverlaps : Ctr := ⟨[1], fun nx al own => match al, own with
  | [.sl ys _, .os id off len cp], [(id', .arr esz xs)] => if id = id' then some ⟨0 < esz ∧ ∀ cs ∈ ys, cs.length = esz, .v (.bool false), [], nx⟩ else Option.none
  | _, _ => Option.none⟩

theorem good_overlaps {f : FuncId} {fn : Func} {tS tR e : TypeId} (hf : P.funcs[f]? = some fn) (hn : (fn.name == "runtime.NumGoroutine") = false) (hb : fn.body.isNone = true) (hx : Extern.findNext fn = none)
    (he : Extern.find fn = some (Extern.SlicesOverlaps.overlaps #[tS, tS] #[tR])) (ht : P.underlying tS = some (.slice e)) (size : Nat) (hz : ∀ w, (Go.sizeOf e).run P w = .ok size w) : Good P f cOverlaps := by
  intro nx as own R hR hc F γ w vs hw hI hlt hvs o a K Q hK
  simp only [cOverlaps] at hR
  split at hR
  case h_2 => cases hR
  rename_i ys sp id off len cp id' esz xs
  split at hR
  case isFalse => cases hR
  rename_i hid
  subst hid
  cases hR
  obtain ⟨hc1, hc2⟩ := hc
  simp only [RepL] at hvs
  obtain ⟨u, r, rfl, h1, v, r2, rfl, h2, rfl⟩ := hvs
  have hlk : look (St0 [(id, Own.arr esz xs)] nx).own id = some (.arr esz xs) := by simp [St0, look]
  obtain ⟨b, n, cur, et, fr, g1, g2, g3, g4, g5, g6, g7, g8, g9⟩ := hI.own id _ hlk
  simp only [Rep] at h1 h2
  obtain ⟨base, cap, rfl, k1, k2, k3, k4⟩ := h1
  obtain ⟨b', esz', n', cap', oo, e1, rfl, e0, e3, e4, e5, e6⟩ := h2
  rw [g1] at e1
  cases e1
  have hrun : (Extern.SlicesOverlaps.overlaps #[tS, tS] #[tR] #[.slice base ys.length cap, .slice (some ⟨b, oo, Option.none⟩) len cap']).run P w = .ok (.bool false) w := by
    cases base with
    | none =>
      change Sem.run P (α := Value) (do
        let some t := (#[tS, tS] : Array TypeId)[0]? | stuck "slices.overlaps: no parameter types"
        let .slice elem ← underlying t | stuck "slices.overlaps: slice type expected"
        let size ← sizeOf elem
        pure (Value.bool false)) w = _
      simp [run_underlying ht, hz]
    | some ad =>
      obtain ⟨q1, q2⟩ := k4
      have hap : ys.length ≠ 0 → ad.block ≠ b ∧ ∃ tA kA, w.shape? ad.block = some (tA, kA + 1) := by
        intro hy0
        cases ys with
        | nil => exact absurd rfl hy0
        | cons y ys =>
          have hy := hc2 y (by simp)
          cases y with
          | nil => simp at hy; omega
          | cons c cs =>
            simp only [RepEs, RepC] at q2
            obtain ⟨⟨⟨p1, uu, p2, _, _⟩, _⟩, _⟩ := q2
            refine ⟨p1.2.2 id _ g1, ?_⟩
            unfold World.cell? at p2
            split at p2
            · rename_i c' e' f' hh
              simp only [Option.isSome_none, Bool.false_eq_true, if_false] at p2
              have hlt : ad.off < c'.size := by
                rcases Nat.lt_or_ge ad.off c'.size with h | h
                · exact h
                · rw [Array.getElem?_eq_none h] at p2; cases p2
              refine ⟨e', c'.size - 1, ?_⟩
              simp only at hh
              simp only [World.shape?, hh]
              congr 2; omega
            · cases p2
      by_cases hy0 : ys.length = 0
      · rw [hy0]; exact run_overlaps_zero w tS tR e ht size hz ad ⟨b, oo, Option.none⟩ cap len cap'
      · obtain ⟨hne, hsh⟩ := hap hy0
        refine run_overlaps_own w tS tR e ht size hz ad ⟨b, oo, Option.none⟩ _ cap len cap' hne et cur.size (fun _ => hsh) (by simp [World.shape?, g2]) (fun hl0 => ?_) ?_
        · simp only [World.frozen?, g2]
          have hoo : oo < cur.size + 1 := by
            rcases e0 with e0 | e0
            · omega
            · subst e0
              have := Nat.mul_le_mul_right esz (show off + cap' ≤ n by exact e4)
              rw [Nat.add_mul] at this
              omega
          have := g4 oo hoo
          simpa using this
        · simp only [World.frozen?, g2]
          have := g4 cur.size (Nat.lt_succ_self _)
          simpa using this
  have hcall : (callFunc f [Value.slice base ys.length cap, .slice (some ⟨b, oo, Option.none⟩) len cap'].toArray).run P w = .ok (.value (.bool false)) w := by
    rw [run_callFunc_extern hf hn hb hx he]
    show ((Extern.SlicesOverlaps.overlaps #[tS, tS] #[tR] #[.slice base ys.length cap, .slice (some ⟨b, oo, Option.none⟩) len cap']).run P w).andThen _ = _
    rw [hrun]; rfl
  rw [hcall, Oper.upon_value]
  exact hK _ _ ⟨γ, hI, Left.refl _ _ _, by simp only [Rep]⟩
end Go.Aw
namespace Go.Aw
open Go
set_option linter.unusedVariables false
set_option linter.unusedSimpArgs false
set_option linter.unusedSectionVars false
variable {P : Program} {T : Tab} {fix : List Nat} {Q : Ex → St → Prop} {st : St}

@[go_sem] theorem nth_zero {α : Type} [Inhabited α] (x : α) (l : List α) : nth (x :: l) 0 = x := rfl
theorem awp_rdrawU {id : Nat} {ops : Array Oper} (hm : P.follows .mixedOrders = true) (un : List (Nat × Nat)) (hok : drawOk ops un = true) (G : List (Option Nat)) (hG : G = ops.toList.map (·.dst)) (h : ∀ K : St → Prop, (∀ st, Q .normal st → K st) → regD P T G un 0 [] ops.toList st K) : Awp P T fix (.region id ops true) Q st := by
  obtain ⟨c, ms, st', h1, h2, h3, h4⟩ := regD_run hG _ _ _ _ (h _ (fun _ h => h))
  exact awp_draw hm un hok h1 h2 (by simpa using h3) h4

section
variable {G : List (Option Nat)} {un : List (Nat × Nat)} {i : Nat} {acc : List (List Nat × List Nat)} {K : St → Prop} {l : List Oper} {env : List (Nat × AV)} {own : List (Nat × Own)} {nx nt : Nat} {op : Op} {ty : TypeId} {pos : String} {af : Array Edge} {g : Option (Nat × Bool)}
theorem dE (h : K st) (hu : unOk acc.reverse un := by simp [unOk, List.range'_succ] <;> omega) : regD P T G un i acc [] st K := ⟨hu, h⟩
theorem dP {d : Nat} {c : Prop} {r : AV} (h4 : regD P T G un (i + 1) (([], []) :: acc) l ⟨(d, r) :: env, own, nx, nt⟩ K)
    (h : stepL P T G op g ⟨env, own, nx, nt⟩ = some ⟨c, r, [], nx⟩ := by ((simp only [go_sem, ↓reduceIte, Nat.reduceAdd, Nat.reduceSub, Nat.reduceMul, Nat.reduceEqDiff, Nat.reduceLT, Nat.reduceLeDiff, Nat.reducePow, Nat.reduceBEq, reduceCtorEq, Int.toNat_zero]); ((try simp (disch := omega) only [wrap64, wrapU64, wrapU32, wrapU16, wrapU8, go_sem, Nat.reduceAdd]); rfl)))
    (hc : c := by first | trivial | omega | (simp; done) | (simp; omega) | (intro hg; simp only [hg, true_and, and_true]; first | done | trivial | omega | (simp; done) | (simp; omega)) | (intro hg; have hg2 := hg; simp at hg2; simp only [hg, true_and, and_true]; first | omega | (simp; omega)))
    (hd : decide (d < nt) = true := by rfl) (hn : needs un i = false := by rfl) : regD P T G un i acc (⟨some d, op, ty, pos, af, g⟩ :: l) ⟨env, own, nx, nt⟩ K := regD_p h hc hd hn h4
theorem dQ {d : Nat} {c : Prop} {r : AV} {ids : List Nat} (h4 : regD P T G un (i + 1) ((ids, []) :: acc) l ⟨(d, r) :: env, own, nx, nt⟩ K)
    (h : stepL P T G op g ⟨env, own, nx, nt⟩ = some ⟨c, r, [], nx⟩ := by ((simp only [go_sem, ↓reduceIte, Nat.reduceAdd, Nat.reduceSub, Nat.reduceMul, Nat.reduceEqDiff, Nat.reduceLT, Nat.reduceLeDiff, Nat.reducePow, Nat.reduceBEq, reduceCtorEq, Int.toNat_zero]); ((try simp (disch := omega) only [wrap64, wrapU64, wrapU32, wrapU16, wrapU8, go_sem, Nat.reduceAdd]); rfl)))
    (hids : idsL (rdS ⟨env, own, nx, nt⟩) op.operands.toList = ids := by (simp only [go_sem, ↓reduceIte, Nat.reduceEqDiff]; rfl))
    (hc : c := by first | trivial | omega | (simp; done) | (simp; omega) | (intro hg; simp only [hg, true_and, and_true]; first | done | trivial | omega | (simp; done) | (simp; omega)) | (intro hg; have hg2 := hg; simp at hg2; simp only [hg, true_and, and_true]; first | omega | (simp; omega)))
    (hd : decide (d < nt) = true := by rfl) (hn : needs un i = true := by rfl) : regD P T G un i acc (⟨some d, op, ty, pos, af, g⟩ :: l) ⟨env, own, nx, nt⟩ K := regD_q h hc hd hn ids hids h4
theorem dN {d : Nat} {c : Prop} {r : AV} {id : Nat} {o : Own} {nx' : Nat} {ids : List Nat} (h4 : regD P T G un (i + 1) ((ids, id :: List.range' nx (nx' - nx)) :: acc) l ⟨(d, r) :: env, (id, o) :: own, nx', nt⟩ K)
    (h : stepL P T G op g ⟨env, own, nx, nt⟩ = some ⟨c, r, [(id, o)], nx'⟩ := by ((simp only [go_sem, ↓reduceIte, Nat.reduceAdd, Nat.reduceSub, Nat.reduceMul, Nat.reduceEqDiff, Nat.reduceLT, Nat.reduceLeDiff, Nat.reducePow, Nat.reduceBEq, reduceCtorEq, Int.toNat_zero]); rfl))
    (hids : idsL (rdS ⟨env, own, nx, nt⟩) op.operands.toList = ids := by (simp only [go_sem, ↓reduceIte, Nat.reduceEqDiff]; rfl))
    (hc : c := by first | trivial | omega | (simp; done) | (simp; omega))
    (hf : own.all (fun q => decide (q.1 < nx)) = true := by simp)
    (hd : decide (d < nt) = true := by rfl) (hn : needs un i = true := by rfl) : regD P T G un i acc (⟨some d, op, ty, pos, af, g⟩ :: l) ⟨env, own, nx, nt⟩ K :=
  ⟨_, h, hc, by unfold freshOk; split; rfl; exact hf, by simpa [dstOk] using hd, by rw [hn]; simp only [if_true, hids]; exact h4⟩
theorem dM {d : Nat} {c : Prop} {r : AV} {id : Nat} {o : Own} {nx' : Nat} (h4 : regD P T G un (i + 1) (([], []) :: acc) l ⟨(d, r) :: env, (id, o) :: own, nx', nt⟩ K)
    (h : stepL P T G op g ⟨env, own, nx, nt⟩ = some ⟨c, r, [(id, o)], nx'⟩ := by ((simp only [go_sem, ↓reduceIte, Nat.reduceAdd, Nat.reduceSub, Nat.reduceMul, Nat.reduceEqDiff, Nat.reduceLT, Nat.reduceLeDiff, Nat.reducePow, Nat.reduceBEq, reduceCtorEq, Int.toNat_zero]); rfl))
    (hc : c := by first | trivial | omega | (simp; done) | (simp; omega))
    (hf : own.all (fun q => decide (q.1 < nx)) = true := by simp)
    (hd : decide (d < nt) = true := by rfl) (hn : needs un i = false := by rfl) : regD P T G un i acc (⟨some d, op, ty, pos, af, g⟩ :: l) ⟨env, own, nx, nt⟩ K :=
  ⟨_, h, hc, by unfold freshOk; split; rfl; exact hf, by simpa [dstOk] using hd, by rw [hn]; exact h4⟩
theorem dWn {c : Prop} {r : AV} {id : Nat} {o : Own} {ids : List Nat} (h4 : regD P T G un (i + 1) ((ids, [id]) :: acc) l ⟨env, (id, o) :: own, nx, nt⟩ K)
    (h : stepL P T G op g ⟨env, own, nx, nt⟩ = some ⟨c, r, [(id, o)], nx⟩ := by ((simp only [go_sem, ↓reduceIte, Nat.reduceAdd, Nat.reduceSub, Nat.reduceMul, Nat.reduceEqDiff, Nat.reduceLT, Nat.reduceLeDiff, Nat.reducePow, Nat.reduceBEq, reduceCtorEq, Int.toNat_zero]); rfl))
    (hids : idsL (rdS ⟨env, own, nx, nt⟩) op.operands.toList = ids := by (simp only [go_sem, ↓reduceIte, Nat.reduceEqDiff]; rfl))
    (hc : c := by first | trivial | omega | (simp; done) | (simp; omega))
    (hn : needs un i = true := by rfl) : regD P T G un i acc (⟨Option.none, op, ty, pos, af, g⟩ :: l) ⟨env, own, nx, nt⟩ K :=
  ⟨_, h, hc, by simp [freshOk], rfl, by rw [hn]; simp only [if_true, hids, Nat.sub_self, List.range'_zero, List.append_nil, List.map_cons, List.map_nil]; exact h4⟩
theorem dVn {c : Prop} {r : AV} {id : Nat} {o : Own} (h4 : regD P T G un (i + 1) (([], []) :: acc) l ⟨env, (id, o) :: own, nx, nt⟩ K)
    (h : stepL P T G op g ⟨env, own, nx, nt⟩ = some ⟨c, r, [(id, o)], nx⟩ := by ((simp only [go_sem, ↓reduceIte, Nat.reduceAdd, Nat.reduceSub, Nat.reduceMul, Nat.reduceEqDiff, Nat.reduceLT, Nat.reduceLeDiff, Nat.reducePow, Nat.reduceBEq, reduceCtorEq, Int.toNat_zero]); rfl))
    (hc : c := by first | trivial | omega | (simp; done) | (simp; omega))
    (hn : needs un i = false := by rfl) : regD P T G un i acc (⟨Option.none, op, ty, pos, af, g⟩ :: l) ⟨env, own, nx, nt⟩ K :=
  ⟨_, h, hc, by simp [freshOk], rfl, by rw [hn]; exact h4⟩
end
end Go.Aw
namespace Go.Aw
open Go Go.ChangeShapes Go.WideShapes Go.RowKit Go.Deep
set_option linter.unusedVariables false
set_option linter.unusedSimpArgs false
set_option linter.unusedSectionVars false

/-! ### a law's call -/
def okAll (w : World) : Ok := fun b o => b < w.heap.size
def frAll (w : World) : Fr := ⟨w.heap.size, fun _ _ => True, fun _ => False, w⟩
theorem okOf_all (w : World) (b o : Nat) : okOf (frAll w) noLocs w b o ↔ okAll w b o :=
  ⟨fun h => h.1, fun h => ⟨h, fun _ => trivial, fun i l hl => by cases hl⟩⟩

/-- What a call leaves of what was there. -/
structure Stays (w w' : World) : Prop where
  os : w'.os = w.os
  out : w'.output = w.output
  size : w.heap.size ≤ w'.heap.size
  heap : ∀ k, k < w.heap.size → w'.heap[k]? = w.heap[k]?

theorem calls_of_good {P : Program} {f : FuncId} {fn : Func} {c : Code} {C : Ctr} (hG : Good P f C) (hf : P.funcs[f]? = some fn) (hb : fn.body = some c) (hn : (fn.name == "runtime.NumGoroutine") = false)
    {as : List AV} {R : Res} (hrun : C.run 0 as [] = some R) (hc : R.c) (hup : R.up = []) {r : Value} (hr : R.r = .v r) {w : World} {vs : List Value} (hvs : RepL w (okAll w) as noLocs vs) :
    Calls P f vs.toArray w fun e w' => e = .returned r ∧ Stays w w' := by
  have hI : Inv (frAll w) noLocs (St0 [] 0) act0 w :=
    { os := rfl, tape := rfl, output := rfl, base := rfl, xvis := fun _ _ h => h.elim, size := Nat.le_refl _, keep := fun _ _ _ => rfl, defers := rfl, nt := rfl
      env := fun i x h => by simp [St0, look] at h
      own := fun i o h => by simp [St0, look] at h
      dom := fun i l h => by cases h
      blk := fun i l b h => by cases h
      dist := fun i i' l l' b h => by cases h }
  have hA : RepL w (okOf (frAll w) noLocs w) as noLocs vs := RepL_mono (fun b o h => (okOf_all w b o).2 h) (fun _ _ _ => rfl) _ (LocsLe.refl _) hvs
  have hcall : (callFunc f vs.toArray).run P w = .ok (.enter f vs.toArray) w := by
    unfold callFunc
    have hn' : (fn.name = "runtime.NumGoroutine") = False := by simpa using hn
    simp [hf, hn', hb]
  let o : Oper := ⟨some 0, .assign (.const (.bool true)), 0, "", #[], Option.none⟩
  let a : Act := { tmps := #[undef], defers := [] }
  have h := hG 0 as [] R hrun hc (frAll w) noLocs w vs rfl hI (by simp) hA o a (fun a' w' => a'.tmps.getD 0 undef = r ∧ Stays w w') (fun _ _ _ => False) (by
    intro v w' ⟨γ', h1, h2, h3⟩
    rw [hr] at h3
    simp only [Rep] at h3
    refine ⟨by simp [Act.put, a, o, h3], h1.os, h1.output, h1.size, fun k hk => h1.keep k hk (fun h => h)⟩)
  rw [hcall, Oper.upon_enter] at h
  refine h.mono ?_
  intro e w' he
  cases e with
  | returned v =>
    obtain ⟨h1, h2⟩ := he
    simp [Act.put, a, o] at h1
    exact ⟨by rw [h1], h2⟩
  | panicked ch => exact he.elim
  | outgrown => (obtain ⟨_, _, h⟩ := he; exact h.elim)

/-! ### behind a law -/
section post
variable {H : Type} {enc : TypeId × Value → H} {P : Program}
theorem trodAll_stays (hl : laidOutB P = true) {W W' : World} (hst : Stays W W') {sp' : Nat → Bool} : ∀ {ts : List TypeId} {vs : List Value} {ds : List (DataW H)} {ps : List MemPlace},
    (∀ t ∈ ts, P.readableRec t = true ∧ t < P.types.size) → DataW.TrodAll enc P W 0 (fun _ => true) true ts vs ds ps → (∀ p ∈ ps, p.block < W.heap.size) → (∀ p ∈ ps, sp' p.block = true) → DataW.TrodAll enc P W' 0 sp' true ts vs ds ps
  | [], vs, ds, ps, hr, h, hlt, hs => by
    obtain ⟨rfl, rfl, rfl⟩ := trodAll_nil h
    simp [DataW.TrodAll]
  | t :: ts, vs, ds, ps, hr, h, hlt, hs => by
    obtain ⟨v, vs', d, ds', p, q, rfl, rfl, rfl, h1, h2⟩ := trodAll_cons h
    refine ⟨p, q, ?_, trodAll_stays hl hst (fun t ht => hr t (by simp [ht])) h2 (fun x hx => hlt x (by simp [hx])) (fun x hx => hs x (by simp [hx])), rfl⟩
    obtain ⟨r1, r2⟩ := hr t (by simp)
    refine Go.WideElems.Trod_stays hl r1 r2 h1 (fun x hx => ?_) (fun x hx => hs x (by simp [hx]))
    have hb := hlt x (by simp [hx])
    have hh := hst.heap _ hb
    cases x with
    | cell b off => exact cell_eq_of_heap hh
    | map b => exact hh

theorem law_post {fn : Func} {s : ChangeSpec} {apart fresh handsOn again : Bool} {W W' : World} {args : Array Value} {ds gs : List (DataW H)} {before : List MemPlace} {tb : TypeId}
    (hW : DataW.Whole enc P fn.params.toList s.vars apart W args.toList ds gs before) (hl : laidOutB P = true) (hr : ∀ t ∈ fn.params.toList, P.readableRec t = true ∧ t < P.types.size)
    (hv : s.vars = []) (hS : s.fn H (ds ++ gs) = { results := [.lit (.bool true)], args := ds }) (hrt : fn.resultTypes = #[tb]) (htb : P.underlying tb = some .bool) (hst : Stays W W') :
    s.post enc P fn apart fresh handsOn again W args (.bool true) W' := by
  have hlt := hW.lt
  have hfz : ∀ b off, b < W.heap.size → W'.frozen? ⟨b, off, none⟩ = W.frozen? ⟨b, off, none⟩ := fun b off hb => by simp [World.frozen?, hst.heap b hb]
  have hW0 := hW
  obtain ⟨p, q, hA, hV, rfl, hz, hn⟩ := hW
  rw [hv] at hV
  obtain ⟨rfl, rfl⟩ := trodVars_none hV
  simp only [List.append_nil] at hlt hz hn hW0 hS
  have hres : ∀ (b : Nat) (sp : Nat → Bool) (hd : Bool), DataW.TrodAll enc P W' b sp hd fn.resultTypes.toList ((Value.bool true).resultList fn.resultTypes.size) (s.fn H ds).results [] := by
    intro b sp hd
    rw [hS, hrt]
    exact trodAll_mk1 (shut_bool htb true)
  have hargs : ∀ sp : Nat → Bool, (∀ x ∈ p, sp x.block = true) → DataW.TrodAll enc P W' 0 sp true fn.params.toList args.toList (s.fn H ds).args p := by
    intro sp hsp
    rw [hS]
    exact trodAll_stays hl hst hr hA hlt hsp
  have hvars : ∀ sp : Nat → Bool, DataW.TrodVars enc P W' sp s.vars (s.fn H ds).vars [] := by
    intro sp
    rw [hv, hS]
    simp [DataW.TrodVars]
  have hkeep : ∀ may : MemPlace → Prop, W.keptBut W' may := by
    intro may
    refine ⟨hst.os, hst.out, fun i hi => ?_⟩
    rw [hst.heap i hi]
    cases hh : W.heap[i]? with
    | none => simp
    | some o =>
      cases o with
      | cells c t fr => exact ⟨rfl, rfl, rfl, fun _ _ => rfl⟩
      | map es clock => exact .inr ⟨rfl, rfl⟩
      | _ => trivial
  refine ⟨ds, [], p, [], p, [], hW0, by simpa using hres _ _ _, by simpa using hargs _ (fun x hx => by simpa using hlt x hx), by simpa using hvars _, hkeep _, fun _ => ?_⟩
  refine ⟨?_, _, _, ([] ++ p) ++ [], ⟨[] ++ p, [], trodAll_append (by simpa using hargs _ (fun _ _ => rfl)) (by simpa using hres _ _ _), by simpa using hvars _, rfl, ?_, ?_⟩, ?_⟩
  · exact ok_one hrt rfl (okWide_bool_mk htb true)
  · intro b off hp
    have hp' : MemPlace.cell b off ∈ p := by simpa using hp
    rw [hfz b off (hlt _ hp')]
    exact hz b off hp'
  · intro ha
    simpa using hn ha
  · intro x hx _
    simpa using hx
end post

/-! ### arguments read -/
/-- What cells of a type say. -/
def Rd (P : Program) (t : TypeId) {α : Type} (c : α → List AV) (R : α → Prop) : Prop :=
  ∀ {H : Type} {enc : TypeId × Value → H} {w : World} {base : Nat} {sp : Nat → Bool} {held : Bool} {fuel : Nat} {cs : List Value} {x : DataW H × List MemPlace},
    DataW.trod enc P w base sp held fuel t cs = some x → ∃ a : α, R a ∧ RepL w (okAll w) (c a) noLocs cs ∧ (∀ u ∈ cs, u.oneCell' = true) ∧ cs.length = (c a).length
/-- What a value of a type says. -/
def RdV (P : Program) (t : TypeId) {α : Type} (e : α → AV) (R : α → Prop) : Prop :=
  ∀ {H : Type} {enc : TypeId × Value → H} {w : World} {base b0 : Nat} {sp : Nat → Bool} {held : Bool} {r : Reach} {v : Value} {d : DataW H} {ps : List MemPlace},
    Value.okWide P w r b0 t v → DataW.Trod enc P w base sp held t v d ps → ∃ a : α, R a ∧ Rep w (okAll w) (e a) noLocs v

section rd
variable {P : Program} {t e : TypeId}
theorem Rd.map {α β : Type} {c : α → List AV} {R : α → Prop} {c' : β → List AV} {R' : β → Prop} (h : Rd P t c R) (g : α → β) (hc : ∀ a, c' (g a) = c a) (hR : ∀ a, R a → R' (g a)) : Rd P t c' R' := by
  intro H enc w base sp held fuel cs x hx
  obtain ⟨a, h1, h2, h3, h4⟩ := h hx
  exact ⟨g a, hR a h1, by rw [hc]; exact h2, h3, by rw [hc]; exact h4⟩
theorem RdV.map {α β : Type} {c : α → AV} {R : α → Prop} {c' : β → AV} {R' : β → Prop} (h : RdV P t c R) (g : α → β) (hc : ∀ a, c' (g a) = c a) (hR : ∀ a, R a → R' (g a)) : RdV P t c' R' := by
  intro H enc w base b0 sp held r v d ps hv hx
  obtain ⟨a, h1, h2⟩ := h hv hx
  exact ⟨g a, hR a h1, by rw [hc]; exact h2⟩
theorem rd_int {k : IntKind} (ht : P.underlying t = some (.int k)) : Rd P t (fun n : Int => [.v (.int k n)]) (fun n => (Lit.int k n).wf = true) := by
  intro H enc w base sp held fuel cs x hx
  obtain ⟨n, rfl, _, hw⟩ := DataW.trod_int ht hx
  exact ⟨n, hw, by simp [RepL, Rep], by simp [Value.oneCell'], rfl⟩
theorem rd_bool (ht : P.underlying t = some .bool) : Rd P t (fun b : Bool => [.v (.bool b)]) (fun _ => True) := by
  intro H enc w base sp held fuel cs x hx
  obtain ⟨n, rfl, _⟩ := DataW.trod_bool ht hx
  exact ⟨n, trivial, by simp [RepL, Rep], by simp [Value.oneCell'], rfl⟩
theorem rd_str (ht : P.underlying t = some .string) : Rd P t (fun b : List UInt8 => [.str b]) (fun l => l.length ≤ maxLen) := by
  intro H enc w base sp held fuel cs x hx
  obtain ⟨s, rfl, _, hs⟩ := DataW.trod_string ht hx
  exact ⟨s.data.toList, by show s.data.toList.length ≤ maxLen; rw [Array.length_toList]; exact hs, by simp [RepL, Rep], by simp [Value.oneCell'], rfl⟩
theorem rdv_int {k : IntKind} (ht : P.underlying t = some (.int k)) : RdV P t (fun n : Int => .v (.int k n)) (fun n => (Lit.int k n).wf = true) := by
  intro H enc w base b0 sp held r v d ps hv hx
  obtain ⟨n, rfl⟩ := okWide_int ht hv
  obtain ⟨fuel, hx⟩ := hx
  obtain ⟨m, h1, h2, h3, _⟩ := rd_int ht hx
  simp [Value.cells, RepL, Rep] at h2
  obtain ⟨_, rfl⟩ := h2
  exact ⟨_, h1, by simp [Rep]⟩
theorem rdv_bool (ht : P.underlying t = some .bool) : RdV P t (fun b : Bool => .v (.bool b)) (fun _ => True) := by
  intro H enc w base b0 sp held r v d ps hv hx
  obtain ⟨n, rfl, _⟩ := open_bool ht hv hx
  exact ⟨n, trivial, by simp [Rep]⟩
theorem rdv_str (ht : P.underlying t = some .string) : RdV P t (fun b : List UInt8 => .str b) (fun l => l.length ≤ maxLen) := by
  intro H enc w base b0 sp held r v d ps hv hx
  obtain ⟨s, rfl⟩ := okWide_string ht hv
  obtain ⟨fuel, hx⟩ := hx
  obtain ⟨s', hs', _, hs⟩ := DataW.trod_string ht hx
  simp [Value.cells] at hs'
  subst hs'
  exact ⟨s.data.toList, by show s.data.toList.length ≤ maxLen; rw [Array.length_toList]; exact hs, by simp [Rep]⟩

theorem RepEs_snoc {w : World} {ok : Ok} {b n : Nat} : ∀ {xs : List (List AV)} {cs : List AV} {o : Nat}, (∀ c ∈ xs, c.length = n) → RepEs w ok b o xs → RepC w ok b (o + xs.length * n) cs → RepEs w ok b o (xs ++ [cs])
  | [], cs, o, _, _, h => by simpa [RepEs] using h
  | x :: xs, cs, o, hn, h, h2 => by
    simp only [RepEs, List.cons_append] at h ⊢
    have hx := hn x (by simp)
    refine ⟨h.1, RepEs_snoc (fun c hc => hn c (by simp [hc])) h.2 ?_⟩
    rw [List.length_cons, Nat.add_mul, Nat.one_mul] at h2
    rw [hx, show o + n + xs.length * n = o + (xs.length * n + n) by omega]
    exact h2

/-- A slice's elements. -/
theorem rd_elems {α : Type} {c : α → List AV} {R : α → Prop} {n : Nat} (hc : P.cellsOf e = n) (he : Rd P e c R) (hn : ∀ a, (c a).length = n) {H : Type} {enc : TypeId × Value → H} {w : World} {base : Nat} {sp : Nat → Bool} {held : Bool} {fuel len : Nat} {b o : Nat} {D : Nat → DataW H × List MemPlace}
    (hD : ∀ i, i < len → ∃ cs', w.cells? base ((⟨b, o, Option.none⟩ : Addr).add (i * P.cellsOf e)) (P.cellsOf e) = some cs' ∧ DataW.trod enc P w base sp held fuel e cs' = some (D i)) :
    ∀ k, k ≤ len → ∃ l : List α, l.length = k ∧ (∀ a ∈ l, R a) ∧ RepEs w (okAll w) b o (l.map c)
  | 0, _ => ⟨[], rfl, by simp, by simp [RepEs]⟩
  | k + 1, hk => by
    obtain ⟨l, h1, h2, h3⟩ := rd_elems hc he hn hD k (by omega)
    obtain ⟨cs', g1, g2⟩ := hD k (by omega)
    obtain ⟨a, a1, a2, a3, a4⟩ := he g2
    obtain ⟨_, hlen, hcell⟩ := World.cells?_some g1
    refine ⟨l ++ [a], by simp [h1], fun x hx => ?_, ?_⟩
    · rcases List.mem_append.1 hx with hx | hx
      · exact h2 x hx
      · simp at hx; subst hx; exact a1
    · rw [List.map_append]
      have hcells : ∀ j, j < cs'.length → w.cell? ⟨b, o + k * n + j, Option.none⟩ = cs'[j]? := by
        intro j hj
        have := hcell j (by omega)
        rw [add_none, add_none, hc] at this
        exact this
      refine RepEs_snoc (n := n) (fun x hx => by obtain ⟨y, _, rfl⟩ := List.mem_map.1 hx; exact hn y) h3 ?_
      rw [List.length_map, h1]
      refine RepC_of_cells a2 a3 (fun j u hj => ?_) (fun j hj => ?_)
      · rw [hcells j (List.getElem?_eq_some_iff.1 hj).1]; exact hj
      · have := hcells j hj
        rw [List.getElem?_eq_getElem hj] at this
        unfold World.cell? at this
        split at this
        · rename_i hh
          exact (Array.getElem?_eq_some_iff.1 hh).1
        · cases this

/-- A slice as an argument. -/
theorem rdv_slice {α : Type} {c : α → List AV} {R : α → Prop} {n : Nat} (ht : P.underlying t = some (.slice e)) (hc : P.cellsOf e = n) (he : Rd P e c R) (hn : ∀ a, (c a).length = n) :
    RdV P t (fun l : List α => .sl (l.map c) .none) (fun l => (∀ a ∈ l, R a) ∧ l.length ≤ maxLen) := by
  intro H enc w base b0 sp held r v d ps hv hx
  obtain ⟨a, len, cap, rfl⟩ := okWide_slice ht hv
  have hspot : ∀ ad, a = some ad → ad.spot = Option.none := by
    intro ad ha
    subst ha
    simp only [Value.okWide, ht, Cell.okWide, Cell.ok, World.has] at hv
    exact hv.2.2.2.1
  obtain ⟨fuel, hx⟩ := hx
  rcases open_slice ht hx with ⟨h1, _⟩ | ⟨ad, len', cap', m, n', D, Pl, h1, h2, h3, h4, h5, _, h6⟩
  · simp [Value.cells] at h1
    obtain ⟨rfl, rfl, rfl⟩ := h1
    exact ⟨[], ⟨by simp, by simp⟩, by simp only [Rep]; exact ⟨Option.none, 0, rfl, Nat.le_refl _, Nat.zero_le _, trivial, rfl⟩⟩
  · simp [Value.cells] at h1
    obtain ⟨rfl, rfl, rfl⟩ := h1
    have hs := hspot ad rfl
    obtain ⟨b, o, s⟩ := ad
    simp only at hs
    subst hs
    obtain ⟨l, g1, g2, g3⟩ := rd_elems (D := fun i => (D i, Pl i)) hc he hn (fun i hi => h6 i (by rw [h5]; split <;> omega)) len (Nat.le_refl _)
    refine ⟨l, ⟨g2, by omega⟩, ?_⟩
    simp only [Rep]
    exact ⟨some ⟨b, o, Option.none⟩, cap, by rw [List.length_map, g1], by rw [List.length_map]; omega, h4, trivial, rfl, g3⟩

/-- Fields from a place on. -/
def RdF (P : Program) (fs : List Field) (o : Nat) {α : Type} (c : α → List AV) (R : α → Prop) : Prop :=
  ∀ {H : Type} {enc : TypeId × Value → H} {w : World} {base : Nat} {sp : Nat → Bool} {held : Bool} {fuel : Nat} {cs : List Value},
    (∀ f ∈ fs, ∃ y, DataW.trod enc P w base sp held fuel f.type ((cs.drop f.offset).take (P.cellsOf f.type)) = some y) → cs.length = o + (fs.map fun f => P.cellsOf f.type).sum →
    ∃ a : α, R a ∧ RepL w (okAll w) (c a) noLocs (cs.drop o) ∧ (∀ u ∈ cs.drop o, u.oneCell' = true)
theorem rdf_nil {o : Nat} : RdF P [] o (fun _ : Unit => []) (fun _ => True) := by
  intro H enc w base sp held fuel cs _ hl
  have : cs.drop o = [] := List.drop_eq_nil_of_le (by simp at hl; omega)
  exact ⟨(), trivial, by rw [this]; simp [RepL], by rw [this]; simp⟩
theorem rdf_cons {α β : Type} {c : α → List AV} {R : α → Prop} {c' : β → List AV} {R' : β → Prop} {f : Field} {fs : List Field} {o : Nat} (ho : f.offset = o) {k : Nat} (hk : P.cellsOf f.type = k) (h1 : Rd P f.type c R) (h2 : RdF P fs (o + k) c' R') :
    RdF P (f :: fs) o (fun p : α × β => c p.1 ++ c' p.2) (fun p => R p.1 ∧ R' p.2) := by
  intro H enc w base sp held fuel cs hf hl
  simp only [List.map_cons, List.sum_cons] at hl
  obtain ⟨y, hy⟩ := hf f (by simp)
  obtain ⟨a, a1, a2, a3, a4⟩ := h1 hy
  obtain ⟨b, b1, b2, b3⟩ := h2 (cs := cs) (fun g hg => hf g (by simp [hg])) (by omega)
  have hsplit : cs.drop o = (cs.drop o).take k ++ cs.drop (o + k) := by
    rw [← List.drop_drop]; exact (List.take_append_drop _ _).symm
  rw [ho, hk] at a2 a3
  refine ⟨(a, b), ⟨a1, b1⟩, ?_, ?_⟩
  · rw [hsplit]; exact RepL_append a2 b2
  · intro u hu
    rw [hsplit] at hu
    rcases List.mem_append.1 hu with h | h
    · exact a3 u h
    · exact b3 u h
theorem rd_struct {α : Type} {c : α → List AV} {R : α → Prop} {fs : Array Field} (ht : P.underlying t = some (.struct fs)) (hsum : (fs.toList.map fun f => P.cellsOf f.type).sum = P.cellsOf t) (h : RdF P fs.toList 0 c R) : Rd P t c R := by
  intro H enc w base sp held fuel cs x hx
  obtain ⟨xs, n, _, _, hlen, hxl, hf⟩ := DataW.trod_struct ht hx
  obtain ⟨a, h1, h2, h3⟩ := h (enc := enc) (w := w) (base := base) (sp := sp) (held := held) (fuel := n) (cs := cs) (fun f hf' => by
    obtain ⟨i, hi, rfl⟩ := List.mem_iff_getElem.1 hf'
    have hi' : i < fs.size := by simpa using hi
    have := hf i fs[i] (Array.getElem?_eq_getElem hi')
    rw [List.getElem?_eq_getElem (by omega)] at this
    exact ⟨_, by simpa using this⟩) (by rw [hsum]; omega)
  exact ⟨a, h1, by simpa using h2, by simpa using h3, by have := RepL_length _ h2; simpa using this⟩
theorem rdv_struct {α : Type} {c : α → List AV} {R : α → Prop} {fs : Array Field} (ht : P.underlying t = some (.struct fs)) (h : Rd P t c R) : RdV P t (fun a => .agg (c a)) R := by
  intro H enc w base b0 sp held r v d ps hv hx
  obtain ⟨cs, rfl, _⟩ := okWide_struct ht hv
  obtain ⟨fuel, hx⟩ := hx
  obtain ⟨a, h1, h2, h3, _⟩ := h hx
  exact ⟨a, h1, by simp only [Rep]; exact ⟨cs, rfl, by simpa [Value.cells] using h2, by simpa [Value.cells] using h3⟩⟩

/-- Arguments one by one. -/
def RdAs (P : Program) (ts : List TypeId) {α : Type} (e : α → List AV) (R : α → Prop) : Prop :=
  ∀ {H : Type} {enc : TypeId × Value → H} {w : World} {base b0 : Nat} {sp : Nat → Bool} {held : Bool} {r : Reach} {vs : List Value} {ds : List (DataW H)} {ps : List MemPlace},
    (∀ (j : Nat) t v, ts[j]? = some t → vs[j]? = some v → Value.okWide P w r b0 t v) → DataW.TrodAll enc P w base sp held ts vs ds ps → ds.length = ts.length ∧ ∃ a : α, R a ∧ RepL w (okAll w) (e a) noLocs vs
theorem rdas_nil : RdAs P [] (fun _ : Unit => []) (fun _ => True) := by
  intro H enc w base b0 sp held r vs ds ps _ h
  obtain ⟨rfl, rfl, rfl⟩ := trodAll_nil h
  exact ⟨rfl, (), trivial, by simp [RepL]⟩
theorem rdas_cons {α β : Type} {e1 : α → AV} {R : α → Prop} {e' : β → List AV} {R' : β → Prop} {ts : List TypeId} (h1 : RdV P t e1 R) (h2 : RdAs P ts e' R') : RdAs P (t :: ts) (fun p : α × β => e1 p.1 :: e' p.2) (fun p => R p.1 ∧ R' p.2) := by
  intro H enc w base b0 sp held r vs ds ps hv h
  obtain ⟨v, vs', d, ds', p, q, rfl, rfl, rfl, g1, g2⟩ := trodAll_cons h
  obtain ⟨a, a1, a2⟩ := h1 (hv 0 t v rfl rfl) g1
  obtain ⟨hl, b, b1, b2⟩ := h2 (fun j t' v' hj hj' => hv (j + 1) t' v' (by simpa using hj) (by simpa using hj')) g2
  exact ⟨by simp [hl], (a, b), ⟨a1, b1⟩, by simp only [RepL]; exact ⟨v, vs', rfl, a2, b2⟩⟩
end rd

/-- A law's contract. -/
theorem law_calls {H : Type} {enc : TypeId × Value → H} {P : Program} {f : FuncId} {fn : Func} {c : Code} {C : Ctr} {s : ChangeSpec} {apart fresh handsOn again : Bool} {tb : TypeId} {α : Type} {e : α → List AV} {R : α → Prop}
    (hG : Good P f C) (hf : P.funcs[f]? = some fn) (hb : fn.body = some c) (hn : (fn.name == "runtime.NumGoroutine") = false) (hl : laidOutB P = true) (hr : ∀ t ∈ fn.params.toList, P.readableRec t = true ∧ t < P.types.size)
    (hv : s.vars = []) (hS : ∀ ds : List (DataW H), ds.length = fn.params.size → s.fn H ds = { results := [.lit (.bool true)], args := ds }) (hrt : fn.resultTypes = #[tb]) (htb : P.underlying tb = some .bool)
    (hA : RdAs P fn.params.toList e R) (hC : ∀ a, R a → ∃ Q, C.run 0 (e a) [] = some Q ∧ Q.c ∧ Q.up = [] ∧ Q.r = .v (.bool true))
    {W : World} {base : Nat} {args : Array Value} {ds gs : List (DataW H)} {before : List MemPlace} (hval : ∀ (j : Nat) t v, fn.params[j]? = some t → args[j]? = some v → Value.okWide P W .any base t v)
    (hW : DataW.Whole enc P fn.params.toList s.vars apart W args.toList ds gs before) : Calls P f args W fun e W' => ∃ v, e = .returned v ∧ s.post enc P fn apart fresh handsOn again W args v W' := by
  have hW0 := hW
  obtain ⟨p, q, h1, h2, rfl, _, _⟩ := hW
  rw [hv] at h2
  obtain ⟨rfl, rfl⟩ := trodVars_none h2
  obtain ⟨hlen, a, a1, a2⟩ := hA (vs := args.toList) (fun j t v hj hv' => hval j t v (by simpa using hj) (by simpa using hv')) h1
  obtain ⟨Q, c1, c2, c3, c4⟩ := hC a a1
  have hcall := calls_of_good hG hf hb hn c1 c2 c3 c4 a2
  refine Calls.mono (by simpa using hcall) ?_
  rintro e' W' ⟨rfl, hst⟩
  exact ⟨_, rfl, law_post hW0 hl hr hv (by rw [List.append_nil]; exact hS ds (by simpa using hlen)) hrt htb hst⟩
end Go.Aw