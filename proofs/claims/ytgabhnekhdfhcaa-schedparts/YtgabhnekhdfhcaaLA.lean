import Derived.Laws.AppendOwn
import Derived.OrdersHeld
import Derived.Tactics
import Derived.KernelRfl
import Derived.WalkKit
namespace Go.Aw
open Go
set_option linter.unusedVariables false
set_option linter.unusedSectionVars false

/-- Whether the room behind a slice's end is known: nothing is known; there is none; it is owned under a number. -/
inductive Spare where
  | none
  | tight
  | own (id : Nat)

/-- Abstract values. -/
inductive AV where
  | v (x : Value)
  | str (l : List UInt8)
  | sl (xs : List (List AV)) (sp : Spare)
  | agg (cs : List AV)
  | tup (cs : List AV)
  | ref (cs : List AV)
  | ifc (t : TypeId) (x : AV)
  | fn (f : FuncId) (first caps : List AV)
  | op (id i off : Nat)
  | os (id off len : Nat) (cp : Option Nat)
  | om (id : Nat)
  | cond (g : Bool) (x : AV)
  | ub
  | junk

/-- What is owned: cells that may be written, the room behind a slice's end, a map. -/
inductive Own where
  | arr (esz : Nat) (xs : List (List AV))
  | spare (esz n : Nat)
  | map (kvs : List (Value × AV))
  | dead

inductive Loc where
  | arr (b esz n : Nat)
  | map (b : Nat)
  | spare (esz n b u s : Nat)
  | full (esz n : Nat)
  | dead (b esz n : Nat)

/-- Where written cells are, or were. -/
def Loc.at : Option Loc → Option (Nat × Nat × Nat)
  | some (.arr b e n) => some (b, e, n)
  | some (.dead b e n) => some (b, e, n)
  | _ => Option.none

def Loc.block : Loc → Option Nat
  | .arr b _ _ => some b
  | .map b => some b
  | .spare _ _ b _ _ => some b
  | .full _ _ => Option.none
  | .dead _ _ _ => Option.none

abbrev Locs := Nat → Option Loc
def noLocs : Locs := fun _ => Option.none

def spareOk (γ : Locs) (sp : Spare) (base : Option Addr) (len cap : Nat) : Prop :=
  match sp with
  | .none => True
  | .tight => cap = len
  | .own id =>
    match γ id with
    | some (.spare esz n b u s) => len ≤ n ∧ (len = n → cap = len ∨ ∃ o, base = some ⟨b, o, Option.none⟩ ∧ o + n * esz = u ∧ o + cap * esz ≤ s)
    | some (.full _ n) => len ≤ n ∧ (len = n → cap = len)
    | _ => False

abbrev Ok := Nat → Nat → Prop

mutual
def Rep (w : World) (ok : Ok) : AV → Locs → Value → Prop
  | .v x, _, u => u = x
  | .str l, _, u => u = .string ⟨l.toArray⟩
  | .sl xs sp, γ, u => ∃ base cap, u = .slice base xs.length cap ∧ xs.length ≤ cap ∧ cap ≤ maxLen ∧ spareOk γ sp base xs.length cap ∧
      match base with
      | Option.none => cap = 0
      | some a => a.spot = Option.none ∧ RepEs w ok a.block a.off xs
  | .agg cs, γ, u => ∃ vs, u = .agg vs ∧ RepL w ok cs γ vs.toList ∧ ∀ y ∈ vs.toList, y.oneCell' = true
  | .tup cs, γ, u => ∃ vs, u = .tuple vs ∧ RepL w ok cs γ vs.toList
  | .ref cs, _, u => ∃ b o, u = .pointer (some ⟨b, o, Option.none⟩) ∧ RepC w ok b o cs
  | .ifc t x, γ, u => ∃ y, u = .iface t y ∧ Rep w ok x γ y
  | .fn f first caps, γ, u => ∃ fs cs, u = .func (.func f) fs cs ∧ RepL w ok first γ fs.toList ∧ RepL w ok caps γ cs.toList
  | .op id i off, γ, u => ∃ b esz n, Loc.at (γ id) = some (b, esz, n) ∧ u = .pointer (some ⟨b, i * esz + off, Option.none⟩)
  | .os id off len cp, γ, u => ∃ b esz n cap o, Loc.at (γ id) = some (b, esz, n) ∧ u = .slice (some ⟨b, o, Option.none⟩) len cap ∧ (cap = 0 ∨ o = off * esz) ∧ len ≤ cap ∧ off + cap ≤ n ∧ cap ≤ maxLen ∧ ∀ c, cp = some c → cap = c
  | .om id, γ, u => ∃ b, γ id = some (.map b) ∧ u = .map (some b)
  | .cond g x, γ, u => (g = true → Rep w ok x γ u) ∧ (g = false → u = undef)
  | .ub, _, u => ∃ b, u = .bool b
  | .junk, _, _ => True
/-- Values one by one. -/
def RepL (w : World) (ok : Ok) : List AV → Locs → List Value → Prop
  | [], _, us => us = []
  | x :: xs, γ, us => ∃ u r, us = u :: r ∧ Rep w ok x γ u ∧ RepL w ok xs γ r
/-- Cells that stay, from a place on. -/
def RepC (w : World) (ok : Ok) (b o : Nat) : List AV → Prop
  | [] => True
  | x :: xs => (ok b o ∧ ∃ u, w.cell? ⟨b, o, Option.none⟩ = some u ∧ u.oneCell' = true ∧ Rep w ok x noLocs u) ∧ RepC w ok b (o + 1) xs
/-- Elements that stay, from a place on. -/
def RepEs (w : World) (ok : Ok) (b o : Nat) : List (List AV) → Prop
  | [] => True
  | cs :: r => RepC w ok b o cs ∧ RepEs w ok b (o + cs.length) r
end

inductive Loc.le : Loc → Loc → Prop
  | refl (l : Loc) : Loc.le l l
  | ss {e n b u s e' n' b' u' s' : Nat} (h : n < n') : Loc.le (.spare e n b u s) (.spare e' n' b' u' s')
  | fs {e n e' n' b' u' s' : Nat} (h : n < n') : Loc.le (.full e n) (.spare e' n' b' u' s')
  | die {b e n : Nat} : Loc.le (.arr b e n) (.dead b e n)

def LocsLe (γ γ' : Locs) : Prop := ∀ id l, γ id = some l → ∃ l', γ' id = some l' ∧ Loc.le l l'
theorem LocsLe.refl (γ : Locs) : LocsLe γ γ := fun _ l h => ⟨l, h, .refl l⟩
theorem LocsLe.none (γ : Locs) : LocsLe noLocs γ := fun _ _ h => by simp [noLocs] at h

theorem at_mono {γ γ' : Locs} (h : LocsLe γ γ') {id : Nat} {x : Nat × Nat × Nat} (hx : Loc.at (γ id) = some x) : Loc.at (γ' id) = some x := by
  cases hg : γ id with
  | none => rw [hg] at hx; cases hx
  | some l =>
    obtain ⟨l', hl', hle⟩ := h id l hg
    rw [hl']
    rw [hg] at hx
    cases hle with
    | refl => exact hx
    | ss _ => cases hx
    | fs _ => cases hx
    | die => exact hx

theorem spareOk_mono {γ γ' : Locs} (h : LocsLe γ γ') {sp : Spare} {base : Option Addr} {len cap : Nat} (hs : spareOk γ sp base len cap) : spareOk γ' sp base len cap := by
  cases sp with
  | none => trivial
  | tight => exact hs
  | own id =>
    unfold spareOk at hs ⊢
    cases hg : γ id with
    | none => simp [hg] at hs
    | some l =>
      obtain ⟨l', hl', hle⟩ := h id l hg
      simp only [hg] at hs
      simp only [hl']
      cases hle with
      | refl => exact hs
      | ss hlt => simp only at hs ⊢; exact ⟨by omega, fun e => by omega⟩
      | fs hlt => simp only at hs ⊢; exact ⟨by omega, fun e => by omega⟩
      | die => exact hs.elim

section mono
variable {w w' : World} {ok ok' : Ok} (hok : ∀ b o, ok b o → ok' b o) (hc : ∀ b o, ok b o → w'.cell? ⟨b, o, Option.none⟩ = w.cell? ⟨b, o, Option.none⟩)
include hok hc
mutual
theorem Rep_mono : ∀ (x : AV) {γ γ' : Locs} (hγ : LocsLe γ γ') {u : Value}, Rep w ok x γ u → Rep w' ok' x γ' u
  | .v x, γ, γ', hγ, u, h => h
  | .str l, γ, γ', hγ, u, h => h
  | .sl xs sp, γ, γ', hγ, u, h => by
    simp only [Rep] at h ⊢
    obtain ⟨base, cap, rfl, h1, h2, h3, h4⟩ := h
    refine ⟨base, cap, rfl, h1, h2, spareOk_mono hγ h3, ?_⟩
    cases base with
    | none => exact h4
    | some a => exact ⟨h4.1, RepEs_mono xs h4.2⟩
  | .agg cs, γ, γ', hγ, u, h => by
    simp only [Rep] at h ⊢
    obtain ⟨vs, rfl, h1, h2⟩ := h
    exact ⟨vs, rfl, RepL_mono cs hγ h1, h2⟩
  | .tup cs, γ, γ', hγ, u, h => by
    simp only [Rep] at h ⊢
    obtain ⟨vs, rfl, h1⟩ := h
    exact ⟨vs, rfl, RepL_mono cs hγ h1⟩
  | .ref cs, γ, γ', hγ, u, h => by
    simp only [Rep] at h ⊢
    obtain ⟨b, o, rfl, h1⟩ := h
    exact ⟨b, o, rfl, RepC_mono cs h1⟩
  | .ifc t x, γ, γ', hγ, u, h => by
    simp only [Rep] at h ⊢
    obtain ⟨y, rfl, h1⟩ := h
    exact ⟨y, rfl, Rep_mono x hγ h1⟩
  | .fn f first caps, γ, γ', hγ, u, h => by
    simp only [Rep] at h ⊢
    obtain ⟨fs, cs, rfl, h1, h2⟩ := h
    exact ⟨fs, cs, rfl, RepL_mono first hγ h1, RepL_mono caps hγ h2⟩
  | .op id i off, γ, γ', hγ, u, h => by
    simp only [Rep] at h ⊢
    obtain ⟨b, esz, n, h1, rfl⟩ := h
    exact ⟨b, esz, n, at_mono hγ h1, rfl⟩
  | .os id off len cp, γ, γ', hγ, u, h => by
    simp only [Rep] at h ⊢
    obtain ⟨b, esz, n, cap, o, h1, rfl, h2⟩ := h
    exact ⟨b, esz, n, cap, o, at_mono hγ h1, rfl, h2⟩
  | .om id, γ, γ', hγ, u, h => by
    simp only [Rep] at h ⊢
    obtain ⟨b, h1, rfl⟩ := h
    obtain ⟨l', hl', hle⟩ := hγ id _ h1
    cases hle
    exact ⟨b, hl', rfl⟩
  | .cond g x, γ, γ', hγ, u, h => by
    simp only [Rep] at h ⊢
    exact ⟨fun e => Rep_mono x hγ (h.1 e), h.2⟩
  | .ub, _, _, _, _, h => h
  | .junk, _, _, _, _, _ => by simp only [Rep]
theorem RepL_mono : ∀ (xs : List AV) {γ γ' : Locs} (hγ : LocsLe γ γ') {us : List Value}, RepL w ok xs γ us → RepL w' ok' xs γ' us
  | [], γ, γ', hγ, us, h => h
  | x :: xs, γ, γ', hγ, us, h => by
    simp only [RepL] at h ⊢
    obtain ⟨u, r, rfl, h1, h2⟩ := h
    exact ⟨u, r, rfl, Rep_mono x hγ h1, RepL_mono xs hγ h2⟩
theorem RepC_mono : ∀ (xs : List AV) {b o : Nat}, RepC w ok b o xs → RepC w' ok' b o xs
  | [], b, o, h => h
  | x :: xs, b, o, h => by
    simp only [RepC] at h ⊢
    obtain ⟨⟨h1, u, h2, h3, h4⟩, h5⟩ := h
    exact ⟨⟨hok _ _ h1, u, (hc _ _ h1).trans h2, h3, Rep_mono x (LocsLe.refl _) h4⟩, RepC_mono xs h5⟩
theorem RepEs_mono : ∀ (xs : List (List AV)) {b o : Nat}, RepEs w ok b o xs → RepEs w' ok' b o xs
  | [], b, o, h => h
  | cs :: r, b, o, h => by
    simp only [RepEs] at h ⊢
    exact ⟨RepC_mono cs h.1, RepEs_mono r h.2⟩
end
end mono
end Go.Aw
namespace Go.Aw
open Go
set_option linter.unusedVariables false
set_option linter.unusedSectionVars false

def look {α : Type} : List (Nat × α) → Nat → Option α
  | [], _ => Option.none
  | (k, x) :: r, i => if i = k then some x else look r i

structure St where
  env : List (Nat × AV)
  own : List (Nat × Own)
  next : Nat
  nt : Nat

def Loc.apart (b o : Nat) : Loc → Prop
  | .arr b' _ _ => b ≠ b'
  | .map b' => b ≠ b'
  | .spare _ _ b' u _ => b = b' → o < u
  | .full _ _ => True
  | .dead _ _ _ => True

/-- What a call may see of the memory that was there, and what it may write. -/
structure Fr where
  B : Nat
  vis : Ok
  X : Nat → Prop
  w0 : World

def okOf (F : Fr) (γ : Locs) (w : World) : Ok := fun b o => b < w.heap.size ∧ (b < F.B → F.vis b o) ∧ ∀ id l, γ id = some l → l.apart b o

def NoFreeze (n : Nat) (fr : Nat × Nat) : Prop := ∀ o, o < n → ¬ (fr.1 ≤ o ∧ o < fr.2)

def KV (w : World) (ok : Ok) (γ : Locs) : List (Value × AV) → List MapEntry → Prop
  | [], es => es = []
  | (k, x) :: r, es => ∃ e es', es = e :: es' ∧ e.key = k ∧ Rep w ok x γ e.val ∧ KV w ok γ r es'

def OwnRep (F : Fr) (γ : Locs) (w : World) (id : Nat) : Own → Prop
  | .arr esz xs => ∃ b n cur et fr, γ id = some (.arr b esz n) ∧ w.heap[b]? = some (.cells cur et fr) ∧ cur.size = n * esz ∧ NoFreeze (cur.size + 1) fr ∧ xs.length ≤ n ∧ n ≤ maxLen ∧
      (∀ cs ∈ xs, cs.length = esz) ∧ (∀ u ∈ cur.toList, u.oneCell' = true) ∧ RepL w (okOf F γ w) xs.flatten γ (cur.toList.take xs.flatten.length)
  | .spare esz n => γ id = some (.full esz n) ∨
      ∃ b u s cur et fr, γ id = some (.spare esz n b u s) ∧ w.heap[b]? = some (.cells cur et fr) ∧ cur.size = s ∧ u ≤ s ∧ NoFreeze s fr
  | .dead => ∃ b e n, γ id = some (.dead b e n)
  | .map kvs => ∃ b es clock, γ id = some (.map b) ∧ w.heap[b]? = some (.map es clock) ∧ KV w (okOf F γ w) γ kvs es.toList ∧
      (es.toList.map (·.born)).Nodup ∧ ∀ e ∈ es.toList, e.born < clock

structure Inv (F : Fr) (γ : Locs) (st : St) (a : Act) (w : World) : Prop where
  os : w.os = F.w0.os
  tape : w.tape = F.w0.tape
  output : w.output = F.w0.output
  base : F.B = F.w0.heap.size
  xvis : ∀ b o, F.X b → F.vis b o
  size : F.B ≤ w.heap.size
  keep : ∀ k, k < F.B → ¬ F.X k → w.heap[k]? = F.w0.heap[k]?
  defers : a.defers = []
  nt : a.tmps.size = st.nt
  env : ∀ i x, look st.env i = some x → Rep w (okOf F γ w) x γ (a.tmps.getD i undef)
  own : ∀ id obj, look st.own id = some obj → OwnRep F γ w id obj
  dom : ∀ id l, γ id = some l → ∃ obj, look st.own id = some obj
  blk : ∀ id l b, γ id = some l → l.block = some b → b < w.heap.size ∧ (F.B ≤ b ∨ F.X b)
  dist : ∀ id id' l l' b, γ id = some l → γ id' = some l' → l.block = some b → l'.block = some b → id = id'

theorem KV_mono {w w' : World} {ok ok' : Ok} {γ γ' : Locs} (hok : ∀ b o, ok b o → ok' b o) (hc : ∀ b o, ok b o → w'.cell? ⟨b, o, Option.none⟩ = w.cell? ⟨b, o, Option.none⟩) (hγ : LocsLe γ γ') :
    ∀ (kvs : List (Value × AV)) {es : List MapEntry}, KV w ok γ kvs es → KV w' ok' γ' kvs es
  | [], es, h => h
  | (k, x) :: r, es, h => by
    obtain ⟨e, es', rfl, h1, h2, h3⟩ := h
    exact ⟨e, es', rfl, h1, Rep_mono hok hc x hγ h2, KV_mono hok hc hγ r h3⟩

theorem OwnRep_mono {F : Fr} {γ γ' : Locs} {w w' : World} {id : Nat} {obj : Own} (hok : ∀ b o, okOf F γ w b o → okOf F γ' w' b o)
    (hc : ∀ b o, okOf F γ w b o → w'.cell? ⟨b, o, Option.none⟩ = w.cell? ⟨b, o, Option.none⟩) (hγ : LocsLe γ γ') (hid : γ' id = γ id)
    (hb : ∀ l b, γ id = some l → l.block = some b → w'.heap[b]? = w.heap[b]?) (h : OwnRep F γ w id obj) : OwnRep F γ' w' id obj := by
  cases obj with
  | arr esz xs =>
    obtain ⟨b, n, cur, et, fr, h1, h2, h3, h4, h5, h6, h7, h8, h9⟩ := h
    exact ⟨b, n, cur, et, fr, hid.trans h1, (hb _ b h1 rfl).trans h2, h3, h4, h5, h6, h7, h8, RepL_mono hok hc _ hγ h9⟩
  | spare esz n =>
    rcases h with h | ⟨b, u, s, cur, et, fr, h1, h2, h3, h4, h5⟩
    · exact .inl (hid.trans h)
    · exact .inr ⟨b, u, s, cur, et, fr, hid.trans h1, (hb _ b h1 rfl).trans h2, h3, h4, h5⟩
  | dead =>
    obtain ⟨b, e, n, h1⟩ := h
    exact ⟨b, e, n, hid.trans h1⟩
  | map kvs =>
    obtain ⟨b, es, clock, h1, h2, h3, h4, h5⟩ := h
    exact ⟨b, es, clock, hid.trans h1, (hb _ b h1 rfl).trans h2, KV_mono hok hc hγ kvs h3, h4, h5⟩

theorem cell_eq_of_heap {w w' : World} {b o : Nat} (h : w'.heap[b]? = w.heap[b]?) : w'.cell? ⟨b, o, Option.none⟩ = w.cell? ⟨b, o, Option.none⟩ := by simp [World.cell?, h]

/-- A value is put into a temporary. -/
theorem Inv.put {F : Fr} {γ : Locs} {st : St} {a : Act} {w : World} (hI : Inv F γ st a w) {d : Nat} {x : AV} {v : Value} (hd : d < st.nt) (hx : Rep w (okOf F γ w) x γ v) :
    Inv F γ { st with env := (d, x) :: st.env } (a.put (some d) v) w := by
  refine { hI with defers := hI.defers, nt := ?_, env := ?_ }
  · simp [Act.put, hI.nt]
  · intro i y hy
    simp only [look] at hy
    by_cases h : i = d
    · subst h
      simp only [if_true] at hy
      cases hy
      have : i < a.tmps.size := by rw [hI.nt]; exact hd
      simpa [Act.put, Array.getD_eq_getD_getElem?, this] using hx
    · rw [if_neg h] at hy
      have := hI.env i y hy
      simpa [Act.put, Array.getD_eq_getD_getElem?, Array.getElem?_setIfInBounds_ne (fun e => h e.symm)] using this

theorem Inv.putNone {F : Fr} {γ : Locs} {st : St} {a : Act} {w : World} (hI : Inv F γ st a w) {v : Value} : Inv F γ st (a.put Option.none v) w := hI

def putE (env : List (Nat × AV)) (d : Option Nat) (x : AV) : List (Nat × AV) :=
  match d with
  | Option.none => env
  | some d => (d, x) :: env

def dstOk (d : Option Nat) (nt : Nat) : Bool :=
  match d with
  | Option.none => true
  | some d => decide (d < nt)

theorem Inv.putE {F : Fr} {γ : Locs} {st : St} {a : Act} {w : World} (hI : Inv F γ st a w) {d : Option Nat} {x : AV} {v : Value} (hd : dstOk d st.nt = true) (hx : Rep w (okOf F γ w) x γ v) :
    Inv F γ { st with env := Aw.putE st.env d x } (a.put d v) w := by
  cases d with
  | none => exact hI
  | some d => exact hI.put (by simpa [dstOk] using hd) hx

/-- The memory turns; what may be read stays. -/
theorem Inv.core {F : Fr} {γ γ' : Locs} {st : St} {a : Act} {w w' : World} {own' : List (Nat × Own)} {nx : Nat} (hI : Inv F γ st a w)
    (hos : w'.os = w.os) (htape : w'.tape = w.tape) (hout : w'.output = w.output) (hsz : w.heap.size ≤ w'.heap.size)
    (hle : LocsLe γ γ') (hok : ∀ b o, okOf F γ w b o → okOf F γ' w' b o)
    (hc : ∀ b o, okOf F γ w b o → w'.cell? ⟨b, o, Option.none⟩ = w.cell? ⟨b, o, Option.none⟩)
    (hkeep : ∀ k, k < F.B → ¬ F.X k → w'.heap[k]? = w.heap[k]?)
    (hown : ∀ id obj, look own' id = some obj → OwnRep F γ' w' id obj)
    (hdom : ∀ id l, γ' id = some l → ∃ obj, look own' id = some obj)
    (hblk : ∀ id l b, γ' id = some l → l.block = some b → b < w'.heap.size ∧ (F.B ≤ b ∨ F.X b))
    (hdist : ∀ id id' l l' b, γ' id = some l → γ' id' = some l' → l.block = some b → l'.block = some b → id = id') :
    Inv F γ' { st with own := own', next := nx } a w' where
  os := hos.trans hI.os
  tape := htape.trans hI.tape
  output := hout.trans hI.output
  base := hI.base
  xvis := hI.xvis
  size := Nat.le_trans hI.size hsz
  keep := fun k hk hx => (hkeep k hk hx).trans (hI.keep k hk hx)
  defers := hI.defers
  nt := hI.nt
  env := fun i x h => Rep_mono hok hc x hle (hI.env i x h)
  own := hown
  dom := hdom
  blk := hblk
  dist := hdist

/-- A block that is owned is no other one's; a block below that is not owned stays. -/
theorem Inv.blk_ne {F : Fr} {γ : Locs} {st : St} {a : Act} {w : World} (hI : Inv F γ st a w) {id : Nat} {l : Loc} {b k : Nat} (h : γ id = some l) (hb : l.block = some b)
    (hk : k < F.B) (hx : ¬ F.X k) : k ≠ b := by
  intro e
  subst e
  rcases (hI.blk id l k h hb).2 with h1 | h1
  · omega
  · exact hx h1

section new
variable {F : Fr} {γ : Locs} {st : St} {a : Act} {w : World}

def Locs.set (γ : Locs) (id : Nat) (l : Loc) : Locs := fun i => if i = id then some l else γ i

theorem LocsLe.set {γ : Locs} {id : Nat} {l : Loc} (h : γ id = Option.none) : LocsLe γ (γ.set id l) := fun i l' hi => by
  refine ⟨l', ?_, .refl _⟩
  unfold Locs.set
  rw [if_neg (fun e => by rw [e, h] at hi; cases hi)]
  exact hi

theorem Inv.ok_lt (hI : Inv F γ st a w) {b o : Nat} (h : okOf F γ w b o) : b < w.heap.size := h.1

theorem look_none_of (hI : Inv F γ st a w) {id : Nat} (h : look st.own id = Option.none) : γ id = Option.none := by
  cases hg : γ id with
  | none => rfl
  | some l => obtain ⟨o, ho⟩ := hI.dom id l hg; rw [h] at ho; cases ho

/-- A new block under a new number. -/
theorem Inv.new (hI : Inv F γ st a w) {w' : World} {id nx : Nat} {obj : Own} {l : Loc} (hfresh : look st.own id = Option.none)
    (hos : w'.os = w.os) (htape : w'.tape = w.tape) (hout : w'.output = w.output) (hsz : w.heap.size ≤ w'.heap.size)
    (hheap : ∀ k, k < w.heap.size → w'.heap[k]? = w.heap[k]?)
    (hl : ∀ b, l.block = some b → w.heap.size ≤ b ∧ b < w'.heap.size)
    (hobj : LocsLe γ (γ.set id l) → (∀ b o, okOf F γ w b o → okOf F (γ.set id l) w' b o) → (∀ b o, okOf F γ w b o → w'.cell? ⟨b, o, Option.none⟩ = w.cell? ⟨b, o, Option.none⟩) → OwnRep F (γ.set id l) w' id obj) :
    Inv F (γ.set id l) { st with own := (id, obj) :: st.own, next := nx } a w' ∧ LocsLe γ (γ.set id l) ∧ (∀ b o, okOf F γ w b o → okOf F (γ.set id l) w' b o) ∧
      (∀ b o, okOf F γ w b o → w'.cell? ⟨b, o, Option.none⟩ = w.cell? ⟨b, o, Option.none⟩) := by
  have hg := look_none_of hI hfresh
  have hle : LocsLe γ (γ.set id l) := LocsLe.set hg
  have hok : ∀ b o, okOf F γ w b o → okOf F (γ.set id l) w' b o := by
    intro b o ⟨h1, h2, h3⟩
    refine ⟨by omega, h2, fun i l' hi => ?_⟩
    unfold Locs.set at hi
    split at hi
    · cases hi
      have hne : ∀ b', l.block = some b' → b ≠ b' := fun b' hb' => by have := (hl b' hb').1; omega
      cases l with
      | arr b' _ _ => exact hne b' rfl
      | map b' => exact hne b' rfl
      | spare _ _ b' _ _ => exact fun e => absurd e (hne b' rfl)
      | full _ _ => trivial
      | dead _ _ _ => trivial
    · exact h3 i l' hi
  have hc : ∀ b o, okOf F γ w b o → w'.cell? ⟨b, o, Option.none⟩ = w.cell? ⟨b, o, Option.none⟩ := fun b o h => cell_eq_of_heap (hheap b h.1)
  refine ⟨?_, hle, hok, hc⟩
  refine hI.core hos htape hout hsz hle hok hc (fun k hk _ => hheap k (by have := hI.size; omega)) ?_ ?_ ?_ ?_
  · intro i o hi
    simp only [look] at hi
    split at hi
    · rename_i h; subst h; cases hi; exact hobj hle hok hc
    · rename_i h
      refine OwnRep_mono hok hc hle (by unfold Locs.set; rw [if_neg h]) ?_ (hI.own i o hi)
      intro l' b h1 h2
      exact hheap b (hI.blk i l' b h1 h2).1
  · intro i l' hi
    unfold Locs.set at hi
    simp only [look]
    split at hi
    · rename_i h; exact ⟨obj, by rw [if_pos h]⟩
    · rename_i h; rw [if_neg h]; exact hI.dom i l' hi
  · intro i l' b hi hb
    unfold Locs.set at hi
    split at hi
    · cases hi; exact ⟨(hl b hb).2, .inl (by have := (hl b hb).1; have := hI.size; omega)⟩
    · obtain ⟨h1, h2⟩ := hI.blk i l' b hi hb; exact ⟨by omega, h2⟩
  · intro i i' l1 l2 b h1 h2 hb1 hb2
    unfold Locs.set at h1 h2
    split at h1 <;> split at h2
    · rename_i e1 e2; exact e1.trans e2.symm
    · cases h1; have := (hl b hb1).1; have := (hI.blk i' l2 b h2 hb2).1; omega
    · cases h2; have := (hl b hb2).1; have := (hI.blk i l1 b h1 hb1).1; omega
    · exact hI.dist i i' l1 l2 b h1 h2 hb1 hb2
end new
end Go.Aw
namespace Go.Aw
open Go
set_option linter.unusedVariables false
set_option linter.unusedSectionVars false

structure Res where
  c : Prop
  r : AV
  up : List (Nat × Own)
  nx : Nat

def constAV : Value → AV
  | .agg _ => .junk
  | .slice Option.none 0 0 => .sl [] .tight
  | .string s => .str s.data.toList
  | x => .v x

theorem rep_const (w : World) (ok : Ok) (γ : Locs) (x : Value) : Rep w ok (constAV x) γ x := by
  unfold constAV
  split
  · simp only [Rep]
  · simp only [Rep]; exact ⟨Option.none, 0, rfl, Nat.le_refl _, Nat.zero_le _, rfl, rfl⟩
  · simp only [Rep]
  · simp only [Rep]

def opd (st : St) : Operand → AV
  | .tmp t => (look st.env t).getD .junk
  | .const c => constAV c
  | .func f => .fn f [] []
  | .global _ => .junk

theorem rep_opd {F : Fr} {γ : Locs} {st : St} {a : Act} {w : World} (hI : Inv F γ st a w) (x : Operand) : Rep w (okOf F γ w) (opd st x) γ (a.eval x) := by
  cases x with
  | tmp t =>
    show Rep w _ ((look st.env t).getD .junk) γ (a.tmps.getD t undef)
    cases h : look st.env t with
    | none => simp only [Option.getD_none, Rep]
    | some x => exact hI.env t x h
  | const c => exact rep_const _ _ _ c
  | func f => simp only [opd, Act.eval, Rep]; exact ⟨#[], #[], rfl, rfl, rfl⟩
  | global g => simp only [opd, Rep]

variable {P : Program}

def tSize (P : Program) (t : TypeId) : Option Nat := (P.info? t).map (·.size)
def isAggD : TypeDesc → Bool
  | .struct _ | .array _ _ => true
  | _ => false
def tAgg (P : Program) (t : TypeId) : Option Bool := (P.underlying t).map isAggD
def tElem (P : Program) (t : TypeId) : Option TypeId :=
  match P.underlying t with
  | some (.slice e) => some e
  | _ => Option.none
def tField (P : Program) (s f : Nat) : Option (Nat × TypeId) :=
  match P.underlying s with
  | some (.struct fs) => (fs[f]?).map fun x => (x.offset, x.type)
  | _ => Option.none
def tArr (P : Program) (t : TypeId) : Option (Nat × TypeId) :=
  match P.underlying t with
  | some (.array n e) => some (n, e)
  | _ => Option.none

theorem run_sizeOf {t n : Nat} (h : tSize P t = some n) (w : World) : (sizeOf t).run P w = .ok n w := by
  unfold tSize at h
  cases hi : P.info? t with
  | none => simp [hi] at h
  | some i => simp [hi] at h; subst h; simp [sizeOf, typeInfo, hi]

theorem run_isAgg {t : Nat} {b : Bool} (h : tAgg P t = some b) (w : World) : (isAgg t).run P w = .ok b w := by
  unfold tAgg at h
  cases hi : P.underlying t with
  | none => simp [hi] at h
  | some i =>
    simp [hi] at h
    subst h
    unfold isAgg
    cases i <;> simp [run_underlying hi, isAggD]

theorem und_slice {t e : Nat} (h : tElem P t = some e) : P.underlying t = some (.slice e) := by
  unfold tElem at h
  split at h
  · cases h; assumption
  · cases h
theorem und_arr {t n e : Nat} (h : tArr P t = some (n, e)) : P.underlying t = some (.array n e) := by
  unfold tArr at h
  split at h
  · cases h; assumption
  · cases h

theorem wp_value {o : Oper} {a : Act} {w w' : World} {v : Value} {K : Act → World → Prop} {Q : Exit → Act → World → Prop}
    (h : (execOp a.eval o).run P w = .ok (.value v) w') (hk : K (a.put o.dst v) w') : o.wp P a w K Q := by
  unfold Oper.wp
  rw [h]
  exact hk
theorem wp_skipv {o : Oper} {a : Act} {w w' : World} {K : Act → World → Prop} {Q : Exit → Act → World → Prop}
    (h : (execOp a.eval o).run P w = .ok .skip w') (hk : K (a.put o.dst undef) w') : o.wp P a w K Q := by
  unfold Oper.wp
  rw [h]
  exact hk

/-! ### cells -/
theorem RepC_get {w : World} {ok : Ok} : ∀ (cs : List AV) {b o : Nat}, RepC w ok b o cs → ∀ j x, cs[j]? = some x → ok b (o + j) ∧ ∃ u, w.cell? ⟨b, o + j, Option.none⟩ = some u ∧ u.oneCell' = true ∧ Rep w ok x noLocs u
  | [], b, o, _, j, x, h => by simp at h
  | c :: cs, b, o, hr, j, x, h => by
    simp only [RepC] at hr
    cases j with
    | zero => simp at h; subst h; exact hr.1
    | succ j =>
      have := RepC_get cs hr.2 j x (by simpa using h)
      rw [show o + (j + 1) = o + 1 + j from by omega]; exact this

theorem RepC_drop {w : World} {ok : Ok} : ∀ (k : Nat) (cs : List AV) {b o : Nat}, RepC w ok b o cs → k ≤ cs.length → RepC w ok b (o + k) (cs.drop k)
  | 0, cs, b, o, h, _ => h
  | k + 1, [], b, o, h, hk => by simp at hk
  | k + 1, c :: cs, b, o, h, hk => by
    simp only [RepC] at h
    have := RepC_drop k cs h.2 (by simpa using hk)
    rw [show o + (k + 1) = o + 1 + k from by omega]; exact this

theorem RepC_take {w : World} {ok : Ok} : ∀ (k : Nat) (cs : List AV) {b o : Nat}, RepC w ok b o cs → RepC w ok b o (cs.take k)
  | 0, cs, b, o, h => by simp [RepC]
  | k + 1, [], b, o, h => by simp [RepC]
  | k + 1, c :: cs, b, o, h => by
    simp only [RepC, List.take_succ_cons] at h ⊢
    exact ⟨h.1, RepC_take k cs h.2⟩

theorem RepEs_get {w : World} {ok : Ok} {esz : Nat} : ∀ (xs : List (List AV)) {b o : Nat}, RepEs w ok b o xs → (∀ cs ∈ xs, cs.length = esz) → ∀ j cs, xs[j]? = some cs → RepC w ok b (o + j * esz) cs
  | [], b, o, _, _, j, cs, h => by simp at h
  | c :: r, b, o, hr, hl, j, cs, h => by
    simp only [RepEs] at hr
    cases j with
    | zero => simp at h; subst h; simpa using hr.1
    | succ j =>
      have hc : c.length = esz := hl c (by simp)
      have := RepEs_get r hr.2 (fun cs h => hl cs (by simp [h])) j cs (by simpa using h)
      rw [hc] at this
      rw [show o + (j + 1) * esz = o + esz + j * esz from by rw [Nat.add_mul]; omega]; exact this

theorem RepL_length {w : World} {ok : Ok} {γ : Locs} : ∀ (xs : List AV) {us : List Value}, RepL w ok xs γ us → us.length = xs.length
  | [], us, h => by simp [RepL] at h; simp [h]
  | x :: xs, us, h => by
    simp only [RepL] at h
    obtain ⟨u, r, rfl, _, h2⟩ := h
    simp [RepL_length xs h2]

theorem RepL_get {w : World} {ok : Ok} {γ : Locs} : ∀ (xs : List AV) {us : List Value}, RepL w ok xs γ us → ∀ (j : Nat) (x : AV), xs[j]? = some x → ∃ u, us[j]? = some u ∧ Rep w ok x γ u
  | [], us, _, j, x, h => by simp at h
  | x :: xs, us, hr, j, y, h => by
    simp only [RepL] at hr
    obtain ⟨u, r, rfl, h1, h2⟩ := hr
    cases j with
    | zero => simp at h; subst h; exact ⟨u, by simp, h1⟩
    | succ j => obtain ⟨u', h3, h4⟩ := RepL_get xs h2 j y (by simpa using h); exact ⟨u', by simpa using h3, h4⟩

theorem RepL_mk {w : World} {ok : Ok} {γ : Locs} : ∀ (xs : List AV) {us : List Value}, us.length = xs.length → (∀ (j : Nat) (x : AV) (u : Value), xs[j]? = some x → us[j]? = some u → Rep w ok x γ u) → RepL w ok xs γ us
  | [], us, hl, _ => by simp only [RepL]; exact List.eq_nil_of_length_eq_zero hl
  | x :: xs, [], hl, _ => by simp at hl
  | x :: xs, u :: us, hl, h => by
    simp only [RepL]
    exact ⟨u, us, rfl, h 0 x u rfl rfl, RepL_mk xs (by simpa using hl) fun j y v h1 h2 => h (j + 1) y v (by simpa using h1) (by simpa using h2)⟩

theorem RepL_append {w : World} {ok : Ok} {γ : Locs} : ∀ {xs ys : List AV} {us vs : List Value}, RepL w ok xs γ us → RepL w ok ys γ vs → RepL w ok (xs ++ ys) γ (us ++ vs)
  | [], ys, us, vs, h1, h2 => by simp [RepL] at h1; subst h1; exact h2
  | x :: xs, ys, us, vs, h1, h2 => by
    simp only [RepL] at h1
    obtain ⟨u, r, rfl, h3, h4⟩ := h1
    exact ⟨u, r ++ vs, rfl, h3, RepL_append h4 h2⟩

theorem RepL_drop {w : World} {ok : Ok} {γ : Locs} : ∀ (k : Nat) {xs : List AV} {us : List Value}, RepL w ok xs γ us → RepL w ok (xs.drop k) γ (us.drop k)
  | 0, xs, us, h => h
  | k + 1, [], us, h => by simp [RepL] at h; subst h; simp [RepL]
  | k + 1, x :: xs, us, h => by
    simp only [RepL] at h
    obtain ⟨u, r, rfl, h3, h4⟩ := h
    exact RepL_drop k h4

theorem RepL_take {w : World} {ok : Ok} {γ : Locs} : ∀ (k : Nat) {xs : List AV} {us : List Value}, RepL w ok xs γ us → RepL w ok (xs.take k) γ (us.take k)
  | 0, xs, us, h => by simp [RepL]
  | k + 1, [], us, h => by simp [RepL] at h; subst h; simp [RepL]
  | k + 1, x :: xs, us, h => by
    simp only [RepL] at h
    obtain ⟨u, r, rfl, h3, h4⟩ := h
    exact ⟨u, r.take k, rfl, h3, RepL_take k h4⟩

theorem add_none (b o j : Nat) : (⟨b, o, Option.none⟩ : Addr).add j = ⟨b, o + j, Option.none⟩ := by
  unfold Addr.add
  split
  · rename_i h; subst h; rfl
  · rfl

theorem RepC_vals {w : World} {ok : Ok} : ∀ (cs : List AV) {b o : Nat}, RepC w ok b o cs → ∃ us : List Value, us.length = cs.length ∧
    (∀ (j : Nat) (v : Value), us[j]? = some v → w.cell? ⟨b, o + j, Option.none⟩ = some v) ∧ RepL w ok cs noLocs us ∧ ∀ u ∈ us, u.oneCell' = true
  | [], b, o, _ => ⟨[], rfl, by simp, by simp only [RepL], by simp⟩
  | x :: cs, b, o, h => by
    simp only [RepC] at h
    obtain ⟨⟨_, u, h1, h2, h3⟩, h4⟩ := h
    obtain ⟨us, g1, g2, g3, g4⟩ := RepC_vals cs h4
    refine ⟨u :: us, by simp [g1], ?_, ?_, ?_⟩
    · intro j v hj
      cases j with
      | zero => simp at hj; subst hj; exact h1
      | succ j => rw [show o + (j + 1) = o + 1 + j from by omega]; exact g2 j v (by simpa using hj)
    · simp only [RepL]; exact ⟨u, us, rfl, h3, g3⟩
    · intro y hy; rcases List.mem_cons.1 hy with rfl | hy
      · exact h2
      · exact g4 y hy

/-- Cells read off memory. -/
theorem run_loadRepC {w : World} {ok : Ok} {b o : Nat} {cs : List AV} (h : RepC w ok b o cs) : ∃ us : List Value, (loadCells ⟨b, o, Option.none⟩ cs.length).run P w = .ok us.toArray w ∧ RepL w ok cs noLocs us ∧ ∀ u ∈ us, u.oneCell' = true := by
  obtain ⟨us, g1, g2, g3, g4⟩ := RepC_vals cs h
  refine ⟨us, ?_, g3, g4⟩
  rw [← g1]
  exact run_loadCells_list w _ us fun j v hj => by rw [add_none]; exact g2 j v hj

/-- Values of a class are all as cells. -/
theorem RepL_mono0 {w : World} {ok : Ok} {γ : Locs} {cs : List AV} {us : List Value} (h : RepL w ok cs noLocs us) : RepL w ok cs γ us :=
  RepL_mono (fun _ _ h => h) (fun _ _ _ => rfl) cs (LocsLe.none γ) h
theorem Rep_mono0 {w : World} {ok : Ok} {γ : Locs} {x : AV} {u : Value} (h : Rep w ok x noLocs u) : Rep w ok x γ u :=
  Rep_mono (fun _ _ h => h) (fun _ _ _ => rfl) x (LocsLe.none γ) h
end Go.Aw
namespace Go.Aw
open Go
set_option linter.unusedVariables false
set_option linter.unusedSimpArgs false
set_option linter.unusedSectionVars false
variable {P : Program}

def tInt (P : Program) (t : TypeId) : Option IntKind :=
  match P.underlying t with
  | some (.int k) => some k
  | _ => Option.none
def tStr (P : Program) (t : TypeId) : Bool :=
  match P.underlying t with
  | some .string => true
  | _ => false
def tBool (P : Program) (t : TypeId) : Bool :=
  match P.underlying t with
  | some .bool => true
  | _ => false
theorem und_int {t : Nat} {k : IntKind} (h : tInt P t = some k) : P.underlying t = some (.int k) := by
  unfold tInt at h
  split at h
  · cases h; assumption
  · cases h
theorem und_str {t : Nat} (h : tStr P t = true) : P.underlying t = some .string := by
  unfold tStr at h
  split at h
  · assumption
  · cases h
theorem und_bool {t : Nat} (h : tBool P t = true) : P.underlying t = some .bool := by
  unfold tBool at h
  split at h
  · assumption
  · cases h

/-- Operators on whole numbers bit by bit. -/
def bitI (op : BinOp) (k : IntKind) (x y : Int) : Int :=
  let a := BitVec.ofInt k.bits x
  let b := BitVec.ofInt k.bits y
  match op with
  | .and => k.wrap (a &&& b).toNat
  | .or => k.wrap (a ||| b).toNat
  | .xor => k.wrap (a ^^^ b).toNat
  | _ => k.wrap (a &&& ~~~b).toNat

def binI (op : BinOp) (k k' : IntKind) (a b : Int) : Option (Prop × Value) :=
  match op with
  | .shl => some (0 ≤ b, .int k (k.wrap (a * 2 ^ (min b.toNat k.bits))))
  | .shr => some (0 ≤ b, .int k (a.fdiv (2 ^ (min b.toNat k.bits))))
  | .add => if k = k' then some (True, .int k (k.wrap (a + b))) else Option.none
  | .sub => if k = k' then some (True, .int k (k.wrap (a - b))) else Option.none
  | .mul => if k = k' then some (True, .int k (k.wrap (a * b))) else Option.none
  | .quo => if k = k' then some (b ≠ 0, .int k (k.wrap (a.tdiv b))) else Option.none
  | .rem => if k = k' then some (b ≠ 0, .int k (a.tmod b)) else Option.none
  | .and => if k = k' then some (True, .int k (bitI .and k a b)) else Option.none
  | .or => if k = k' then some (True, .int k (bitI .or k a b)) else Option.none
  | .xor => if k = k' then some (True, .int k (bitI .xor k a b)) else Option.none
  | .andNot => if k = k' then some (True, .int k (bitI .andNot k a b)) else Option.none
  | .eql => if k = k' then some (True, .bool (decide (a = b))) else Option.none
  | .neq => if k = k' then some (True, .bool (!decide (a = b))) else Option.none
  | .lss => if k = k' then some (True, .bool (decide (a < b))) else Option.none
  | .leq => if k = k' then some (True, .bool (decide (a ≤ b))) else Option.none
  | .gtr => if k = k' then some (True, .bool (decide (b < a))) else Option.none
  | .geq => if k = k' then some (True, .bool (decide (b ≤ a))) else Option.none

theorem binI_sound {op : BinOp} {k k' : IntKind} {a b : Int} {c : Prop} {v : Value} (h : binI op k k' a b = some (c, v)) (hc : c) (t : TypeId) (w : World) :
    (binOp op t (.int k a) (.int k' b)).run P w = .ok v w := by
  have he : (a == b) = decide (a = b) := by rw [Bool.eq_iff_iff]; simp
  unfold binI at h
  cases op <;> simp only at h <;>
    first
    | (simp only [Option.some.injEq, Prod.mk.injEq] at h; obtain ⟨rfl, rfl⟩ := h
       have hn : ¬ b < 0 := by omega
       simp [binOp, Op.shift, hn]; done)
    | (split at h
       · rename_i e
         subst e
         simp only [Option.some.injEq, Prod.mk.injEq] at h
         obtain ⟨rfl, rfl⟩ := h
         first
         | (simp [binOp, Op.intArith]; done)
         | (simp [binOp, Op.intDiv, hc]; done)
         | (simp [binOp, Op.intBits, bitI]; done)
         | (simp [binOp, Op.intCmp, bne, he]; done)
       · cases h)

def binStr (op : BinOp) (a b : List UInt8) : Option (Prop × AV) :=
  match op with
  | .add => some (((a.length + b.length : Nat) : Int) ≤ IntKind.i64.max, .str (a ++ b))
  | .eql => some (True, .v (.bool (decide (a = b))))
  | .neq => some (True, .v (.bool (!decide (a = b))))
  | .lss => some (True, .v (.bool (Op.bytesLess a b)))
  | .leq => some (True, .v (.bool (Op.bytesLess a b || decide (a = b))))
  | .gtr => some (True, .v (.bool (!(Op.bytesLess a b || decide (a = b)))))
  | .geq => some (True, .v (.bool (!Op.bytesLess a b)))
  | _ => Option.none

theorem data_toList (l : List UInt8) : (⟨l.toArray⟩ : ByteArray).toList = l := by rw [ByteArray.toList_eq]
theorem size_toArray' (l : List UInt8) : (⟨l.toArray⟩ : ByteArray).size = l.length := by simp [ByteArray.size]
theorem append_toArray' (a b : List UInt8) : (⟨a.toArray⟩ ++ ⟨b.toArray⟩ : ByteArray) = ⟨(a ++ b).toArray⟩ := by
  have : (⟨a.toArray⟩ ++ ⟨b.toArray⟩ : ByteArray).data = (a ++ b).toArray := by simp [ByteArray.data_append]
  cases h : (⟨a.toArray⟩ ++ ⟨b.toArray⟩ : ByteArray) with
  | mk d => rw [h] at this; simp at this; rw [this]

theorem binStr_sound {op : BinOp} {a b : List UInt8} {c : Prop} {r : AV} (h : binStr op a b = some (c, r)) (hc : c) (t : TypeId) (w : World) (ok : Ok) (γ : Locs) :
    ∃ v, (binOp op t (.string ⟨a.toArray⟩) (.string ⟨b.toArray⟩)).run P w = .ok v w ∧ Rep w ok r γ v := by
  have he : (a == b) = decide (a = b) := by rw [Bool.eq_iff_iff]; simp
  unfold binStr at h
  cases op <;> simp only [reduceCtorEq] at h <;> simp only [Option.some.injEq, Prod.mk.injEq] at h <;> obtain ⟨rfl, rfl⟩ := h
  case add =>
    have : ¬ ((a.length + b.length : Nat) : Int) > IntKind.i64.max := by omega
    exact ⟨.string ⟨(a ++ b).toArray⟩, by simp only [binOp, Op.stringOp, size_toArray', append_toArray', if_neg this]; rfl, by simp only [Rep]⟩
  case eql => exact ⟨.bool (decide (a = b)), by simp only [binOp, Op.stringOp, data_toList, he]; rfl, by simp only [Rep]⟩
  case neq => exact ⟨.bool (!decide (a = b)), by simp only [binOp, Op.stringOp, data_toList, he]; rfl, by simp only [Rep]⟩
  case lss => exact ⟨.bool (Op.bytesLess a b), by simp only [binOp, Op.stringOp, data_toList, he]; rfl, by simp only [Rep]⟩
  case leq => exact ⟨.bool (Op.bytesLess a b || decide (a = b)), by simp only [binOp, Op.stringOp, data_toList, he]; rfl, by simp only [Rep]⟩
  case gtr => exact ⟨.bool (!(Op.bytesLess a b || decide (a = b))), by simp only [binOp, Op.stringOp, data_toList, he]; rfl, by simp only [Rep]⟩
  case geq => exact ⟨.bool (!Op.bytesLess a b), by simp only [binOp, Op.stringOp, data_toList, he]; rfl, by simp only [Rep]⟩

/-- How many bytes: a letter of a string. -/
def u8c (b : UInt8) : List AV := [.v (.int .u8 b.toNat)]
def getU8 : List AV → UInt8
  | [.v (.int _ n)] => UInt8.ofNat n.toNat
  | _ => 0
def isU8 (cs : List AV) : Prop := ∃ b, cs = u8c b

def tIface (P : Program) (t : TypeId) : Bool :=
  match P.underlying t with
  | some (.interface _) => true
  | _ => false
def tPtr (P : Program) (t : TypeId) : Bool :=
  match P.underlying t with
  | some (.pointer _) => true
  | _ => false
theorem und_iface {t : Nat} (h : tIface P t = true) : ∃ ms, P.underlying t = some (.interface ms) := by
  unfold tIface at h
  split at h
  · exact ⟨_, by assumption⟩
  · cases h
theorem und_ptr {t : Nat} (h : tPtr P t = true) : ∃ e, P.underlying t = some (.pointer e) := by
  unfold tPtr at h
  split at h
  · exact ⟨_, by assumption⟩
  · cases h

def nilP : AV → Option Bool
  | .v (.pointer Option.none) => some true
  | .ref _ => some false
  | .op _ _ _ => some false
  | _ => Option.none
def nilI : AV → Option Bool
  | .v .nilIface => some true
  | .ifc _ _ => some false
  | _ => Option.none

def eqB (op : BinOp) (b : Bool) : Option (Prop × AV) :=
  match op with
  | .eql => some (True, .v (.bool b))
  | .neq => some (True, .v (.bool (!b)))
  | _ => Option.none

def binA (P : Program) (op : BinOp) (t : TypeId) (x y : AV) (ycon : Bool) : Option (Prop × AV) :=
  match x, y with
  | .v (.int k a), .v (.int k' b) => (binI op k k' a b).map fun p => (p.1, .v p.2)
  | .str a, .str b => binStr op a b
  | .v (.bool a), .v (.bool b) => if tBool P t then eqB op (a == b) else Option.none
  | x, .v (.pointer Option.none) => if tPtr P t then (nilP x).bind (eqB op) else Option.none
  | x, .v .nilIface => if tIface P t && ycon then (nilI x).bind (eqB op) else Option.none
  | _, _ => Option.none

def isCon : Operand → Bool
  | .const _ => true
  | _ => false

theorem run_eqGuard_int (op : BinOp) (t : TypeId) (x y : Operand) (k k' : IntKind) (a b : Int) (w : World) : (eqGuard op t x y (.int k a) (.int k' b)).run P w = .ok () w := by
  unfold eqGuard; cases op <;> simp
theorem run_eqGuard_str (op : BinOp) (t : TypeId) (x y : Operand) (a b : ByteArray) (w : World) : (eqGuard op t x y (.string a) (.string b)).run P w = .ok () w := by
  unfold eqGuard; cases op <;> simp
theorem run_eqGuard_bool (op : BinOp) (t : TypeId) (x y : Operand) (a b : Bool) (w : World) : (eqGuard op t x y (.bool a) (.bool b)).run P w = .ok () w := by
  unfold eqGuard; cases op <;> simp
theorem run_eqGuard_ptr (op : BinOp) (t : TypeId) (x y : Operand) (a b : Option Addr) (w : World) : (eqGuard op t x y (.pointer a) (.pointer b)).run P w = .ok () w := by
  unfold eqGuard; cases op <;> simp
theorem run_eqGuard_nil (op : BinOp) (t : TypeId) (x y : Operand) (a : Value) (w : World) (hy : isCon y = true) : (eqGuard op t x y a .nilIface).run P w = .ok () w := by
  unfold eqGuard
  cases y <;> simp [isCon] at hy
  cases op <;> cases a <;> simp

theorem run_equalIn_ptr (d : Nat) {t e : TypeId} (he : P.underlying t = some (.pointer e)) (a : Option Addr) (w : World) : (Op.equalIn (d + 1) t (.pointer a) (.pointer Option.none)).run P w = .ok a.isNone w := by
  cases a <;> simp [Op.equalIn, run_underlying he]
theorem run_equalIn_nil (d : Nat) {t : TypeId} {ms : Array (String × TypeId)} (he : P.underlying t = some (.interface ms)) (w : World) : (Op.equalIn (d + 1) t .nilIface .nilIface).run P w = .ok true w := by
  simp [Op.equalIn, run_underlying he]
theorem run_equalIn_ifc (d : Nat) {t : TypeId} {ms : Array (String × TypeId)} (he : P.underlying t = some (.interface ms)) (ty : TypeId) (y : Value) (w : World) : (Op.equalIn (d + 1) t (.iface ty y) .nilIface).run P w = .ok false w := by
  simp [Op.equalIn, run_underlying he]

theorem eqB_sound {op : BinOp} {t : TypeId} {b : Bool} {c : Prop} {r : AV} (h : eqB op b = some (c, r)) {w : World} {ok : Ok} {γ : Locs} {u v : Value}
    (hf : ∀ op, op = .eql ∨ op = .neq → (binOp op t u v) = match op with | .neq => (do pure (.bool (!(← Op.equal t u v)))) | _ => (do pure (.bool (← Op.equal t u v))))
    (he : (Op.equal t u v).run P w = .ok b w) : ∃ z, (binOp op t u v).run P w = .ok z w ∧ Rep w ok r γ z := by
  unfold eqB at h
  split at h
  · simp only [Option.some.injEq, Prod.mk.injEq] at h
    obtain ⟨rfl, rfl⟩ := h
    exact ⟨.bool b, by rw [hf _ (.inl rfl)]; simp only [Sem.run_bind, he, Result.andThen_ok]; rfl, by simp only [Rep]⟩
  · simp only [Option.some.injEq, Prod.mk.injEq] at h
    obtain ⟨rfl, rfl⟩ := h
    exact ⟨.bool (!b), by rw [hf _ (.inr rfl)]; simp only [Sem.run_bind, he, Result.andThen_ok]; rfl, by simp only [Rep]⟩
  · cases h

theorem binA_sound {op : BinOp} {t : TypeId} {x y : AV} {c : Prop} {r : AV} {ox oy : Operand} (h : binA P op t x y (isCon oy) = some (c, r)) (hc : c) {w : World} {ok : Ok} {γ : Locs} {u v : Value}
    (hx : Rep w ok x γ u) (hy : Rep w ok y γ v) : ∃ z, (do eqGuard op t ox oy u v; binOp op t u v : Sem Value).run P w = .ok z w ∧ Rep w ok r γ z := by
  unfold binA at h
  split at h
  · simp only [Rep] at hx hy
    subst hx hy
    cases hb : binI op _ _ _ _ with
    | none => rw [hb] at h; simp at h
    | some p =>
      rw [hb] at h
      simp only [Option.map_some, Option.some.injEq, Prod.mk.injEq] at h
      obtain ⟨rfl, rfl⟩ := h
      exact ⟨p.2, by simp only [Sem.run_bind, run_eqGuard_int, Result.andThen_ok]; exact binI_sound (v := p.2) (by rw [hb]) hc t w, by simp only [Rep]⟩
  · simp only [Rep] at hx hy
    subst hx hy
    obtain ⟨z, h1, h2⟩ := binStr_sound (P := P) h hc t w ok γ
    exact ⟨z, by simp only [Sem.run_bind, run_eqGuard_str, Result.andThen_ok]; exact h1, h2⟩
  · simp only [Rep] at hx hy
    subst hx hy
    split at h
    · rename_i hb
      obtain ⟨z, h1, h2⟩ := eqB_sound (P := P) (t := t) (w := w) (ok := ok) (γ := γ) h (by rintro op (rfl | rfl) <;> rfl) (run_equal_bool w t _ _ (und_bool hb))
      exact ⟨z, by simp only [Sem.run_bind, run_eqGuard_bool, Result.andThen_ok]; exact h1, h2⟩
    · cases h
  · simp only [Rep] at hy
    subst hy
    split at h
    · rename_i hb
      obtain ⟨e, he⟩ := und_ptr hb
      have hn : ∃ a, u = .pointer a ∧ nilP x = some a.isNone := by
        cases hq : nilP x with
        | none => rw [hq] at h; simp at h
        | some q =>
          unfold nilP at hq
          split at hq <;> simp only [Option.some.injEq, reduceCtorEq] at hq <;> subst hq
          · simp only [Rep] at hx; exact ⟨_, hx, rfl⟩
          · simp only [Rep] at hx; obtain ⟨b', o, rfl, _⟩ := hx; exact ⟨_, rfl, rfl⟩
          · simp only [Rep] at hx; obtain ⟨b', esz, n, _, rfl⟩ := hx; exact ⟨_, rfl, rfl⟩
      obtain ⟨a, rfl, hn⟩ := hn
      rw [hn] at h
      obtain ⟨z, h1, h2⟩ := eqB_sound (P := P) (t := t) (w := w) (ok := ok) (γ := γ) (u := .pointer a) (v := .pointer Option.none) h (by rintro op (rfl | rfl) <;> rfl)
        (run_equalIn_ptr 9999 he a w)
      exact ⟨z, by simp only [Sem.run_bind, run_eqGuard_ptr, Result.andThen_ok]; exact h1, h2⟩
    · cases h
  · simp only [Rep] at hy
    subst hy
    split at h
    · rename_i hb
      simp only [Bool.and_eq_true] at hb
      obtain ⟨ms, he⟩ := und_iface hb.1
      have hn : ∃ q, nilI x = some q ∧ ((q = true ∧ u = .nilIface) ∨ (q = false ∧ ∃ ty y, u = .iface ty y)) := by
        cases hq : nilI x with
        | none => rw [hq] at h; simp at h
        | some q =>
          unfold nilI at hq
          split at hq <;> simp only [Option.some.injEq, reduceCtorEq] at hq <;> subst hq
          · simp only [Rep] at hx; exact ⟨_, rfl, .inl ⟨rfl, hx⟩⟩
          · simp only [Rep] at hx; obtain ⟨y, rfl, _⟩ := hx; exact ⟨_, rfl, .inr ⟨rfl, _, _, rfl⟩⟩
      obtain ⟨q, hn, hu⟩ := hn
      rw [hn] at h
      obtain ⟨z, h1, h2⟩ := eqB_sound (P := P) (t := t) (w := w) (ok := ok) (γ := γ) (u := u) (v := .nilIface) h
        (by rcases hu with ⟨_, rfl⟩ | ⟨_, _, _, rfl⟩ <;> rintro op (rfl | rfl) <;> rfl)
        (by
          rcases hu with ⟨rfl, rfl⟩ | ⟨rfl, _, _, rfl⟩
          · exact run_equalIn_nil 9999 he w
          · exact run_equalIn_ifc 9999 he _ _ w)
      exact ⟨z, by simp only [Sem.run_bind, run_eqGuard_nil _ _ _ _ _ _ hb.2, Result.andThen_ok]; exact h1, h2⟩
    · cases h
  · cases h

def unA (op : UnOp) (x : AV) : Option AV :=
  match op, x with
  | .not, .v (.bool b) => some (.v (.bool (!b)))
  | .neg, .v (.int k n) => some (.v (.int k (k.wrap (0 - n))))
  | .xor, .v (.int k n) => some (.v (.int k (bitI .xor k (if k.signed then -1 else k.max) n)))
  | _, _ => Option.none

theorem unA_sound {op : UnOp} {x r : AV} (h : unA op x = some r) {w : World} {ok : Ok} {γ : Locs} {u : Value} (hx : Rep w ok x γ u) :
    ∃ z, (Op.unary op u).run P w = .ok z w ∧ Rep w ok r γ z := by
  unfold unA at h
  split at h <;> simp only [Option.some.injEq, reduceCtorEq] at h <;> subst h <;> simp only [Rep] at hx <;> subst hx
  · exact ⟨_, by simp only [Op.unary]; rfl, by simp only [Rep]⟩
  · exact ⟨_, by simp only [Op.unary, Op.intArith]; rfl, by simp only [Rep]⟩
  · exact ⟨_, by simp only [Op.unary, Op.intBits]; rfl, by simp only [Rep]; rfl⟩
end Go.Aw
namespace Go.Aw
open Go
set_option linter.unusedVariables false
set_option linter.unusedSimpArgs false
set_option linter.unusedSectionVars false
variable {P : Program}

theorem flat_drop {esz : Nat} : ∀ (xs : List (List AV)) (i : Nat), (∀ cs ∈ xs, cs.length = esz) → xs.flatten.drop (i * esz) = (xs.drop i).flatten
  | xs, 0, _ => by simp
  | [], i + 1, _ => by simp
  | c :: r, i + 1, h => by
    have hc : c.length = esz := h c (by simp)
    have ih := flat_drop r i (fun cs hcs => h cs (by simp [hcs]))
    rw [List.flatten_cons, List.drop_succ_cons, ← ih, show (i + 1) * esz = c.length + i * esz from by rw [hc, Nat.add_mul]; omega, List.drop_append]
    simp

theorem flat_seg {esz i off k : Nat} {xs : List (List AV)} (h : ∀ cs ∈ xs, cs.length = esz) (hi : i < xs.length) (hk : off + k ≤ esz) :
    (xs.flatten.drop (i * esz + off)).take k = ((xs.getD i []).drop off).take k := by
  rw [← List.drop_drop, flat_drop xs i h, List.drop_eq_getElem_cons hi, List.flatten_cons]
  have hl : xs[i].length = esz := h _ (List.getElem_mem hi)
  rw [List.drop_append_of_le_length (by omega), List.take_append_of_le_length (by simp; omega)]
  simp [List.getD, List.getElem?_eq_getElem hi]

theorem flat_length {esz : Nat} : ∀ (xs : List (List AV)), (∀ cs ∈ xs, cs.length = esz) → xs.flatten.length = xs.length * esz
  | [], _ => by simp
  | c :: r, h => by
    rw [List.flatten_cons, List.length_append, flat_length r (fun cs hcs => h cs (by simp [hcs])), h c (by simp), List.length_cons, Nat.add_mul]; omega

theorem OwnArr_seg {F : Fr} {γ : Locs} {w : World} {esz i off k b n : Nat} {xs : List (List AV)} {cur : Array Value} {et : TypeId} {fr : Nat × Nat} {ok : Ok}
    (hb : w.heap[b]? = some (.cells cur et fr)) (hcs : cur.size = n * esz) (hx : xs.length ≤ n) (hu : ∀ cs ∈ xs, cs.length = esz) (h1 : ∀ u ∈ cur.toList, u.oneCell' = true)
    (hr : RepL w ok xs.flatten γ (cur.toList.take xs.flatten.length)) (hi : i < xs.length) (hk : off + k ≤ esz) :
    ∃ us : List Value, us.length = k ∧ (∀ (j : Nat) v, us[j]? = some v → w.cell? ⟨b, i * esz + off + j, Option.none⟩ = some v) ∧ RepL w ok (((xs.getD i []).drop off).take k) γ us ∧ ∀ u ∈ us, u.oneCell' = true := by
  have hL := flat_length xs hu
  have hle : i * esz + off + k ≤ xs.length * esz := by
    have : (i + 1) * esz ≤ xs.length * esz := Nat.mul_le_mul_right _ hi
    rw [Nat.add_mul] at this; omega
  have hle2 : xs.length * esz ≤ n * esz := Nat.mul_le_mul_right _ hx
  refine ⟨(cur.toList.drop (i * esz + off)).take k, ?_, ?_, ?_, ?_⟩
  · simp; omega
  · intro j v hj
    rw [List.getElem?_take] at hj
    split at hj
    · rw [List.getElem?_drop] at hj
      rw [cell_of_row w b _ cur et fr hb]
      simpa using hj
    · cases hj
  · rw [← flat_seg hu hi hk]
    have := RepL_take k (RepL_drop (i * esz + off) hr)
    rw [hL] at this
    rw [List.drop_take, List.take_take] at this
    rwa [Nat.min_eq_left (by omega)] at this
  · intro u hu'
    exact h1 u (List.mem_of_mem_drop (List.mem_of_mem_take hu'))

def loadA (P : Program) (t : TypeId) (a : AV) (ow : Option Own) : Option (Prop × AV) :=
  match tAgg P t, tSize P t, a, ow with
  | some true, some n, .op _ i off, some (.arr esz xs) => some (i < xs.length ∧ off + n ≤ esz, .agg (((xs.getD i []).drop off).take n))
  | some false, some _, .op _ i off, some (.arr esz xs) => some (i < xs.length ∧ off < esz, (xs.getD i []).getD off .junk)
  | some true, some n, .ref cs, _ => some (n ≤ cs.length, .agg (cs.take n))
  | some false, some _, .ref cs, _ => some (0 < cs.length, cs.getD 0 .junk)
  | _, _, _, _ => Option.none

theorem RepL_one {w : World} {ok : Ok} {γ : Locs} {x : AV} {us : List Value} (h : RepL w ok [x] γ us) : ∃ u, us = [u] ∧ Rep w ok x γ u := by
  simp only [RepL] at h
  obtain ⟨u, r, rfl, h1, rfl⟩ := h
  exact ⟨u, rfl, h1⟩

theorem take_one {cs : List AV} {off : Nat} (h : off < cs.length) : (cs.drop off).take 1 = [cs.getD off .junk] := by
  rw [List.drop_eq_getElem_cons h, List.take_succ_cons, List.take_zero]
  simp [List.getD, List.getElem?_eq_getElem h]

theorem loadA_sound {F : Fr} {γ : Locs} {st : St} {a : Act} {w : World} (hI : Inv F γ st a w) {t : TypeId} {x : AV} {ow : Option Own} {c : Prop} {r : AV} (h : loadA P t x ow = some (c, r)) (hc : c)
    (how : ∀ id i off o, x = .op id i off → ow = some o → look st.own id = some o) {u : Value} (hx : Rep w (okOf F γ w) x γ u) :
    ∃ z, (Instr.loadAt t u).run P w = .ok z w ∧ Rep w (okOf F γ w) r γ z := by
  have key : ∀ (ag : Bool) (k : Nat) (b o : Nat) (us : List Value), tAgg P t = some ag → tSize P t = some k → (∀ (j : Nat) v, us[j]? = some v → w.cell? ⟨b, o + j, Option.none⟩ = some v) →
      (ag = true → us.length = k) → (ag = false → 0 < us.length) → ∃ z, (Instr.loadAt t (.pointer (some ⟨b, o, Option.none⟩))).run P w = .ok z w ∧ (ag = true → z = .agg us.toArray) ∧ (ag = false → us[0]? = some z) := by
    intro ag k b o us hag hsz hcell h1 h2
    simp only [Instr.loadAt, Instr.sureAddr, loadVar]
    cases ag with
    | true =>
      refine ⟨.agg us.toArray, ?_, fun _ => rfl, fun h => by cases h⟩
      simp only [Sem.run_bind, Sem.run_pure, Result.andThen_ok, run_isAgg hag, if_true, run_sizeOf hsz]
      rw [← h1 rfl, run_loadCells_list w ⟨b, o, Option.none⟩ us (fun j v hj => by rw [add_none]; exact hcell j v hj)]
      rfl
    | false =>
      have h2 := h2 rfl
      refine ⟨us[0], ?_, fun h => (by cases h), fun _ => List.getElem?_eq_getElem h2⟩
      have := hcell 0 us[0] (List.getElem?_eq_getElem h2)
      simp only [Sem.run_bind, Sem.run_pure, Result.andThen_ok, run_isAgg hag, Bool.false_eq_true, if_false, run_load]
      rw [Nat.add_zero] at this
      rw [this]
  unfold loadA at h
  split at h
  · rename_i n id i off esz xs h1 h2
    simp only [Option.some.injEq, Prod.mk.injEq] at h
    obtain ⟨rfl, rfl⟩ := h
    have ho := hI.own id _ (how id i off _ rfl rfl)
    obtain ⟨b, n', cur, et, fr, g1, g2, g3, g4, g5, g6, g7, g8, g9⟩ := ho
    simp only [Rep] at hx
    obtain ⟨b', esz', n'', e1, rfl⟩ := hx
    rw [g1] at e1
    cases e1
    obtain ⟨us, k1, k2, k3, k4⟩ := OwnArr_seg (F := F) g2 g3 g5 g7 g8 g9 hc.1 hc.2
    obtain ⟨z, hz, hz1, _⟩ := key true n b (i * esz + off) us h1 h2 k2 (fun _ => k1) (fun h => by cases h)
    exact ⟨z, hz, by rw [hz1 rfl]; simp only [Rep]; exact ⟨_, rfl, k3, k4⟩⟩
  · rename_i m id i off esz xs h1 h2
    simp only [Option.some.injEq, Prod.mk.injEq] at h
    obtain ⟨rfl, rfl⟩ := h
    have ho := hI.own id _ (how id i off _ rfl rfl)
    obtain ⟨b, n', cur, et, fr, g1, g2, g3, g4, g5, g6, g7, g8, g9⟩ := ho
    simp only [Rep] at hx
    obtain ⟨b', esz', n'', e1, rfl⟩ := hx
    rw [g1] at e1
    cases e1
    obtain ⟨us, k1, k2, k3, k4⟩ := OwnArr_seg (F := F) (k := 1) g2 g3 g5 g7 g8 g9 hc.1 hc.2
    obtain ⟨z, hz, _, hz2⟩ := key false m b (i * esz + off) us h1 h2 k2 (fun h => by cases h) (fun _ => by omega)
    have hlen : off < (xs.getD i []).length := by
      have : xs.getD i [] = xs[i]'hc.1 := by simp [List.getD, List.getElem?_eq_getElem hc.1]
      rw [this, g7 _ (List.getElem_mem hc.1)]; exact hc.2
    rw [take_one hlen] at k3
    obtain ⟨v, rfl, hv⟩ := RepL_one k3
    have := hz2 rfl
    simp at this
    subst this
    exact ⟨v, hz, hv⟩
  · rename_i n cs h1 h2
    simp only [Option.some.injEq, Prod.mk.injEq] at h
    obtain ⟨rfl, rfl⟩ := h
    simp only [Rep] at hx
    obtain ⟨b, o, rfl, hx⟩ := hx
    obtain ⟨us, k1, k2, k3, k4⟩ := RepC_vals _ (RepC_take n cs hx)
    obtain ⟨z, hz, hz1, _⟩ := key true n b o us h1 h2 k2 (fun _ => by rw [k1, List.length_take]; exact Nat.min_eq_left hc) (fun h => by cases h)
    exact ⟨z, hz, by rw [hz1 rfl]; simp only [Rep]; exact ⟨_, rfl, RepL_mono0 k3, k4⟩⟩
  · rename_i m cs h1 h2
    simp only [Option.some.injEq, Prod.mk.injEq] at h
    obtain ⟨rfl, rfl⟩ := h
    simp only [Rep] at hx
    obtain ⟨b, o, rfl, hx⟩ := hx
    obtain ⟨us, k1, k2, k3, k4⟩ := RepC_vals _ hx
    obtain ⟨z, hz, _, hz2⟩ := key false m b o us h1 h2 k2 (fun h => by cases h) (fun _ => by rw [k1]; exact hc)
    obtain ⟨v, hv, hv2⟩ := RepL_get cs k3 0 (cs.getD 0 .junk) (by simp [List.getD, List.getElem?_eq_getElem hc])
    rw [hz2 rfl] at hv
    cases hv
    exact ⟨z, hz, Rep_mono0 hv2⟩
  · cases h
end Go.Aw
namespace Go.Aw
open Go
set_option linter.unusedVariables false
set_option linter.unusedSimpArgs false
set_option linter.unusedSectionVars false
variable {P : Program}

/-! ### fields -/
def fieldAddrA (P : Program) (s : TypeId) (x : AV) (f : Nat) : Option (Prop × AV) :=
  match tField P s f with
  | Option.none => Option.none
  | some (fo, ft) =>
    match tSize P ft with
    | some (_ + 1) =>
      match x with
      | .op id i off => some (True, .op id i (off + fo))
      | .ref cs => some (fo ≤ cs.length, .ref (cs.drop fo))
      | _ => Option.none
    | _ => Option.none

theorem add_off (b o k : Nat) : ((⟨b, o, Option.none⟩ : Addr).add k) = ⟨b, o + k, Option.none⟩ := add_none b o k

theorem fieldAddrA_sound {s f : Nat} {x r : AV} {c : Prop} (h : fieldAddrA P s x f = some (c, r)) (hc : c) {w : World} {ok : Ok} {γ : Locs} {u : Value} (hx : Rep w ok x γ u) :
    ∃ z, (Instr.fieldAt s u f).run P w = .ok z w ∧ Rep w ok r γ z := by
  unfold fieldAddrA at h
  split at h
  · cases h
  · rename_i fo ft hf
    split at h
    · rename_i m hsz
      unfold tField at hf
      split at hf
      · rename_i fs hfs
        cases hg : fs[f]? with
        | none => rw [hg] at hf; cases hf
        | some fd =>
          rw [hg] at hf
          simp only [Option.map_some, Option.some.injEq, Prod.mk.injEq] at hf
          obtain ⟨rfl, rfl⟩ := hf
          have key : ∀ b o, (Instr.fieldAt s (.pointer (some ⟨b, o, Option.none⟩)) f).run P w = .ok (.pointer (some ⟨b, o + fd.offset, Option.none⟩)) w := by
            intro b o
            unfold Instr.fieldAt fieldPlace Instr.sureAddr
            simp only [Sem.run_bind, run_underlying hfs, Result.andThen_ok, hg, Sem.run_pure, run_sizeOf hsz]
            simp [add_none]
          split at h
          · rename_i id i off
            simp only [Option.some.injEq, Prod.mk.injEq] at h
            obtain ⟨rfl, rfl⟩ := h
            simp only [Rep] at hx
            obtain ⟨b, esz, n, h1, rfl⟩ := hx
            exact ⟨_, key _ _, by simp only [Rep]; exact ⟨b, esz, n, h1, by rw [Nat.add_assoc]⟩⟩
          · simp only [Option.some.injEq, Prod.mk.injEq] at h
            obtain ⟨rfl, rfl⟩ := h
            simp only [Rep] at hx
            obtain ⟨b, o, rfl, h1⟩ := hx
            exact ⟨_, key _ _, by simp only [Rep]; exact ⟨b, _, rfl, RepC_drop _ _ h1 hc⟩⟩
          · cases h
      · cases hf
    · cases h

def fieldA (P : Program) (s : TypeId) (x : AV) (f : Nat) : Option (Prop × AV) :=
  match tField P s f with
  | Option.none => Option.none
  | some (fo, ft) =>
    match tAgg P ft, tSize P ft, x with
    | some true, some n, .agg cs => some (fo + n ≤ cs.length, .agg ((cs.drop fo).take n))
    | some false, some _, .agg cs => some (fo < cs.length, cs.getD fo .junk)
    | _, _, _ => Option.none

theorem run_part_agg {t n : Nat} (h1 : tAgg P t = some true) (h2 : tSize P t = some n) (cs : Array Value) (off : Nat) (w : World) : (part t cs off).run P w = .ok (.agg (cs.extract off (off + n))) w := by
  simp only [part, Sem.run_bind, run_isAgg h1, Result.andThen_ok, if_true, run_sizeOf h2, Sem.run_pure]
theorem run_part_one {t : Nat} (h1 : tAgg P t = some false) (cs : Array Value) (off : Nat) (v : Value) (h : cs[off]? = some v) (w : World) : (part t cs off).run P w = .ok v w := by
  simp only [part, Sem.run_bind, run_isAgg h1, Result.andThen_ok, Bool.false_eq_true, if_false, h, Sem.run_pure]

theorem extract_toList (cs : Array Value) (o n : Nat) : (cs.extract o (o + n)).toList = (cs.toList.drop o).take n := by
  simp [Array.toList_extract, List.extract]

theorem partA {w : World} {ok : Ok} {γ : Locs} {cs : List AV} {vs : Array Value} {o n : Nat} (h : RepL w ok cs γ vs.toList) (h1 : ∀ y ∈ vs.toList, y.oneCell' = true) :
    Rep w ok (.agg ((cs.drop o).take n)) γ (.agg (vs.extract o (o + n))) := by
  simp only [Rep]
  refine ⟨_, rfl, ?_, ?_⟩
  · rw [extract_toList]; exact RepL_take n (RepL_drop o h)
  · rw [extract_toList]; intro y hy; exact h1 y (List.mem_of_mem_drop (List.mem_of_mem_take hy))

theorem fieldA_sound {s f : Nat} {x r : AV} {c : Prop} (h : fieldA P s x f = some (c, r)) (hc : c) {w : World} {ok : Ok} {γ : Locs} {u : Value} (hx : Rep w ok x γ u) :
    ∃ z, (Instr.field s u f).run P w = .ok z w ∧ Rep w ok r γ z := by
  unfold fieldA at h
  split at h
  · cases h
  · rename_i fo ft hf
    unfold tField at hf
    split at hf
    · rename_i fs hfs
      cases hg : fs[f]? with
      | none => rw [hg] at hf; cases hf
      | some fd =>
        rw [hg] at hf
        simp only [Option.map_some, Option.some.injEq, Prod.mk.injEq] at hf
        obtain ⟨rfl, rfl⟩ := hf
        split at h
        · rename_i n cs h1 h2
          simp only [Option.some.injEq, Prod.mk.injEq] at h
          obtain ⟨rfl, rfl⟩ := h
          simp only [Rep] at hx
          obtain ⟨vs, rfl, h3, h4⟩ := hx
          refine ⟨_, ?_, partA h3 h4⟩
          unfold Instr.field
          simp only [Sem.run_bind, run_underlying hfs, Result.andThen_ok, hg, asAgg, Sem.run_pure, run_part_agg h1 h2]
        · rename_i m cs h1 h2
          simp only [Option.some.injEq, Prod.mk.injEq] at h
          obtain ⟨rfl, rfl⟩ := h
          simp only [Rep] at hx
          obtain ⟨vs, rfl, h3, h4⟩ := hx
          obtain ⟨v, h5, h6⟩ := RepL_get cs h3 fd.offset (cs.getD fd.offset .junk) (by simp [List.getD, List.getElem?_eq_getElem hc])
          refine ⟨v, ?_, h6⟩
          unfold Instr.field
          simp only [Sem.run_bind, run_underlying hfs, Result.andThen_ok, hg, asAgg, Sem.run_pure]
          exact run_part_one h1 _ _ _ (by simpa using h5) w
        · cases h
    · cases hf

/-! ### indexes -/
def nth {α : Type} [Inhabited α] (xs : List α) (i : Int) : α := xs.getD i.toNat default
instance : Inhabited AV := ⟨.junk⟩

def indexAddrA (P : Program) (t : TypeId) (x i : AV) (ow : Option Own) : Option (Prop × AV) :=
  match i with
  | .v (.int _ i) =>
    match tElem P t with
    | some e =>
      match tSize P e with
      | some esz =>
        match x, ow with
        | .sl xs _, _ => some (0 ≤ i ∧ i < xs.length ∧ (∀ cs ∈ xs, cs.length = esz), .ref (nth xs i))
        | .os id off len _, some (.arr esz' _) => if esz' = esz then some (0 ≤ i ∧ i < len, .op id (off + i.toNat) 0) else Option.none
        | _, _ => Option.none
      | Option.none => Option.none
    | Option.none =>
      match tArr P t with
      | some (n, e) =>
        match tSize P e with
        | some esz =>
          match x with
          | .op id k off => some (0 ≤ i ∧ i < n, .op id k (off + i.toNat * esz))
          | .ref cs => some (0 ≤ i ∧ i < n ∧ n * esz ≤ cs.length, .ref (cs.drop (i.toNat * esz)))
          | _ => Option.none
        | Option.none => Option.none
      | Option.none => Option.none
  | _ => Option.none

theorem RepEs_nth {w : World} {ok : Ok} {b o esz : Nat} {xs : List (List AV)} {i : Int} (h : RepEs w ok b o xs) (hu : ∀ cs ∈ xs, cs.length = esz) (h0 : 0 ≤ i) (h1 : i < xs.length) : RepC w ok b (o + i.toNat * esz) (nth xs i) := by
  have hi : i.toNat < xs.length := by omega
  exact RepEs_get xs h hu i.toNat _ (by simp [nth, List.getD, List.getElem?_eq_getElem hi])

theorem indexAddrA_sound {F : Fr} {γ : Locs} {st : St} {a : Act} {w : World} (hI : Inv F γ st a w) {t : TypeId} {x i : AV} {ow : Option Own} {c : Prop} {r : AV} (h : indexAddrA P t x i ow = some (c, r)) (hc : c)
    (how : ∀ id off len cp o, x = .os id off len cp → ow = some o → look st.own id = some o) {u v : Value} (hx : Rep w (okOf F γ w) x γ u) (hi : Rep w (okOf F γ w) i γ v) :
    ∃ z, (Instr.indexAt t u v).run P w = .ok z w ∧ Rep w (okOf F γ w) r γ z := by
  unfold indexAddrA at h
  split at h
  case h_2 => cases h
  rename_i k i
  simp only [Rep] at hi
  subst hi
  split at h
  · rename_i e he
    split at h
    · rename_i esz hsz
      split at h
      · rename_i xs sp
        simp only [Option.some.injEq, Prod.mk.injEq] at h
        obtain ⟨rfl, rfl⟩ := h
        obtain ⟨h0, h1, h2⟩ := hc
        simp only [Rep] at hx
        obtain ⟨base, cap, rfl, g1, g2, g3, g4⟩ := hx
        cases base with
        | none => simp only at g4; subst g4; omega
        | some ad =>
          obtain ⟨ab, ao, asp⟩ := ad
          obtain ⟨g4, g5⟩ := g4
          simp only at g4 g5
          subst g4
          refine ⟨_, ?_, by simp only [Rep]; exact ⟨ab, _, rfl, RepEs_nth g5 h2 h0 h1⟩⟩
          unfold Instr.indexAt
          simp only [asIntOf, Sem.run_bind, Sem.run_pure, Result.andThen_ok, run_underlying (und_slice he), if_pos (show 0 ≤ i ∧ i < (xs.length : Int) from ⟨h0, h1⟩), run_sizeOf hsz, add_none]
      · rename_i id off len cp esz' ys
        split at h
        · rename_i hes
          subst hes
          simp only [Option.some.injEq, Prod.mk.injEq] at h
          obtain ⟨rfl, rfl⟩ := h
          obtain ⟨h0, h1⟩ := hc
          have ho := hI.own id _ (how id off len _ _ rfl rfl)
          obtain ⟨b, n', cur, et, fr, g1, _⟩ := ho
          simp only [Rep] at hx
          obtain ⟨b', esz2, n, cap, oo, e1, rfl, e0, e2, _⟩ := hx
          rw [g1] at e1
          cases e1
          have hoo : oo = off * esz' := by
            rcases e0 with e0 | e0
            · omega
            · exact e0
          subst hoo
          refine ⟨_, ?_, by simp only [Rep]; exact ⟨_, _, _, by rw [g1]; rfl, rfl⟩⟩
          unfold Instr.indexAt
          simp only [asIntOf, Sem.run_bind, Sem.run_pure, Result.andThen_ok, run_underlying (und_slice he), if_pos (show 0 ≤ i ∧ i < (len : Int) from ⟨h0, h1⟩), run_sizeOf hsz, add_none]
          simp [Nat.add_mul]
        · cases h
      · cases h
    · cases h
  · split at h
    · rename_i n e he
      split at h
      · rename_i esz hsz
        have key : ∀ b o, 0 ≤ i → i < n → (Instr.indexAt t (.pointer (some ⟨b, o, Option.none⟩)) (.int k i)).run P w = .ok (.pointer (some ⟨b, o + i.toNat * esz, Option.none⟩)) w := by
          intro b o h0 h1
          unfold Instr.indexAt
          simp only [asIntOf, Sem.run_bind, Sem.run_pure, Result.andThen_ok, run_underlying (und_arr he), Instr.sureAddr, if_pos (show 0 ≤ i ∧ i < (n : Int) from ⟨h0, h1⟩), run_sizeOf hsz, add_none]
        split at h
        · simp only [Option.some.injEq, Prod.mk.injEq] at h
          obtain ⟨rfl, rfl⟩ := h
          simp only [Rep] at hx
          obtain ⟨b, esz', n', h1, rfl⟩ := hx
          exact ⟨_, key _ _ hc.1 hc.2, by simp only [Rep]; exact ⟨b, esz', n', h1, by rw [Nat.add_assoc]⟩⟩
        · rename_i cs'
          simp only [Option.some.injEq, Prod.mk.injEq] at h
          obtain ⟨rfl, rfl⟩ := h
          simp only [Rep] at hx
          obtain ⟨b, o, rfl, h1⟩ := hx
          have hle : i.toNat * esz ≤ cs'.length := Nat.le_trans (Nat.mul_le_mul_right esz (show i.toNat ≤ n by omega)) hc.2.2
          exact ⟨_, key _ _ hc.1 hc.2.1, by simp only [Rep]; exact ⟨b, _, rfl, RepC_drop _ _ h1 hle⟩⟩
        · cases h
      · cases h
    · cases h

/-- A string's letter, an array's element. -/
def indexA (P : Program) (t : TypeId) (x i : AV) : Option (Prop × AV) :=
  match i with
  | .v (.int _ i) =>
    match x with
    | .str l => if tStr P t then some (0 ≤ i ∧ i < l.length, .v (.int .u8 (nth l i).toNat)) else Option.none
    | .agg cs =>
      match tArr P t with
      | some (n, e) =>
        match tAgg P e, tSize P e with
        | some true, some esz => some (0 ≤ i ∧ i < n, .agg ((cs.drop (i.toNat * esz)).take esz))
        | some false, some 1 => some (0 ≤ i ∧ i < n ∧ n ≤ cs.length, nth cs i)
        | _, _ => Option.none
      | Option.none => Option.none
    | _ => Option.none
  | _ => Option.none

theorem indexA_sound {t : TypeId} {x i : AV} {c : Prop} {r : AV} (h : indexA P t x i = some (c, r)) (hc : c) {w : World} {ok : Ok} {γ : Locs} {u v : Value} (hx : Rep w ok x γ u) (hi : Rep w ok i γ v) :
    ∃ z, (Instr.index t u v).run P w = .ok z w ∧ Rep w ok r γ z := by
  unfold indexA at h
  split at h
  case h_2 => cases h
  rename_i k i
  simp only [Rep] at hi
  subst hi
  split at h
  · rename_i l
    split at h
    · rename_i ht
      simp only [Option.some.injEq, Prod.mk.injEq] at h
      obtain ⟨rfl, rfl⟩ := h
      obtain ⟨h0, h1⟩ := hc
      simp only [Rep] at hx
      subst hx
      have hi : i.toNat < l.length := by omega
      refine ⟨.int .u8 (nth l i).toNat, ?_, by simp only [Rep]⟩
      have hget : (⟨l.toArray⟩ : ByteArray)[i.toNat]? = some (nth l i) := by
        rw [getElem?_pos (⟨l.toArray⟩ : ByteArray) i.toNat (by simpa [ByteArray.size] using hi)]
        simp [nth, List.getD, List.getElem?_eq_getElem hi, ByteArray.getElem_eq_getElem_data]
      unfold Instr.index
      simp only [asIntOf, Sem.run_bind, Sem.run_pure, Result.andThen_ok, run_underlying (und_str ht), if_pos h0, hget]
    · cases h
  · rename_i cs
    split at h
    · rename_i n e he
      simp only [Rep] at hx
      obtain ⟨vs, rfl, h3, h4⟩ := hx
      split at h
      · rename_i esz h1 h2
        simp only [Option.some.injEq, Prod.mk.injEq] at h
        obtain ⟨rfl, rfl⟩ := h
        refine ⟨_, ?_, partA h3 h4⟩
        unfold Instr.index
        simp only [asIntOf, Sem.run_bind, Sem.run_pure, Result.andThen_ok, run_underlying (und_arr he), if_pos (show 0 ≤ i ∧ i < (n : Int) from hc), run_sizeOf h2, run_part_agg h1 h2]
      · rename_i h1 h2
        simp only [Option.some.injEq, Prod.mk.injEq] at h
        obtain ⟨rfl, rfl⟩ := h
        obtain ⟨c0, c1, c2⟩ := hc
        have hi : i.toNat < cs.length := by omega
        obtain ⟨v, h5, h6⟩ := RepL_get cs h3 i.toNat (nth cs i) (by simp [nth, List.getD, List.getElem?_eq_getElem hi])
        refine ⟨v, ?_, h6⟩
        unfold Instr.index
        simp only [asIntOf, Sem.run_bind, Sem.run_pure, Result.andThen_ok, run_underlying (und_arr he), if_pos (show 0 ≤ i ∧ i < (n : Int) from ⟨c0, c1⟩), run_sizeOf h2]
        exact run_part_one h1 _ _ _ (by simpa using h5) w
      · cases h
    · cases h
  · cases h
end Go.Aw
namespace Go.Aw
open Go
set_option linter.unusedVariables false
set_option linter.unusedSimpArgs false
set_option linter.unusedSectionVars false
variable {P : Program}

def cellsOf : AV → Option (List AV)
  | .agg cs => some cs
  | .tup _ => Option.none
  | .cond _ _ => Option.none
  | .junk => Option.none
  | .v x => if x.oneCell' then some [.v x] else Option.none
  | a => some [a]

theorem RepL_single {w : World} {ok : Ok} {γ : Locs} {x : AV} {u : Value} (h : Rep w ok x γ u) : RepL w ok [x] γ [u] := by
  simp only [RepL]; exact ⟨u, [], rfl, h, rfl⟩

theorem cells_one {u : Value} (h : u.oneCell' = true) : u.cells = #[u] := by
  cases u <;> simp [Value.oneCell'] at h <;> rfl

theorem cellsOf_sound {a : AV} {cs : List AV} (h : cellsOf a = some cs) {w : World} {ok : Ok} {γ : Locs} {u : Value} (hx : Rep w ok a γ u) :
    RepL w ok cs γ u.cells.toList ∧ ∀ y ∈ u.cells.toList, y.oneCell' = true := by
  have one : u.oneCell' = true → Rep w ok a γ u → RepL w ok [a] γ u.cells.toList ∧ ∀ y ∈ u.cells.toList, y.oneCell' = true := by
    intro h1 h2
    rw [cells_one h1]
    exact ⟨RepL_single h2, by simpa using h1⟩
  cases a <;> simp only [cellsOf, Option.some.injEq, reduceCtorEq] at h
  case agg ds => subst h; simp only [Rep] at hx; obtain ⟨vs, rfl, h1, h2⟩ := hx; exact ⟨h1, h2⟩
  case v x =>
    split at h
    · rename_i hq; simp only [Option.some.injEq] at h; subst h; refine one ?_ hx; simp only [Rep] at hx; subst hx; exact hq
    · cases h
  case str l => subst h; refine one ?_ hx; simp only [Rep] at hx; subst hx; rfl
  case sl xs sp => subst h; refine one ?_ hx; simp only [Rep] at hx; obtain ⟨_, _, rfl, _⟩ := hx; rfl
  case ref cs => subst h; refine one ?_ hx; simp only [Rep] at hx; obtain ⟨_, _, rfl, _⟩ := hx; rfl
  case ifc t x => subst h; refine one ?_ hx; simp only [Rep] at hx; obtain ⟨_, rfl, _⟩ := hx; rfl
  case fn f a b => subst h; refine one ?_ hx; simp only [Rep] at hx; obtain ⟨_, _, rfl, _⟩ := hx; rfl
  case op i j k => subst h; refine one ?_ hx; simp only [Rep] at hx; obtain ⟨_, _, _, _, rfl⟩ := hx; rfl
  case os i j k cp => subst h; refine one ?_ hx; simp only [Rep] at hx; obtain ⟨_, _, _, _, _, _, rfl, _⟩ := hx; rfl
  case ub => subst h; refine one ?_ hx; simp only [Rep] at hx; obtain ⟨_, rfl⟩ := hx; rfl
  case om i => subst h; refine one ?_ hx; simp only [Rep] at hx; obtain ⟨_, _, rfl⟩ := hx; rfl

/-- Cells laid into cells. -/
def spl : List AV → Nat → List AV → List AV
  | cells, _, [] => cells
  | cells, off, c :: r => spl (cells.set off c) (off + 1) r

def splV : List Value → Nat → List Value → List Value
  | cells, _, [] => cells
  | cells, off, c :: r => splV (cells.set off c) (off + 1) r

theorem spl_length : ∀ (cs : List AV) (cells : List AV) (off : Nat), (spl cells off cs).length = cells.length
  | [], cells, off => rfl
  | c :: r, cells, off => by simp [spl, spl_length r]
theorem splV_length : ∀ (cs : List Value) (cells : List Value) (off : Nat), (splV cells off cs).length = cells.length
  | [], cells, off => rfl
  | c :: r, cells, off => by simp [splV, splV_length r]

theorem RepL_set {w : World} {ok : Ok} {γ : Locs} {x : AV} {u : Value} : ∀ (i : Nat) {xs : List AV} {us : List Value}, RepL w ok xs γ us → Rep w ok x γ u → RepL w ok (xs.set i x) γ (us.set i u)
  | i, [], us, h, _ => by simp [RepL] at h; subst h; simp [RepL]
  | 0, y :: xs, us, h, hx => by
    simp only [RepL] at h
    obtain ⟨v, r, rfl, h3, h4⟩ := h
    simp only [List.set_cons_zero, RepL]
    exact ⟨u, r, rfl, hx, h4⟩
  | i + 1, y :: xs, us, h, hx => by
    simp only [RepL] at h
    obtain ⟨v, r, rfl, h3, h4⟩ := h
    simp only [List.set_cons_succ, RepL]
    exact ⟨v, _, rfl, h3, RepL_set i h4 hx⟩

theorem RepL_spl {w : World} {ok : Ok} {γ : Locs} : ∀ {cs : List AV} {vs : List Value} {cells : List AV} {us : List Value} {off : Nat}, RepL w ok cells γ us → RepL w ok cs γ vs → RepL w ok (spl cells off cs) γ (splV us off vs)
  | [], vs, cells, us, off, h, h2 => by simp [RepL] at h2; subst h2; exact h
  | c :: r, vs, cells, us, off, h, h2 => by
    simp only [RepL] at h2
    obtain ⟨v, vs', rfl, h3, h4⟩ := h2
    simp only [spl, splV]
    exact RepL_spl (RepL_set off h h3) h4

theorem splV_mem : ∀ {vs us : List Value} {off : Nat} {p : Value → Prop}, (∀ u ∈ us, p u) → (∀ v ∈ vs, p v) → ∀ y ∈ splV us off vs, p y
  | [], us, off, p, h1, _, y, hy => h1 y hy
  | v :: vs, us, off, p, h1, h2, y, hy => by
    refine splV_mem (us := us.set off v) (fun u hu => ?_) (fun v hv => h2 v (by simp [hv])) y hy
    rcases List.mem_or_eq_of_mem_set hu with h | h
    · exact h1 u h
    · subst h; exact h2 u (by simp)

theorem foldl_splV : ∀ (vs : List Value) (k off : Nat) (cells : Array Value), ((vs.zipIdx k).foldl (fun cs (c, j) => cs.setIfInBounds (off + j) c) cells).toList = splV cells.toList (off + k) vs
  | [], k, off, cells => rfl
  | v :: vs, k, off, cells => by
    simp only [List.zipIdx_cons, List.foldl_cons, splV]
    rw [foldl_splV vs (k + 1) off]
    rw [Array.toList_setIfInBounds, Nat.add_assoc]

theorem foldl_splV' (v : Array Value) (off : Nat) (cells : Array Value) : (v.zipIdx.foldl (fun cs (c, j) => cs.setIfInBounds (off + j) c) cells).toList = splV cells.toList off v.toList := by
  rw [← Array.foldl_toList, Array.toList_zipIdx]
  exact foldl_splV v.toList 0 off cells

/-! ### build -/
def fillA (place : Nat → Option (Nat × Nat)) : List AV → List (Nat × AV) → Option (Prop × List AV)
  | cells, [] => some (True, cells)
  | cells, (i, a) :: rest =>
    match place i, cellsOf a with
    | some (off, size), some cs =>
      match fillA place (spl cells off cs) rest with
      | some (c, r) => some ((cs.length = size ∧ off + size ≤ cells.length) ∧ c, r)
      | Option.none => Option.none
    | _, _ => Option.none

theorem fillA_sound {place : Nat → Option (Nat × Nat)} {w : World} {ok : Ok} {γ : Locs} : ∀ {parts : List (Nat × AV)} {vparts : List (Nat × Value)} {cells r : List AV} {us : Array Value} {c : Prop},
    fillA place cells parts = some (c, r) → c → RepL w ok cells γ us.toList → (∀ u ∈ us.toList, u.oneCell' = true) →
    vparts.length = parts.length → (∀ (j i : Nat) (a : AV) (u : Value) (k : Nat), parts[j]? = some (i, a) → vparts[j]? = some (k, u) → k = i ∧ Rep w ok a γ u) →
    ∃ out : Array Value, Instr.fill place us vparts = some out ∧ RepL w ok r γ out.toList ∧ (∀ u ∈ out.toList, u.oneCell' = true) ∧ out.size = us.size
  | [], vparts, cells, r, us, c, h, hc, h1, h2, hl, hp => by
    have : vparts = [] := List.eq_nil_of_length_eq_zero hl
    subst this
    simp only [fillA, Option.some.injEq, Prod.mk.injEq] at h
    obtain ⟨rfl, rfl⟩ := h
    exact ⟨us, rfl, h1, h2, rfl⟩
  | (i, a) :: rest, [], cells, r, us, c, h, hc, h1, h2, hl, hp => by simp at hl
  | (i, a) :: rest, (k, u) :: vrest, cells, r, us, c, h, hc, h1, h2, hl, hp => by
    obtain ⟨rfl, hu⟩ := hp 0 i a u k rfl rfl
    simp only [fillA] at h
    split at h
    · rename_i off size cs hpl hcs
      split at h
      · rename_i c' r' hf
        simp only [Option.some.injEq, Prod.mk.injEq] at h
        obtain ⟨rfl, rfl⟩ := h
        obtain ⟨⟨g1, g2⟩, hc'⟩ := hc
        obtain ⟨k1, k2⟩ := cellsOf_sound hcs hu
        have hlen : u.cells.size = size := by rw [← Array.length_toList, RepL_length cs k1, g1]
        have husz : us.size = cells.length := by rw [← Array.length_toList, RepL_length cells h1]
        let us' : Array Value := u.cells.zipIdx.foldl (fun cs (c, j) => cs.setIfInBounds (off + j) c) us
        have hus' : us'.toList = splV us.toList off u.cells.toList := foldl_splV' _ _ _
        obtain ⟨out, e1, e2, e3, e4⟩ := fillA_sound (us := us') (vparts := vrest) hf hc' (by rw [hus']; exact RepL_spl h1 k1) (by rw [hus']; exact splV_mem h2 k2)
          (by simpa using hl) (fun j i' a' u' k' q1 q2 => hp (j + 1) i' a' u' k' (by simpa using q1) (by simpa using q2))
        refine ⟨out, ?_, e2, e3, ?_⟩
        · unfold Instr.fill
          rw [hpl]
          simp only
          rw [if_neg (by simp [hlen]; omega)]
          exact e1
        · rw [e4, ← Array.length_toList, hus', splV_length, Array.length_toList]
      · cases h
    · cases h

/-- The places of a type's parts; its zero's cells. -/
def tPlaces (P : Program) (t : TypeId) : Option (List (Nat × Nat)) :=
  match P.underlying t with
  | some (.struct fields) => fields.toList.mapM (fun f => (P.info? f.type).map fun i => (f.offset, i.size))
  | _ => Option.none
def tZero (P : Program) (t : TypeId) : Option (List Value) :=
  ((P.info? t).bind (·.zero)).bind fun z => if z.cells.toList.all (·.oneCell') then some z.cells.toList else Option.none

theorem tZero_spec {t : TypeId} {zs : List Value} (h : tZero P t = some zs) : ∃ i z, P.info? t = some i ∧ i.zero = some z ∧ z.cells.toList = zs ∧ ∀ u ∈ zs, u.oneCell' = true := by
  unfold tZero at h
  cases hi : P.info? t with
  | none => simp [hi] at h
  | some i =>
    cases hz : i.zero with
    | none => simp [hi, hz] at h
    | some z =>
      simp only [hi, Option.bind_some, hz] at h
      split at h
      · rename_i ha
        simp only [Option.some.injEq] at h
        exact ⟨i, z, rfl, hz, h, by subst h; exact List.all_eq_true.1 ha⟩
      · cases h

theorem RepL_const {w : World} {ok : Ok} {γ : Locs} : ∀ (zs : List Value), RepL w ok (zs.map constAV) γ zs
  | [] => by simp [RepL]
  | z :: zs => by simp only [List.map_cons, RepL]; exact ⟨z, zs, rfl, rep_const w ok γ z, RepL_const zs⟩

def buildA (P : Program) (t : TypeId) (parts : List (Nat × AV)) : Option (Prop × AV) :=
  match tZero P t with
  | some zs =>
    match tPlaces P t with
    | some ps => (fillA (ps[·]?) (zs.map constAV) parts).map fun p => (p.1, .agg p.2)
    | Option.none =>
      match tArr P t with
      | some (_, e) =>
        match tSize P e with
        | some n => (fillA (fun i => some (i * n, n)) (zs.map constAV) parts).map fun p => (p.1, .agg p.2)
        | Option.none => Option.none
      | Option.none => Option.none
  | Option.none => Option.none

theorem buildA_sound {t : TypeId} {parts : List (Nat × AV)} {c : Prop} {r : AV} (h : buildA P t parts = some (c, r)) (hc : c) {w : World} {ok : Ok} {γ : Locs} {vparts : Array (Nat × Value)}
    (hl : vparts.size = parts.length) (hp : ∀ (j i : Nat) (a : AV) (u : Value) (k : Nat), parts[j]? = some (i, a) → vparts[j]? = some (k, u) → k = i ∧ Rep w ok a γ u) :
    ∃ z, (Instr.build t vparts).run P w = .ok z w ∧ Rep w ok r γ z := by
  unfold buildA at h
  split at h
  · rename_i zs hz
    obtain ⟨i, z, hi, hiz, hzs, hone⟩ := tZero_spec hz
    have hR : RepL w ok (zs.map constAV) γ z.cells.toList := by rw [hzs]; exact RepL_const zs
    have ho : ∀ u ∈ z.cells.toList, u.oneCell' = true := by rw [hzs]; exact hone
    have fin : ∀ place, fillA place (zs.map constAV) parts = some (c, (match r with | .agg cs => cs | _ => [])) → (∃ cs, r = .agg cs) → (∀ out, Instr.fill place z.cells vparts.toList = some out → P.built t vparts.toList = some out) →
        ∃ z, (Instr.build t vparts).run P w = .ok z w ∧ Rep w ok r γ z := by
      intro place hf ⟨cs, hr⟩ hb
      subst hr
      obtain ⟨out, e1, e2, e3, _⟩ := fillA_sound (us := z.cells) (vparts := vparts.toList) hf hc hR ho (by simpa using hl) (fun j i' a' u' k' q1 q2 => hp j i' a' u' k' q1 (by simpa using q2))
      exact ⟨_, run_build w t vparts out (hb out e1), by simp only [Rep]; exact ⟨out, rfl, e2, e3⟩⟩
    split at h
    · rename_i ps hps
      cases hf : fillA (fun x => ps[x]?) (zs.map constAV) parts with
      | none => rw [hf] at h; cases h
      | some p =>
        rw [hf] at h
        simp only [Option.map_some, Option.some.injEq, Prod.mk.injEq] at h
        obtain ⟨rfl, rfl⟩ := h
        refine fin _ hf ⟨_, rfl⟩ fun out ho' => ?_
        unfold tPlaces at hps
        unfold Program.built
        split at hps
        · rename_i fields hu
          simp only [hi, hu, hiz, hps]
          simpa using ho'
        · cases hps
    · split at h
      · rename_i n' e he
        split at h
        · rename_i n hn
          cases hf : fillA (fun i => some (i * n, n)) (zs.map constAV) parts with
          | none => rw [hf] at h; cases h
          | some p =>
            rw [hf] at h
            simp only [Option.map_some, Option.some.injEq, Prod.mk.injEq] at h
            obtain ⟨rfl, rfl⟩ := h
            refine fin _ hf ⟨_, rfl⟩ fun out ho' => ?_
            unfold Program.built
            unfold tSize at hn
            cases hie : P.info? e with
            | none => rw [hie] at hn; cases hn
            | some ie =>
              rw [hie] at hn
              simp only [Option.map_some, Option.some.injEq] at hn
              simp only [hi, und_arr he, hiz, hie, hn]
              exact ho'
        · cases h
      · cases h
  · cases h
end Go.Aw
namespace Go.Aw
open Go
set_option linter.unusedVariables false
set_option linter.unusedSimpArgs false
set_option linter.unusedSectionVars false
variable {P : Program}

/-- What an operation leaves. -/
structure Left (F : Fr) (γ γ' : Locs) (w w' : World) : Prop where
  le : LocsLe γ γ'
  ok : ∀ b o, okOf F γ w b o → okOf F γ' w' b o
  cell : ∀ b o, okOf F γ w b o → w'.cell? ⟨b, o, Option.none⟩ = w.cell? ⟨b, o, Option.none⟩

theorem Left.refl (F : Fr) (γ : Locs) (w : World) : Left F γ γ w w := ⟨LocsLe.refl _, fun _ _ h => h, fun _ _ _ => rfl⟩
theorem Loc.le.trans' {a b c : Loc} (h : Loc.le a b) (k : Loc.le b c) : Loc.le a c := by
  cases h with
  | refl => exact k
  | ss h1 => cases k with
    | refl => exact .ss h1
    | ss h2 => exact .ss (by omega)
  | fs h1 => cases k with
    | refl => exact .fs h1
    | ss h2 => exact .fs (by omega)
  | die => cases k with
    | refl => exact .die
theorem LocsLe.trans {a b c : Locs} (h : LocsLe a b) (k : LocsLe b c) : LocsLe a c := fun id l hl => by
  obtain ⟨l', h1, h2⟩ := h id l hl
  obtain ⟨l'', h3, h4⟩ := k id l' h1
  exact ⟨l'', h3, h2.trans' h4⟩
theorem Left.trans {F : Fr} {γ γ' γ'' : Locs} {w w' w'' : World} (h : Left F γ γ' w w') (k : Left F γ' γ'' w' w'') : Left F γ γ'' w w'' :=
  ⟨h.le.trans k.le, fun b o hb => k.ok b o (h.ok b o hb), fun b o hb => (k.cell b o (h.ok b o hb)).trans (h.cell b o hb)⟩
theorem Left.rep {F : Fr} {γ γ' : Locs} {w w' : World} (h : Left F γ γ' w w') {x : AV} {u : Value} (hx : Rep w (okOf F γ w) x γ u) : Rep w' (okOf F γ' w') x γ' u := Rep_mono h.ok h.cell x h.le hx
theorem Left.repL {F : Fr} {γ γ' : Locs} {w w' : World} (h : Left F γ γ' w w') {x : List AV} {u : List Value} (hx : RepL w (okOf F γ w) x γ u) : RepL w' (okOf F γ' w') x γ' u := RepL_mono h.ok h.cell x h.le hx

section upd
variable {F : Fr} {γ : Locs} {st : St} {a : Act} {w : World}

/-- One number's place and what is owned there turn. -/
theorem Inv.upd (hI : Inv F γ st a w) {w' : World} {id nx : Nat} {obj : Own} {l' : Loc}
    (hos : w'.os = w.os) (htape : w'.tape = w.tape) (hout : w'.output = w.output) (hsz : w.heap.size ≤ w'.heap.size)
    (hid : ∀ l, γ id = some l → Loc.le l l')
    (hheap : ∀ k, k < w.heap.size → (∀ l, γ id = some l → l.block ≠ some k) → w'.heap[k]? = w.heap[k]?)
    (hcell : ∀ b o, okOf F γ w b o → w'.cell? ⟨b, o, Option.none⟩ = w.cell? ⟨b, o, Option.none⟩)
    (hblk : ∀ b, l'.block = some b → (w.heap.size ≤ b ∧ b < w'.heap.size) ∨ (∃ l, γ id = some l ∧ l.block = some b))
    (hap : ∀ b o, okOf F γ w b o → l'.apart b o)
    (hobj : Left F γ (γ.set id l') w w' → OwnRep F (γ.set id l') w' id obj) :
    Inv F (γ.set id l') { st with own := (id, obj) :: st.own, next := nx } a w' ∧ Left F γ (γ.set id l') w w' := by
  have hle : LocsLe γ (γ.set id l') := fun i l hi => by
    by_cases h : i = id
    · subst h; exact ⟨l', by simp [Locs.set], hid l hi⟩
    · exact ⟨l, by simp [Locs.set, h, hi], .refl _⟩
  have hok : ∀ b o, okOf F γ w b o → okOf F (γ.set id l') w' b o := by
    intro b o hb
    obtain ⟨h1, h2, h3⟩ := hb
    refine ⟨by omega, h2, fun i l hi => ?_⟩
    unfold Locs.set at hi
    split at hi
    · cases hi; exact hap b o ⟨h1, h2, h3⟩
    · exact h3 i l hi
  have hL : Left F γ (γ.set id l') w w' := ⟨hle, hok, hcell⟩
  refine ⟨?_, hL⟩
  refine hI.core hos htape hout hsz hle hok hcell ?_ ?_ ?_ ?_ ?_
  · intro k hk hx
    exact hheap k (by have := hI.size; omega) fun l hl hb => hI.blk_ne hl hb hk hx rfl
  · intro i o hi
    simp only [look] at hi
    split at hi
    · rename_i h; subst h; cases hi; exact hobj hL
    · rename_i h
      refine OwnRep_mono hok hcell hle (by unfold Locs.set; rw [if_neg h]) ?_ (hI.own i o hi)
      intro l b h1 h2
      exact hheap b (hI.blk i l b h1 h2).1 fun l2 hl2 hb2 => h (hI.dist i id l l2 b h1 hl2 h2 hb2)
  · intro i l hi
    unfold Locs.set at hi
    simp only [look]
    split at hi
    · rename_i h; exact ⟨obj, by rw [if_pos h]⟩
    · rename_i h; rw [if_neg h]; exact hI.dom i l hi
  · intro i l b hi hb
    unfold Locs.set at hi
    split at hi
    · cases hi
      rcases hblk b hb with h | ⟨l, h1, h2⟩
      · exact ⟨h.2, .inl (by have := hI.size; omega)⟩
      · obtain ⟨h3, h4⟩ := hI.blk id l b h1 h2; exact ⟨by omega, h4⟩
    · obtain ⟨h1, h2⟩ := hI.blk i l b hi hb; exact ⟨by omega, h2⟩
  · intro i i' l1 l2 b h1 h2 hb1 hb2
    unfold Locs.set at h1 h2
    split at h1 <;> split at h2
    · rename_i e1 e2; exact e1.trans e2.symm
    · rename_i e1 e2
      cases h1
      rcases hblk b hb1 with h | ⟨l, h3, h4⟩
      · have := (hI.blk i' l2 b h2 hb2).1; omega
      · exact e1.trans (hI.dist id i' l l2 b h3 h2 h4 hb2)
    · rename_i e1 e2
      cases h2
      rcases hblk b hb2 with h | ⟨l, h3, h4⟩
      · have := (hI.blk i l1 b h1 hb1).1; omega
      · exact (hI.dist i id l1 l b h1 h3 hb1 h4).trans e2.symm
    · exact hI.dist i i' l1 l2 b h1 h2 hb1 hb2

/-- The memory grows, or an order is drawn. -/
theorem Inv.grow (hI : Inv F γ st a w) {w' : World} (hos : w'.os = w.os) (htape : w'.tape = w.tape) (hout : w'.output = w.output) (hsz : w.heap.size ≤ w'.heap.size)
    (hheap : ∀ k, k < w.heap.size → w'.heap[k]? = w.heap[k]?) : Inv F γ st a w' ∧ Left F γ γ w w' := by
  have hL : Left F γ γ w w' := ⟨LocsLe.refl _, fun b o h => ⟨by have := h.1; omega, h.2⟩, fun b o h => cell_eq_of_heap (hheap b h.1)⟩
  refine ⟨?_, hL⟩
  exact hI.core (nx := st.next) hos htape hout hsz hL.le hL.ok hL.cell (fun k hk _ => hheap k (by have := hI.size; omega))
    (fun i o hi => OwnRep_mono hL.ok hL.cell hL.le rfl (fun l b h1 h2 => hheap b (hI.blk i l b h1 h2).1) (hI.own i o hi)) hI.dom
    (fun i l b h1 h2 => ⟨by have := (hI.blk i l b h1 h2).1; omega, (hI.blk i l b h1 h2).2⟩) hI.dist

theorem Inv.drew (hI : Inv F γ st a w) : Inv F γ st a w.drew ∧ Left F γ γ w w.drew :=
  hI.grow rfl rfl rfl (Nat.le_refl _) fun _ _ => rfl

theorem okOf_new (hI : Inv F γ st a w) {w' : World} (hsz : w.heap.size < w'.heap.size) (o : Nat) : okOf F γ w' w.heap.size o :=
  ⟨hsz, fun h => by have := hI.size; omega, fun i l hi => by
    have : ∀ b, l.block = some b → w.heap.size ≠ b := fun b hb => by have := (hI.blk i l b hi hb).1; omega
    cases l with
    | arr b _ _ => exact this b rfl
    | map b => exact this b rfl
    | spare _ _ b _ _ => exact fun e => absurd e (this b rfl)
    | full _ _ => trivial
    | dead _ _ _ => trivial⟩
end upd

/-! ### what may lie in memory that all may see -/
def pure1 : AV → Bool
  | .v _ => true
  | .str _ => true
  | .sl _ (.own _) => false
  | .sl _ _ => true
  | .ref _ => true
  | .ifc _ x => pure1 x
  | .agg _ => false
  | .tup _ => false
  | .fn _ first caps => first.isEmpty && caps.isEmpty
  | _ => false

theorem Rep_pure {w : World} {ok : Ok} {γ : Locs} : ∀ {x : AV}, pure1 x = true → ∀ {u : Value}, Rep w ok x γ u → Rep w ok x noLocs u
  | .v x, _, u, h => h
  | .str l, _, u, h => h
  | .sl xs .none, _, u, h => h
  | .sl xs .tight, _, u, h => h
  | .sl xs (.own id), hp, u, h => by simp [pure1] at hp
  | .ref cs, _, u, h => h
  | .ifc t x, hp, u, h => by
    simp only [Rep] at h ⊢
    obtain ⟨y, rfl, h1⟩ := h
    exact ⟨y, rfl, Rep_pure (by simpa [pure1] using hp) h1⟩
  | .fn f first caps, hp, u, h => by
    simp [pure1, List.isEmpty_iff] at hp
    obtain ⟨rfl, rfl⟩ := hp
    simp only [Rep] at h ⊢
    obtain ⟨fs, cs, rfl, h1, h2⟩ := h
    exact ⟨fs, cs, rfl, h1, h2⟩
  | .agg _, hp, u, h => by simp [pure1] at hp
  | .tup _, hp, u, h => by simp [pure1] at hp
  | .op _ _ _, hp, u, h => by simp [pure1] at hp
  | .os _ _ _ _, hp, u, h => by simp [pure1] at hp
  | .om _, hp, u, h => by simp [pure1] at hp
  | .cond _ _, hp, u, h => by simp [pure1] at hp
  | .junk, hp, u, h => by simp [pure1] at hp

/-- The room behind a slice is given up. -/
def imm1 : AV → AV
  | .sl xs (.own _) => .sl xs .none
  | x => x

theorem Rep_imm1 {w : World} {ok : Ok} {γ : Locs} {x : AV} {u : Value} (h : Rep w ok x γ u) : Rep w ok (imm1 x) γ u := by
  unfold imm1
  split
  · simp only [Rep] at h ⊢
    obtain ⟨base, cap, rfl, h1, h2, h3, h4⟩ := h
    exact ⟨base, cap, rfl, h1, h2, trivial, h4⟩
  · exact h

theorem RepL_imm1 {w : World} {ok : Ok} {γ : Locs} : ∀ {xs : List AV} {us : List Value}, RepL w ok xs γ us → RepL w ok (xs.map imm1) γ us
  | [], us, h => h
  | x :: xs, us, h => by
    simp only [RepL, List.map_cons] at h ⊢
    obtain ⟨u, r, rfl, h1, h2⟩ := h
    exact ⟨u, r, rfl, Rep_imm1 h1, RepL_imm1 h2⟩

theorem RepL_pure {w : World} {ok : Ok} {γ : Locs} : ∀ {xs : List AV} {us : List Value}, (∀ x ∈ xs, pure1 x = true) → RepL w ok xs γ us → RepL w ok xs noLocs us
  | [], us, _, h => h
  | x :: xs, us, hp, h => by
    simp only [RepL] at h ⊢
    obtain ⟨u, r, rfl, h1, h2⟩ := h
    exact ⟨u, r, rfl, Rep_pure (hp x (by simp)) h1, RepL_pure (fun y hy => hp y (by simp [hy])) h2⟩

/-- Cells that a block holds. -/
theorem RepC_of_block {w : World} {ok : Ok} {b : Nat} {cur : Array Value} {et : TypeId} {fr : Nat × Nat} (hb : w.heap[b]? = some (.cells cur et fr)) :
    ∀ {cs : List AV} {us : List Value} {o : Nat}, RepL w ok cs noLocs us → (∀ u ∈ us, u.oneCell' = true) → (∀ (j : Nat) u, us[j]? = some u → cur[o + j]? = some u) → (∀ j, j < us.length → ok b (o + j)) → RepC w ok b o cs
  | [], us, o, h, _, _, _ => by simp only [RepC]
  | c :: cs, us, o, h, h1, h2, h3 => by
    simp only [RepL] at h
    obtain ⟨u, r, rfl, h4, h5⟩ := h
    simp only [RepC]
    refine ⟨⟨h3 0 (by simp), u, ?_, h1 u (by simp), h4⟩, RepC_of_block hb h5 (fun y hy => h1 y (by simp [hy])) (fun j y hj => ?_) (fun j hj => ?_)⟩
    · rw [cell_of_row w b o cur et fr hb]; exact h2 0 u rfl
    · have := h2 (j + 1) y (by simpa using hj); rwa [show o + (j + 1) = o + 1 + j from by omega] at this
    · have := h3 (j + 1) (by simpa using hj); rwa [show o + (j + 1) = o + 1 + j from by omega] at this

def chunks (n : Nat) : Nat → List AV → List (List AV)
  | 0, _ => []
  | k + 1, l => l.take n :: chunks n k (l.drop n)

theorem RepC_append {w : World} {ok : Ok} {b : Nat} : ∀ {xs ys : List AV} {o : Nat}, RepC w ok b o (xs ++ ys) ↔ RepC w ok b o xs ∧ RepC w ok b (o + xs.length) ys
  | [], ys, o => by simp [RepC]
  | x :: xs, ys, o => by
    simp only [List.cons_append, RepC, RepC_append (xs := xs), List.length_cons, and_assoc]
    rw [show o + 1 + xs.length = o + (xs.length + 1) from by omega]

theorem RepEs_flatten {w : World} {ok : Ok} {b : Nat} : ∀ {xs : List (List AV)} {o : Nat}, RepC w ok b o xs.flatten → RepEs w ok b o xs
  | [], o, h => by simp only [RepEs]
  | c :: r, o, h => by
    rw [List.flatten_cons] at h
    have := RepC_append.1 h
    simp only [RepEs]
    exact ⟨this.1, RepEs_flatten this.2⟩

theorem chunks_flatten {n : Nat} : ∀ {k : Nat} {l : List AV}, l.length = k * n → (chunks n k l).flatten = l
  | 0, l, h => by simp at h; subst h; rfl
  | k + 1, l, h => by
    rw [chunks, List.flatten_cons, chunks_flatten (by simp [h, Nat.add_mul]), List.take_append_drop]
theorem chunks_length {n : Nat} : ∀ {k : Nat} {l : List AV}, (chunks n k l).length = k
  | 0, l => rfl
  | k + 1, l => by simp [chunks, chunks_length]
end Go.Aw
namespace Go.Aw
open Go
set_option linter.unusedVariables false
set_option linter.unusedSimpArgs false
set_option linter.unusedSectionVars false
variable {P : Program}

/-- An operation that leaves a value: what is known behind it. -/
def Does (P : Program) (F : Fr) (γ : Locs) (st : St) (a : Act) (w : World) (s : Sem Value) (R : Res) : Prop :=
  ∃ z w' γ', s.run P w = .ok z w' ∧ Inv F γ' { st with own := R.up ++ st.own, next := R.nx } a w' ∧ Left F γ γ' w w' ∧ Rep w' (okOf F γ' w') R.r γ' z

section
variable {F : Fr} {γ : Locs} {st : St} {a : Act} {w : World}

theorem alloc_old (w : World) (o : Obj) (k : Nat) (h : k < w.heap.size) : (w.alloc o).heap[k]? = w.heap[k]? := by
  show (w.heap.push o)[k]? = _
  rw [Array.getElem?_push, if_neg (by omega)]
theorem alloc_new (w : World) (o : Obj) : (w.alloc o).heap[w.heap.size]? = some o := by
  show (w.heap.push o)[w.heap.size]? = some o
  simp
theorem alloc_size (w : World) (o : Obj) : (w.alloc o).heap.size = w.heap.size + 1 := by
  show (w.heap.push o).size = _
  simp

/-- A new row of cells that is owned. -/
theorem Inv.newArr (hI : Inv F γ st a w) {id nx esz n : Nat} {xs : List (List AV)} {cells : Array Value} {et : TypeId} {w1 : World} (hw : w1 = w ∨ w1 = w.drew) (hfresh : look st.own id = Option.none)
    (hsz : cells.size = n * esz) (hn : n ≤ maxLen) (hxn : xs.length ≤ n) (hu : ∀ cs ∈ xs, cs.length = esz) (h1 : ∀ u ∈ cells.toList, u.oneCell' = true)
    (hR : RepL w (okOf F γ w) xs.flatten γ (cells.toList.take xs.flatten.length)) :
    Inv F (γ.set id (.arr w.heap.size esz n)) { st with own := (id, .arr esz xs) :: st.own, next := nx } a (w1.alloc (.cells cells et)) ∧
      Left F γ (γ.set id (.arr w.heap.size esz n)) w (w1.alloc (.cells cells et)) := by
  have hg := look_none_of hI hfresh
  have hh : w1.heap = w.heap := by rcases hw with rfl | rfl <;> rfl
  have hnew : (w1.alloc (.cells cells et)).heap[w.heap.size]? = some (.cells cells et) := by rw [← hh]; exact alloc_new w1 _
  have hold : ∀ k, k < w.heap.size → (w1.alloc (.cells cells et)).heap[k]? = w.heap[k]? := fun k hk => by rw [alloc_old w1 _ k (by rw [hh]; exact hk), hh]
  have hsize : (w1.alloc (.cells cells et)).heap.size = w.heap.size + 1 := by rw [alloc_size, hh]
  refine hI.upd (by rcases hw with rfl | rfl <;> rfl) (by rcases hw with rfl | rfl <;> rfl) (by rcases hw with rfl | rfl <;> rfl) (by omega) (fun l hl => by rw [hg] at hl; cases hl) (fun k hk _ => hold k hk)
    (fun b o hb => cell_eq_of_heap (hold b hb.1)) (fun b hb => ?_) (fun b o hb => ?_) (fun hL => ?_)
  · cases hb; exact .inl ⟨Nat.le_refl _, by omega⟩
  · exact fun e => by have := hb.1; omega
  · exact ⟨_, n, cells, et, (0, 0), by simp [Locs.set], hnew, hsz, fun o _ h => by omega, hxn, hn, hu, h1, hL.repL hR⟩

/-- A new row of cells that all may see. -/
theorem Inv.newImm (hI : Inv F γ st a w) {cells : Array Value} {et : TypeId} {w1 : World} (hw : w1 = w ∨ w1 = w.drew) {cs : List AV}
    (h1 : ∀ u ∈ cells.toList, u.oneCell' = true) (hR : RepL w (okOf F γ w) cs noLocs cells.toList) :
    Inv F γ st a (w1.alloc (.cells cells et)) ∧ Left F γ γ w (w1.alloc (.cells cells et)) ∧ RepC (w1.alloc (.cells cells et)) (okOf F γ (w1.alloc (.cells cells et))) w.heap.size 0 cs := by
  have hh : w1.heap = w.heap := by rcases hw with rfl | rfl <;> rfl
  have hnew : (w1.alloc (.cells cells et)).heap[w.heap.size]? = some (.cells cells et) := by rw [← hh]; exact alloc_new w1 _
  have hold : ∀ k, k < w.heap.size → (w1.alloc (.cells cells et)).heap[k]? = w.heap[k]? := fun k hk => by rw [alloc_old w1 _ k (by rw [hh]; exact hk), hh]
  have hsize : (w1.alloc (.cells cells et)).heap.size = w.heap.size + 1 := by rw [alloc_size, hh]
  obtain ⟨g1, g2⟩ := hI.grow (w' := w1.alloc (.cells cells et)) (by rcases hw with rfl | rfl <;> rfl) (by rcases hw with rfl | rfl <;> rfl) (by rcases hw with rfl | rfl <;> rfl) (by omega) hold
  refine ⟨g1, g2, RepC_of_block hnew (RepL_mono g2.ok g2.cell cs (LocsLe.refl _) hR) h1 (fun j u hj => by simpa using hj) (fun j hj => okOf_new hI (by omega) _)⟩

/-! ### box, alloc -/
def boxA (P : Program) (t : TypeId) (x : AV) (nx : Nat) : Option Res :=
  match cellsOf x with
  | some cs => some ⟨True, .op nx 0 0, [(nx, .arr cs.length [cs])], nx + 1⟩
  | Option.none => Option.none

theorem boxA_sound (hI : Inv F γ st a w) {t : TypeId} {x : AV} {R : Res} (h : boxA P t x st.next = some R) (hfresh : look st.own st.next = Option.none) {u : Value} (hx : Rep w (okOf F γ w) x γ u) :
    Does P F γ st a w (Instr.box t u) R := by
  unfold boxA at h
  split at h
  · rename_i cs hcs
    simp only [Option.some.injEq] at h
    subst h
    obtain ⟨h1, h2⟩ := cellsOf_sound hcs hx
    have hl := RepL_length _ h1
    obtain ⟨g1, g2⟩ := hI.newArr (w1 := w) (id := st.next) (nx := st.next + 1) (esz := cs.length) (n := 1) (xs := [cs]) (cells := u.cells) (et := t) (.inl rfl) hfresh (by rw [Nat.one_mul, ← hl]; simp) (by simp [maxLen]) (by simp) (by simp) h2
      (by simp only [List.flatten_cons, List.flatten_nil, List.append_nil]; rw [← hl, List.take_length]; exact h1)
    refine ⟨.pointer (some ⟨w.heap.size, 0, Option.none⟩), _, _, ?_, g1, g2, ?_⟩
    · unfold Instr.box newVar newRow newObj
      rfl
    · simp only [Rep]; exact ⟨w.heap.size, _, 1, Eq.trans (congrArg Loc.at (if_pos rfl)) rfl, by simp⟩
  · cases h

def allocA (P : Program) (t : TypeId) (nx : Nat) : Option Res :=
  match tZero P t with
  | some zs => some ⟨True, .op nx 0 0, [(nx, .arr zs.length [zs.map constAV])], nx + 1⟩
  | Option.none => Option.none

theorem allocA_sound (hI : Inv F γ st a w) {t : TypeId} {R : Res} (h : allocA P t st.next = some R) (hfresh : look st.own st.next = Option.none) :
    Does P F γ st a w (Instr.alloc t true (.tuple #[])) R := by
  unfold allocA at h
  split at h
  · rename_i zs hzs
    simp only [Option.some.injEq] at h
    subst h
    obtain ⟨i, z, hi, hz, rfl, hone⟩ := tZero_spec hzs
    obtain ⟨g1, g2⟩ := hI.newArr (w1 := w) (id := st.next) (nx := st.next + 1) (esz := z.cells.toList.length) (n := 1) (xs := [z.cells.toList.map constAV]) (cells := z.cells) (et := t) (.inl rfl) hfresh (by simp) (by simp [maxLen]) (by simp) (by simp) hone
      (by simp only [List.flatten_cons, List.flatten_nil, List.append_nil, List.length_map, List.take_length]; exact RepL_const _)
    refine ⟨.pointer (some ⟨w.heap.size, 0, Option.none⟩), _, _, ?_, g1, g2, ?_⟩
    · unfold Instr.alloc newVar newRow newObj zeroValue typeInfo
      simp [hi, hz]
      rfl
    · simp only [Rep]; exact ⟨w.heap.size, _, 1, Eq.trans (congrArg Loc.at (if_pos rfl)) rfl, by simp⟩
  · cases h

/-! ### store -/
theorem run_storeCells_free (g o : Nat) (t : TypeId) (fr : Nat × Nat) : ∀ (vs : List Value) (i : Nat) (cur : Array Value) (w : World), w.heap[g]? = some (.cells cur t fr) → NoFreeze cur.size fr → o + i + vs.length ≤ cur.size → (∀ v ∈ vs, v.oneCell' = true) →
    (storeCells ⟨g, o, Option.none⟩ vs i).run P w = .ok () (w.setRow g (splV cur.toList (o + i) vs).toArray)
  | [], i, cur, w, hg, _, _, _ => by
    simp only [storeCells, splV, Array.toArray_toList]
    rw [setRow_self w g cur t fr hg]
    rfl
  | v :: rest, i, cur, w, hg, hf, hl, h1 => by
    have hi : o + i < cur.size := by simp at hl; omega
    have hcell : w.cell? ⟨g, o + i, Option.none⟩ = some cur[o + i] := by simp [World.cell?, hg, hi]
    have hfro : w.frozen? ⟨g, o + i, Option.none⟩ = false := by
      have := hf _ hi
      simp only [World.frozen?, hg]
      simp only [Bool.and_eq_false_iff, decide_eq_false_iff_not]
      omega
    have hst : (store ((⟨g, o, Option.none⟩ : Addr).add i) v).run P w = .ok () (w.setRow g (cur.setIfInBounds (o + i) v)) := by
      rw [add_none, run_store P w _ v _ (h1 v (by simp)), hcell]
      simp [hfro, setCell_eq_setRow w g (o + i) cur t fr v hg]
    have ih := run_storeCells_free g o t fr rest (i + 1) (cur.setIfInBounds (o + i) v) (w.setRow g (cur.setIfInBounds (o + i) v)) (setRow_heap w g cur _ t fr hg) (by simpa using hf) (by simp at hl ⊢; omega) (fun x hx => h1 x (by simp [hx]))
    simp only [storeCells, Sem.run_bind, hst, Result.andThen_ok, ih, setRow_setRow, splV]
    congr 3
    rw [Array.toList_setIfInBounds, Nat.add_assoc]

def storeA (P : Program) (t : TypeId) (p x : AV) (ow : Option Own) (nx : Nat) : Option Res :=
  match p, ow, cellsOf x, tSize P t with
  | .op id i off, some (.arr esz xs), some cs, some n =>
    some ⟨cs.length = n ∧ i < xs.length ∧ off + n ≤ esz, .v undef, [(id, .arr esz (xs.set i (spl (xs.getD i []) off cs)))], nx⟩
  | _, _, _, _ => Option.none

theorem splV_append_left : ∀ (vs : List Value) (pre l : List Value) (off : Nat), splV (pre ++ l) (pre.length + off) vs = pre ++ splV l off vs
  | [], pre, l, off => rfl
  | v :: vs, pre, l, off => by
    simp only [splV]
    rw [List.set_append_right _ _ (Nat.le_add_right _ _), Nat.add_sub_cancel_left, Nat.add_assoc, splV_append_left vs pre _ (off + 1)]
theorem splV_append_right : ∀ (vs : List Value) (l post : List Value) (off : Nat), off + vs.length ≤ l.length → splV (l ++ post) off vs = splV l off vs ++ post
  | [], l, post, off, _ => rfl
  | v :: vs, l, post, off, h => by
    simp only [List.length_cons] at h
    simp only [splV]
    rw [List.set_append_left _ _ (by omega), splV_append_right vs _ post (off + 1) (by simp; omega)]
theorem spl_append_left : ∀ (vs : List AV) (pre l : List AV) (off : Nat), spl (pre ++ l) (pre.length + off) vs = pre ++ spl l off vs
  | [], pre, l, off => rfl
  | v :: vs, pre, l, off => by
    simp only [spl]
    rw [List.set_append_right _ _ (Nat.le_add_right _ _), Nat.add_sub_cancel_left, Nat.add_assoc, spl_append_left vs pre _ (off + 1)]
theorem spl_append_right : ∀ (vs : List AV) (l post : List AV) (off : Nat), off + vs.length ≤ l.length → spl (l ++ post) off vs = spl l off vs ++ post
  | [], l, post, off, _ => rfl
  | v :: vs, l, post, off, h => by
    simp only [List.length_cons] at h
    simp only [spl]
    rw [List.set_append_left _ _ (by omega), spl_append_right vs _ post (off + 1) (by simp; omega)]

theorem flatten_set {esz : Nat} : ∀ {xs : List (List AV)} {i off : Nat} {cs : List AV}, (∀ c ∈ xs, c.length = esz) → i < xs.length → off + cs.length ≤ esz →
    (xs.set i (spl (xs.getD i []) off cs)).flatten = spl xs.flatten (i * esz + off) cs
  | [], i, off, cs, _, hi, _ => by simp at hi
  | c :: r, 0, off, cs, h, hi, ho => by
    have hc := h c (by simp)
    simp only [List.set_cons_zero, List.flatten_cons, List.getD_cons_zero, Nat.zero_mul, Nat.zero_add]
    rw [spl_append_right _ _ _ _ (by omega)]
  | c :: r, i + 1, off, cs, h, hi, ho => by
    have hc := h c (by simp)
    simp only [List.set_cons_succ, List.flatten_cons, List.getD_cons_succ]
    rw [flatten_set (fun c hc => h c (by simp [hc])) (by simpa using hi) ho, show (i + 1) * esz + off = c.length + (i * esz + off) from by rw [hc, Nat.add_mul]; omega, spl_append_left]

theorem storeA_sound (hI : Inv F γ st a w) {t : TypeId} {p x : AV} {ow : Option Own} {R : Res} (h : storeA P t p x ow st.next = some R) (hc : R.c)
    (how : ∀ id i off o, p = .op id i off → ow = some o → look st.own id = some o) {u v : Value} (hp : Rep w (okOf F γ w) p γ u) (hx : Rep w (okOf F γ w) x γ v) :
    ∃ w' γ', (Instr.storeAt t u v).run P w = .ok () w' ∧ Inv F γ' { st with own := R.up ++ st.own, next := R.nx } a w' ∧ Left F γ γ' w w' ∧ Rep w' (okOf F γ' w') R.r γ' undef := by
  unfold storeA at h
  split at h
  · rename_i id i off esz xs cs n hcs hn
    simp only [Option.some.injEq] at h
    subst h
    obtain ⟨c1, c2, c3⟩ := hc
    have ho := hI.own id _ (how id i off _ rfl rfl)
    obtain ⟨b, m, cur, et, fr, g1, g2, g3, g4, g5, g6, g7, g8, g9⟩ := ho
    simp only [Rep] at hp
    obtain ⟨b', esz', n'', e1, rfl⟩ := hp
    rw [g1] at e1
    cases e1
    obtain ⟨k1, k2⟩ := cellsOf_sound hcs hx
    have hlen : v.cells.toList.length = n := by rw [RepL_length _ k1, c1]
    have hle : i * esz + off + n ≤ m * esz := by
      have : (i + 1) * esz ≤ m * esz := Nat.mul_le_mul_right _ (by omega)
      rw [Nat.add_mul] at this; omega
    have hL := flat_length xs g7
    have hle2 : i * esz + off + n ≤ xs.flatten.length := by
      rw [hL]
      have : (i + 1) * esz ≤ xs.length * esz := Nat.mul_le_mul_right _ c2
      rw [Nat.add_mul] at this; omega
    have hrun := run_storeCells_free (P := P) b (i * esz + off) et fr v.cells.toList 0 cur w g2 (fun o h => g4 o (by omega)) (by rw [hlen, g3]; omega) k2
    have hself : γ.set id (.arr b esz m) = γ := by
      funext j; unfold Locs.set; split
      · rename_i hj; subst hj; exact g1.symm
      · rfl
    have hne : ∀ c o, okOf F γ w c o → c ≠ b := fun c o hco => hco.2.2 id _ g1
    have hnew := setRow_heap w b cur (splV cur.toList (i * esz + off) v.cells.toList).toArray et fr g2
    have hm : ∀ (y : List AV), y ∈ xs.set i (spl (xs.getD i []) off cs) → y.length = esz := by
      intro y hy
      rcases List.mem_or_eq_of_mem_set hy with hy | hy
      · exact g7 y hy
      · subst hy; rw [spl_length]
        have : xs.getD i [] = xs[i] := by simp [List.getD, List.getElem?_eq_getElem c2]
        rw [this]; exact g7 _ (List.getElem_mem c2)
    obtain ⟨q1, q2⟩ := hI.upd (id := id) (nx := st.next) (obj := .arr esz (xs.set i (spl (xs.getD i []) off cs))) (l' := .arr b esz m) (w' := w.setRow b (splV cur.toList (i * esz + off) v.cells.toList).toArray)
      rfl rfl rfl (by simp) (fun l hl => by rw [g1] at hl; cases hl; exact .refl _)
      (fun k hk hb => setRow_other w b k _ (fun e => hb _ g1 (by rw [e]; rfl)))
      (fun c o hco => cell_eq_of_heap (setRow_other w b c _ (hne c o hco)))
      (fun c hcb => .inr ⟨_, g1, hcb⟩) (fun c o hco => hne c o hco)
      (fun hLf => by
        refine ⟨b, m, _, et, fr, by simp [Locs.set], hnew, by simp [splV_length, g3], by simpa [splV_length] using g4, by simpa using g5, g6, hm, ?_, ?_⟩
        · simp only [List.toList_toArray]; exact splV_mem g8 k2
        · rw [flatten_set g7 c2 (by rw [c1]; exact c3), spl_length]
          have hre : RepL w (okOf F γ w) (spl xs.flatten (i * esz + off) cs) γ ((splV cur.toList (i * esz + off) v.cells.toList).take xs.flatten.length) := by
            rw [show cur.toList = cur.toList.take xs.flatten.length ++ cur.toList.drop xs.flatten.length from (List.take_append_drop _ _).symm]
            have hcl : (cur.toList.take xs.flatten.length).length = xs.flatten.length := RepL_length _ g9
            rw [splV_append_right _ _ _ _ (by rw [hcl, hlen]; omega), List.take_append_of_le_length (by rw [splV_length, hcl]; exact Nat.le_refl _), List.take_of_length_le (by rw [splV_length, hcl]; exact Nat.le_refl _)]
            exact RepL_spl g9 k1
          exact hLf.repL hre)
    rw [hself] at q1 q2
    refine ⟨_, γ, ?_, q1, q2, by simp only [Rep]⟩
    unfold Instr.storeAt Instr.sureAddr storeVar
    have : v.cells.size = n := by simpa using hlen
    simp only [Sem.run_bind, Sem.run_pure, Result.andThen_ok, run_sizeOf hn, this, ne_eq, not_true_eq_false, if_false]
    exact hrun
  · cases h
end
end Go.Aw
namespace Go.Aw
open Go
set_option linter.unusedVariables false
set_option linter.unusedSimpArgs false
set_option linter.unusedSectionVars false
variable {P : Program} {F : Fr} {γ : Locs} {st : St} {a : Act} {w : World}

/-! ### slices that are written out -/
def buildSliceA (P : Program) (t : TypeId) (len : Nat) (parts : List (Nat × AV)) (nx : Nat) : Option Res :=
  match len with
  | 0 => match tElem P t, parts with
    | some e, [] => match tSize P e with
      | some _ => some ⟨True, .sl [] .tight, [], nx⟩
      | Option.none => Option.none
    | _, _ => Option.none
  | len =>
    match tElem P t with
    | some e =>
      match tSize P e, tZero P e with
      | some (m + 1), some zs =>
        match fillA (fun i => some (i * (m + 1), m + 1)) ((List.replicate len (zs.map constAV)).flatten) parts with
        | some (c, flat) => some ⟨c ∧ zs.length = m + 1 ∧ len * (m + 1) ≤ 2 ^ 24 ∧ ∀ x ∈ flat.map imm1, pure1 x = true, .sl (chunks (m + 1) len (flat.map imm1)) .tight, [], nx⟩
        | Option.none => Option.none
      | _, _ => Option.none
    | Option.none => Option.none

theorem flat_rep {α : Type} (l : List α) : ∀ (len i : Nat), i < len * l.length → (List.replicate len l).flatten[i]? = l[i % l.length]?
  | 0, i, h => by simp at h
  | k + 1, i, h => by
    rw [List.replicate_succ, List.flatten_cons]
    rcases Nat.lt_or_ge i l.length with hi | hi
    · rw [List.getElem?_append_left hi, Nat.mod_eq_of_lt hi]
    · rw [List.getElem?_append_right hi, flat_rep l k (i - l.length) (by rw [Nat.add_mul] at h; omega), Nat.mod_eq_sub_mod hi]

theorem zeroRow {zs : List Value} (len : Nat) (h0 : 0 < zs.length) (w : World) (ok : Ok) (γ : Locs) :
    RepL w ok ((List.replicate len (zs.map constAV)).flatten) γ ((Array.range (len * zs.length)).map (fun j => zs.toArray[j % zs.toArray.size]!)).toList := by
  refine RepL_mk _ (by simp) fun j x u hx hu => ?_
  have hj : j < len * zs.length := by
    rcases Nat.lt_or_ge j (len * zs.length) with h | h
    · exact h
    · rw [List.getElem?_eq_none (by simpa using h)] at hx; cases hx
  rw [flat_rep _ _ _ (by simpa using hj)] at hx
  have hm : j % zs.length < zs.length := Nat.mod_lt _ h0
  simp only [List.length_map, List.getElem?_map, List.getElem?_eq_getElem hm, Option.map_some, Option.some.injEq] at hx
  subst hx
  have : u = zs[j % zs.length] := by
    simp [hj] at hu
    rw [← hu]
    simp [hm]
  subst this
  exact rep_const w ok γ _

theorem zeroRow_one {zs : List Value} (len : Nat) (h0 : 0 < zs.length) (h1 : ∀ u ∈ zs, u.oneCell' = true) : ∀ u ∈ ((Array.range (len * zs.length)).map (fun j => zs.toArray[j % zs.toArray.size]!)).toList, u.oneCell' = true := by
  intro u hu
  simp only [Array.toList_map, List.mem_map] at hu
  obtain ⟨j, _, rfl⟩ := hu
  have hm : j % zs.length < zs.length := Nat.mod_lt _ h0
  have : zs.toArray[j % zs.toArray.size]! = zs[j % zs.length] := by simp [hm]
  rw [this]
  exact h1 _ (List.getElem_mem hm)

theorem fillA_length {place : Nat → Option (Nat × Nat)} : ∀ {parts : List (Nat × AV)} {cells r : List AV} {c : Prop}, fillA place cells parts = some (c, r) → r.length = cells.length
  | [], cells, r, c, h => by simp only [fillA, Option.some.injEq, Prod.mk.injEq] at h; rw [← h.2]
  | (i, x) :: rest, cells, r, c, h => by
    simp only [fillA] at h
    split at h
    · split at h
      · rename_i hf
        simp only [Option.some.injEq, Prod.mk.injEq] at h
        rw [← h.2, fillA_length hf, spl_length]
      · cases h
    · cases h

theorem buildSliceA_sound (hI : Inv F γ st a w) {t : TypeId} {len : Nat} {parts : List (Nat × AV)} {R : Res} (h : buildSliceA P t len parts st.next = some R) (hc : R.c) {vparts : Array (Nat × Value)}
    (hl : vparts.size = parts.length) (hp : ∀ (j i : Nat) (x : AV) (u : Value) (k : Nat), parts[j]? = some (i, x) → vparts[j]? = some (k, u) → k = i ∧ Rep w (okOf F γ w) x γ u) :
    Does P F γ st a w (Instr.buildSlice t len vparts) R := by
  unfold buildSliceA at h
  split at h
  · split at h
    · rename_i e he
      split at h
      · rename_i n hn
        simp only [Option.some.injEq] at h
        subst h
        have hv : vparts = #[] := by simpa using hl
        subst hv
        obtain ⟨g1, g2, g3⟩ := hI.newImm (w1 := w) (cells := #[]) (et := e) (cs := []) (.inl rfl) (by simp) (by simp [RepL])
        refine ⟨.slice (some ⟨w.heap.size, 0, Option.none⟩) 0 0, _, γ, ?_, g1, g2, ?_⟩
        · unfold Instr.buildSlice newRow newObj
          simp only [Sem.run_bind, run_underlying (und_slice he), Result.andThen_ok, run_sizeOf hn]
          have h0 : Array.map (fun x => (default : Value)) (Array.range 0) = #[] := Array.eq_empty_of_size_eq_zero (by simp)
          simp [Instr.fill]
          rw [h0]
          rfl
        · simp only [Rep]
          exact ⟨_, 0, rfl, Nat.le_refl _, Nat.zero_le _, rfl, rfl, by simp only [RepEs]⟩
      · cases h
    · cases h
  · rename_i hne
    split at h
    · rename_i e he
      split at h
      · rename_i m zs hm hz
        split at h
        · rename_i c flat hf
          simp only [Option.some.injEq] at h
          subst h
          obtain ⟨c1, c2, c3, c4⟩ := hc
          obtain ⟨i, z, hi, hiz, rfl, hone⟩ := tZero_spec hz
          have h0 : 0 < z.cells.toList.length := by omega
          have hR := zeroRow (zs := z.cells.toList) len h0 w (okOf F γ w) γ
          have hO := zeroRow_one (zs := z.cells.toList) len h0 hone
          obtain ⟨out, e1, e2, e3, e4⟩ := fillA_sound (vparts := vparts.toList) hf c1 hR hO (by simpa using hl) (fun j i' a' u' k' q1 q2 => hp j i' a' u' k' q1 (by simpa using q2))
          have hlen : flat.length = len * (m + 1) := by rw [fillA_length hf]; simp [c2]
          have hpure := RepL_pure c4 (RepL_imm1 e2)
          obtain ⟨g1, g2, g3⟩ := hI.newImm (w1 := w) (cells := out) (et := e) (.inl rfl) e3 hpure
          refine ⟨.slice (some ⟨w.heap.size, 0, Option.none⟩) len len, _, γ, ?_, g1, g2, ?_⟩
          · unfold Instr.buildSlice newRow newObj
            have hpos : ¬ len * (m + 1) = 0 := by
              intro h0'
              rcases Nat.mul_eq_zero.1 h0' with h1 | h1
              · exact hne h1
              · omega
            simp only [Sem.run_bind, run_underlying (und_slice he), Result.andThen_ok, run_sizeOf hm, if_neg (show ¬ len * (m + 1) > 2 ^ 24 by omega), if_neg hpos]
            have hz' : (zeroValue e).run P w = .ok z w := by unfold zeroValue typeInfo; simp [hi, hiz]
            simp only [Sem.run_bind, hz', Result.andThen_ok, Sem.run_pure]
            have hsame : Array.map (fun x => z.cells[x % z.cells.size]!) (Array.range (len * (m + 1))) = ((Array.range (len * z.cells.toList.length)).map (fun j => z.cells.toList.toArray[j % z.cells.toList.toArray.size]!)) := by
              rw [c2]
            rw [hsame, e1]
            rfl
          · simp only [Rep]
            have hlc : (chunks (m + 1) len (flat.map imm1)).length = len := chunks_length
            refine ⟨some ⟨w.heap.size, 0, Option.none⟩, len, by rw [hlc], by rw [hlc]; exact Nat.le_refl _, ?_, by rw [hlc]; rfl, rfl, RepEs_flatten ?_⟩
            · have : len ≤ len * (m + 1) := Nat.le_mul_of_pos_right _ (by omega)
              unfold maxLen; omega
            · rw [chunks_flatten (by simpa using hlen)]; exact g3
        · cases h
      · cases h
    · cases h
end Go.Aw
namespace Go.Aw
open Go
set_option linter.unusedVariables false
set_option linter.unusedSimpArgs false
set_option linter.unusedSectionVars false
variable {P : Program} {F : Fr} {γ : Locs} {st : St} {a : Act} {w : World}

/-! ### append -/
theorem RepEs_flat {w : World} {ok : Ok} {b : Nat} : ∀ {xs : List (List AV)} {o : Nat}, RepEs w ok b o xs → RepC w ok b o xs.flatten
  | [], o, h => by simp [RepC]
  | c :: r, o, h => by
    simp only [RepEs] at h
    rw [List.flatten_cons]
    exact RepC_append.2 ⟨h.1, RepEs_flat h.2⟩

theorem splV_end : ∀ (vs pre post : List Value), vs.length ≤ post.length → splV (pre ++ post) pre.length vs = pre ++ vs ++ post.drop vs.length
  | [], pre, post, _ => by simp [splV]
  | v :: vs, pre, [], h => by simp at h
  | v :: vs, pre, p :: post, h => by
    have := splV_end vs (pre ++ [v]) post (by simpa using h)
    simp only [splV, List.set_append_right _ _ (Nat.le_refl _), Nat.sub_self, List.set_cons_zero]
    rw [show pre ++ v :: post = pre ++ [v] ++ post from by simp, show pre.length + 1 = (pre ++ [v]).length from by simp, this]
    simp

/-- What is appended: m elements, their cells. -/
structure Src (P : Program) (w : World) (xT : TypeId) (size : Nat) (x : Value) (m : Nat) (news : List Value) : Prop where
  ty : P.underlying xT = some .string ∨ ∃ e, P.underlying xT = some (.slice e)
  len : ∀ w', (Builtin.lenOf x).run P w' = .ok m w'
  cells : ∀ w', w'.heap = w.heap → (Builtin.firstCells size m x).run P w' = .ok news.toArray w'

theorem tSize_info {t n : Nat} (h : tSize P t = some n) : ∃ i, P.info? t = some i ∧ i.size = n := by
  unfold tSize at h
  cases hi : P.info? t with
  | none => simp [hi] at h
  | some i => simp [hi] at h; exact ⟨i, rfl, h⟩

theorem run_append_fits {t ty e xT : TypeId} {i : TypeInfo} (ht : P.underlying t = some (.slice e)) (hi : P.info? e = some i) {x : Value} {m : Nat} {news : List Value} (hx : Src P w xT i.size x m news)
    {base : Option Addr} {len cap : Nat} (hroom : len + m ≤ cap) :
    (Builtin.append_ #[t, xT] ty #[.slice base len cap, x]).run P w =
      (match base with
        | some b => ((storeCells (b.add (len * i.size)) news).run P w).andThen fun _ w' => .ok (.slice base (len + m) cap) w'
        | Option.none => .ok (.slice base (len + m) cap) w) := by
  have hl := hx.len
  have hc := hx.cells w rfl
  rcases hx.ty with hd | ⟨d, hd⟩ <;> cases base <;> simp [Builtin.append_, run_underlying ht, run_underlying hd, sizeOf, typeInfo, hi, hl, hc, hroom]

theorem run_append_new {t ty e xT : TypeId} {i : TypeInfo} {z : Value} (ht : P.underlying t = some (.slice e)) (hi : P.info? e = some i) (hz : i.zero = some z) {x : Value} {m : Nat} {news : List Value} (hx : Src P w xT i.size x m news)
    {base : Option Addr} {len cap : Nat} {olds : List Value} (hold : (Builtin.firstCells i.size len (.slice base len cap)).run P w.drew = .ok olds.toArray w.drew)
    (hroom : cap < len + m) (h63 : ((len + m : Nat) : Int) ≤ 9223372036854775807) (hfit : Builtin.nextslicecap (len + m) cap * i.bytes ≤ 281474976710656) :
    (Builtin.append_ #[t, xT] ty #[.slice base len cap, x]).run P w =
      .ok (.slice (some ⟨w.heap.size, 0, Option.none⟩) (len + m) (grownCap w (len + m) cap e))
        (w.drew.alloc (.cells (olds.toArray ++ news.toArray ++ Builtin.zeroCells z.cells (grownCap w (len + m) cap e - (len + m))) e)) := by
  have hl := hx.len
  have hc := hx.cells w.drew rfl
  have hn : ¬ (len + m ≤ cap) := by omega
  have h63' : ¬ (9223372036854775807 < ((len : Int) + (m : Int))) := by omega
  have h48' : ¬ (281474976710656 < Builtin.nextslicecap (len + m) cap * i.bytes) := by omega
  rcases hx.ty with hd | ⟨d, hd⟩ <;>
    (simp [Builtin.append_, run_underlying ht, run_underlying hd, sizeOf, typeInfo, zeroValue, hi, hz, hl, hc, hold, hn, h63', h48', Question.forced, newRow, grownCap]
     try (congr 2; apply Array.ext'; simp [List.append_assoc]))

def tBytes (P : Program) (t : TypeId) : Option Nat := (P.info? t).map (·.bytes)

/-- What stands behind an append: the room's place. -/
structure Grown' (P : Program) (F : Fr) (γ : Locs) (st : St) (a : Act) (w : World) (s : Sem Value) (id esz : Nat) (xs ys : List (List AV)) (nx : Nat) : Prop where
  out : ∃ z w' γ', s.run P w = .ok z w' ∧ Inv F γ' { st with own := (id, .spare esz (xs.length + ys.length)) :: st.own, next := nx } a w' ∧ Left F γ γ' w w' ∧
    Rep w' (okOf F γ' w') (.sl (xs ++ ys) (.own id)) γ' z

theorem zeroCells_one {zs : Array Value} (n : Nat) (h1 : ∀ u ∈ zs.toList, u.oneCell' = true) : ∀ u ∈ (Builtin.zeroCells zs n).toList, u.oneCell' = true := by
  intro u hu
  simp only [Builtin.zeroCells, Array.toList_map, List.mem_map] at hu
  obtain ⟨j, hj, rfl⟩ := hu
  simp only [Array.toList_range, List.mem_range] at hj
  have h0 : 0 < zs.size := by
    rcases Nat.eq_zero_or_pos zs.size with h | h
    · rw [h] at hj; simp at hj
    · exact h
  have hm : j % zs.size < zs.size := Nat.mod_lt _ h0
  rw [getElem!_pos zs _ hm]
  exact h1 _ (by simp)

/-- The new row of an append that grows. -/
theorem append_grows (hI : Inv F γ st a w) {id nx esz n m : Nat} {xs ys : List (List AV)} {olds news : List Value} {et : TypeId} {zc : Array Value} {cap : Nat}
    (hid : ∀ l, γ id = some l → l = .full esz n ∨ ∃ b u s, l = .spare esz n b u s) (hn : n = xs.length) (hm : m = ys.length) (hpos : 0 < m) (hcap : n + m ≤ cap) (hmax : cap ≤ maxLen)
    (hux : ∀ cs ∈ xs, cs.length = esz) (huy : ∀ cs ∈ ys, cs.length = esz)
    (ho : RepL w (okOf F γ w) xs.flatten noLocs olds) (hnw : RepL w (okOf F γ w) ys.flatten noLocs news) (h1 : ∀ u ∈ olds, u.oneCell' = true) (h2 : ∀ u ∈ news, u.oneCell' = true)
    (hzc : zc.size = (cap - (n + m)) * esz) (hz1 : ∀ u ∈ zc.toList, u.oneCell' = true) :
    ∃ γ', Inv F γ' { st with own := (id, .spare esz (xs.length + ys.length)) :: st.own, next := nx } a (w.drew.alloc (.cells (olds.toArray ++ news.toArray ++ zc) et)) ∧
      Left F γ γ' w (w.drew.alloc (.cells (olds.toArray ++ news.toArray ++ zc) et)) ∧
      Rep (w.drew.alloc (.cells (olds.toArray ++ news.toArray ++ zc) et)) (okOf F γ' (w.drew.alloc (.cells (olds.toArray ++ news.toArray ++ zc) et))) (.sl (xs ++ ys) (.own id)) γ' (.slice (some ⟨w.heap.size, 0, Option.none⟩) (n + m) cap) := by
  let W := w.drew.alloc (.cells (olds.toArray ++ news.toArray ++ zc) et)
  have hnew : W.heap[w.heap.size]? = some (.cells (olds.toArray ++ news.toArray ++ zc) et) := alloc_new w.drew _
  have hold : ∀ k, k < w.heap.size → W.heap[k]? = w.heap[k]? := fun k hk => alloc_old w.drew _ k hk
  have hsize : W.heap.size = w.heap.size + 1 := alloc_size w.drew _
  have hlo : olds.length = n * esz := by rw [RepL_length _ ho, flat_length xs hux, hn]
  have hln : news.length = m * esz := by rw [RepL_length _ hnw, flat_length ys huy, hm]
  have htot : (olds.toArray ++ news.toArray ++ zc).size = cap * esz := by
    simp only [Array.size_append, List.size_toArray, hlo, hln, hzc]
    rw [← Nat.add_mul, ← Nat.add_mul]; congr 1; omega
  have hu : (n + m) * esz ≤ cap * esz := Nat.mul_le_mul_right _ hcap
  obtain ⟨g1, g2⟩ := hI.upd (id := id) (nx := nx) (obj := .spare esz (xs.length + ys.length)) (l' := .spare esz (n + m) w.heap.size ((n + m) * esz) (cap * esz)) (w' := W)
    rfl rfl rfl (by omega)
    (fun l hl => by
      rcases hid l hl with rfl | ⟨b, u, s, rfl⟩
      · exact .fs (by omega)
      · exact .ss (by omega))
    (fun k hk _ => hold k hk) (fun b o hb => cell_eq_of_heap (hold b hb.1)) (fun b hb => by cases hb; exact .inl ⟨Nat.le_refl _, by omega⟩)
    (fun b o hb => fun e => by have := hb.1; omega)
    (fun hL => .inr ⟨_, _, _, _, et, (0, 0), by simp [Locs.set, hn, hm], hnew, htot, hu, fun o _ h => by omega⟩)
  refine ⟨_, g1, g2, ?_⟩
  simp only [Rep]
  have hlen : (xs ++ ys).length = n + m := by simp [hn, hm]
  refine ⟨some ⟨w.heap.size, 0, Option.none⟩, cap, by rw [hlen], by rw [hlen]; exact hcap, hmax, ?_, rfl, ?_⟩
  · unfold spareOk
    simp only [Locs.set, if_true]
    rw [hlen]
    exact ⟨Nat.le_refl _, fun _ => .inr ⟨0, rfl, by simp, by simp⟩⟩
  · refine RepEs_flatten ?_
    refine RepC_of_block (us := olds ++ news) hnew ?_ ?_ ?_ ?_
    · rw [List.flatten_append]
      exact RepL_append (RepL_mono g2.ok g2.cell _ (LocsLe.refl _) ho) (RepL_mono g2.ok g2.cell _ (LocsLe.refl _) hnw)
    · intro u hu; rcases List.mem_append.1 hu with h | h
      · exact h1 u h
      · exact h2 u h
    · intro j u hj
      have hlt : j < (olds ++ news).length := by
        rcases Nat.lt_or_ge j (olds ++ news).length with h | h
        · exact h
        · rw [List.getElem?_eq_none h] at hj; cases hj
      simp only [Nat.zero_add]
      rw [Array.getElem?_append_left (by simpa using hlt), ← hj]
      simp
    · intro j hj
      have hj' : j < (n + m) * esz := by simpa [hlo, hln, Nat.add_mul] using hj
      refine ⟨by show w.heap.size < W.heap.size; omega, fun h => by have := hI.size; omega, fun i l hl => ?_⟩
      unfold Locs.set at hl
      split at hl
      · cases hl; exact fun _ => by simpa using hj'
      · have : ∀ b, l.block = some b → w.heap.size ≠ b := fun b hb => by have := (hI.blk i l b hl hb).1; omega
        cases l with
        | arr b _ _ => exact this b rfl
        | map b => exact this b rfl
        | spare _ _ b _ _ => exact fun e => absurd e (this b rfl)
        | full _ _ => trivial
        | dead _ _ _ => trivial
end Go.Aw
namespace Go.Aw
open Go
set_option linter.unusedVariables false
set_option linter.unusedSimpArgs false
set_option linter.unusedSectionVars false
variable {P : Program} {F : Fr} {γ : Locs} {st : St} {a : Act} {w : World}

theorem cell_heap {w w' : World} (h : w'.heap = w.heap) (ad : Addr) : w'.cell? ad = w.cell? ad := by simp [World.cell?, h]

/-- The cells of a slice that may be read. -/
theorem Rep_sl_vals {ok : Ok} {xs : List (List AV)} {sp : Spare} {u : Value} {esz : Nat} (hx : Rep w ok (.sl xs sp) γ u) (hu : ∀ cs ∈ xs, cs.length = esz) :
    ∃ base cap us, u = .slice base xs.length cap ∧ xs.length ≤ cap ∧ cap ≤ maxLen ∧ spareOk γ sp base xs.length cap ∧ RepL w ok xs.flatten noLocs us ∧ (∀ y ∈ us, y.oneCell' = true) ∧ us.length = xs.length * esz ∧
      (base = Option.none → cap = 0 ∧ us = []) ∧ (∀ ad, base = some ad → ad.spot = Option.none ∧ ∀ (j : Nat) v, us[j]? = some v → w.cell? ⟨ad.block, ad.off + j, Option.none⟩ = some v) ∧
      (∀ w' : World, w'.heap = w.heap → (Builtin.firstCells esz xs.length u).run P w' = .ok us.toArray w') := by
  simp only [Rep] at hx
  obtain ⟨base, cap, rfl, h1, h2, h3, h4⟩ := hx
  cases base with
  | none =>
    simp only at h4
    subst h4
    have : xs = [] := List.eq_nil_of_length_eq_zero (by omega)
    subst this
    exact ⟨Option.none, 0, [], rfl, Nat.le_refl _, h2, h3, by simp [RepL], by simp, by simp, fun _ => ⟨rfl, rfl⟩, (fun ad h => by cases h), fun w' _ => by simp [Builtin.firstCells]⟩
  | some ad =>
    obtain ⟨ab, ao, asp⟩ := ad
    obtain ⟨h4, h5⟩ := h4
    simp only at h4 h5
    subst h4
    obtain ⟨us, g1, g2, g3, g4⟩ := RepC_vals _ (RepEs_flat h5)
    have hl : us.length = xs.length * esz := by rw [g1, flat_length xs hu]
    refine ⟨some ⟨ab, ao, Option.none⟩, cap, us, rfl, h1, h2, h3, g3, g4, hl, (fun h => by cases h), (fun ad h => by cases h; exact ⟨rfl, g2⟩), fun w' hw => ?_⟩
    unfold Builtin.firstCells
    rw [← hl]
    exact run_loadCells_list w' _ us fun j v hj => by rw [add_none, cell_heap hw]; exact g2 j v hj

theorem Src_sl {ok : Ok} {ys : List (List AV)} {sp : Spare} {u : Value} {esz : Nat} {xT e : TypeId} (ht : P.underlying xT = some (.slice e)) (hx : Rep w ok (.sl ys sp) γ u) (hu : ∀ cs ∈ ys, cs.length = esz) :
    ∃ news, Src P w xT esz u ys.length news ∧ RepL w ok ys.flatten noLocs news ∧ (∀ y ∈ news, y.oneCell' = true) ∧ news.length = ys.length * esz := by
  obtain ⟨base, cap, us, rfl, _, _, _, h3, h4, h5, _, _, h6⟩ := Rep_sl_vals (P := P) hx hu
  exact ⟨us, ⟨.inr ⟨e, ht⟩, fun w' => by simp [Builtin.lenOf], h6⟩, h3, h4, h5⟩

theorem u8_vals (l : List UInt8) (w : World) (ok : Ok) : RepL w ok (l.map u8c).flatten noLocs (l.map fun b => Value.int .u8 b.toNat) := by
  induction l with
  | nil => simp [RepL]
  | cons b l ih => simp only [List.map_cons, List.flatten_cons, u8c, List.cons_append, List.nil_append, RepL, Rep]; exact ⟨_, _, rfl, rfl, ih⟩

theorem Src_str {l : List UInt8} {xT : TypeId} (ht : P.underlying xT = some .string) : Src P w xT 1 (.string ⟨l.toArray⟩) (l.map u8c).length (l.map fun b => Value.int .u8 b.toNat) := by
  refine ⟨.inl ht, fun w' => by simp [Builtin.lenOf, ByteArray.size], fun w' _ => ?_⟩
  simp [Builtin.firstCells]

/-- An append in place. -/
theorem append_fits (hI : Inv F γ st a w) {id nx esz n m : Nat} {xs ys : List (List AV)} {news : List Value} {b u s o cap : Nat}
    (hg : γ id = some (.spare esz n b u s)) (hobj : look st.own id = some (.spare esz n)) (hn : n = xs.length) (hm : m = ys.length) (hpos : 0 < m) (hcap : n + m ≤ cap) (hmax : cap ≤ maxLen)
    (ho : o + n * esz = u) (hs : o + cap * esz ≤ s) (hux : ∀ cs ∈ xs, cs.length = esz) (huy : ∀ cs ∈ ys, cs.length = esz)
    (hxs : RepEs w (okOf F γ w) b o xs) (hnw : RepL w (okOf F γ w) ys.flatten noLocs news) (h2 : ∀ y ∈ news, y.oneCell' = true) :
    ∃ w' γ', (storeCells ⟨b, u, Option.none⟩ news).run P w = .ok () w' ∧ Inv F γ' { st with own := (id, .spare esz (xs.length + ys.length)) :: st.own, next := nx } a w' ∧
      Left F γ γ' w w' ∧ Rep w' (okOf F γ' w') (.sl (xs ++ ys) (.own id)) γ' (.slice (some ⟨b, o, Option.none⟩) (n + m) cap) := by
  have hob := hI.own id _ hobj
  rcases hob with hf | ⟨b', u', s', cur, et, fr, e1, g2, g3, g4, g5⟩
  · rw [hg] at hf; cases hf
  rw [hg] at e1
  cases e1
  have hln : news.length = m * esz := by rw [RepL_length _ hnw, flat_length ys huy, hm]
  have hle : o + n * esz + m * esz ≤ s := by
    have : (n + m) * esz ≤ cap * esz := Nat.mul_le_mul_right _ hcap
    rw [Nat.add_mul] at this; omega
  have hrun := run_storeCells_free (P := P) b u et fr news 0 cur w g2 (by rw [g3]; exact g5) (by omega) h2
  let W := w.setRow b (splV cur.toList u news).toArray
  have hnew : W.heap[b]? = some (.cells (splV cur.toList u news).toArray et fr) := setRow_heap w b cur _ et fr g2
  have hsplit : splV cur.toList u news = cur.toList.take u ++ news ++ cur.toList.drop (u + news.length) := by
    have h0 : (cur.toList.take u).length = u := by simp; omega
    have := splV_end news (cur.toList.take u) (cur.toList.drop u) (by simp; omega)
    rw [List.take_append_drop, h0, List.drop_drop] at this
    exact this
  have hcell : ∀ c q, okOf F γ w c q → W.cell? ⟨c, q, Option.none⟩ = w.cell? ⟨c, q, Option.none⟩ := by
    intro c q hq
    by_cases hcb : c = b
    · subst hcb
      have hlt : q < u := (hq.2.2 id _ hg) rfl
      rw [cell_of_row W c q _ et fr hnew, cell_of_row w c q cur et fr g2, hsplit]
      rw [List.getElem?_toArray, List.append_assoc, List.getElem?_append_left (by simp; omega), List.getElem?_take, if_pos hlt]
      simp
    · exact cell_eq_of_heap (setRow_other w b c _ hcb)
  obtain ⟨q1, q2⟩ := hI.upd (id := id) (nx := nx) (obj := .spare esz (xs.length + ys.length)) (l' := .spare esz (n + m) b (u + m * esz) s) (w' := W)
    rfl rfl rfl (by simp [W]) (fun l hl => by rw [hg] at hl; cases hl; exact .ss (by omega))
    (fun k hk hb => setRow_other w b k _ (fun e => hb _ hg (by rw [e]; rfl))) hcell (fun c hc => by cases hc; exact .inr ⟨_, hg, rfl⟩)
    (fun c q hq => fun e => by have := (hq.2.2 id _ hg) e; omega)
    (fun hL => .inr ⟨b, u + m * esz, s, _, et, fr, by simp [Locs.set, hn, hm], hnew, by simp [splV_length, g3], by omega, g5⟩)
  refine ⟨W, _, hrun, q1, q2, ?_⟩
  simp only [Rep]
  have hlen : (xs ++ ys).length = n + m := by simp [hn, hm]
  refine ⟨some ⟨b, o, Option.none⟩, cap, by rw [hlen], by rw [hlen]; exact hcap, hmax, ?_, rfl, ?_⟩
  · unfold spareOk
    simp only [Locs.set, if_true]
    rw [hlen]
    exact ⟨Nat.le_refl _, fun _ => .inr ⟨o, rfl, by rw [Nat.add_mul]; omega, hs⟩⟩
  · refine RepEs_flatten ?_
    rw [List.flatten_append]
    refine RepC_append.2 ⟨RepC_mono q2.ok q2.cell _ (RepEs_flat hxs), ?_⟩
    have hxl : xs.flatten.length = n * esz := by rw [flat_length xs hux, hn]
    rw [hxl, ho]
    refine RepC_of_block (us := news) hnew (RepL_mono q2.ok q2.cell _ (LocsLe.refl _) hnw) h2 ?_ ?_
    · intro j v hj
      have hjl : j < news.length := by
        rcases Nat.lt_or_ge j news.length with h | h
        · exact h
        · rw [List.getElem?_eq_none h] at hj; cases hj
      rw [hsplit, List.getElem?_toArray, List.append_assoc]
      have h0 : (cur.toList.take u).length = u := by simp; omega
      rw [List.getElem?_append_right (by omega), h0, Nat.add_sub_cancel_left, List.getElem?_append_left hjl]
      exact hj
    · intro j hj
      have hbl := hI.blk id _ b hg rfl
      refine ⟨by show b < W.heap.size; simp [W]; exact hbl.1, fun hB => ?_, fun i l hl => ?_⟩
      · exact hI.xvis b _ (hbl.2.resolve_left (by omega))
      · unfold Locs.set at hl
        split at hl
        · cases hl; exact fun _ => by omega
        · rename_i hne
          have : ∀ b', l.block = some b' → b ≠ b' := fun b' hb' e => hne (hI.dist i id l _ b hl hg (by rw [hb', e]) rfl)
          cases l with
          | arr b' _ _ => exact this b' rfl
          | map b' => exact this b' rfl
          | spare _ _ b' _ _ => exact fun e => absurd e (this b' rfl)
          | full _ _ => trivial
          | dead _ _ _ => trivial
end Go.Aw