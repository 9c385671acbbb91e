import Derived.Test.YtgabhnekhdfhcaaLA
import Derived.Laws.BytesString
import Derived.Laws.MakeOwn
import Derived.Laws.StructEq
namespace Go.Aw
open Go
set_option linter.unusedVariables false
set_option linter.unusedSimpArgs false
set_option linter.unusedSectionVars false
variable {P : Program} {F : Fr} {γ : Locs} {st : St} {a : Act} {w : World}

/-- What an append asks. -/
def appC (esz by1 : Nat) (xs ys : List (List AV)) : Prop :=
  (∀ cs ∈ xs, cs.length = esz) ∧ (∀ cs ∈ ys, cs.length = esz) ∧ (xs.length + ys.length) * (by1 + 1) ≤ 140737488355328

def srcA (P : Program) (xT : TypeId) (x : AV) : Option (List (List AV)) :=
  match x with
  | .sl ys _ => match tElem P xT with
    | some _ => some ys
    | Option.none => Option.none
  | .str l => if tStr P xT then some (l.map u8c) else Option.none
  | _ => Option.none

def appendA (P : Program) (t xT : TypeId) (s x : AV) (ow : Option Own) (nx : Nat) : Option Res :=
  match tElem P t with
  | some e =>
    match tSize P e, tBytes P e, tZero P e, srcA P xT x with
    | some esz, some (by1 + 1), some zs, some ys =>
      match s with
      | .sl xs .tight => some ⟨zs.length = esz ∧ appC esz by1 xs ys, .sl (xs ++ ys) (.own nx), [(nx, .spare esz (xs.length + ys.length))], nx + 1⟩
      | .sl xs (.own id) =>
        match ow with
        | some (.spare esz' n) => some ⟨zs.length = esz ∧ esz' = esz ∧ xs.length = n ∧ appC esz by1 xs ys, .sl (xs ++ ys) (.own id), [(id, .spare esz (xs.length + ys.length))], nx⟩
        | _ => Option.none
      | _ => Option.none
    | _, _, _, _ => Option.none
  | Option.none => Option.none

theorem srcA_sound {ok : Ok} {xT : TypeId} {x : AV} {ys : List (List AV)} (h : srcA P xT x = some ys) {u : Value} {esz : Nat} (hx : Rep w ok x γ u) (hu : ∀ cs ∈ ys, cs.length = esz) :
    ∃ news m, Src P w xT m u ys.length news ∧ (esz = m ∨ ys = []) ∧ RepL w ok ys.flatten noLocs news ∧ (∀ y ∈ news, y.oneCell' = true) := by
  unfold srcA at h
  split at h
  · split at h
    · rename_i zs sp e he
      simp only [Option.some.injEq] at h
      subst h
      obtain ⟨news, h1, h2, h3, h4⟩ := Src_sl (P := P) (und_slice he) hx hu
      exact ⟨news, esz, h1, .inl rfl, h2, h3⟩
    · cases h
  · split at h
    · rename_i l ht
      simp only [Option.some.injEq] at h
      subst h
      simp only [Rep] at hx
      subst hx
      refine ⟨_, 1, Src_str (und_str ht), ?_, u8_vals l w ok, by simp [Value.oneCell']⟩
      cases l with
      | nil => exact .inr rfl
      | cons b l => exact .inl (by have := hu (u8c b) (by simp); rw [← this]; rfl)
    · cases h
  · cases h

theorem Src_zero {xT : TypeId} {x : Value} {k : Nat} {news : List Value} (h : Src P w xT k x 0 news) (hn : news = []) (k' : Nat) : Src P w xT k' x 0 [] := by
  subst hn
  refine ⟨h.ty, h.len, fun w' hw => ?_⟩
  have := h.cells w' hw
  cases x <;> first | (simp_all [Builtin.firstCells]; done) | (rename_i a l c; cases a <;> simp_all [Builtin.firstCells, loadCells, loadCellsFrom])

theorem appendA_sound (hI : Inv F γ st a w) {t xT ty : TypeId} {s x : AV} {ow : Option Own} {R : Res} (h : appendA P t xT s x ow st.next = some R) (hc : R.c) (hfresh : ∀ id, st.next ≤ id → id < R.nx → look st.own id = Option.none)
    (how : ∀ xs id o, s = .sl xs (.own id) → ow = some o → look st.own id = some o) {u v : Value} (hs : Rep w (okOf F γ w) s γ u) (hx : Rep w (okOf F γ w) x γ v) :
    Does P F γ st a w (Builtin.append_ #[t, xT] ty #[u, v]) R := by
  unfold appendA at h
  split at h
  case h_2 => cases h
  rename_i e he
  split at h
  case h_2 => cases h
  rename_i esz by1 zs ys hsz hby hz hys
  obtain ⟨i, hi, hisz⟩ := tSize_info hsz
  obtain ⟨i', z, hi', hiz, rfl, hone⟩ := tZero_spec hz
  rw [hi] at hi'
  cases hi'
  unfold tBytes at hby
  rw [hi] at hby
  simp only [Option.map_some, Option.some.injEq] at hby
  -- one law for all
  have main : ∀ (xs : List (List AV)) (sp : Spare) (id nx : Nat), s = .sl xs sp → z.cells.toList.length = esz → appC esz by1 xs ys → 
      (∀ base cap, spareOk γ sp base xs.length cap → (γ id = Option.none ∧ cap = xs.length) ∨ (γ id = some (.full esz xs.length) ∧ cap = xs.length) ∨
        (∃ b u s, γ id = some (.spare esz xs.length b u s) ∧ look st.own id = some (.spare esz xs.length) ∧ (cap = xs.length ∨ ∃ o, base = some ⟨b, o, Option.none⟩ ∧ o + xs.length * esz = u ∧ o + cap * esz ≤ s))) →
      Does P F γ st a w (Builtin.append_ #[t, xT] ty #[u, v]) ⟨True, .sl (xs ++ ys) (.own id), [(id, .spare esz (xs.length + ys.length))], nx⟩ := by
    intro xs sp id nx hse hzl hcc hkind
    subst hse
    obtain ⟨hux, huy, hbytes⟩ := hcc
    obtain ⟨base, cap, us, rfl, k1, k2, k3, k4, k5, k6, k7, k8, k9⟩ := Rep_sl_vals (P := P) hs hux
    obtain ⟨news, sz, n1, n2, n3, n4⟩ := srcA_sound (P := P) hys hx huy
    have hxes : RepEs w (okOf F γ w) ((base.map (·.block)).getD 0) ((base.map (·.off)).getD 0) xs := by
      simp only [Rep] at hs
      obtain ⟨base', cap', e1, _, _, _, e5⟩ := hs
      cases e1
      cases base with
      | none => simp only at e5; have : xs = [] := List.eq_nil_of_length_eq_zero (by omega); subst this; simp only [RepEs]
      | some ad => exact e5.2
    have hnl : news.length = ys.length * esz := by rw [RepL_length _ n3, flat_length ys huy]
    have hsrc : Src P w xT i.size v ys.length news := by
      rcases n2 with rfl | rfl
      · rw [hisz]; exact n1
      · have : news = [] := List.eq_nil_of_length_eq_zero (by rw [hnl]; simp)
        subst this
        exact Src_zero n1 rfl _
    have hsum : xs.length + ys.length ≤ 140737488355328 := Nat.le_trans (Nat.le_mul_of_pos_right _ (Nat.succ_pos by1)) hbytes
    have hkd := hkind base cap k3
    by_cases hroom : xs.length + ys.length ≤ cap
    · have hrun := run_append_fits (P := P) (w := w) (ty := ty) (und_slice he) hi hsrc (base := base) (len := xs.length) (cap := cap) hroom
      by_cases hm : ys.length = 0
      · have hy : ys = [] := List.eq_nil_of_length_eq_zero hm
        subst hy
        have : news = [] := List.eq_nil_of_length_eq_zero (by rw [hnl]; simp)
        subst this
        have hrun' : (Builtin.append_ #[t, xT] ty #[.slice base xs.length cap, v]).run P w = .ok (.slice base xs.length cap) w := by
          rw [hrun]; cases base <;> simp [storeCells]
        -- nothing turns but the number
        have hl' : ∃ l', (∀ l, γ id = some l → l = l') ∧ spareOk (γ.set id l') (.own id) base xs.length cap ∧ (∀ b, l'.block = some b → ∃ l, γ id = some l ∧ l.block = some b) ∧ (∀ b o, okOf F γ w b o → l'.apart b o) ∧
            (Left F γ (γ.set id l') w w → OwnRep F (γ.set id l') w id (.spare esz xs.length)) := by
          rcases hkd with ⟨g1, g2⟩ | ⟨g1, g2⟩ | ⟨b, u, s, g1, g2, g3⟩
          · exact ⟨.full esz xs.length, (fun l hl => by rw [g1] at hl; cases hl), by unfold spareOk; simp only [Locs.set, if_true]; exact ⟨Nat.le_refl _, fun _ => g2⟩, (fun b hb => by cases hb), (fun _ _ _ => trivial), fun _ => .inl (by simp [Locs.set])⟩
          · exact ⟨.full esz xs.length, (fun l hl => by rw [g1] at hl; cases hl; rfl), by unfold spareOk; simp only [Locs.set, if_true]; exact ⟨Nat.le_refl _, fun _ => g2⟩, (fun b hb => by cases hb), (fun _ _ _ => trivial), fun _ => .inl (by simp [Locs.set])⟩
          · refine ⟨.spare esz xs.length b u s, (fun l hl => by rw [g1] at hl; cases hl; rfl), by unfold spareOk; simp only [Locs.set, if_true]; exact ⟨Nat.le_refl _, fun _ => g3⟩, (fun c hc => by cases hc; exact ⟨_, g1, rfl⟩), (fun c o hco => hco.2.2 id _ g1), fun hL => ?_⟩
            exact OwnRep_mono hL.ok hL.cell hL.le (by simp [Locs.set, g1]) (fun _ _ _ _ => rfl) (hI.own id _ g2)
        obtain ⟨l', q1, q2, q3, q4, q5⟩ := hl'
        obtain ⟨r1, r2⟩ := hI.upd (id := id) (nx := nx) (obj := .spare esz xs.length) (l' := l') (w' := w) rfl rfl rfl (Nat.le_refl _) (fun l hl => by rw [q1 l hl]; exact .refl _) (fun _ _ _ => rfl) (fun _ _ _ => rfl) (fun b hb => .inr (q3 b hb)) q4 q5
        refine ⟨_, w, _, hrun', by simpa using r1, r2, ?_⟩
        simp only [List.append_nil, Rep]
        refine ⟨base, cap, rfl, k1, k2, q2, ?_⟩
        cases base with
        | none => exact (k7 rfl).1
        | some ad => exact ⟨(k8 ad rfl).1, RepEs_mono r2.ok r2.cell _ hxes⟩
      · rcases hkd with ⟨g1, g2⟩ | ⟨g1, g2⟩ | ⟨b, u, s, g1, g2, g3⟩
        · omega
        · omega
        · rcases g3 with g3 | ⟨o, rfl, g4, g5⟩
          · omega
          · obtain ⟨w', γ', r1, r2, r3, r4⟩ := append_fits (P := P) hI (id := id) (nx := nx) (n := xs.length) (m := ys.length) g1 g2 rfl rfl (by omega) hroom k2 g4 g5 hux huy hxes n3 n4
            refine ⟨_, w', γ', ?_, by simpa using r2, r3, r4⟩
            rw [hrun]
            simp only [add_none, hisz, g4, r1, Result.andThen_ok]
    · have hrun := run_append_new (P := P) (w := w) (ty := ty) (und_slice he) hi hiz hsrc (base := base) (len := xs.length) (cap := cap) (olds := us) (by rw [hisz]; exact k9 w.drew rfl) (by omega) (by omega)
        (growslice_fits (by omega) (by rw [hby]; exact hbytes))
      have hcm := grownCap_le_maxLen w (xs.length + ys.length) cap e (by unfold maxLen; omega)
      have hcg := grownCap_ge w (xs.length + ys.length) cap e
      obtain ⟨γ', r1, r2, r3⟩ := append_grows (et := e) hI (id := id) (nx := nx) (n := xs.length) (m := ys.length) (cap := grownCap w (xs.length + ys.length) cap e) (zc := Builtin.zeroCells z.cells (grownCap w (xs.length + ys.length) cap e - (xs.length + ys.length)))
        (fun l hl => by
          rcases hkd with ⟨g1, _⟩ | ⟨g1, _⟩ | ⟨b, u, s, g1, _⟩
          · rw [g1] at hl; cases hl
          · rw [g1] at hl; cases hl; exact .inl rfl
          · rw [g1] at hl; cases hl; exact .inr ⟨_, _, _, rfl⟩) rfl rfl (by omega) hcg hcm hux huy k4 n3 k5 n4 (by rw [size_zeroCells, show z.cells.size = esz from by rw [← hzl, Array.length_toList]]) (zeroCells_one _ hone)
      exact ⟨_, _, γ', hrun, by simpa using r1, r2, r3⟩
  split at h
  · rename_i xs
    simp only [Option.some.injEq] at h
    subst h
    obtain ⟨c1, c2⟩ := hc
    have hg := look_none_of hI (hfresh st.next (Nat.le_refl _) (Nat.lt_succ_self _))
    obtain ⟨q1, q2, q3, q4, q5, q6, q7⟩ := main xs .tight st.next (st.next + 1) rfl c1 c2 (fun base cap hsp => .inl ⟨hg, hsp⟩)
    exact ⟨q1, q2, q3, q4, q5, q6, q7⟩
  · rename_i xs id
    split at h
    · rename_i esz' n
      simp only [Option.some.injEq] at h
      subst h
      obtain ⟨c1, rfl, rfl, c2⟩ := hc
      have hob := how xs id _ rfl rfl
      have hor := hI.own id _ hob
      obtain ⟨q1, q2, q3, q4, q5, q6, q7⟩ := main xs (.own id) id st.next rfl c1 c2 (fun base cap hsp => by
        unfold spareOk at hsp
        rcases hor with h1 | ⟨b, u, s, cur, et, fr, h1, _⟩
        · simp only [h1] at hsp; exact .inr (.inl ⟨h1, hsp.2 (by trivial)⟩)
        · simp only [h1] at hsp; exact .inr (.inr ⟨b, u, s, h1, hob, hsp.2 (by trivial)⟩))
      exact ⟨q1, q2, q3, q4, q5, q6, q7⟩
    · cases h
  · cases h
end Go.Aw
namespace Go.Aw
open Go
set_option linter.unusedVariables false
set_option linter.unusedSimpArgs false
set_option linter.unusedSectionVars false
variable {P : Program} {F : Fr} {γ : Locs} {st : St} {a : Act} {w : World}

/-! ### reslicing -/
def optI : Option AV → Int → Option Int
  | Option.none, d => some d
  | some (.v (.int _ i)), _ => some i
  | _, _ => Option.none

def sliceA (P : Program) (t : TypeId) (x : AV) (lo hi mx : Option AV) (ow : Option Own) : Option (Prop × AV) :=
  match x with
  | .str l =>
    match tStr P t, optI lo 0, optI hi l.length, mx with
    | true, some i, some j, Option.none => some (0 ≤ i ∧ i ≤ j ∧ j ≤ l.length, .str ((l.take j.toNat).drop i.toNat))
    | _, _, _, _ => Option.none
  | .sl xs sp =>
    match tElem P t with
    | some e =>
      match tSize P e, optI lo 0, optI hi xs.length with
      | some esz, some i, some j =>
        match mx with
        | Option.none => some (0 ≤ i ∧ i ≤ j ∧ j ≤ xs.length ∧ (∀ cs ∈ xs, cs.length = esz), .sl ((xs.take j.toNat).drop i.toNat) (match hi, sp with | Option.none, .tight => .tight | _, _ => .none))
        | some (.v (.int _ k)) => some (0 ≤ i ∧ i ≤ j ∧ j ≤ xs.length ∧ k = j ∧ (∀ cs ∈ xs, cs.length = esz), .sl ((xs.take j.toNat).drop i.toNat) .tight)
        | _ => Option.none
      | _, _, _ => Option.none
    | Option.none => Option.none
  | .os id off len cp =>
    match tElem P t with
    | some e =>
      match tSize P e, optI lo 0, optI hi len, mx, ow with
      | some esz, some i, some j, Option.none, some (.arr esz' _) => if esz = esz' then some (0 ≤ i ∧ i ≤ j ∧ j ≤ ((cp.getD len : Nat) : Int), .os id (off + i.toNat) (j - i).toNat (cp.map (· - i.toNat))) else Option.none
      | some esz, some i, some j, some (.v (.int _ k)), some (.arr esz' _) => if esz = esz' then some (0 ≤ i ∧ i ≤ j ∧ j ≤ k ∧ k ≤ ((cp.getD len : Nat) : Int) ∧ hi.isSome = true, .junk) else Option.none
      | _, _, _, _, _ => Option.none
    | Option.none => Option.none
  | _ => Option.none

/-- The bounds of a reslicing, where they fit. -/
theorem run_sliceBounds {isS : Bool} {len cap : Nat} {ok : Ok} {lo hi mx : Option AV} {vlo vhi vmx : Option Value} {i j : Int} (hlo : optI lo 0 = some i) (hhi : optI hi len = some j)
    (rlo : ∀ x, lo = some x → ∃ u, vlo = some u ∧ Rep w ok x γ u) (nlo : lo = Option.none → vlo = Option.none)
    (rhi : ∀ x, hi = some x → ∃ u, vhi = some u ∧ Rep w ok x γ u) (nhi : hi = Option.none → vhi = Option.none)
    (h0 : 0 ≤ i) (hij : i ≤ j) (hjl : j ≤ cap) (hlc : len ≤ cap) {m : Nat}
    (hm : (mx = Option.none ∧ vmx = Option.none ∧ m = cap) ∨ (∃ k : IntKind, vmx = some (.int k m) ∧ hi ≠ Option.none ∧ j ≤ m ∧ m ≤ cap)) :
    (Instr.sliceBounds isS len cap vlo vhi vmx).run P w = .ok (i.toNat, j.toNat, m) w := by
  have elo : (vlo = Option.none ∧ i = 0) ∨ ∃ k, vlo = some (.int k i) := by
    cases lo with
    | none => simp only [optI, Option.some.injEq] at hlo; exact .inl ⟨nlo rfl, hlo.symm⟩
    | some x =>
      obtain ⟨u, h1, h2⟩ := rlo x rfl
      unfold optI at hlo
      split at hlo
      · cases ‹some x = Option.none›
      · rename_i heq; cases heq; simp only [Option.some.injEq] at hlo; subst hlo; simp only [Rep] at h2; subst h2; exact .inr ⟨_, h1⟩
      · cases hlo
  have ehi : (vhi = Option.none ∧ j = len ∧ hi = Option.none) ∨ ∃ k, vhi = some (.int k j) := by
    cases hi with
    | none => simp only [optI, Option.some.injEq] at hhi; exact .inl ⟨nhi rfl, hhi.symm, rfl⟩
    | some x =>
      obtain ⟨u, h1, h2⟩ := rhi x rfl
      unfold optI at hhi
      split at hhi
      · cases ‹some x = Option.none›
      · rename_i heq; cases heq; simp only [Option.some.injEq] at hhi; subst hhi; simp only [Rep] at h2; subst h2; exact .inr ⟨_, h1⟩
      · cases hhi
  have hj0 : 0 ≤ j := by omega
  have hjc : j ≤ (cap : Int) := by omega
  have hit : i ≤ (j.toNat : Int) := by omega
  rcases hm with ⟨rfl, rfl, rfl⟩ | ⟨k3, rfl, hne, hmj, hmc⟩
  · rcases elo with ⟨rfl, rfl⟩ | ⟨k1, rfl⟩ <;> rcases ehi with ⟨rfl, rfl, rfl⟩ | ⟨k2, rfl⟩ <;>
      simp [Instr.sliceBounds, Instr.sliceBound, asIntOf, h0, hj0, hjc, hit] <;> (try omega)
  · rcases ehi with ⟨rfl, rfl, rfl⟩ | ⟨k2, rfl⟩
    · exact absurd rfl hne
    · have hmc : (m : Int) ≤ cap := by omega
      have hjm : j ≤ (m : Int) := by omega
      have hm0 : (0 : Int) ≤ m := by omega
      rcases elo with ⟨rfl, rfl⟩ | ⟨k1, rfl⟩ <;> simp [Instr.sliceBounds, Instr.sliceBound, asIntOf, h0, hj0, hjm, hm0, hmc, hit] <;> (try omega)

theorem RepC_seg {ok : Ok} {b o i k : Nat} {cs : List AV} (h : RepC w ok b o cs) (hi : i ≤ cs.length) : RepC w ok b (o + i) ((cs.drop i).take k) := RepC_take k _ (RepC_drop i cs h hi)

theorem flat_take {esz : Nat} {xs : List (List AV)} (h : ∀ cs ∈ xs, cs.length = esz) (j : Nat) : (xs.take j).flatten = xs.flatten.take (j * esz) := by
  induction xs generalizing j with
  | nil => simp
  | cons c r ih =>
    have hc := h c (by simp)
    cases j with
    | zero => simp
    | succ j =>
      rw [List.take_succ_cons, List.flatten_cons, List.flatten_cons, ih (fun cs hcs => h cs (by simp [hcs])), List.take_append, show (j + 1) * esz = c.length + j * esz from by rw [hc, Nat.add_mul]; omega]
      rw [Nat.add_sub_cancel_left, List.take_of_length_le (Nat.le_add_right c.length (j * esz))]

theorem RepEs_sub {ok : Ok} {b o esz : Nat} {xs : List (List AV)} (h : RepEs w ok b o xs) (hu : ∀ cs ∈ xs, cs.length = esz) (i j : Nat) (hi : i ≤ xs.length) : RepEs w ok b (o + i * esz) ((xs.take j).drop i) := by
  refine RepEs_flatten ?_
  have hu' : ∀ cs ∈ xs.take j, cs.length = esz := fun cs hcs => hu cs (List.mem_of_mem_take hcs)
  have : ((xs.take j).drop i).flatten = (xs.flatten.take (j * esz)).drop (i * esz) := by
    rw [← flat_drop _ _ hu', flat_take hu]
  rw [this, List.drop_take]
  refine RepC_seg (RepEs_flat h) ?_
  rw [flat_length xs hu]
  exact Nat.mul_le_mul_right _ hi

theorem sliceA_sound (hI : Inv F γ st a w) {t : TypeId} {x : AV} {lo hi mx : Option AV} {ow : Option Own} {c : Prop} {r : AV} (h : sliceA P t x lo hi mx ow = some (c, r)) (hc : c)
    (how : ∀ id off len cp o, x = .os id off len cp → ow = some o → look st.own id = some o) {u : Value} {vlo vhi vmx : Option Value} (hx : Rep w (okOf F γ w) x γ u)
    (rlo : ∀ x, lo = some x → ∃ u, vlo = some u ∧ Rep w (okOf F γ w) x γ u) (nlo : lo = Option.none → vlo = Option.none)
    (rhi : ∀ x, hi = some x → ∃ u, vhi = some u ∧ Rep w (okOf F γ w) x γ u) (nhi : hi = Option.none → vhi = Option.none)
    (rmx : ∀ x, mx = some x → ∃ u, vmx = some u ∧ Rep w (okOf F γ w) x γ u) (nmx : mx = Option.none → vmx = Option.none) (hmxhi : mx ≠ Option.none → hi ≠ Option.none) :
    ∃ z, (Instr.sliceAt t u vlo vhi vmx).run P w = .ok z w ∧ Rep w (okOf F γ w) r γ z := by
  unfold sliceA at h
  split at h
  · rename_i l
    split at h
    · rename_i i j ht hlo hhi
      simp only [Option.some.injEq, Prod.mk.injEq] at h
      obtain ⟨rfl, rfl⟩ := h
      obtain ⟨c1, c2, c3⟩ := hc
      simp only [Rep] at hx
      subst hx
      have hsb := run_sliceBounds (P := P) (w := w) (isS := false) (mx := Option.none) (vmx := Option.none) hlo hhi rlo nlo rhi nhi c1 c2 c3 (Nat.le_refl _) (.inl ⟨rfl, rfl, rfl⟩)
      refine ⟨.string ⟨((l.take j.toNat).drop i.toNat).toArray⟩, ?_, by simp only [Rep]⟩
      unfold Instr.sliceAt Instr.slice
      rw [nmx rfl]
      simp only [Sem.run_bind, run_underlying (und_str ht), Result.andThen_ok, Option.isSome_none, Bool.false_eq_true, if_false, size_toArray', hsb, Sem.run_pure]
      congr 1
      have : ((⟨l.toArray⟩ : ByteArray).extract i.toNat j.toNat).data = ((l.take j.toNat).drop i.toNat).toArray := by
        rw [ByteArray.data_extract]
        apply Array.ext'
        simp [List.extract, List.drop_take]
      cases hq : (⟨l.toArray⟩ : ByteArray).extract i.toNat j.toNat with
      | mk d => rw [hq] at this; simp only at this; rw [this]
    · cases h
  · rename_i xs sp
    split at h
    · rename_i e he
      split at h
      · rename_i esz i j hsz hlo hhi
        simp only [Rep] at hx
        obtain ⟨base, cap, rfl, g1, g2, g3, g4⟩ := hx
        have key : ∀ (m : Nat) (sp' : Spare), (∀ cs ∈ xs, cs.length = esz) → 0 ≤ i → i ≤ j → j ≤ xs.length → (m = cap ∨ (m : Int) = j) → 
            (Instr.sliceBounds true xs.length cap vlo vhi vmx).run P w = .ok (i.toNat, j.toNat, m) w →
            spareOk γ sp' (if m = i.toNat then base else base.map (·.add (i.toNat * esz))) (j.toNat - i.toNat) (m - i.toNat) →
            ∃ z, (Instr.sliceAt t (.slice base xs.length cap) vlo vhi vmx).run P w = .ok z w ∧ Rep w (okOf F γ w) (.sl ((xs.take j.toNat).drop i.toNat) sp') γ z := by
          intro m sp' hu h0 hij hjl hm hsb hsp
          refine ⟨.slice (if m = i.toNat then base else base.map (·.add (i.toNat * esz))) (j.toNat - i.toNat) (m - i.toNat), ?_, ?_⟩
          · unfold Instr.sliceAt Instr.slice
            simp only [Sem.run_bind, run_underlying (und_slice he), Result.andThen_ok, hsb, run_sizeOf hsz, Sem.run_pure]
          · simp only [Rep]
            have hlen : ((xs.take j.toNat).drop i.toNat).length = j.toNat - i.toNat := by simp; omega
            refine ⟨_, m - i.toNat, by rw [hlen], by rw [hlen]; omega, by unfold maxLen at *; omega, by rw [hlen]; exact hsp, ?_⟩
            cases base with
            | none => simp only at g4; subst g4; simp; omega
            | some ad =>
              obtain ⟨ab, ao, asp⟩ := ad
              obtain ⟨g4, g5⟩ := g4
              simp only at g4 g5
              subst g4
              by_cases hmi : m = i.toNat
              · simp only [hmi, if_true]
                have : (xs.take j.toNat).drop i.toNat = [] := List.eq_nil_of_length_eq_zero (by rw [hlen]; omega)
                rw [this]
                exact ⟨trivial, by simp only [RepEs]⟩
              · simp only [if_neg hmi, Option.map_some, add_none]
                exact ⟨trivial, RepEs_sub g5 hu _ _ (by omega)⟩
        split at h
        · simp only [Option.some.injEq, Prod.mk.injEq] at h
          obtain ⟨rfl, rfl⟩ := h
          obtain ⟨c1, c2, c3, c4⟩ := hc
          have hsb := run_sliceBounds (P := P) (w := w) (isS := true) (mx := Option.none) (vmx := vmx) hlo hhi rlo nlo rhi nhi c1 c2 (by omega) g1 (.inl ⟨rfl, nmx rfl, rfl⟩)
          refine key cap _ c4 c1 c2 c3 (.inl rfl) hsb ?_
          split
          · rename_i h1 h2
            simp only [optI, Option.some.injEq] at hhi
            subst hhi
            unfold spareOk at g3 ⊢
            simp only at g3 ⊢
            omega
          · trivial
        · rename_i kk k
          simp only [Option.some.injEq, Prod.mk.injEq] at h
          obtain ⟨rfl, rfl⟩ := h
          obtain ⟨c1, c2, c3, rfl, c4⟩ := hc
          obtain ⟨um, hm1, hm2⟩ := rmx _ rfl
          simp only [Rep] at hm2
          subst hm2
          have hsb := run_sliceBounds (P := P) (w := w) (isS := true) (mx := some (.v (.int kk k))) (vmx := vmx) (m := k.toNat) hlo hhi rlo nlo rhi nhi c1 c2 (by omega) g1
            (.inr ⟨kk, by rw [hm1]; congr 2; omega, hmxhi (by simp), by omega, by omega⟩)
          exact key k.toNat .tight c4 c1 c2 c3 (.inr (by omega)) hsb (by unfold spareOk; rfl)
        · cases h
      · cases h
    · cases h
  · rename_i id off len cp
    split at h
    · rename_i e he
      split at h
      · rename_i esz i j esz' ys hsz hlo hhi
        split at h
        · rename_i hes
          subst hes
          simp only [Option.some.injEq, Prod.mk.injEq] at h
          obtain ⟨rfl, rfl⟩ := h
          obtain ⟨c1, c2, c3⟩ := hc
          have ho := hI.own id _ (how id off len _ _ rfl rfl)
          obtain ⟨b, n', cur, et, fr, k1, _⟩ := ho
          simp only [Rep] at hx
          obtain ⟨b', esz2, n, cap, oo, e1, rfl, e0, e2, e3, e4, e5⟩ := hx
          rw [k1] at e1
          cases e1
          have hjc : j ≤ cap := by
            cases cp with
            | none => simp at c3; omega
            | some cc => have := e5 cc rfl; simp at c3; omega
          have hsb := run_sliceBounds (P := P) (w := w) (isS := true) (mx := Option.none) (vmx := vmx) hlo hhi rlo nlo rhi nhi c1 c2 hjc e2 (.inl ⟨rfl, nmx rfl, rfl⟩)
          refine ⟨.slice (if cap = i.toNat then some ⟨b, oo, Option.none⟩ else some ⟨b, oo + i.toNat * esz, Option.none⟩) (j.toNat - i.toNat) (cap - i.toNat), ?_, ?_⟩
          · unfold Instr.sliceAt Instr.slice
            simp only [Sem.run_bind, run_underlying (und_slice he), Result.andThen_ok, hsb, run_sizeOf hsz, Sem.run_pure]
            split <;> simp [add_none]
          · simp only [Rep]
            refine ⟨b, esz, n', cap - i.toNat, if cap = i.toNat then oo else oo + i.toNat * esz, by rw [k1]; rfl, ?_, ?_, by omega, by omega, by omega, ?_⟩
            · rw [show (j - i).toNat = j.toNat - i.toNat from by omega]
              by_cases hci : cap = i.toNat
              · rw [if_pos hci, if_pos hci]
              · rw [if_neg hci, if_neg hci]
            · by_cases hci : cap = i.toNat
              · exact .inl (by omega)
              · refine .inr ?_
                rw [if_neg hci, Nat.add_mul]
                rcases e0 with e0 | e0
                · omega
                · omega
            · intro c hcc
              cases cp with
              | none => cases hcc
              | some cc => have := e5 cc rfl; simp at hcc; omega
        · cases h
      · rename_i esz i j kk k esz' ys hsz hlo hhi
        split at h
        · rename_i hes
          subst hes
          simp only [Option.some.injEq, Prod.mk.injEq] at h
          obtain ⟨rfl, rfl⟩ := h
          obtain ⟨c1, c2, c3, c4, c5⟩ := hc
          simp only [Rep] at hx
          obtain ⟨b', esz2, n, cap, oo, e1, rfl, e0, e2, e3, e4, e5⟩ := hx
          have hkc : k ≤ cap := by
            cases cp with
            | none => simp at c4; omega
            | some cc => have := e5 cc rfl; simp at c4; omega
          obtain ⟨um, hm1, hm2⟩ := rmx _ rfl
          simp only [Rep] at hm2
          subst hm2
          have hsb := run_sliceBounds (P := P) (w := w) (isS := true) (mx := some (.v (.int kk k))) (vmx := vmx) (m := k.toNat) hlo hhi rlo nlo rhi nhi c1 c2 (by omega) e2
            (.inr ⟨kk, by rw [hm1]; congr 2; omega, hmxhi (by simp), by omega, by omega⟩)
          refine ⟨.slice (if k.toNat = i.toNat then some ⟨b', oo, Option.none⟩ else some ⟨b', oo + i.toNat * esz, Option.none⟩) (j.toNat - i.toNat) (k.toNat - i.toNat), ?_, by simp only [Rep]⟩
          unfold Instr.sliceAt Instr.slice
          simp only [Sem.run_bind, run_underlying (und_slice he), Result.andThen_ok, hsb, run_sizeOf hsz, Sem.run_pure]
          split <;> simp [add_none]
        · cases h
      · cases h
    · cases h
  · cases h
end Go.Aw
namespace Go.Aw
open Go
set_option linter.unusedVariables false
set_option linter.unusedSimpArgs false
set_option linter.unusedSectionVars false
variable {P : Program} {F : Fr} {γ : Locs} {st : St} {a : Act} {w : World}

/-! ### maps -/
/-- A key's value: a whole number, a text. -/
def keyV : AV → Option Value
  | .v (.int k i) => some (.int k i)
  | .str l => some (.string ⟨l.toArray⟩)
  | _ => Option.none

def keyEq : Value → Value → Bool
  | .int _ a, .int _ b => decide (a = b)
  | .string a, .string b => decide (a = b)
  | _, _ => false

def keyLike (d : TypeDesc) : Value → Prop
  | .int k _ => d = .int k
  | .string _ => d = .string
  | _ => False

def mfind (k : Value) : List (Value × AV) → Option AV
  | [] => Option.none
  | (k', x) :: r => if keyEq k k' then some x else mfind k r

def mput (k : Value) (x : AV) : List (Value × AV) → List (Value × AV)
  | [] => [(k, x)]
  | (k', y) :: r => if keyEq k k' then (k', x) :: r else (k', y) :: mput k x r

def mdel (k : Value) : List (Value × AV) → List (Value × AV)
  | [] => []
  | (k', y) :: r => if keyEq k k' then r else (k', y) :: mdel k r

def tMap (P : Program) (t : TypeId) : Option (TypeId × TypeId) :=
  match P.underlying t with
  | some (.map k e) => some (k, e)
  | _ => Option.none
theorem und_map {t k e : Nat} (h : tMap P t = some (k, e)) : P.underlying t = some (.map k e) := by
  unfold tMap at h
  split at h
  · cases h; assumption
  · cases h

/-- All keys of a kind. -/
def keysOk (P : Program) (kt : TypeId) (k : Value) (kvs : List (Value × AV)) : Prop :=
  ∃ d, P.underlying kt = some d ∧ keyLike d k ∧ ∀ p ∈ kvs, keyLike d p.1

theorem ba_beq (a b : ByteArray) : (a == b) = decide (a = b) := by
  rw [Bool.eq_iff_iff]
  have h : (a == b) = (a.data == b.data) := rfl
  rw [h]
  cases a; cases b; simp

theorem sameNow_keyEq {d : TypeDesc} {k k' : Value} (h : keyLike d k) (h' : keyLike d k') : Instr.sameNow d k k' = some (keyEq k k') := by
  cases k <;> simp only [keyLike] at h <;> cases k' <;> simp only [keyLike] at h'
  · subst h; injection h' with e; subst e
    simp only [Instr.sameNow, keyEq, if_true]
    congr 1
  · subst h; cases h'
  · subst h; cases h'
  · subst h
    simp only [Instr.sameNow, keyEq, ba_beq]

theorem findNow_kv {ok : Ok} {d : TypeDesc} {k : Value} (hk : keyLike d k) : ∀ {kvs : List (Value × AV)} {es : List MapEntry} (i : Nat), (∀ p ∈ kvs, keyLike d p.1) → KV w ok γ kvs es →
    (mfind k kvs = Option.none ∧ Instr.findNow d k es i = some Option.none) ∨
    (∃ x v j e, mfind k kvs = some x ∧ Instr.findNow d k es i = some (some (i + j, v)) ∧ es[j]? = some e ∧ e.val = v ∧ keyEq k e.key = true ∧ Rep w ok x γ v)
  | [], es, i, _, h => by simp only [KV] at h; subst h; exact .inl ⟨rfl, rfl⟩
  | (k', x) :: r, es, i, hl, h => by
    simp only [KV] at h
    obtain ⟨e, es', rfl, rfl, h2, h3⟩ := h
    have hs := sameNow_keyEq hk (hl (e.key, x) (by simp))
    unfold mfind Instr.findNow
    rw [hs]
    by_cases hq : keyEq k e.key = true
    · rw [hq]
      exact .inr ⟨x, e.val, 0, e, by simp, by simp, rfl, rfl, hq, h2⟩
    · have hq' : keyEq k e.key = false := by simpa using hq
      rw [hq']
      rcases findNow_kv hk (i + 1) (fun p hp => hl p (by simp [hp])) h3 with ⟨g1, g2⟩ | ⟨y, v, j, e', g1, g2, g3, g4⟩
      · exact .inl ⟨by simpa using g1, by simpa using g2⟩
      · exact .inr ⟨y, v, j + 1, e', by simpa using g1, by simp only [g2]; congr 3; omega, by simpa using g3, g4⟩

theorem run_checkKey {kt : TypeId} {d : TypeDesc} {k : Value} (hd : P.underlying kt = some d) (hk : keyLike d k) (empty : Bool) (n : Nat) : (Instr.checkKey empty (n + 1) kt k).run P w = .ok () w := by
  cases k <;> simp only [keyLike] at hk <;> subst hk <;> simp [Instr.checkKey, run_underlying hd]

theorem keyV_rep {ok : Ok} {x : AV} {k u : Value} (h : keyV x = some k) (hx : Rep w ok x γ u) : u = k := by
  unfold keyV at h
  split at h <;> simp only [Option.some.injEq, reduceCtorEq] at h <;> subst h <;> simpa only [Rep] using hx

def zeroAV (P : Program) (t : TypeId) : Option AV :=
  match (P.info? t).bind (·.zero) with
  | some (.agg cs) => if cs.toList.all (·.oneCell') then some (.agg (cs.toList.map constAV)) else Option.none
  | some z => some (constAV z)
  | Option.none => Option.none

def getA (x : Option AV) (z : AV) : AV :=
  match x with
  | some x => x
  | Option.none => z

def lookupA (P : Program) (t : TypeId) (m k : AV) (ok : Bool) (ow : Option Own) : Option (Prop × AV) :=
  match tMap P t, m, ow, keyV k with
  | some (kt, e), .om _, some (.map kvs), some kv =>
    match zeroAV P e with
    | some z => some (keysOk P kt kv kvs, if ok then .tup [getA (mfind kv kvs) z, .v (.bool (mfind kv kvs).isSome)] else getA (mfind kv kvs) z)
    | Option.none => Option.none
  | some (kt, e), .v (.map Option.none), _, some kv =>
    match zeroAV P e with
    | some z => some (keysOk P kt kv [], if ok then .tup [z, .v (.bool false)] else z)
    | Option.none => Option.none
  | _, _, _, _ => Option.none

theorem zeroAV_sound {t : TypeId} {z : AV} (h : zeroAV P t = some z) (w : World) (ok : Ok) (γ : Locs) : ∃ v, (zeroValue t).run P w = .ok v w ∧ Rep w ok z γ v := by
  have key : ∀ v, (P.info? t).bind (·.zero) = some v → (zeroValue t).run P w = .ok v w := by
    intro v hv
    cases hi : P.info? t with
    | none => rw [hi] at hv; cases hv
    | some i => rw [hi] at hv; simp only [Option.bind_some] at hv; unfold zeroValue typeInfo; simp [hi, hv]
  unfold zeroAV at h
  split at h
  · rename_i cs hz
    split at h
    · rename_i ha
      simp only [Option.some.injEq] at h
      subst h
      exact ⟨_, key _ hz, by simp only [Rep]; exact ⟨cs, rfl, RepL_const _, List.all_eq_true.1 ha⟩⟩
    · cases h
  · rename_i z' hne hz
    simp only [Option.some.injEq] at h
    subst h
    exact ⟨_, key _ hz, rep_const w ok γ _⟩
  · cases h

theorem lookupA_sound (hI : Inv F γ st a w) {t : TypeId} {m k : AV} {ok : Bool} {ow : Option Own} {c : Prop} {r : AV} (h : lookupA P t m k ok ow = some (c, r)) (hc : c)
    (how : ∀ id o, m = .om id → ow = some o → look st.own id = some o) {u v : Value} (hm : Rep w (okOf F γ w) m γ u) (hk : Rep w (okOf F γ w) k γ v) :
    ∃ z, (Instr.lookup t u v ok).run P w = .ok z w ∧ Rep w (okOf F γ w) r γ z := by
  unfold lookupA at h
  split at h
  · rename_i kt e id kvs kv ht hkv
    split at h
    · rename_i z hz
      simp only [Option.some.injEq, Prod.mk.injEq] at h
      obtain ⟨rfl, rfl⟩ := h
      have hv := keyV_rep hkv hk
      subst hv
      obtain ⟨d, hd, hkl, hall⟩ := hc
      obtain ⟨b, es, clock, g1, g2, g3, g4, g5⟩ := hI.own id _ (how id _ rfl rfl)
      simp only [Rep] at hm
      obtain ⟨b', e1, rfl⟩ := hm
      rw [g1] at e1
      cases e1
      obtain ⟨zv, hzv, hzr⟩ := zeroAV_sound (P := P) hz w (okOf F γ w) γ
      have hck : (Instr.checkKey es.isEmpty 10000 kt v).run P w = .ok () w := run_checkKey (n := 9999) hd hkl _
      have hgo : (getObj b).run P w = .ok (.map es clock) w := by simp [getObj, Sem.run, g2]
      rcases findNow_kv (w := w) (γ := γ) hkl 0 hall g3 with ⟨q1, q2⟩ | ⟨x, vv, j, e', q1, q2, q3, q4, q5, q6⟩
      · have hfk : (Instr.findKey kt v es.toList).run P w = .ok Option.none w := by
          unfold Instr.findKey
          simp only [Sem.run_bind, run_underlying hd, Result.andThen_ok, q2, Sem.run_pure]
        refine ⟨if ok then .tuple #[zv, .bool false] else zv, ?_, ?_⟩
        · unfold Instr.lookup
          simp only [Sem.run_bind, run_underlying (und_map ht), Result.andThen_ok, hgo, Sem.run_pure, hck, hfk, hzv]
        · rw [q1]
          cases ok
          · simpa [getA] using hzr
          · simp only [if_true, getA, Rep, RepL, Option.isSome_none]
            exact ⟨_, rfl, zv, [.bool false], rfl, hzr, .bool false, [], rfl, rfl, rfl⟩
      · have hfk : (Instr.findKey kt v es.toList).run P w = .ok (some (0 + j, vv)) w := by
          unfold Instr.findKey
          simp only [Sem.run_bind, run_underlying hd, Result.andThen_ok, q2, Sem.run_pure]
        refine ⟨if ok then .tuple #[vv, .bool true] else vv, ?_, ?_⟩
        · unfold Instr.lookup
          simp only [Sem.run_bind, run_underlying (und_map ht), Result.andThen_ok, hgo, Sem.run_pure, hck, hfk]
        · rw [q1]
          cases ok
          · simpa [getA] using q6
          · simp only [if_true, getA, Rep, RepL, Option.isSome_some]
            exact ⟨_, rfl, vv, [.bool true], rfl, q6, .bool true, [], rfl, rfl, rfl⟩
    · cases h
  · rename_i kt e kv ht hkv
    split at h
    · rename_i z hz
      simp only [Option.some.injEq, Prod.mk.injEq] at h
      obtain ⟨rfl, rfl⟩ := h
      have hv := keyV_rep hkv hk
      subst hv
      obtain ⟨d, hd, hkl, hall⟩ := hc
      simp only [Rep] at hm
      subst hm
      obtain ⟨zv, hzv, hzr⟩ := zeroAV_sound (P := P) hz w (okOf F γ w) γ
      have hck : (Instr.checkKey true 10000 kt v).run P w = .ok () w := run_checkKey (n := 9999) hd hkl _
      have hfk : (Instr.findKey kt v []).run P w = .ok Option.none w := by
        unfold Instr.findKey
        simp only [Sem.run_bind, run_underlying hd, Result.andThen_ok, Instr.findNow, Sem.run_pure]
      refine ⟨if ok then .tuple #[zv, .bool false] else zv, ?_, ?_⟩
      · unfold Instr.lookup
        simp only [Sem.run_bind, run_underlying (und_map ht), Result.andThen_ok, Sem.run_pure, Array.isEmpty_empty, hck, hfk, hzv]
      · cases ok
        · simpa using hzr
        · simp only [if_true, Rep, RepL]
          exact ⟨_, rfl, zv, [.bool false], rfl, hzr, .bool false, [], rfl, rfl, rfl⟩
    · cases h
  · cases h
end Go.Aw
namespace Go.Aw
open Go
set_option linter.unusedVariables false
set_option linter.unusedSimpArgs false
set_option linter.unusedSectionVars false
variable {P : Program} {F : Fr} {γ : Locs} {st : St} {a : Act} {w : World}

theorem KV_mput {ok : Ok} {k u : Value} {x : AV} (hx : Rep w ok x γ u) : ∀ {kvs : List (Value × AV)} {es : List MapEntry} {clock : Nat}, KV w ok γ kvs es →
    (mfind k kvs = Option.none → KV w ok γ (mput k x kvs) (es ++ [{ key := k, val := u, born := clock }])) ∧
    (∀ j e, es[j]? = some e → keyEq k e.key = true → (∀ i e', i < j → es[i]? = some e' → keyEq k e'.key = false) → KV w ok γ (mput k x kvs) (es.modify j fun e => { e with val := u }))
  | [], es, clock, h => by
    simp only [KV] at h
    subst h
    exact ⟨fun _ => by simp only [mput, KV, List.nil_append]; exact ⟨_, [], rfl, rfl, hx, rfl⟩, fun j e he => by simp at he⟩
  | (k', y) :: r, es, clock, h => by
    simp only [KV] at h
    obtain ⟨e, es', rfl, rfl, h2, h3⟩ := h
    obtain ⟨ih1, ih2⟩ := KV_mput (clock := clock) hx h3
    refine ⟨fun hn => ?_, fun j e' he hke hlt => ?_⟩
    · unfold mfind at hn
      unfold mput
      split at hn
      · cases hn
      · rename_i hq
        rw [if_neg hq]
        simp only [KV, List.cons_append]
        exact ⟨e, _, rfl, rfl, h2, ih1 hn⟩
    · unfold mput
      cases j with
      | zero =>
        simp only [List.getElem?_cons_zero, Option.some.injEq] at he
        subst he
        rw [if_pos hke]
        simp only [List.modify_zero_cons, KV]
        exact ⟨_, es', rfl, rfl, hx, h3⟩
      | succ j =>
        have := hlt 0 e (by omega) rfl
        rw [this]
        simp only [Bool.false_eq_true, if_false, List.modify_succ_cons, KV]
        exact ⟨e, _, rfl, rfl, h2, ih2 j e' (by simpa using he) hke fun i e'' hi hie => hlt (i + 1) e'' (by omega) (by simpa using hie)⟩

theorem findNow_first {ok : Ok} {d : TypeDesc} {k : Value} (hk : keyLike d k) : ∀ {kvs : List (Value × AV)} {es : List MapEntry} {i j : Nat} {v : Value}, (∀ p ∈ kvs, keyLike d p.1) → KV w ok γ kvs es →
    Instr.findNow d k es i = some (some (j, v)) → i ≤ j ∧ (∃ e, es[j - i]? = some e ∧ keyEq k e.key = true ∧ e.val = v) ∧ ∀ l e', l < j - i → es[l]? = some e' → keyEq k e'.key = false
  | [], es, i, j, v, _, h, hf => by simp only [KV] at h; subst h; simp [Instr.findNow] at hf
  | (k', x) :: r, es, i, j, v, hl, h, hf => by
    simp only [KV] at h
    obtain ⟨e, es', rfl, rfl, h2, h3⟩ := h
    have hs := sameNow_keyEq hk (hl (e.key, x) (by simp))
    unfold Instr.findNow at hf
    rw [hs] at hf
    by_cases hq : keyEq k e.key = true
    · rw [hq] at hf
      simp only [Option.some.injEq, Prod.mk.injEq] at hf
      obtain ⟨rfl, rfl⟩ := hf
      exact ⟨Nat.le_refl _, ⟨e, by simp, hq, rfl⟩, fun l e' h => by omega⟩
    · have hq' : keyEq k e.key = false := by simpa using hq
      rw [hq'] at hf
      obtain ⟨g1, ⟨e', g2, g3⟩, g4⟩ := findNow_first hk (fun p hp => hl p (by simp [hp])) h3 hf
      refine ⟨by omega, ⟨e', by rw [show j - i = (j - (i + 1)) + 1 from by omega]; simpa using g2, g3⟩, fun l e'' hlt he'' => ?_⟩
      cases l with
      | zero => simp at he''; subst he''; exact hq'
      | succ l => exact g4 l e'' (by omega) (by simpa using he'')

theorem keyEq_eq {d : TypeDesc} {k k' : Value} (h : keyLike d k) (h' : keyLike d k') (he : keyEq k k' = true) : k = k' := by
  cases k <;> simp only [keyLike] at h <;> cases k' <;> simp only [keyLike] at h' <;> simp only [keyEq, decide_eq_true_eq, Bool.false_eq_true] at he
  · subst he; subst h; injection h' with e; subst e; rfl
  · subst he; rfl

theorem run_keyStays {k : Value} {d : TypeDesc} (h : keyLike d k) : (Instr.keyThatStays k k).run P w = .ok k w := by
  cases k <;> simp only [keyLike] at h
  · simp [Instr.keyThatStays, Instr.sameBits]
  · simp [Instr.keyThatStays, Instr.sameBits, ba_beq]

theorem KV_key {ok : Ok} {d : TypeDesc} : ∀ {kvs : List (Value × AV)} {es : List MapEntry}, (∀ p ∈ kvs, keyLike d p.1) → KV w ok γ kvs es → ∀ (j : Nat) e, es[j]? = some e → keyLike d e.key
  | [], es, _, h, j, e, he => by simp only [KV] at h; subst h; simp at he
  | (k', x) :: r, es, hl, h, j, e, he => by
    simp only [KV] at h
    obtain ⟨e0, es', rfl, rfl, h2, h3⟩ := h
    cases j with
    | zero => simp at he; subst he; exact hl (e0.key, x) (by simp)
    | succ j => exact KV_key (fun p hp => hl p (by simp [hp])) h3 j e (by simpa using he)

theorem List.modify_id_at {α : Type} (f g : α → α) : ∀ (l : List α) (j : Nat), (∀ x, l[j]? = some x → f x = g x) → l.modify j f = l.modify j g
  | [], j, _ => by simp
  | x :: l, 0, h => by simp [h x rfl]
  | x :: l, j + 1, h => by simp only [List.modify_succ_cons]; rw [List.modify_id_at f g l j (fun y hy => h y (by simpa using hy))]

def mapUpdateA (P : Program) (t : TypeId) (m k x : AV) (ow : Option Own) (nx : Nat) : Option Res :=
  match tMap P t, m, ow, keyV k with
  | some (kt, _), .om id, some (.map kvs), some kv => some ⟨keysOk P kt kv kvs, .v undef, [(id, .map (mput kv x kvs))], nx⟩
  | _, _, _, _ => Option.none

theorem map_born_modify (es : List MapEntry) (j : Nat) (u : Value) : (es.modify j fun e => { e with val := u }).map (·.born) = es.map (·.born) := by
  induction es generalizing j with
  | nil => simp
  | cons e es ih => cases j <;> simp_all [List.modify_succ_cons]

theorem mapUpdateA_sound (hI : Inv F γ st a w) {t : TypeId} {m k x : AV} {ow : Option Own} {R : Res} (h : mapUpdateA P t m k x ow st.next = some R) (hc : R.c)
    (how : ∀ id o, m = .om id → ow = some o → look st.own id = some o) {u v y : Value} (hm : Rep w (okOf F γ w) m γ u) (hk : Rep w (okOf F γ w) k γ v) (hx : Rep w (okOf F γ w) x γ y) :
    ∃ w' γ', (Instr.mapUpdate t u v y).run P w = .ok () w' ∧ Inv F γ' { st with own := R.up ++ st.own, next := R.nx } a w' ∧ Left F γ γ' w w' ∧ Rep w' (okOf F γ' w') R.r γ' undef := by
  unfold mapUpdateA at h
  split at h
  · rename_i kt e id kvs kv ht hkv
    simp only [Option.some.injEq] at h
    subst h
    have hv := keyV_rep hkv hk
    subst hv
    obtain ⟨d, hd, hkl, hall⟩ := hc
    obtain ⟨b, es, clock, g1, g2, g3, g4, g5⟩ := hI.own id _ (how id _ rfl rfl)
    simp only [Rep] at hm
    obtain ⟨b', e1, rfl⟩ := hm
    rw [g1] at e1
    cases e1
    have hck : (Instr.checkKey false 10000 kt v).run P w = .ok () w := run_checkKey (n := 9999) hd hkl _
    have hgo : (getObj b).run P w = .ok (.map es clock) w := by simp [getObj, Sem.run, g2]
    have hself : γ.set id (.map b) = γ := by
      funext j; unfold Locs.set; split
      · rename_i hj; subst hj; exact g1.symm
      · rfl
    have hbl := (hI.blk id _ b g1 rfl).1
    -- whatever the new entries are
    have fin : ∀ (es' : Array MapEntry) (clock' : Nat), KV w (okOf F γ w) γ (mput v x kvs) es'.toList → (es'.toList.map (·.born)).Nodup → (∀ e ∈ es'.toList, e.born < clock') →
        let w' : World := { w with heap := w.heap.setIfInBounds b (.map es' clock') }
        Inv F γ { st with own := [(id, .map (mput v x kvs))] ++ st.own, next := st.next } a w' ∧ Left F γ γ w w' := by
      intro es' clock' hkv' hnd hlt w'
      have hnew : w'.heap[b]? = some (.map es' clock') := by simp [w', hbl]
      have hoth : ∀ c, c ≠ b → w'.heap[c]? = w.heap[c]? := fun c hcb => by simp [w', Array.getElem?_setIfInBounds_ne (fun e => hcb e.symm)]
      have hne : ∀ c o, okOf F γ w c o → c ≠ b := fun c o hco => hco.2.2 id _ g1
      obtain ⟨q1, q2⟩ := hI.upd (id := id) (nx := st.next) (obj := .map (mput v x kvs)) (l' := .map b) (w' := w') rfl rfl rfl (by simp [w'])
        (fun l hl => by rw [g1] at hl; cases hl; exact .refl _) (fun c hc hb => hoth c (fun e => hb _ g1 (by rw [e]; rfl)))
        (fun c o hco => cell_eq_of_heap (hoth c (hne c o hco))) (fun c hc => .inr ⟨_, g1, hc⟩) (fun c o hco => hne c o hco)
        (fun hL => ⟨b, es', clock', by simp [Locs.set], hnew, KV_mono hL.ok hL.cell hL.le _ hkv', hnd, hlt⟩)
      rw [hself] at q1 q2
      exact ⟨q1, q2⟩
    rcases findNow_kv (w := w) (γ := γ) hkl 0 hall g3 with ⟨q1, q2⟩ | ⟨xx, vv, j, e', q1, q2, q3, q4, q5, q6⟩
    · have hfk : (Instr.findKey kt v es.toList).run P w = .ok Option.none w := by
        unfold Instr.findKey
        simp only [Sem.run_bind, run_underlying hd, Result.andThen_ok, q2, Sem.run_pure]
      obtain ⟨r1, r2⟩ := fin (es.push { key := v, val := y, born := clock }) (clock + 1) (by rw [Array.toList_push]; exact (KV_mput hx g3).1 q1)
        (by
          rw [Array.toList_push, List.map_append]
          simp only [List.map_cons, List.map_nil]
          refine List.nodup_append.2 ⟨g4, by simp, ?_⟩
          intro p hp q hq
          simp only [List.mem_singleton] at hq
          subst hq
          obtain ⟨e0, he0, rfl⟩ := List.mem_map.1 hp
          have := g5 e0 he0
          omega)
        (by
          intro e0 he0
          rw [Array.toList_push] at he0
          rcases List.mem_append.1 he0 with h | h
          · have := g5 e0 h; omega
          · simp only [List.mem_singleton] at h; subst h; exact Nat.lt_succ_self _)
      refine ⟨_, γ, ?_, r1, r2, by simp only [Rep]⟩
      unfold Instr.mapUpdate
      simp only [Sem.run_bind, run_underlying (und_map ht), Result.andThen_ok, hgo, hck, hfk]
      simp [setObj, Sem.run, g2]
    · have hfk : (Instr.findKey kt v es.toList).run P w = .ok (some (0 + j, vv)) w := by
        unfold Instr.findKey
        simp only [Sem.run_bind, run_underlying hd, Result.andThen_ok, q2, Sem.run_pure]
      obtain ⟨_, ⟨e2, s2, s3, s4⟩, s5⟩ := findNow_first hkl hall g3 q2
      simp only [Nat.zero_add, Nat.sub_zero] at s2 s5 hfk
      have hkk : v = e2.key := keyEq_eq hkl (KV_key hall g3 j e2 s2) s3
      have hes : es[j]? = some e2 := by simpa using s2
      have hst : (Instr.keyThatStays (((es[j]?).map (·.key)).getD v) v).run P w = .ok v w := by
        rw [hes]; simp only [Option.map_some, Option.getD_some, ← hkk]; exact run_keyStays hkl
      obtain ⟨r1, r2⟩ := fin (es.modify j fun e => { e with key := v, val := y }) clock
        (by
          rw [Array.toList_modify, List.modify_id_at _ (fun e => { e with val := y }) _ _ (fun e he => by rw [s2] at he; cases he; rw [hkk])]
          exact (KV_mput (clock := clock) hx g3).2 j e2 s2 s3 fun i e' hi he' => s5 i e' hi he')
        (by
          rw [Array.toList_modify, List.modify_id_at _ (fun e => { e with val := y }) _ _ (fun e he => by rw [s2] at he; cases he; rw [hkk]), map_born_modify]
          exact g4)
        (by
          intro e0 he0
          rw [Array.toList_modify] at he0
          have hm : e0.born ∈ ((es.toList.modify j fun e => { e with key := v, val := y }).map (·.born)) := List.mem_map_of_mem he0
          rw [List.modify_id_at _ (fun e => { e with val := y }) _ _ (fun e he => by rw [s2] at he; cases he; rw [hkk]), map_born_modify] at hm
          obtain ⟨e3, h3, h4⟩ := List.mem_map.1 hm
          rw [← h4]; exact g5 e3 h3)
      refine ⟨_, γ, ?_, r1, r2, by simp only [Rep]⟩
      unfold Instr.mapUpdate
      simp only [Sem.run_bind, run_underlying (und_map ht), Result.andThen_ok, hgo, hck, hfk, hst]
      simp [setObj, Sem.run, g2]
  · cases h

def makeMapA (t : TypeId) (nx : Nat) : Res := ⟨True, .om nx, [(nx, .map [])], nx + 1⟩

theorem makeMapA_sound (hI : Inv F γ st a w) {t : TypeId} (hfresh : look st.own st.next = Option.none) : Does P F γ st a w (Instr.makeMap t Option.none) (makeMapA t st.next) := by
  have hg := look_none_of hI hfresh
  obtain ⟨q1, q2⟩ := hI.upd (id := st.next) (nx := st.next + 1) (obj := .map []) (l' := .map w.heap.size) (w' := w.alloc (.map #[] 0)) rfl rfl rfl (by rw [alloc_size]; omega)
    (fun l hl => by rw [hg] at hl; cases hl) (fun c hc _ => alloc_old w _ c hc) (fun c o hco => cell_eq_of_heap (alloc_old w _ c hco.1)) (fun c hc => by cases hc; exact .inl ⟨Nat.le_refl _, by rw [alloc_size]; omega⟩)
    (fun c o hco => fun e => by have := hco.1; omega)
    (fun hL => ⟨w.heap.size, #[], 0, by simp [Locs.set], alloc_new w _, by simp only [KV], by simp, by simp⟩)
  exact ⟨.map (some w.heap.size), _, _, rfl, q1, q2, by simp only [makeMapA, Rep]; exact ⟨w.heap.size, if_pos rfl, rfl⟩⟩
end Go.Aw
namespace Go.Aw
open Go
set_option linter.unusedVariables false
set_option linter.unusedSimpArgs false
set_option linter.unusedSectionVars false
variable {P : Program} {F : Fr} {γ : Locs} {st : St} {a : Act} {w : World}

def extractA (x : AV) (i : Nat) : Option (Prop × AV) :=
  match x with
  | .tup cs => match cs[i]? with
    | some y => some (True, y)
    | Option.none => Option.none
  | _ => Option.none
theorem extractA_sound {ok : Ok} {x r : AV} {i : Nat} {c : Prop} (h : extractA x i = some (c, r)) {u : Value} (hx : Rep w ok x γ u) : ∃ z, (Instr.extract u i).run P w = .ok z w ∧ Rep w ok r γ z := by
  unfold extractA at h
  split at h
  · rename_i cs
    split at h
    · rename_i y hy
      simp only [Option.some.injEq, Prod.mk.injEq] at h
      obtain ⟨rfl, rfl⟩ := h
      simp only [Rep] at hx
      obtain ⟨vs, rfl, h1⟩ := hx
      obtain ⟨z, h2, h3⟩ := RepL_get cs h1 i y hy
      refine ⟨z, ?_, h3⟩
      have : vs[i]? = some z := by simpa using h2
      simp [Instr.extract, this]
    · cases h
  · cases h

def tConc (P : Program) (t : TypeId) : Bool := P.concrete t
def makeIfcA (P : Program) (t : TypeId) (x : AV) : Option (Prop × AV) := if tConc P t then some (True, .ifc t x) else Option.none
theorem makeIfcA_sound {ok : Ok} {t : TypeId} {x r : AV} {c : Prop} (h : makeIfcA P t x = some (c, r)) {u : Value} (hx : Rep w ok x γ u) : ∃ z, (Instr.makeInterface t u).run P w = .ok z w ∧ Rep w ok r γ z := by
  unfold makeIfcA at h
  split at h
  · rename_i ht
    simp only [Option.some.injEq, Prod.mk.injEq] at h
    obtain ⟨rfl, rfl⟩ := h
    exact ⟨.iface t u, run_makeInterface w t u ht, by simp only [Rep]; exact ⟨u, rfl, hx⟩⟩
  · cases h

def nilCheckA (x : AV) : Option (Prop × AV) :=
  match x with
  | .op _ _ _ => some (True, x)
  | .ref _ => some (True, x)
  | .ifc _ _ => some (True, x)
  | .fn _ _ _ => some (True, x)
  | _ => Option.none
theorem nilCheckA_sound {ok : Ok} {x r : AV} {c : Prop} (h : nilCheckA x = some (c, r)) {o : Oper} {y : Operand} (ho : o.op = .nilCheck y) {ρ : Operand → Value} (hx : Rep w ok x γ (ρ y)) :
    ∃ z, (execOp ρ o).run P w = .ok (.value z) w ∧ Rep w ok r γ z := by
  unfold nilCheckA at h
  unfold execOp
  simp only [ho]
  split at h <;> simp only [Option.some.injEq, Prod.mk.injEq, reduceCtorEq] at h <;> obtain ⟨_, rfl⟩ := h <;> refine ⟨ρ y, ?_, hx⟩ <;> simp only [Rep] at hx
  · obtain ⟨b, e, n, _, h2⟩ := hx; rw [h2]; rfl
  · obtain ⟨b, e, h2, _⟩ := hx; rw [h2]; rfl
  · obtain ⟨b, h2, _⟩ := hx; rw [h2]; rfl
  · obtain ⟨b, e, h2, _⟩ := hx; rw [h2]; rfl

/-! ### conversions without memory -/
def convA (P : Program) (s d : TypeId) (x : AV) : Option (Prop × AV) :=
  match x with
  | .v (.int _ n) =>
    match tInt P s, tInt P d with
    | some _, some k => some (True, .v (.int k (k.wrap n)))
    | _, _ => Option.none
  | .str l => if tStr P s && tStr P d then some (True, x) else Option.none
  | .sl xs _ =>
    match tElem P s with
    | some e => match tInt P e with
      | some .u8 => if tStr P d then some (∀ cs ∈ xs, isU8 cs, .str (xs.map getU8)) else Option.none
      | _ => Option.none
    | Option.none => Option.none
  | _ => Option.none

theorem getU8_u8c (b : UInt8) : getU8 (u8c b) = b := by simp [u8c, getU8]
theorem isU8_u8c (b : UInt8) : isU8 (u8c b) := ⟨b, rfl⟩

theorem u8s_eq : ∀ (xs : List (List AV)), (∀ cs ∈ xs, isU8 cs) → xs = (xs.map getU8).map u8c
  | [], _ => rfl
  | c :: r, h => by
    obtain ⟨b, rfl⟩ := h c (by simp)
    simp only [List.map_cons, getU8_u8c]
    rw [← u8s_eq r (fun cs hcs => h cs (by simp [hcs]))]

theorem u8_vals_eq {ok : Ok} : ∀ (l : List UInt8) {us : List Value}, RepL w ok (l.map u8c).flatten γ us → us = l.map fun b => Value.int .u8 b.toNat
  | [], us, h => by simpa [RepL] using h
  | b :: l, us, h => by
    simp only [List.map_cons, List.flatten_cons, u8c, List.cons_append, List.nil_append, RepL, Rep] at h
    obtain ⟨u, r, rfl, rfl, h2⟩ := h
    simp only [List.map_cons]
    rw [u8_vals_eq l h2]

theorem foldl_push : ∀ (l : List UInt8) (acc : ByteArray), ((l.map fun b => (b.toNat : Int)).foldl (fun r n => r.push (UInt8.ofNat n.toNat)) acc) = ⟨(acc.data.toList ++ l).toArray⟩
  | [], acc => by simp
  | b :: l, acc => by
    simp only [List.map_cons, List.foldl_cons]
    rw [foldl_push l]
    simp [ByteArray.push]

theorem convA_sound {ok : Ok} {s d : TypeId} {x r : AV} {c : Prop} (h : convA P s d x = some (c, r)) (hc : c) {u : Value} (hx : Rep w ok x γ u) : ∃ z, (convert s d u).run P w = .ok z w ∧ Rep w ok r γ z := by
  unfold convA at h
  split at h
  · split at h
    · rename_i kk n _ k hs hd
      simp only [Option.some.injEq, Prod.mk.injEq] at h
      obtain ⟨rfl, rfl⟩ := h
      simp only [Rep] at hx
      subst hx
      exact ⟨_, by simp [convert, run_underlying (und_int hs), run_underlying (und_int hd), Conv.intToInt]; rfl, by simp only [Rep]⟩
    · cases h
  · split at h
    · rename_i l hb
      simp only [Option.some.injEq, Prod.mk.injEq] at h
      obtain ⟨rfl, rfl⟩ := h
      simp only [Bool.and_eq_true] at hb
      have hx' := hx
      simp only [Rep] at hx
      subst hx
      exact ⟨.string ⟨l.toArray⟩, by simp [convert, run_underlying (und_str hb.1), run_underlying (und_str hb.2)], hx'⟩
    · cases h
  · rename_i xs sp
    split at h
    · rename_i e he
      split at h
      · rename_i heq
        split at h
        · rename_i hd
          simp only [Option.some.injEq, Prod.mk.injEq] at h
          obtain ⟨rfl, rfl⟩ := h
          have hxs := u8s_eq xs hc
          have hu : ∀ cs ∈ xs, cs.length = 1 := fun cs hcs => by obtain ⟨b, rfl⟩ := hc cs hcs; rfl
          obtain ⟨base, cap, us, rfl, k1, k2, k3, k4, k5, k6, k7, k8, k9⟩ := Rep_sl_vals (P := P) hx hu
          have hus : us = (xs.map getU8).map fun b => Value.int .u8 b.toNat := by rw [hxs] at k4; exact u8_vals_eq _ k4
          refine ⟨.string ⟨(xs.map getU8).toArray⟩, ?_, by simp only [Rep]⟩
          rw [run_convert_bytes_string w s d e _ _ _ (und_slice he) (und_int heq) (und_str hd)]
          cases base with
          | none =>
            have := (k7 rfl)
            have h0 : xs = [] := List.eq_nil_of_length_eq_zero (by omega)
            subst h0
            rfl
          | some ad =>
            have h9 := k9 w rfl
            simp only [Builtin.firstCells, Nat.mul_one] at h9
            rw [Go.run_bytesToString w ad xs.length cap ((xs.map getU8).map fun b => (b.toNat : Int)) (by rw [h9, hus]; simp)]
            rw [foldl_push]
            simp
        · cases h
      · cases h
    · cases h
  · cases h

/-! ### len, cap, min, max -/
def lenA (P : Program) (t : TypeId) (x : AV) (ow : Option Own) : Option (Prop × AV) :=
  match x with
  | .str l => if tStr P t then some (True, .v (.int .i64 l.length)) else Option.none
  | .sl xs _ => match tElem P t with
    | some _ => some (True, .v (.int .i64 xs.length))
    | Option.none => Option.none
  | .os _ _ len _ => match tElem P t with
    | some _ => some (True, .v (.int .i64 len))
    | Option.none => Option.none
  | .om _ => match tMap P t, ow with
    | some _, some (.map kvs) => some (True, .v (.int .i64 kvs.length))
    | _, _ => Option.none
  | _ => match tArr P t with
    | some (n, _) => some (True, .v (.int .i64 n))
    | Option.none => Option.none

theorem KV_length {ok : Ok} : ∀ {kvs : List (Value × AV)} {es : List MapEntry}, KV w ok γ kvs es → es.length = kvs.length
  | [], es, h => by simp only [KV] at h; subst h; rfl
  | (k, x) :: r, es, h => by
    simp only [KV] at h
    obtain ⟨e, es', rfl, _, _, h3⟩ := h
    simp [KV_length h3]

theorem lenA_sound (hI : Inv F γ st a w) {t ty : TypeId} {x r : AV} {ow : Option Own} {c : Prop} (h : lenA P t x ow = some (c, r))
    (how : ∀ id o, x = .om id → ow = some o → look st.own id = some o) {u : Value} (hx : Rep w (okOf F γ w) x γ u) : ∃ z, (Builtin.len_ #[t] ty #[u]).run P w = .ok z w ∧ Rep w (okOf F γ w) r γ z := by
  unfold lenA at h
  split at h
  · rename_i l
    split at h
    · rename_i ht
      simp only [Option.some.injEq, Prod.mk.injEq] at h
      obtain ⟨_, rfl⟩ := h
      simp only [Rep] at hx
      subst hx
      refine ⟨.int .i64 l.length, ?_, by simp only [Rep]⟩
      have : (⟨l.toArray⟩ : ByteArray).size = l.length := size_toArray' l
      simp [Builtin.len_, run_underlying (und_str ht), goInt, this]
    · cases h
  · rename_i xs sp
    split at h
    · rename_i e he
      simp only [Option.some.injEq, Prod.mk.injEq] at h
      obtain ⟨_, rfl⟩ := h
      simp only [Rep] at hx
      obtain ⟨base, cap, rfl, _⟩ := hx
      exact ⟨_, by simp [Builtin.len_, run_underlying (und_slice he), goInt]; rfl, by simp only [Rep]⟩
    · cases h
  · rename_i id off len
    split at h
    · rename_i e he
      simp only [Option.some.injEq, Prod.mk.injEq] at h
      obtain ⟨_, rfl⟩ := h
      simp only [Rep] at hx
      obtain ⟨b, esz, n, cap, _, _, rfl, _⟩ := hx
      exact ⟨_, by simp [Builtin.len_, run_underlying (und_slice he), goInt]; rfl, by simp only [Rep]⟩
    · cases h
  · rename_i id
    split at h
    · rename_i q kvs hm
      simp only [Option.some.injEq, Prod.mk.injEq] at h
      obtain ⟨_, rfl⟩ := h
      obtain ⟨kt, e⟩ := q
      obtain ⟨b, es, clock, g1, g2, g3, _⟩ := hI.own id _ (how id _ rfl rfl)
      simp only [Rep] at hx
      obtain ⟨b', e1, rfl⟩ := hx
      rw [g1] at e1
      cases e1
      have hgo : (getObj b).run P w = .ok (.map es clock) w := by simp [getObj, Sem.run, g2]
      have hl := KV_length g3
      refine ⟨.int .i64 kvs.length, ?_, by simp only [Rep]⟩
      have hl2 : es.size = kvs.length := by simpa using hl
      simp [Builtin.len_, run_underlying (und_map hm), hgo, goInt, hl2]
    · cases h
  · split at h
    · rename_i n e he
      simp only [Option.some.injEq, Prod.mk.injEq] at h
      obtain ⟨_, rfl⟩ := h
      refine ⟨.int .i64 n, ?_, by simp only [Rep]⟩
      simp [Builtin.len_, run_underlying (und_arr he), goInt]
    · cases h

def min2A (mx : Bool) (x y : AV) : Option AV :=
  match x, y with
  | .v (.int k a), .v (.int _ b) => some (.v (.int k (if mx then (if a < b then b else a) else (if b < a then b else a))))
  | _, _ => Option.none
def minGo (mx : Bool) : AV → List AV → Option AV
  | x, [] => some x
  | x, y :: r => match min2A mx x y with
    | some z => minGo mx z r
    | Option.none => Option.none
def minA (mx : Bool) : List AV → Option AV
  | [] => Option.none
  | x :: r => minGo mx x r

theorem minGo_sound {ok : Ok} {mx : Bool} : ∀ (ys : List AV) {x r : AV}, minGo mx x ys = some r → ∀ {u : Value} {us : List Value}, Rep w ok x γ u → RepL w ok ys γ us →
    ∃ z, (us.foldlM (if mx then Builtin.max2 else Builtin.min2) u : Sem Value).run P w = .ok z w ∧ Rep w ok r γ z
  | [], x, r, h, u, us, hx, hu => by
    simp only [RepL] at hu
    subst hu
    simp only [minGo, Option.some.injEq] at h
    subst h
    exact ⟨u, by simp, hx⟩
  | y :: r', x, r, h, u, us, hx, hu => by
    simp only [RepL] at hu
    obtain ⟨v, rest', rfl, h2, h3⟩ := hu
    unfold minGo at h
    split at h
    · rename_i z hz
      unfold min2A at hz
      split at hz
      · rename_i k a' k' b'
        simp only [Option.some.injEq] at hz
        subst hz
        simp only [Rep] at hx h2
        subst hx h2
        obtain ⟨zz, e1, e2⟩ := minGo_sound r' h (u := .int k (if mx then (if a' < b' then b' else a') else (if b' < a' then b' else a'))) (by simp only [Rep]) h3
        refine ⟨zz, ?_, e2⟩
        simp only [List.foldlM_cons, Sem.run_bind]
        cases mx
        · simp only [Bool.false_eq_true, if_false, Builtin.min2, Sem.run_pure, Result.andThen_ok] at e1 ⊢
          exact e1
        · simp only [if_true, Builtin.max2, Sem.run_pure, Result.andThen_ok] at e1 ⊢
          exact e1
      · cases hz
    · cases h

theorem minA_sound {ok : Ok} {mx : Bool} {xs : List AV} {r : AV} (h : minA mx xs = some r) {ats : Array TypeId} {ty : TypeId} {us : Array Value} (hu : RepL w ok xs γ us.toList) :
    ∃ z, ((if mx then Builtin.max_ ats ty us else Builtin.min_ ats ty us) : Sem Value).run P w = .ok z w ∧ Rep w ok r γ z := by
  cases xs with
  | nil => simp [minA] at h
  | cons x ys =>
    simp only [RepL] at hu
    obtain ⟨u, rest, hu0, h1, h2⟩ := hu
    obtain ⟨z, e1, e2⟩ := minGo_sound (P := P) ys h h1 h2
    refine ⟨z, ?_, e2⟩
    cases mx
    · simp only [Bool.false_eq_true, if_false] at e1 ⊢
      unfold Builtin.min_
      rw [hu0]
      exact e1
    · simp only [if_true] at e1 ⊢
      unfold Builtin.max_
      rw [hu0]
      exact e1
end Go.Aw
namespace Go.Aw
open Go
set_option linter.unusedVariables false
set_option linter.unusedSimpArgs false
set_option linter.unusedSectionVars false
variable {P : Program} {F : Fr} {γ : Locs} {st : St} {a : Act} {w : World}

/-! ### make -/
def makeSliceA (P : Program) (t : TypeId) (l0 : Bool) (l c : AV) (nx : Nat) : Option Res :=
  match tElem P t with
  | some e =>
    match tSize P e, tBytes P e, tZero P e, l, c with
    | some esz, some (by1 + 1), some zs, .v (.int _ n), .v (.int _ m) =>
      if l0 then some ⟨zs.length = esz ∧ 0 < esz ∧ n = 0 ∧ 0 ≤ m ∧ m * (by1 + 1) ≤ 281474976710656, .sl [] (.own nx), [(nx, .spare esz 0)], nx + 1⟩
      else some ⟨zs.length = esz ∧ 0 < esz ∧ 0 ≤ n ∧ n ≤ m ∧ m * (by1 + 1) ≤ 281474976710656, .os nx 0 n.toNat (some m.toNat), [(nx, .arr esz (List.replicate m.toNat (zs.map constAV)))], nx + 1⟩
    | _, _, _, _, _ => Option.none
  | Option.none => Option.none

theorem flatten_replicate_map (n : Nat) (l : List AV) : ∀ cs ∈ List.replicate n l, cs.length = l.length := by
  intro cs h
  rw [List.eq_of_mem_replicate h]

theorem makeSliceA_sound (hI : Inv F γ st a w) {t : TypeId} {l0 : Bool} {l c : AV} {R : Res} (h : makeSliceA P t l0 l c st.next = some R) (hc : R.c) (hfresh : look st.own st.next = Option.none)
    {u v : Value} (hl : Rep w (okOf F γ w) l γ u) (hcp : Rep w (okOf F γ w) c γ v) : Does P F γ st a w (Instr.makeSlice t u v) R := by
  unfold makeSliceA at h
  split at h
  case h_2 => cases h
  rename_i e he
  split at h
  case h_2 => cases h
  rename_i esz by1 zs kn n km m hsz hby hz
  obtain ⟨i, hi, hisz⟩ := tSize_info hsz
  obtain ⟨i', z, hi', hiz, rfl, hone⟩ := tZero_spec hz
  rw [hi] at hi'
  cases hi'
  unfold tBytes at hby
  rw [hi] at hby
  simp only [Option.map_some, Option.some.injEq] at hby
  simp only [Rep] at hl hcp
  subst hl hcp
  have main : z.cells.toList.length = esz → 0 < esz → 0 ≤ n → n ≤ m → m * (by1 + 1) ≤ 281474976710656 → m.toNat ≤ maxLen ∧
      (Instr.makeSlice t (.int kn n) (.int km m)).run P w = .ok (.slice (some ⟨w.heap.size, 0, Option.none⟩) n.toNat m.toNat) (w.alloc (.cells (madeCells z.cells (m.toNat * esz)) e)) := by
    intro h1 h2 h3 h4 h5
    have hm : m ≤ 281474976710656 := by
      have : m * 1 ≤ m * (by1 + 1) := Int.mul_le_mul_of_nonneg_left (by omega) (by omega)
      omega
    refine ⟨by unfold maxLen; omega, ?_⟩
    have := run_make (P := P) w t e i z (und_slice he) hi hiz kn km n m h3 h4 (by rw [hby, Int.mul_comm, show ((by1.succ : Nat) : Int) = (by1 : Int) + 1 from by omega]; exact h5) (by omega)
    rw [hisz] at this
    exact this
  have hcells : ∀ k, z.cells.toList.length = esz → madeCells z.cells (k * esz) = (Array.range (k * z.cells.toList.length)).map (fun j => z.cells.toList.toArray[j % z.cells.toList.toArray.size]!) := by
    intro k hk
    rw [hk]
    rfl
  split at h
  · simp only [Option.some.injEq] at h
    subst h
    obtain ⟨c1, c2, rfl, c4, c5⟩ := hc
    obtain ⟨hm1, hrun⟩ := main c1 c2 (Int.le_refl _) c4 c5
    have hg := look_none_of hI hfresh
    obtain ⟨q1, q2⟩ := hI.upd (id := st.next) (nx := st.next + 1) (obj := .spare esz 0) (l' := .spare esz 0 w.heap.size 0 (m.toNat * esz)) (w' := w.alloc (.cells (madeCells z.cells (m.toNat * esz)) e)) rfl rfl rfl (by rw [alloc_size]; omega)
      (fun l hl => by rw [hg] at hl; cases hl) (fun c hc _ => alloc_old w _ c hc) (fun c o hco => cell_eq_of_heap (alloc_old w _ c hco.1)) (fun c hc => by cases hc; exact .inl ⟨Nat.le_refl _, by rw [alloc_size]; omega⟩)
      (fun c o hco => fun e => by have := hco.1; omega)
      (fun hL => .inr ⟨w.heap.size, 0, m.toNat * esz, _, e, (0, 0), by simp [Locs.set], alloc_new w _, by simp [madeCells], Nat.zero_le _, fun o _ h => by omega⟩)
    refine ⟨_, _, _, hrun, q1, q2, ?_⟩
    simp only [Rep]
    refine ⟨some ⟨w.heap.size, 0, Option.none⟩, m.toNat, by simp, Nat.zero_le _, hm1, ?_, rfl, by simp only [RepEs]⟩
    unfold spareOk
    simp only [Locs.set, if_true]
    exact ⟨Nat.le_refl _, fun _ => .inr ⟨0, rfl, by simp, by simp⟩⟩
  · simp only [Option.some.injEq] at h
    subst h
    obtain ⟨c1, c2, c3, c4, c5⟩ := hc
    obtain ⟨hm1, hrun⟩ := main c1 c2 c3 c4 c5
    have hR := zeroRow (zs := z.cells.toList) m.toNat (by omega) w (okOf F γ w) γ
    have hO := zeroRow_one (zs := z.cells.toList) m.toNat (by omega) hone
    rw [← hcells m.toNat c1] at hR hO
    have hfl : ((List.replicate m.toNat (z.cells.toList.map constAV)).flatten).length = m.toNat * esz := by simp [← c1]
    obtain ⟨g1, g2⟩ := hI.newArr (w1 := w) (id := st.next) (nx := st.next + 1) (esz := esz) (n := m.toNat) (xs := List.replicate m.toNat (z.cells.toList.map constAV)) (cells := madeCells z.cells (m.toNat * esz)) (et := e) (.inl rfl) hfresh
      (by simp [madeCells]) hm1 (by simp) (fun cs hcs => by rw [List.eq_of_mem_replicate hcs]; simpa using c1) hO
      (by rw [hfl, List.take_of_length_le (by simp [madeCells])]; exact hR)
    refine ⟨_, _, _, hrun, g1, g2, ?_⟩
    simp only [Rep]
    exact ⟨w.heap.size, esz, m.toNat, m.toNat, 0, Eq.trans (congrArg Loc.at (if_pos rfl)) rfl, rfl, .inr (by simp), by omega, by omega, hm1, fun c hc => by simpa using hc⟩

/-! ### copy onto what is owned -/
/-- What is copied from: also what is owned. -/
def srcX (P : Program) (xT : TypeId) (x : AV) (ow : Option Own) : Option (Prop × List (List AV)) :=
  match x, ow with
  | .os _ off len _, some (.arr esz zs) =>
    match tElem P xT with
    | some e => if tSize P e = some esz then some (off + len ≤ zs.length, (zs.drop off).take len) else Option.none
    | Option.none => Option.none
  | x, _ => match srcA P xT x with
    | some ys => some (True, ys)
    | Option.none => Option.none

def copyA (P : Program) (t xT : TypeId) (d x : AV) (ow ow2 : Option Own) (nx : Nat) : Option Res :=
  match tElem P t with
  | some e =>
    match tSize P e, srcX P xT x ow2, d, ow with
    | some esz, some (c, ys), .os id off len _, some (.arr esz' xs) =>
      if esz = esz' then
        some ⟨c ∧ (∀ cs ∈ ys, cs.length = esz) ∧ off + len ≤ xs.length, .v (.int .i64 ((min ys.length len : Nat) : Int)), [(id, .arr esz (xs.take off ++ ys.take len ++ xs.drop (off + min ys.length len)))], nx⟩
      else Option.none
    | _, _, _, _ => Option.none
  | Option.none => Option.none

theorem firstCells_sl {ok : Ok} {xs : List (List AV)} {sp : Spare} {u : Value} {esz n : Nat} (hx : Rep w ok (.sl xs sp) γ u) (hu : ∀ cs ∈ xs, cs.length = esz) (hn : n ≤ xs.length) :
    ∃ us, (Builtin.firstCells esz n u).run P w = .ok us.toArray w ∧ RepL w ok (xs.take n).flatten noLocs us ∧ (∀ y ∈ us, y.oneCell' = true) ∧ (Builtin.lenOf u).run P w = .ok xs.length w := by
  obtain ⟨base, cap, us, rfl, k1, k2, k3, k4, k5, k6, k7, k8, k9⟩ := Rep_sl_vals (P := P) hx hu
  have hle : n * esz ≤ us.length := by rw [k6]; exact Nat.mul_le_mul_right _ hn
  refine ⟨us.take (n * esz), ?_, ?_, fun y hy => k5 y (List.mem_of_mem_take hy), by simp [Builtin.lenOf]⟩
  · cases base with
    | none =>
      have := k7 rfl
      have h0 : n = 0 := by omega
      subst h0
      simp [Builtin.firstCells]
    | some ad =>
      obtain ⟨ab, ao, asp⟩ := ad
      obtain ⟨g1, g2⟩ := k8 _ rfl
      simp only at g1 g2
      subst g1
      unfold Builtin.firstCells
      have hl : (us.take (n * esz)).length = n * esz := by simp; omega
      have := run_loadCells_list (P := P) w ⟨ab, ao, Option.none⟩ (us.take (n * esz)) (fun j v hj => ?_)
      · rw [hl] at this; exact this
      rw [add_none]
      rw [List.getElem?_take] at hj
      split at hj
      · exact g2 j v hj
      · cases hj
  · rw [flat_take hu]; exact RepL_take _ k4

theorem srcA_prefix {ok : Ok} {xT : TypeId} {x : AV} {ys : List (List AV)} (h : srcA P xT x = some ys) {u : Value} {esz n : Nat} (hx : Rep w ok x γ u) (hu : ∀ cs ∈ ys, cs.length = esz) (hn : n ≤ ys.length) :
    ∃ us m, (Builtin.firstCells m n u).run P w = .ok us.toArray w ∧ (esz = m ∨ ys = []) ∧ RepL w ok (ys.take n).flatten noLocs us ∧ (∀ y ∈ us, y.oneCell' = true) ∧ (Builtin.lenOf u).run P w = .ok ys.length w := by
  unfold srcA at h
  split at h
  · split at h
    · rename_i zs sp e he
      simp only [Option.some.injEq] at h
      subst h
      obtain ⟨us, h1, h2, h3, h4⟩ := firstCells_sl (P := P) hx hu hn
      exact ⟨us, esz, h1, .inl rfl, h2, h3, h4⟩
    · cases h
  · split at h
    · rename_i l ht
      simp only [Option.some.injEq] at h
      subst h
      simp only [Rep] at hx
      subst hx
      refine ⟨(l.take n).map fun b => Value.int .u8 b.toNat, 1, ?_, ?_, ?_, (fun y hy => by obtain ⟨b, _, rfl⟩ := List.mem_map.1 hy; rfl), by simp [Builtin.lenOf, size_toArray']⟩
      · simp only [Builtin.firstCells]
        have : ((⟨l.toArray⟩ : ByteArray).extract 0 n).data = (l.take n).toArray := by
          rw [ByteArray.data_extract]
          apply Array.ext'
          simp [List.extract]
        rw [this]
        simp
      · cases l with
        | nil => exact .inr rfl
        | cons b l => exact .inl (by have := hu (u8c b) (by simp); rw [← this]; rfl)
      · rw [← List.map_take]; exact u8_vals _ w ok
    · cases h
  · cases h

theorem srcX_prefix (hI : Inv F γ st a w) {xT : TypeId} {x : AV} {ow : Option Own} {c : Prop} {ys : List (List AV)} (h : srcX P xT x ow = some (c, ys)) (hc : c) (how : ∀ id off len cp o, x = .os id off len cp → ow = some o → look st.own id = some o)
    {u : Value} {esz n : Nat} (hx : Rep w (okOf F γ w) x γ u) (hu : ∀ cs ∈ ys, cs.length = esz) (hn : n ≤ ys.length) :
    ∃ us, (Builtin.firstCells esz n u).run P w = .ok us.toArray w ∧ RepL w (okOf F γ w) (ys.take n).flatten γ us ∧ (∀ y ∈ us, y.oneCell' = true) ∧ (Builtin.lenOf u).run P w = .ok ys.length w := by
  have old : srcA P xT x = some ys → ∃ us, (Builtin.firstCells esz n u).run P w = .ok us.toArray w ∧ RepL w (okOf F γ w) (ys.take n).flatten γ us ∧ (∀ y ∈ us, y.oneCell' = true) ∧ (Builtin.lenOf u).run P w = .ok ys.length w := by
    intro hys
    obtain ⟨us, sz, k1, k2, k3, k4, k5⟩ := srcA_prefix (P := P) hys hx hu (n := n) hn
    refine ⟨us, ?_, RepL_mono0 k3, k4, k5⟩
    rcases k2 with rfl | rfl
    · exact k1
    · have h0 : n = 0 := by simpa using hn
      subst h0
      have hus : us = [] := by
        have := RepL_length _ k3
        simpa using this
      subst hus
      unfold srcA at hys
      split at hys
      · simp only [Rep] at hx; obtain ⟨base, cap', rfl, _⟩ := hx; cases base <;> simp [Builtin.firstCells, loadCells, loadCellsFrom]
      · simp only [Rep] at hx; subst hx; simp [Builtin.firstCells]
      · cases hys
  unfold srcX at h
  split at h
  · rename_i id off len cp esz' zs
    split at h
    · rename_i e he
      split at h
      · rename_i hsz
        simp only [Option.some.injEq, Prod.mk.injEq] at h
        obtain ⟨rfl, rfl⟩ := h
        have hlen : ((zs.drop off).take len).length = len := by simp; omega
        obtain ⟨b, m, cur, et, fr, g1, g2, g3, g4, g5, g6, g7, g8, g9⟩ := hI.own id _ (how id off len _ _ rfl rfl)
        simp only [Rep] at hx
        obtain ⟨b', esz2, n', cap, oo, e1, rfl, e0, e2, e3, e4, e5⟩ := hx
        rw [g1] at e1
        cases e1
        rw [hlen] at hn
        rcases Nat.eq_zero_or_pos n with h0 | h0
        · subst h0
          exact ⟨[], by simp [Builtin.firstCells, loadCells, loadCellsFrom], by simp [RepL], by simp, by simp only [Builtin.lenOf, hlen]; rfl⟩
        · have hesz : esz' = esz := by
            have hlt : off < zs.length := by omega
            rw [← g7 _ (List.getElem_mem hlt)]
            exact hu _ (List.mem_of_getElem? (i := 0) (by rw [List.getElem?_take_of_lt (by omega), List.getElem?_drop]; simp [List.getElem?_eq_getElem hlt]))
          subst hesz
          have hoo : oo = off * esz' := by
            rcases e0 with e0 | e0
            · omega
            · exact e0
          subst hoo
          have hL := flat_length zs g7
          have hle : (off + n) * esz' ≤ zs.length * esz' := Nat.mul_le_mul_right _ (by omega)
          have hle2 : zs.length * esz' ≤ m * esz' := Nat.mul_le_mul_right _ g5
          rw [Nat.add_mul] at hle
          have hu1 : ∀ cs ∈ zs.drop off, cs.length = esz' := fun cs hcs => g7 cs (List.mem_of_mem_drop hcs)
          have hfl : (((zs.drop off).take len).take n).flatten = (zs.flatten.drop (off * esz')).take (n * esz') := by rw [List.take_take, Nat.min_eq_left hn, flat_take hu1, flat_drop zs off g7]
          have hus : ((cur.toList.drop (off * esz')).take (n * esz')).length = n * esz' := by simp; omega
          refine ⟨(cur.toList.drop (off * esz')).take (n * esz'), ?_, ?_, fun y hy => g8 y (List.mem_of_mem_drop (List.mem_of_mem_take hy)), by simp only [Builtin.lenOf, hlen]; rfl⟩
          · unfold Builtin.firstCells
            have := run_loadCells_list (P := P) w ⟨b, off * esz', Option.none⟩ ((cur.toList.drop (off * esz')).take (n * esz')) (fun j v hj => ?_)
            · rw [hus] at this; exact this
            rw [add_none]
            rw [List.getElem?_take] at hj
            split at hj
            · rw [List.getElem?_drop] at hj
              rw [cell_of_row w b _ cur et fr g2]
              simpa using hj
            · cases hj
          · rw [hfl]
            have := RepL_take (n * esz') (RepL_drop (off * esz') g9)
            rw [hL, List.drop_take, List.take_take, Nat.min_eq_left (by omega)] at this
            exact this
      · cases h
    · cases h
  · split at h
    · rename_i ys' hys
      simp only [Option.some.injEq, Prod.mk.injEq] at h
      obtain ⟨_, rfl⟩ := h
      exact old hys
    · cases h

theorem copyA_sound (hI : Inv F γ st a w) {t xT ty : TypeId} {d x : AV} {ow ow2 : Option Own} {R : Res} (h : copyA P t xT d x ow ow2 st.next = some R) (hc : R.c) (how2 : ∀ id off len cp o, x = .os id off len cp → ow2 = some o → look st.own id = some o)
    (how : ∀ id off len cp o, d = .os id off len cp → ow = some o → look st.own id = some o) {u v : Value} (hd : Rep w (okOf F γ w) d γ u) (hx : Rep w (okOf F γ w) x γ v) :
    Does P F γ st a w (Builtin.copy_ #[t, xT] ty #[u, v]) R := by
  unfold copyA at h
  split at h
  case h_2 => cases h
  rename_i e he
  split at h
  case h_2 => cases h
  rename_i esz c ys id off len cp esz' xs hsz hys
  split at h
  case isFalse => cases h
  rename_i hee
  subst hee
  simp only [Option.some.injEq] at h
  subst h
  obtain ⟨c0, c1, c2⟩ := hc
  have ho := hI.own id _ (how id off len _ _ rfl rfl)
  obtain ⟨b, m, cur, et, fr, g1, g2, g3, g4, g5, g6, g7, g8, g9⟩ := ho
  simp only [Rep] at hd
  obtain ⟨b', esz2, n', cap, oo, e1, rfl, e0, e2, e3, e4, e5⟩ := hd
  rw [g1] at e1
  cases e1
  let n := min ys.length len
  obtain ⟨us, hfc, k3, k4, k5⟩ := srcX_prefix (P := P) hI hys c0 how2 hx c1 (n := n) (Nat.min_le_left _ _)
  have hul : us.length = n * esz := by rw [RepL_length _ k3, flat_length _ (fun cs hcs => c1 cs (List.mem_of_mem_take hcs))]; simp [n]
  have hL := flat_length xs g7
  have hle : (off + n) * esz ≤ xs.length * esz := Nat.mul_le_mul_right _ (by have : n ≤ len := Nat.min_le_right _ _; omega)
  have hle2 : xs.length * esz ≤ m * esz := Nat.mul_le_mul_right _ g5
  rw [Nat.add_mul] at hle
  have hrun := run_storeCells_free (P := P) b (off * esz) et fr us 0 cur w g2 (fun o h => g4 o (by omega)) (by rw [hul, g3]; omega) k4
  have hself : γ.set id (.arr b esz m) = γ := by
    funext j; unfold Locs.set; split
    · rename_i hj; subst hj; exact g1.symm
    · rfl
  have hne : ∀ c o, okOf F γ w c o → c ≠ b := fun c o hco => hco.2.2 id _ g1
  have hnew := setRow_heap w b cur (splV cur.toList (off * esz) us).toArray et fr g2
  let xs' := xs.take off ++ ys.take n ++ xs.drop (off + n)
  have hxs' : xs.take off ++ ys.take len ++ xs.drop (off + min ys.length len) = xs' := by
    show _ = xs.take off ++ ys.take n ++ xs.drop (off + n)
    congr 2
    rw [show n = min len ys.length from Nat.min_comm _ _]
    rw [← List.take_eq_take_min]
  have hlen' : xs'.length = xs.length := by
    simp [xs', n]; omega
  have hm : ∀ y ∈ xs', y.length = esz := by
    intro y hy
    rcases List.mem_append.1 hy with hy | hy
    · rcases List.mem_append.1 hy with hy | hy
      · exact g7 y (List.mem_of_mem_take hy)
      · exact c1 y (List.mem_of_mem_take hy)
    · exact g7 y (List.mem_of_mem_drop hy)
  have hflat : xs'.flatten = spl xs.flatten (off * esz) (ys.take n).flatten := by
    have hyl : (ys.take n).flatten.length = n * esz := by rw [flat_length _ (fun cs hcs => c1 cs (List.mem_of_mem_take hcs))]; simp [n]
    have h1 : xs.flatten = (xs.take off).flatten ++ (xs.drop off).flatten := by rw [← List.flatten_append, List.take_append_drop]
    have h2 : (xs.take off).flatten.length = off * esz := by rw [flat_length _ (fun cs hcs => g7 cs (List.mem_of_mem_take hcs)), List.length_take, Nat.min_eq_left (by omega)]
    have hend : ∀ (vs pre post : List AV), vs.length ≤ post.length → spl (pre ++ post) pre.length vs = pre ++ vs ++ post.drop vs.length := by
      intro vs
      induction vs with
      | nil => intro pre post _; simp [spl]
      | cons v vs ih =>
        intro pre post hlen
        cases post with
        | nil => simp at hlen
        | cons p post =>
          have := ih (pre ++ [v]) post (by simpa using hlen)
          simp only [spl, List.set_append_right _ _ (Nat.le_refl _), Nat.sub_self, List.set_cons_zero]
          rw [show pre ++ v :: post = pre ++ [v] ++ post from by simp, show pre.length + 1 = (pre ++ [v]).length from by simp, this]
          simp
    have h3 : (xs.drop off).flatten.length = (xs.length - off) * esz := by rw [flat_length _ (fun cs hcs => g7 cs (List.mem_of_mem_drop hcs))]; simp
    have hn1 : n ≤ xs.length - off := by have : n ≤ len := Nat.min_le_right _ _; omega
    have hn2 : n * esz ≤ (xs.length - off) * esz := Nat.mul_le_mul_right _ hn1
    have := hend (ys.take n).flatten (xs.take off).flatten (xs.drop off).flatten (by rw [hyl, h3]; exact hn2)
    rw [← h1, h2] at this
    rw [this, hyl]
    show (xs.take off ++ ys.take n ++ xs.drop (off + n)).flatten = _
    rw [List.flatten_append, List.flatten_append, flat_drop (xs.drop off) n (fun cs hcs => g7 cs (List.mem_of_mem_drop hcs)), List.drop_drop]
  obtain ⟨q1, q2⟩ := hI.upd (id := id) (nx := st.next) (obj := .arr esz xs') (l' := .arr b esz m) (w' := w.setRow b (splV cur.toList (off * esz) us).toArray)
    rfl rfl rfl (by simp) (fun l hl => by rw [g1] at hl; cases hl; exact .refl _)
    (fun k hk hb => setRow_other w b k _ (fun e => hb _ g1 (by rw [e]; rfl)))
    (fun c o hco => cell_eq_of_heap (setRow_other w b c _ (hne c o hco)))
    (fun c hcb => .inr ⟨_, g1, hcb⟩) (fun c o hco => hne c o hco)
    (fun hLf => by
      refine ⟨b, m, _, et, fr, by simp [Locs.set], hnew, by simp [splV_length, g3], by simpa [splV_length] using g4, by rw [hlen']; exact g5, g6, hm, ?_, ?_⟩
      · simp only [List.toList_toArray]; exact splV_mem g8 k4
      · rw [hflat, spl_length]
        have hre : RepL w (okOf F γ w) (spl xs.flatten (off * esz) (ys.take n).flatten) γ ((splV cur.toList (off * esz) us).take xs.flatten.length) := by
          rw [show cur.toList = cur.toList.take xs.flatten.length ++ cur.toList.drop xs.flatten.length from (List.take_append_drop _ _).symm]
          have hcl : (cur.toList.take xs.flatten.length).length = xs.flatten.length := RepL_length _ g9
          rw [splV_append_right _ _ _ _ (by rw [hcl, hul]; omega), List.take_append_of_le_length (by rw [splV_length, hcl]; exact Nat.le_refl _), List.take_of_length_le (show (splV (List.take xs.flatten.length cur.toList) (off * esz) us).length ≤ xs.flatten.length from by rw [splV_length, hcl]; exact Nat.le_refl _)]
          exact RepL_spl g9 k3
        exact hLf.repL hre)
  rw [hself] at q1 q2
  have hst : (storeCells ⟨b, oo, Option.none⟩ us).run P w = .ok () (w.setRow b (splV cur.toList (off * esz) us).toArray) := by
    rcases e0 with e0 | e0
    · have hn0 : n = 0 := by have : n ≤ len := Nat.min_le_right _ _; omega
      have hus : us = [] := List.eq_nil_of_length_eq_zero (by rw [hul, hn0]; simp)
      have : storeCells ⟨b, oo, Option.none⟩ us = storeCells ⟨b, off * esz, Option.none⟩ us := by rw [hus]; rfl
      rw [this]
      simpa using hrun
    · subst e0
      simpa using hrun
  refine ⟨.int .i64 n, _, γ, ?_, by rw [hxs']; exact q1, q2, by simp only [Rep, n]⟩
  obtain ⟨i, hi, hisz⟩ := tSize_info hsz
  have hmin : Nat.min ys.length len = n := rfl
  unfold Builtin.copy_
  simp only [List.getElem?_toArray, List.getElem?_cons_zero, List.getElem?_cons_succ, Sem.run_bind, run_underlying (und_slice he), Result.andThen_ok, k5, run_sizeOf hsz, hmin, hfc, hst]
  rfl
/-! ### appends onto what is owned -/
/-- Some elements of what is owned are written anew. -/
theorem Inv.overwrite (hI : Inv F γ st a w) {id nx esz b m p : Nat} {xs ys : List (List AV)} {us : List Value} {cur : Array Value} {et : TypeId} {fr : Nat × Nat}
    (g1 : γ id = some (.arr b esz m)) (g2 : w.heap[b]? = some (.cells cur et fr)) (g3 : cur.size = m * esz) (g4 : NoFreeze (cur.size + 1) fr) (g5 : xs.length ≤ m) (g6 : m ≤ maxLen) (g7 : ∀ cs ∈ xs, cs.length = esz) (g8 : ∀ u ∈ cur.toList, u.oneCell' = true)
    (g9 : RepL w (okOf F γ w) xs.flatten γ (cur.toList.take xs.flatten.length)) (c1 : ∀ cs ∈ ys, cs.length = esz) (c2 : p + ys.length ≤ xs.length) (k3 : RepL w (okOf F γ w) ys.flatten γ us) (k4 : ∀ y ∈ us, y.oneCell' = true) :
    ∃ w', (storeCells ⟨b, p * esz, Option.none⟩ us).run P w = .ok () w' ∧ Inv F γ { st with own := (id, .arr esz (xs.take p ++ ys ++ xs.drop (p + ys.length))) :: st.own, next := nx } a w' ∧ Left F γ γ w w' := by
  have hul : us.length = ys.length * esz := by rw [RepL_length _ k3, flat_length _ c1]
  have hL := flat_length xs g7
  have hle : (p + ys.length) * esz ≤ xs.length * esz := Nat.mul_le_mul_right _ c2
  have hle2 : xs.length * esz ≤ m * esz := Nat.mul_le_mul_right _ g5
  rw [Nat.add_mul] at hle
  have hrun := run_storeCells_free (P := P) b (p * esz) et fr us 0 cur w g2 (fun o h => g4 o (by omega)) (by rw [hul, g3]; omega) k4
  have hself : γ.set id (.arr b esz m) = γ := by
    funext j; unfold Locs.set; split
    · rename_i hj; subst hj; exact g1.symm
    · rfl
  have hne : ∀ c o, okOf F γ w c o → c ≠ b := fun c o hco => hco.2.2 id _ g1
  have hnew := setRow_heap w b cur (splV cur.toList (p * esz) us).toArray et fr g2
  have hlen' : (xs.take p ++ ys ++ xs.drop (p + ys.length)).length = xs.length := by simp; omega
  have hm : ∀ y ∈ xs.take p ++ ys ++ xs.drop (p + ys.length), y.length = esz := by
    intro y hy
    rcases List.mem_append.1 hy with hy | hy
    · rcases List.mem_append.1 hy with hy | hy
      · exact g7 y (List.mem_of_mem_take hy)
      · exact c1 y hy
    · exact g7 y (List.mem_of_mem_drop hy)
  have hflat : (xs.take p ++ ys ++ xs.drop (p + ys.length)).flatten = spl xs.flatten (p * esz) ys.flatten := by
    have hyl : ys.flatten.length = ys.length * esz := flat_length _ c1
    have h1 : xs.flatten = (xs.take p).flatten ++ (xs.drop p).flatten := by rw [← List.flatten_append, List.take_append_drop]
    have h2 : (xs.take p).flatten.length = p * esz := by rw [flat_length _ (fun cs hcs => g7 cs (List.mem_of_mem_take hcs)), List.length_take, Nat.min_eq_left (by omega)]
    have hend : ∀ (vs pre post : List AV), vs.length ≤ post.length → spl (pre ++ post) pre.length vs = pre ++ vs ++ post.drop vs.length := by
      intro vs
      induction vs with
      | nil => intro pre post _; simp [spl]
      | cons v vs ih =>
        intro pre post hlen
        cases post with
        | nil => simp at hlen
        | cons q post =>
          have := ih (pre ++ [v]) post (by simpa using hlen)
          simp only [spl, List.set_append_right _ _ (Nat.le_refl _), Nat.sub_self, List.set_cons_zero]
          rw [show pre ++ v :: post = pre ++ [v] ++ post from by simp, show pre.length + 1 = (pre ++ [v]).length from by simp, this]
          simp
    have h3 : (xs.drop p).flatten.length = (xs.length - p) * esz := by rw [flat_length _ (fun cs hcs => g7 cs (List.mem_of_mem_drop hcs))]; simp
    have hn2 : ys.length * esz ≤ (xs.length - p) * esz := Nat.mul_le_mul_right _ (by omega)
    have := hend ys.flatten (xs.take p).flatten (xs.drop p).flatten (by rw [hyl, h3]; exact hn2)
    rw [← h1, h2] at this
    rw [this, hyl, List.flatten_append, List.flatten_append, flat_drop (xs.drop p) ys.length (fun cs hcs => g7 cs (List.mem_of_mem_drop hcs)), List.drop_drop]
  obtain ⟨q1, q2⟩ := hI.upd (id := id) (nx := nx) (obj := .arr esz (xs.take p ++ ys ++ xs.drop (p + ys.length))) (l' := .arr b esz m) (w' := w.setRow b (splV cur.toList (p * esz) us).toArray)
    rfl rfl rfl (by simp) (fun l hl => by rw [g1] at hl; cases hl; exact .refl _)
    (fun k hk hb => setRow_other w b k _ (fun e => hb _ g1 (by rw [e]; rfl)))
    (fun c o hco => cell_eq_of_heap (setRow_other w b c _ (hne c o hco)))
    (fun c hcb => .inr ⟨_, g1, hcb⟩) (fun c o hco => hne c o hco)
    (fun hLf => by
      refine ⟨b, m, _, et, fr, by simp [Locs.set], hnew, by simp [splV_length, g3], by simpa [splV_length] using g4, by rw [hlen']; exact g5, g6, hm, ?_, ?_⟩
      · simp only [List.toList_toArray]; exact splV_mem g8 k4
      · rw [hflat, spl_length]
        have hre : RepL w (okOf F γ w) (spl xs.flatten (p * esz) ys.flatten) γ ((splV cur.toList (p * esz) us).take xs.flatten.length) := by
          rw [show cur.toList = cur.toList.take xs.flatten.length ++ cur.toList.drop xs.flatten.length from (List.take_append_drop _ _).symm]
          have hcl : (cur.toList.take xs.flatten.length).length = xs.flatten.length := RepL_length _ g9
          rw [splV_append_right _ _ _ _ (by rw [hcl, hul]; omega), List.take_append_of_le_length (by rw [splV_length, hcl]; exact Nat.le_refl _), List.take_of_length_le (show (splV (List.take xs.flatten.length cur.toList) (p * esz) us).length ≤ xs.flatten.length from by rw [splV_length, hcl]; exact Nat.le_refl _)]
          exact RepL_spl g9 k3
        exact hLf.repL hre)
  rw [hself] at q1 q2
  exact ⟨_, by simpa using hrun, q1, q2⟩

/-- cap. -/
def capA (P : Program) (t : TypeId) (x : AV) : Option (Prop × AV) :=
  match tElem P t, x with
  | some _, .os _ _ _ (some c) => some (True, .v (.int .i64 c))
  | some _, .sl xs .tight => some (True, .v (.int .i64 xs.length))
  | _, _ => Option.none

theorem capA_sound {ok : Ok} {t ty : TypeId} {x r : AV} {c : Prop} (h : capA P t x = some (c, r)) {u : Value} (hx : Rep w ok x γ u) : ∃ z, (Builtin.cap_ #[t] ty #[u]).run P w = .ok z w ∧ Rep w ok r γ z := by
  unfold capA at h
  split at h
  · rename_i e id off len cc he
    simp only [Option.some.injEq, Prod.mk.injEq] at h
    obtain ⟨_, rfl⟩ := h
    simp only [Rep] at hx
    obtain ⟨b, esz, n, cap, oo, e1, rfl, e0, e2, e3, e4, e5⟩ := hx
    have := e5 cc rfl
    subst this
    exact ⟨_, by simp [Builtin.cap_, run_underlying (und_slice he), goInt]; rfl, by simp only [Rep]⟩
  · rename_i e xs he
    simp only [Option.some.injEq, Prod.mk.injEq] at h
    obtain ⟨_, rfl⟩ := h
    simp only [Rep] at hx
    obtain ⟨base, cap, rfl, h1, h2, h3, h4⟩ := hx
    have : cap = xs.length := h3
    subst this
    exact ⟨_, by simp [Builtin.cap_, run_underlying (und_slice he), goInt]; rfl, by simp only [Rep]⟩
  · cases h

/-- What is read of what is owned. -/
theorem os_cells (hI : Inv F γ st a w) {id off len esz : Nat} {cp : Option Nat} {zs : List (List AV)} (hobj : look st.own id = some (.arr esz zs)) {u : Value} (hx : Rep w (okOf F γ w) (.os id off len cp) γ u) (hb : off + len ≤ zs.length) :
    ∃ us, (∀ w' : World, w'.heap = w.heap → (Builtin.firstCells esz len u).run P w' = .ok us.toArray w') ∧ RepL w (okOf F γ w) ((zs.drop off).take len).flatten γ us ∧ (∀ y ∈ us, y.oneCell' = true) ∧ (∀ w', (Builtin.lenOf u).run P w' = .ok len w') ∧ (∀ cs ∈ zs, cs.length = esz) := by
  obtain ⟨b, m, cur, et, fr, g1, g2, g3, g4, g5, g6, g7, g8, g9⟩ := hI.own id _ hobj
  simp only [Rep] at hx
  obtain ⟨b', esz2, n', cap, oo, e1, rfl, e0, e2, e3, e4, e5⟩ := hx
  rw [g1] at e1
  cases e1
  rcases Nat.eq_zero_or_pos len with h0 | h0
  · subst h0
    exact ⟨[], fun w' _ => by simp [Builtin.firstCells, loadCells, loadCellsFrom], by simp [RepL], by simp, fun w' => by simp [Builtin.lenOf], g7⟩
  · have hoo : oo = off * esz := by
      rcases e0 with e0 | e0
      · omega
      · exact e0
    subst hoo
    have hL := flat_length zs g7
    have hle : (off + len) * esz ≤ zs.length * esz := Nat.mul_le_mul_right _ hb
    have hle2 : zs.length * esz ≤ m * esz := Nat.mul_le_mul_right _ g5
    rw [Nat.add_mul] at hle
    have hu1 : ∀ cs ∈ zs.drop off, cs.length = esz := fun cs hcs => g7 cs (List.mem_of_mem_drop hcs)
    have hfl : ((zs.drop off).take len).flatten = (zs.flatten.drop (off * esz)).take (len * esz) := by rw [flat_take hu1, flat_drop zs off g7]
    have hus : ((cur.toList.drop (off * esz)).take (len * esz)).length = len * esz := by simp; omega
    refine ⟨(cur.toList.drop (off * esz)).take (len * esz), fun w' hw => ?_, ?_, fun y hy => g8 y (List.mem_of_mem_drop (List.mem_of_mem_take hy)), fun w' => by simp [Builtin.lenOf], g7⟩
    · unfold Builtin.firstCells
      have := run_loadCells_list (P := P) w' ⟨b, off * esz, Option.none⟩ ((cur.toList.drop (off * esz)).take (len * esz)) (fun j v hj => ?_)
      · rw [hus] at this; exact this
      rw [add_none, cell_heap hw]
      rw [List.getElem?_take] at hj
      split at hj
      · rw [List.getElem?_drop] at hj
        rw [cell_of_row w b _ cur et fr g2]
        simpa using hj
      · cases hj
    · rw [hfl]
      have := RepL_take (len * esz) (RepL_drop (off * esz) g9)
      rw [hL, List.drop_take, List.take_take, Nat.min_eq_left (by omega)] at this
      exact this

theorem srcX_src (hI : Inv F γ st a w) {xT : TypeId} {x : AV} {ow : Option Own} {c : Prop} {ys : List (List AV)} (h : srcX P xT x ow = some (c, ys)) (hc : c) (how : ∀ id off len cp o, x = .os id off len cp → ow = some o → look st.own id = some o)
    {u : Value} {esz : Nat} (hx : Rep w (okOf F γ w) x γ u) (hu : ∀ cs ∈ ys, cs.length = esz) :
    ∃ news, Src P w xT esz u ys.length news ∧ RepL w (okOf F γ w) ys.flatten γ news ∧ (∀ y ∈ news, y.oneCell' = true) := by
  have old : srcA P xT x = some ys → ∃ news, Src P w xT esz u ys.length news ∧ RepL w (okOf F γ w) ys.flatten γ news ∧ (∀ y ∈ news, y.oneCell' = true) := by
    intro hys
    obtain ⟨news, sz, n1, n2, n3, n4⟩ := srcA_sound (P := P) hys hx hu
    refine ⟨news, ?_, RepL_mono0 n3, n4⟩
    rcases n2 with rfl | rfl
    · exact n1
    · have : news = [] := List.eq_nil_of_length_eq_zero (by rw [RepL_length _ n3]; simp)
      subst this
      exact Src_zero n1 rfl _
  unfold srcX at h
  split at h
  · rename_i id off len cp esz' zs
    split at h
    · rename_i e he
      split at h
      · rename_i hsz
        simp only [Option.some.injEq, Prod.mk.injEq] at h
        obtain ⟨rfl, rfl⟩ := h
        have hlen : ((zs.drop off).take len).length = len := by simp; omega
        obtain ⟨us, k1, k2, k3, k4, k5⟩ := os_cells (P := P) hI (how id off len cp _ rfl rfl) hx hc
        rw [hlen]
        rcases Nat.eq_zero_or_pos len with h0 | h0
        · subst h0
          have hus : us = [] := List.eq_nil_of_length_eq_zero (by rw [RepL_length _ k2]; simp)
          subst hus
          exact ⟨[], Src_zero (k := esz') ⟨.inr ⟨e, und_slice he⟩, k4, k1⟩ rfl _, k2, k3⟩
        · have hesz : esz' = esz := by
            have hlt : off < zs.length := by omega
            rw [← k5 _ (List.getElem_mem hlt)]
            exact hu _ (List.mem_of_getElem? (i := 0) (by rw [List.getElem?_take_of_lt (by omega), List.getElem?_drop]; simp [List.getElem?_eq_getElem hlt]))
          subst hesz
          exact ⟨us, ⟨.inr ⟨e, und_slice he⟩, k4, k1⟩, k2, k3⟩
      · cases h
    · cases h
  · split at h
    · rename_i ys' hys
      simp only [Option.some.injEq, Prod.mk.injEq] at h
      obtain ⟨_, rfl⟩ := h
      exact old hys
    · cases h

theorem does_quietO {P : Program} {F : Fr} {γ : Locs} {st : St} {a : Act} {w : World} {s : Sem Value} {c : Prop} {r : AV} (hI : Inv F γ st a w) (h : ∃ z, s.run P w = .ok z w ∧ Rep w (okOf F γ w) r γ z) : Does P F γ st a w s ⟨c, r, [], st.next⟩ := by
  obtain ⟨z, h1, h2⟩ := h
  exact ⟨z, w, γ, h1, { hI with env := hI.env }, Left.refl _ _ _, h2⟩

/-- An append onto what is owned, its room known; or of the first ones, into a row of one's own. -/
def appendO (P : Program) (t xT : TypeId) (s x : AV) (ow ow2 : Option Own) (fresh : Bool) (nx : Nat) : Option Res :=
  match tElem P t with
  | some e =>
    match tSize P e, tBytes P e, tZero P e, srcX P xT x ow2 with
    | some esz, some (by1 + 1), some zs, some (cd, ys) =>
      match s, ow with
      | .os id off len (some c), some (.arr esz' xs) =>
        if esz = esz' then
          if len + ys.length ≤ c then some ⟨cd ∧ (∀ cs ∈ ys, cs.length = esz) ∧ off + len + ys.length ≤ xs.length, .os id off (len + ys.length) (some c), [(id, .arr esz (xs.take (off + len) ++ ys ++ xs.drop (off + len + ys.length)))], nx⟩
          else some ⟨cd ∧ zs.length = esz ∧ (∀ cs ∈ ys, cs.length = esz) ∧ off + len ≤ xs.length ∧ (len + ys.length) * (by1 + 1) ≤ 140737488355328, .os nx 0 (len + ys.length) Option.none, [(nx, .arr esz ((xs.drop off).take len ++ ys))], nx + 1⟩
        else Option.none
      | .sl xs .tight, _ =>
        if fresh && !ys.isEmpty then some ⟨cd ∧ zs.length = esz ∧ (∀ cs ∈ xs, cs.length = esz) ∧ (∀ cs ∈ ys, cs.length = esz) ∧ (xs.length + ys.length) * (by1 + 1) ≤ 140737488355328, .os nx 0 (xs.length + ys.length) Option.none, [(nx, .arr esz (xs ++ ys))], nx + 1⟩
        else if fresh && xs.isEmpty then some ⟨cd, .sl [] .tight, [], nx⟩
        else Option.none
      | _, _ => Option.none
    | _, _, _, _ => Option.none
  | Option.none => Option.none

theorem appendO_sound (hI : Inv F γ st a w) {t xT ty : TypeId} {s x : AV} {ow ow2 : Option Own} {fresh : Bool} {R : Res} (h : appendO P t xT s x ow ow2 fresh st.next = some R) (hc : R.c) (hfresh : ∀ id, st.next ≤ id → id < R.nx → look st.own id = Option.none)
    (how : ∀ id off len cp o, s = .os id off len cp → ow = some o → look st.own id = some o) (how2 : ∀ id off len cp o, x = .os id off len cp → ow2 = some o → look st.own id = some o)
    {u v : Value} (hs : Rep w (okOf F γ w) s γ u) (hx : Rep w (okOf F γ w) x γ v) :
    Does P F γ st a w (Builtin.append_ #[t, xT] ty #[u, v]) R := by
  unfold appendO at h
  split at h
  case h_2 => cases h
  rename_i e he
  split at h
  case h_2 => cases h
  rename_i esz by1 zs cd ys hsz hby hz hys
  obtain ⟨i, hi, hisz⟩ := tSize_info hsz
  obtain ⟨i', z, hi', hiz, rfl, hone⟩ := tZero_spec hz
  rw [hi] at hi'
  cases hi'
  unfold tBytes at hby
  rw [hi] at hby
  simp only [Option.map_some, Option.some.injEq] at hby
  -- a new row
  have grow : ∀ (xs0 : List (List AV)) (olds : List Value) (base : Option Addr) (cap : Nat), u = .slice base xs0.length cap → cd → z.cells.toList.length = esz → (∀ cs ∈ xs0, cs.length = esz) → (∀ cs ∈ ys, cs.length = esz) → cap < xs0.length + ys.length → xs0.length ≤ cap →
      (xs0.length + ys.length) * (by1 + 1) ≤ 140737488355328 → (∀ w' : World, w'.heap = w.heap → (Builtin.firstCells esz xs0.length u).run P w' = .ok olds.toArray w') → RepL w (okOf F γ w) xs0.flatten γ olds → (∀ y ∈ olds, y.oneCell' = true) → look st.own st.next = Option.none →
      Does P F γ st a w (Builtin.append_ #[t, xT] ty #[u, v]) ⟨True, .os st.next 0 (xs0.length + ys.length) Option.none, [(st.next, .arr esz (xs0 ++ ys))], st.next + 1⟩ := by
    intro xs0 olds base cap hue hcd hzl hux huy hroom hxc hbytes hold hol1 hol2 hfr
    subst hue
    obtain ⟨news, n1, n2, n3⟩ := srcX_src (P := P) hI hys hcd how2 hx huy
    have hrun := run_append_new (P := P) (w := w) (ty := ty) (und_slice he) hi hiz (by rw [hisz]; exact n1) (base := base) (len := xs0.length) (cap := cap) (olds := olds) (by rw [hisz]; exact hold w.drew rfl) hroom
      (by have : xs0.length + ys.length ≤ 140737488355328 := Nat.le_trans (Nat.le_mul_of_pos_right _ (Nat.succ_pos by1)) hbytes
          omega) (growslice_fits hroom (by rw [hby]; exact hbytes))
    have hcm := grownCap_le_maxLen w (xs0.length + ys.length) cap e (by
      have : xs0.length + ys.length ≤ 140737488355328 := Nat.le_trans (Nat.le_mul_of_pos_right _ (Nat.succ_pos by1)) hbytes
      unfold maxLen; omega)
    have hcg := grownCap_ge w (xs0.length + ys.length) cap e
    let C := grownCap w (xs0.length + ys.length) cap e
    have hlo : olds.length = xs0.length * esz := by rw [RepL_length _ hol1, flat_length _ hux]
    have hln : news.length = ys.length * esz := by rw [RepL_length _ n2, flat_length _ huy]
    have hzs : z.cells.size = esz := by rw [← hzl, Array.length_toList]
    have hsize : (olds.toArray ++ news.toArray ++ Builtin.zeroCells z.cells (C - (xs0.length + ys.length))).size = C * esz := by
      simp only [Array.size_append, List.size_toArray, hlo, hln, size_zeroCells, hzs]
      rw [← Nat.add_mul, ← Nat.add_mul]; congr 1; omega
    have hfl : (xs0 ++ ys).flatten.length = (olds ++ news).length := by
      rw [List.flatten_append, List.length_append, List.length_append, flat_length _ hux, flat_length _ huy, hlo, hln]
    obtain ⟨q1, q2⟩ := hI.newArr (w1 := w.drew) (id := st.next) (nx := st.next + 1) (esz := esz) (n := C) (xs := xs0 ++ ys) (cells := olds.toArray ++ news.toArray ++ Builtin.zeroCells z.cells (C - (xs0.length + ys.length))) (et := e) (.inr rfl) hfr hsize hcm (by simp; exact hcg)
      (fun cs hcs => by rcases List.mem_append.1 hcs with h | h; exact hux cs h; exact huy cs h)
      (fun y hy => by
        simp only [Array.toList_append, List.mem_append, List.toList_toArray] at hy
        rcases hy with (hy | hy) | hy
        · exact hol2 y hy
        · exact n3 y hy
        · exact zeroCells_one _ hone y hy)
      (by
        rw [hfl]
        simp only [Array.toList_append, List.toList_toArray]
        rw [List.take_append_of_le_length (Nat.le_refl _), List.take_of_length_le (Nat.le_refl _), List.flatten_append]
        exact RepL_append hol1 n2)
    refine ⟨_, _, _, hrun, q1, q2, ?_⟩
    simp only [Rep]
    exact ⟨w.heap.size, esz, C, C, 0, Eq.trans (congrArg Loc.at (if_pos rfl)) rfl, rfl, .inr (by simp), hcg, by omega, hcm, fun c hcc => by cases hcc⟩
  split at h
  · rename_i id off len c esz' xs
    split at h
    case isFalse => cases h
    rename_i hee
    subst hee
    have hobj := how id off len _ _ rfl rfl
    split at h
    · rename_i hroom
      simp only [Option.some.injEq] at h
      subst h
      obtain ⟨c0, c1, c2⟩ := hc
      obtain ⟨b, m, cur, et, fr, g1, g2, g3, g4, g5, g6, g7, g8, g9⟩ := hI.own id _ hobj
      have hs' := hs
      simp only [Rep] at hs
      obtain ⟨b', esz2, n', cap, oo, e1, rfl, e0, e2, e3, e4, e5⟩ := hs
      rw [g1] at e1
      cases e1
      have hcc := e5 c rfl
      subst hcc
      obtain ⟨news, n1, n2, n3⟩ := srcX_src (P := P) hI hys c0 how2 hx c1
      have hrun := run_append_fits (P := P) (w := w) (ty := ty) (und_slice he) hi (by rw [hisz]; exact n1) (base := some ⟨b, oo, Option.none⟩) (len := len) (cap := cap) hroom
      obtain ⟨w', k1, k2, k3⟩ := hI.overwrite (P := P) (nx := st.next) (p := off + len) (ys := ys) g1 g2 g3 g4 g5 g6 g7 g8 g9 c1 c2 n2 n3
      have hst : (storeCells (Addr.add ⟨b, oo, Option.none⟩ (len * i.size)) news).run P w = .ok () w' := by
        rw [hisz, add_none]
        rcases e0 with e0 | e0
        · have hl0 : len = 0 ∧ ys.length = 0 := by omega
          have hnn : news = [] := List.eq_nil_of_length_eq_zero (by rw [RepL_length _ n2, flat_length _ c1, hl0.2]; simp)
          rw [hnn] at k1 ⊢
          simpa [storeCells] using k1
        · rw [e0, ← Nat.add_mul]; exact k1
      refine ⟨.slice (some ⟨b, oo, Option.none⟩) (len + ys.length) cap, w', γ, ?_, by simpa using k2, k3, ?_⟩
      · rw [hrun]; simp only [hst, Result.andThen_ok]
      · simp only [Rep]
        exact ⟨b, esz, m, cap, oo, by rw [g1]; rfl, rfl, e0, hroom, e3, e4, fun c hc => by cases hc; rfl⟩
    · rename_i hroom
      simp only [Option.some.injEq] at h
      subst h
      obtain ⟨c0, c1, c2, c3, c4⟩ := hc
      obtain ⟨us, k1, k2, k3, k4, k5⟩ := os_cells (P := P) hI hobj hs c3
      have hlen : ((xs.drop off).take len).length = len := by simp; omega
      have hs' := hs
      simp only [Rep] at hs'
      obtain ⟨b', esz2, n', cap, oo, e1, hue, e0, e2, e3, e4, e5⟩ := hs'
      have hcc := e5 c rfl
      subst hcc
      have := grow ((xs.drop off).take len) us (some ⟨b', oo, Option.none⟩) cap (by rw [hlen]; exact hue) c0 c1 (fun cs hcs => k5 cs (List.mem_of_mem_drop (List.mem_of_mem_take hcs))) c2 (by rw [hlen]; omega) (by rw [hlen]; exact e2) (by rw [hlen]; exact c4)
        (by rw [hlen]; exact k1) k2 k3 (hfresh _ (Nat.le_refl _) (Nat.lt_succ_self _))
      rw [hlen] at this
      obtain ⟨q1, q2, q3, q4, q5, q6, q7⟩ := this
      exact ⟨q1, q2, q3, q4, q5, q6, q7⟩
  · rename_i xs
    split at h
    case isFalse =>
      rename_i hfr0
      split at h
      case isFalse => cases h
      rename_i hfr
      simp only [Option.some.injEq] at h
      subst h
      rw [Bool.and_eq_true] at hfr
      have hx0 : xs = [] := by simpa using hfr.2
      have hy0 : ys = [] := by
        cases ys with
        | nil => rfl
        | cons y ys => exact absurd (by simp [hfr.1]) hfr0
      subst hx0 hy0
      have hs0 := hs
      simp only [Rep] at hs
      obtain ⟨base, cap, rfl, k1, k2, k3, k4⟩ := hs
      obtain ⟨news, n1, n2, n3⟩ := srcX_src (esz := esz) (P := P) hI hys hc how2 hx (fun cs hcs => by cases hcs)
      have hn0 : news = [] := by
        have := RepL_length _ n2
        cases news with
        | nil => rfl
        | cons _ _ => simp at this
      subst hn0
      have hrun := run_append_fits (P := P) (w := w) (ty := ty) (und_slice he) hi (by rw [hisz]; exact n1) (base := base) (len := 0) (cap := cap) (by simp)
      refine does_quietO hI ⟨.slice base 0 cap, ?_, hs0⟩
      have h00 : ([] : List (List AV)).length = 0 := rfl
      rw [h00, hrun]
      cases base with
      | none => rfl
      | some b => simp [storeCells]
    rename_i hfr
    simp only [Option.some.injEq] at h
    subst h
    obtain ⟨c0, c1, c2, c3, c5⟩ := hc
    have c4 : 0 < ys.length := by
      cases ys with
      | nil => simp at hfr
      | cons _ _ => simp
    obtain ⟨base, cap, us, rfl, k1, k2, k3, k4, k5, k6, k7, k8, k9⟩ := Rep_sl_vals (P := P) hs c2
    have hcap : cap = xs.length := k3
    subst hcap
    obtain ⟨q1, q2, q3, q4, q5, q6, q7⟩ := grow xs us base xs.length rfl c0 c1 c2 c3 (by omega) (Nat.le_refl _) c5 k9 (RepL_mono0 k4) k5 (hfresh _ (Nat.le_refl _) (Nat.lt_succ_self _))
    exact ⟨q1, q2, q3, q4, q5, q6, q7⟩
  · cases h

/-- An append of so many noughts that grows. -/
def appendZ (P : Program) (t xT : TypeId) (s x : AV) (ow : Option Own) (nx : Nat) : Option Res :=
  match tElem P t, tInt P xT with
  | some e, some _ =>
    match tSize P e, tBytes P e, tZero P e, s, x, ow with
    | some esz, some (by1 + 1), some zs, .os id off len (some c), .v (.int .i64 n), some (.arr esz' xs) =>
      if esz = esz' then some ⟨zs.length = esz ∧ 0 < esz ∧ 0 ≤ n ∧ c < len + n.toNat ∧ off + len ≤ xs.length ∧ (len + n.toNat) * (by1 + 1) ≤ 140737488355328, .os nx 0 (len + n.toNat) Option.none, [(nx, .arr esz ((xs.drop off).take len ++ List.replicate n.toNat (zs.map constAV)))], nx + 1⟩
      else Option.none
    | _, _, _, _, _, _ => Option.none
  | _, _ => Option.none

theorem run_append_noughts {t ty e xT : TypeId} {k : IntKind} {i : TypeInfo} {z : Value} (ht : P.underlying t = some (.slice e)) (hxt : P.underlying xT = some (.int k)) (hi : P.info? e = some i) (hz : i.zero = some z) {n : Nat} (hs : 0 < i.size) (hn0 : 0 < n)
    {base : Option Addr} {len cap : Nat} {olds : List Value} (hold : (Builtin.firstCells i.size len (.slice base len cap)).run P w.drew = .ok olds.toArray w.drew)
    (hroom : cap < len + n) (hn : (n : Int) ≤ 140737488355328) (hnb : (n : Int) * i.bytes ≤ 281474976710656) (h63 : ((len + n : Nat) : Int) ≤ 9223372036854775807) (hfit : Builtin.nextslicecap (len + n) cap * i.bytes ≤ 281474976710656) :
    (Builtin.append_ #[t, xT] ty #[.slice base len cap, .int .i64 n]).run P w =
      .ok (.slice (some ⟨w.heap.size, 0, Option.none⟩) (len + n) (grownCap w (len + n) cap e))
        (w.drew.alloc (.cells (olds.toArray ++ Builtin.zeroCells z.cells n ++ Builtin.zeroCells z.cells (grownCap w (len + n) cap e - (len + n))) e)) := by
  have hwr : IntKind.i64.wrap (n : Int) = n := by
    unfold IntKind.wrap
    simp only [IntKind.signed, IntKind.bits]
    simp
    omega
  have hneg : ¬ ((n : Int) < 0) := by omega
  have hnb' : ¬ (281474976710656 < (n : Int) * i.bytes) := by omega
  have hr : ¬ (len + n ≤ cap) := by omega
  have h63' : ¬ (9223372036854775807 < ((len : Int) + (n : Int))) := by omega
  have h48' : ¬ (281474976710656 < Builtin.nextslicecap (len + n) cap * i.bytes) := by omega
  have hnz : ¬ (n = 0 ∨ i.size = 0) := by omega
  have hns : ¬ (n * i.size = 0) := by rw [Nat.mul_eq_zero]; exact hnz
  simp [Builtin.append_, run_underlying ht, run_underlying hxt, sizeOf, typeInfo, zeroValue, hi, hz, asInt, asIntOf, hwr, hneg, hnb', hr, h63', h48', hnz, hold, Question.forced, newRow, grownCap]
  exact fun h => absurd h hns

theorem appendZ_sound (hI : Inv F γ st a w) {t xT ty : TypeId} {s x : AV} {ow : Option Own} {R : Res} (h : appendZ P t xT s x ow st.next = some R) (hc : R.c) (hfresh : ∀ id, st.next ≤ id → id < R.nx → look st.own id = Option.none)
    (how : ∀ id off len cp o, s = .os id off len cp → ow = some o → look st.own id = some o) {u v : Value} (hs : Rep w (okOf F γ w) s γ u) (hx : Rep w (okOf F γ w) x γ v) :
    Does P F γ st a w (Builtin.append_ #[t, xT] ty #[u, v]) R := by
  unfold appendZ at h
  split at h
  case h_2 => cases h
  rename_i e kk he hk
  split at h
  case h_2 => cases h
  rename_i esz by1 zs id off len c n esz' xs hsz hby hz
  split at h
  case isFalse => cases h
  rename_i hee
  subst hee
  simp only [Option.some.injEq] at h
  subst h
  obtain ⟨c1, c2, c3, c4, c5, c6⟩ := hc
  obtain ⟨i, hi, hisz⟩ := tSize_info hsz
  obtain ⟨i', z, hi', hiz, rfl, hone⟩ := tZero_spec hz
  rw [hi] at hi'
  cases hi'
  unfold tBytes at hby
  rw [hi] at hby
  simp only [Option.map_some, Option.some.injEq] at hby
  simp only [Rep] at hx
  subst hx
  obtain ⟨m, rfl⟩ := Int.eq_ofNat_of_zero_le c3
  rw [Int.toNat_natCast] at c4 c6 ⊢
  have hobj := how id off len _ _ rfl rfl
  obtain ⟨us, k1, k2, k3, k4, k5⟩ := os_cells (P := P) hI hobj hs c5
  have hlen : ((xs.drop off).take len).length = len := by simp; omega
  have hs' := hs
  simp only [Rep] at hs'
  obtain ⟨b', esz2, n', cap, oo, e1, hue, e0, e2, e3, e4, e5⟩ := hs'
  have hcc := e5 c rfl
  subst hcc
  subst hue
  have hsum : len + m ≤ 140737488355328 := Nat.le_trans (Nat.le_mul_of_pos_right _ (Nat.succ_pos by1)) c6
  have hmb : m * (by1 + 1) ≤ 140737488355328 := Nat.le_trans (Nat.mul_le_mul_right _ (Nat.le_add_left m len)) c6
  have hrun := run_append_noughts (P := P) (w := w) (ty := ty) (und_slice he) (und_int hk) hi hiz (n := m) (by omega) (by omega) (base := some ⟨b', oo, Option.none⟩) (len := len) (cap := cap) (olds := us) (by rw [hisz]; exact k1 w.drew rfl) c4 (by omega)
    (by rw [hby]; have : ((m * (by1 + 1) : Nat) : Int) ≤ 140737488355328 := by omega
        push_cast at this ⊢; omega) (by omega) (growslice_fits c4 (by rw [hby]; exact c6))
  have hcm := grownCap_le_maxLen w (len + m) cap e (by unfold maxLen; omega)
  have hcg := grownCap_ge w (len + m) cap e
  let C := grownCap w (len + m) cap e
  have hlo : us.length = len * esz := by rw [RepL_length _ k2, flat_length _ (fun cs hcs => k5 cs (List.mem_of_mem_drop (List.mem_of_mem_take hcs))), hlen]
  have hzs : z.cells.size = esz := by rw [← c1, Array.length_toList]
  have hsize : (us.toArray ++ Builtin.zeroCells z.cells m ++ Builtin.zeroCells z.cells (C - (len + m))).size = C * esz := by
    simp only [Array.size_append, List.size_toArray, hlo, size_zeroCells, hzs]
    rw [← Nat.add_mul, ← Nat.add_mul]; congr 1; omega
  have hR := zeroRow (zs := z.cells.toList) m (by omega) w (okOf F γ w) γ
  have hzr : (Builtin.zeroCells z.cells m).toList = ((Array.range (m * z.cells.toList.length)).map (fun j => z.cells.toList.toArray[j % z.cells.toList.toArray.size]!)).toList := rfl
  rw [← hzr] at hR
  have hux : ∀ cs ∈ (xs.drop off).take len, cs.length = esz := fun cs hcs => k5 cs (List.mem_of_mem_drop (List.mem_of_mem_take hcs))
  have hfl : ((xs.drop off).take len ++ List.replicate m (z.cells.toList.map constAV)).flatten.length = (us ++ (Builtin.zeroCells z.cells m).toList).length := by
    rw [List.flatten_append, List.length_append, List.length_append, flat_length _ hux, hlo, hlen]
    congr 1
    simp [size_zeroCells]
  obtain ⟨q1, q2⟩ := hI.newArr (w1 := w.drew) (id := st.next) (nx := st.next + 1) (esz := esz) (n := C) (xs := (xs.drop off).take len ++ List.replicate m (z.cells.toList.map constAV)) (cells := us.toArray ++ Builtin.zeroCells z.cells m ++ Builtin.zeroCells z.cells (C - (len + m))) (et := e) (.inr rfl)
    (hfresh _ (Nat.le_refl _) (Nat.lt_succ_self _)) hsize hcm (by rw [List.length_append, hlen]; simp; exact hcg)
    (fun cs hcs => by
      rcases List.mem_append.1 hcs with h | h
      · exact hux cs h
      · rw [List.eq_of_mem_replicate h]; simpa using c1)
    (fun y hy => by
      simp only [Array.toList_append, List.mem_append, List.toList_toArray] at hy
      rcases hy with (hy | hy) | hy
      · exact k3 y hy
      · exact zeroCells_one _ hone y hy
      · exact zeroCells_one _ hone y hy)
    (by
      rw [hfl]
      simp only [Array.toList_append, List.toList_toArray]
      rw [List.take_append_of_le_length (Nat.le_refl _), List.take_of_length_le (Nat.le_refl _), List.flatten_append]
      exact RepL_append k2 hR)
  refine ⟨_, _, _, hrun, q1, q2, ?_⟩
  simp only [Rep]
  exact ⟨w.heap.size, esz, C, C, 0, Eq.trans (congrArg Loc.at (if_pos rfl)) rfl, rfl, .inr (by simp), hcg, by omega, hcm, fun c hcc => by cases hcc⟩
end Go.Aw
namespace Go.Aw
open Go
set_option linter.unusedVariables false
set_option linter.unusedSimpArgs false
set_option linter.unusedSectionVars false
variable {P : Program}

/-! ### calls -/
def St0 (own : List (Nat × Own)) (nx : Nat) : St := { env := [], own := own, next := nx, nt := 0 }
def act0 : Act := { tmps := #[], defers := [] }

/-- A contract: what a function answers, and what becomes of what is handed to it to be written. -/
structure Ctr where
  raw : List Nat
  run : Nat → List AV → List (Nat × Own) → Option Res

/-- The call comes to a value. -/
def CallsTo (P : Program) (f : FuncId) (vs : Array Value) (w : World) (R : Value → World → Prop) : Prop :=
  ∀ (o : Oper) (a : Act) (K : Act → World → Prop) (Q : Exit → Act → World → Prop), (∀ v w', R v w' → K (a.put o.dst v) w') → o.upon P a K Q ((callFunc f vs).run P w)

def Good (P : Program) (f : FuncId) (C : Ctr) : Prop :=
  ∀ (nx : Nat) (as : List AV) (own : List (Nat × Own)) (R : Res), C.run nx as own = some R → R.c →
    ∀ (F : Fr) (γ : Locs) (w : World) (vs : List Value), F.w0 = w → Inv F γ (St0 own nx) act0 w → (∀ p ∈ own, p.1 < nx) → RepL w (okOf F γ w) as γ vs →
      CallsTo P f vs.toArray w fun v w' => ∃ γ', Inv F γ' (St0 (R.up ++ own) R.nx) act0 w' ∧ Left F γ γ' w w' ∧ Rep w' (okOf F γ' w') R.r γ' v

/-- What holds no address. -/
def flatA : AV → Bool
  | .v _ => true
  | .str _ => true
  | .agg cs => flatL cs
  | .tup cs => flatL cs
  | _ => false
where flatL : List AV → Bool
  | [] => true
  | c :: cs => flatA c && flatL cs

def Flat (x : AV) : Prop := ∀ (w w' : World) (ok ok' : Ok) (γ γ' : Locs) (u : Value), Rep w ok x γ u → Rep w' ok' x γ' u
def FlatL (xs : List AV) : Prop := ∀ (w w' : World) (ok ok' : Ok) (γ γ' : Locs) (us : List Value), RepL w ok xs γ us → RepL w' ok' xs γ' us
theorem FlatL.nil : FlatL [] := fun _ _ _ _ _ _ _ h => h
theorem FlatL.cons {x : AV} {xs : List AV} (h : Flat x) (hs : FlatL xs) : FlatL (x :: xs) := fun w w' ok ok' γ γ' us hu => by
  simp only [RepL] at hu ⊢
  obtain ⟨u, r, rfl, h1, h2⟩ := hu
  exact ⟨u, r, rfl, h _ w' _ ok' _ γ' _ h1, hs _ w' _ ok' _ γ' _ h2⟩
theorem Flat.v (x : Value) : Flat (.v x) := fun _ _ _ _ _ _ _ h => h
theorem Flat.str (l : List UInt8) : Flat (.str l) := fun _ _ _ _ _ _ _ h => h
theorem Flat.agg {cs : List AV} (h : FlatL cs) : Flat (.agg cs) := fun w w' ok ok' γ γ' u hu => by
  simp only [Rep] at hu ⊢
  obtain ⟨vs, rfl, h1, h2⟩ := hu
  exact ⟨vs, rfl, h _ w' _ ok' _ γ' _ h1, h2⟩
theorem Flat.tup {cs : List AV} (h : FlatL cs) : Flat (.tup cs) := fun w w' ok ok' γ γ' u hu => by
  simp only [Rep] at hu ⊢
  obtain ⟨vs, rfl, h1⟩ := hu
  exact ⟨vs, rfl, h _ w' _ ok' _ γ' _ h1⟩
theorem FlatL.map_v {α : Type} (l : List α) (f : α → Value) : FlatL (l.map fun x => AV.v (f x)) := by
  induction l with
  | nil => exact FlatL.nil
  | cons x l ih => exact FlatL.cons (Flat.v _) ih

/-- What is handed on to be read: it, and what of the owned is lent. -/
def imm0 (lk : Nat → Option Own) (x : AV) : Option (Prop × AV × List Nat) :=
  match x with
  | .sl xs (.own _) => some (True, .sl xs .none, [])
  | .op id i off =>
    match lk id with
    | some (.arr esz xs) => some (i < xs.length ∧ off ≤ esz ∧ ∀ c ∈ (((xs.getD i []).drop off).map imm1), pure1 c = true, .ref (((xs.getD i []).drop off).map imm1), [id])
    | _ => Option.none
  | .os id off len _ =>
    match lk id with
    | some (.arr esz xs) => some (off + len ≤ xs.length ∧ ∀ cs ∈ ((xs.drop off).take len), ∀ c ∈ cs, pure1 c = true, .sl ((xs.drop off).take len) .none, [id])
    | _ => Option.none
  | .agg cs => some (∀ c ∈ cs.map imm1, pure1 c = true, .agg (cs.map imm1), [])
  | .v x => some (True, .v x, [])
  | .str l => some (True, .str l, [])
  | .sl xs .none => some (True, .sl xs .none, [])
  | .sl xs .tight => some (True, .sl xs .tight, [])
  | .ref cs => some (True, .ref cs, [])
  | .ifc t y => some (pure1 y = true, .ifc t y, [])
  | _ => Option.none

def immL (lk : Nat → Option Own) : List AV → Option (Prop × List AV × List Nat)
  | [] => some (True, [], [])
  | x :: xs =>
    match imm0 lk x, immL lk xs with
    | some (c, y, b), some (d, ys, e) => some (c ∧ d, y :: ys, b ++ e)
    | _, _ => Option.none

def immA (lk : Nat → Option Own) (x : AV) : Option (Prop × AV × List Nat) :=
  match x with
  | .fn f first caps =>
    match immL lk first, immL lk caps with
    | some (c, ys, b), some (d, zs, e) => some (c ∧ d, .fn f ys zs, b ++ e)
    | _, _ => Option.none
  | x => imm0 lk x

/-- The numbers that a value names. -/
def idsOf : AV → List Nat
  | .op id _ _ => [id]
  | .os id _ _ _ => [id]
  | .om id => [id]
  | .sl _ (.own id) => [id]
  | .ifc _ x => idsOf x
  | .agg cs => idsL cs
  | .fn _ first caps => idsL first ++ idsL caps
  | _ => []
where idsL : List AV → List Nat
  | [] => []
  | c :: cs => idsOf c ++ idsL cs

/-- Is a value one whose names can be told at sight? -/
def sightA : AV → Bool
  | .op _ _ _ => true
  | .os _ _ _ _ => true
  | .om _ => true
  | .sl _ _ => true
  | .ifc _ x => sightA x
  | .v _ => true
  | .str _ => true
  | .ref _ => true
  | .ub => true
  | .junk => true
  | _ => false

theorem Rep_sight {w : World} {ok : Ok} {γ γ' : Locs} : ∀ {x : AV}, sightA x = true → (∀ id ∈ idsOf x, γ' id = γ id) → ∀ {u : Value}, Rep w ok x γ u → Rep w ok x γ' u
  | .op id i off, _, h, u, hx => by simp only [Rep] at hx ⊢; rw [h id (by simp [idsOf])]; exact hx
  | .os id off len _, _, h, u, hx => by simp only [Rep] at hx ⊢; rw [h id (by simp [idsOf])]; exact hx
  | .om id, _, h, u, hx => by simp only [Rep] at hx ⊢; rw [h id (by simp [idsOf])]; exact hx
  | .sl xs .none, _, h, u, hx => hx
  | .sl xs .tight, _, h, u, hx => hx
  | .sl xs (.own id), _, h, u, hx => by
    simp only [Rep, spareOk] at hx ⊢; rw [h id (by simp [idsOf])]; exact hx
  | .ifc t x, hs, h, u, hx => by
    simp only [Rep] at hx ⊢
    obtain ⟨y, rfl, h1⟩ := hx
    exact ⟨y, rfl, Rep_sight (by simpa [sightA] using hs) (fun id hid => h id (by simpa [idsOf] using hid)) h1⟩
  | .v _, _, _, u, hx => hx
  | .str _, _, _, u, hx => hx
  | .ref _, _, _, u, hx => hx
  | .agg _, hs, _, _, _ => by simp [sightA] at hs
  | .tup _, hs, _, _, _ => by simp [sightA] at hs
  | .fn _ _ _, hs, _, _, _ => by simp [sightA] at hs
  | .cond _ _, hs, _, _, _ => by simp [sightA] at hs
  | .ub, _, _, u, hx => hx
  | .junk, _, _, _, _ => by simp only [Rep]
end Go.Aw
namespace Go.Aw
open Go
set_option linter.unusedVariables false
set_option linter.unusedSimpArgs false
set_option linter.unusedSectionVars false
variable {P : Program}

/-- What a callee sees. -/
def calleeF (F : Fr) (γ : Locs) (w : World) (pass : List Nat) (bor : Bool) : Fr where
  B := w.heap.size
  vis := fun b o => okOf F γ w b o ∨ (∃ id l, γ id = some l ∧ l.block = some b ∧ (id ∈ pass ∨ (bor = true ∧ ∃ e n, l = .arr b e n)))
  X := fun b => ∃ id l, id ∈ pass ∧ γ id = some l ∧ l.block = some b
  w0 := w

def passLocs (γ : Locs) (pass : List Nat) : Locs := fun id => if id ∈ pass then γ id else Option.none
theorem passLocs_le (γ : Locs) (pass : List Nat) : LocsLe (passLocs γ pass) γ := fun id l h => by
  unfold passLocs at h
  split at h
  · exact ⟨l, h, .refl _⟩
  · cases h

def subOwn (lk : Nat → Option Own) : List Nat → List (Nat × Own)
  | [] => []
  | id :: r => match lk id with
    | some o => (id, o) :: subOwn lk r
    | Option.none => subOwn lk r

theorem look_subOwn (own : Nat → Option Own) : ∀ (pass : List Nat) (id : Nat), look (subOwn own pass) id = if id ∈ pass then own id else Option.none
  | [], id => by simp [subOwn, look]
  | p :: r, id => by
    unfold subOwn
    cases h : own p with
    | none =>
      simp only [look_subOwn own r id, List.mem_cons]
      by_cases hp : id = p
      · subst hp; simp [h]
      · simp [hp]
    | some o =>
      simp only [look, look_subOwn own r id, List.mem_cons]
      by_cases hp : id = p
      · subst hp; simp [h]
      · simp [hp]

theorem look_append {α : Type} : ∀ (l r : List (Nat × α)) (id : Nat), look (l ++ r) id = match look l id with | some x => some x | Option.none => look r id
  | [], r, id => rfl
  | (k, x) :: l, r, id => by
    simp only [List.cons_append, look]
    by_cases h : id = k
    · simp [h]
    · simp [h, look_append l r id]

theorem look_mem {α : Type} : ∀ {l : List (Nat × α)} {id : Nat} {x : α}, look l id = some x → (id, x) ∈ l
  | (k, y) :: l, id, x, h => by
    simp only [look] at h
    split at h
    · rename_i e; cases h; subst e; simp
    · exact List.mem_cons_of_mem _ (look_mem h)

/-- What is handed over names nothing else that is owned. -/
def OwnSight (pass : List Nat) : Own → Prop
  | .arr _ xs => ∀ cs ∈ xs, ∀ x ∈ cs, sightA x = true ∧ ∀ i ∈ idsOf x, i ∈ pass
  | .spare _ _ => True
  | .dead => True
  | .map kvs => ∀ p ∈ kvs, sightA p.2 = true ∧ ∀ i ∈ idsOf p.2, i ∈ pass

def OwnFlat : Own → Prop
  | .arr _ xs => FlatL xs.flatten
  | .spare _ _ => True
  | .dead => True
  | .map kvs => ∀ p ∈ kvs, Flat p.2

theorem RepL_sight {w : World} {ok : Ok} {γ γ' : Locs} : ∀ {xs : List AV} {us : List Value}, (∀ x ∈ xs, sightA x = true ∧ ∀ id ∈ idsOf x, γ' id = γ id) → RepL w ok xs γ us → RepL w ok xs γ' us
  | [], us, _, h => h
  | x :: xs, us, hs, h => by
    simp only [RepL] at h ⊢
    obtain ⟨u, r, rfl, h1, h2⟩ := h
    exact ⟨u, r, rfl, Rep_sight (hs x (by simp)).1 (hs x (by simp)).2 h1, RepL_sight (fun y hy => hs y (by simp [hy])) h2⟩

theorem KV_sight {w : World} {ok : Ok} {γ γ' : Locs} : ∀ {kvs : List (Value × AV)} {es : List MapEntry}, (∀ p ∈ kvs, sightA p.2 = true ∧ ∀ id ∈ idsOf p.2, γ' id = γ id) → KV w ok γ kvs es → KV w ok γ' kvs es
  | [], es, _, h => h
  | (k, x) :: r, es, hs, h => by
    simp only [KV] at h ⊢
    obtain ⟨e, es', rfl, h1, h2, h3⟩ := h
    exact ⟨e, es', rfl, h1, Rep_sight (hs (k, x) (by simp)).1 (hs (k, x) (by simp)).2 h2, KV_sight (fun y hy => hs y (by simp [hy])) h3⟩

theorem KV_flat {w w' : World} {ok ok' : Ok} {γ γ' : Locs} : ∀ {kvs : List (Value × AV)} {es : List MapEntry}, (∀ p ∈ kvs, Flat p.2) → KV w ok γ kvs es → KV w' ok' γ' kvs es
  | [], es, _, h => h
  | (k, x) :: r, es, hs, h => by
    simp only [KV] at h ⊢
    obtain ⟨e, es', rfl, h1, h2, h3⟩ := h
    exact ⟨e, es', rfl, h1, hs (k, x) (by simp) _ _ _ _ _ _ _ h2, KV_flat (fun y hy => hs y (by simp [hy])) h3⟩

section
variable {F : Fr} {γ : Locs} {st : St} {a : Act} {w : World}

theorem inv_next {F : Fr} {γ : Locs} {own : List (Nat × Own)} {n m : Nat} {a : Act} {w : World} (h : Inv F γ (St0 own n) a w) : Inv F γ (St0 own m) a w := { h with env := h.env }

/-- The callee's view at its begin. -/
theorem callee_inv (hI : Inv F γ st a w) (pass : List Nat) (bor : Bool) (hp : ∀ id ∈ pass, ∀ o, look st.own id = some o → OwnSight pass o) :
    Inv (calleeF F γ w pass bor) (passLocs γ pass) (St0 (subOwn (look st.own) pass) st.next) act0 w ∧ (∀ b o, okOf F γ w b o → okOf (calleeF F γ w pass bor) (passLocs γ pass) w b o) := by
  have hok : ∀ b o, okOf F γ w b o → okOf (calleeF F γ w pass bor) (passLocs γ pass) w b o := fun b o h =>
    ⟨h.1, fun _ => .inl h, fun id l hl => by
      unfold passLocs at hl
      split at hl
      · exact h.2.2 id l hl
      · cases hl⟩
  refine ⟨{ os := rfl, tape := rfl, output := rfl, base := rfl, xvis := ?_, size := Nat.le_refl _, keep := fun _ _ _ => rfl, defers := rfl, nt := rfl, env := ?_, own := ?_, dom := ?_, blk := ?_, dist := ?_ }, hok⟩
  · rintro b o ⟨id, l, h1, h2, h3⟩
    exact .inr ⟨id, l, h2, h3, .inl h1⟩
  · intro i x h; simp [St0, look] at h
  · intro id obj h
    simp only [St0, look_subOwn] at h
    split at h
    · rename_i hm
      have ho := hI.own id obj h
      have hs := hp id hm obj h
      have hid : passLocs γ pass id = γ id := by simp [passLocs, hm]
      cases obj with
      | arr esz xs =>
        obtain ⟨b, n, cur, et, fr, h1, h2, h3, h4, h5, h6, h7, h8, h9⟩ := ho
        refine ⟨b, n, cur, et, fr, hid.trans h1, h2, h3, h4, h5, h6, h7, h8, ?_⟩
        refine RepL_sight (γ := γ) ?_ (RepL_mono hok (fun _ _ _ => rfl) _ (LocsLe.refl _) h9)
        intro x hx
        obtain ⟨cs, hcs, hxc⟩ := List.mem_flatten.1 hx
        obtain ⟨g1, g2⟩ := hs cs hcs x hxc
        exact ⟨g1, fun i hi => by simp [passLocs, g2 i hi]⟩
      | spare esz n =>
        rcases ho with h1 | ⟨b, u, s, cur, et, fr, h1, h2⟩
        · exact .inl (hid.trans h1)
        · exact .inr ⟨b, u, s, cur, et, fr, hid.trans h1, h2⟩
      | dead =>
        obtain ⟨b, e, n, h1⟩ := ho
        exact ⟨b, e, n, hid.trans h1⟩
      | map kvs =>
        obtain ⟨b, es, clock, h1, h2, h3, h4⟩ := ho
        refine ⟨b, es, clock, hid.trans h1, h2, ?_, h4⟩
        refine KV_sight (γ := γ) (fun p hpm => ?_) (KV_mono hok (fun _ _ _ => rfl) (LocsLe.refl _) _ h3)
        obtain ⟨g1, g2⟩ := hs p hpm
        exact ⟨g1, fun i hi => by simp [passLocs, g2 i hi]⟩
    · cases h
  · intro id l h
    unfold passLocs at h
    split at h
    · rename_i hm
      obtain ⟨o, ho⟩ := hI.dom id l h
      exact ⟨o, by simp [St0, look_subOwn, hm, ho]⟩
    · cases h
  · intro id l b h hb
    unfold passLocs at h
    split at h
    · rename_i hm
      exact ⟨(hI.blk id l b h hb).1, .inr ⟨id, l, hm, h, hb⟩⟩
    · cases h
  · intro id id' l l' b h h' hb hb'
    unfold passLocs at h h'
    split at h
    · split at h'
      · exact hI.dist id id' l l' b h h' hb hb'
      · cases h'
    · cases h

def joinLocs (γ' γ : Locs) : Locs := fun id => match γ' id with
  | some l => some l
  | Option.none => γ id

/-- The caller's view behind a call. -/
theorem caller_inv (hI : Inv F γ st a w) (pass : List Nat) (bor : Bool) {γ' : Locs} {w' : World} {R : Res}
    (hC : Inv (calleeF F γ w pass bor) γ' (St0 (R.up ++ subOwn (look st.own) pass) R.nx) act0 w') (hL : Left (calleeF F γ w pass bor) (passLocs γ pass) γ' w w')
    (hok0 : ∀ b o, okOf F γ w b o → okOf (calleeF F γ w pass bor) (passLocs γ pass) w b o)
    (hup : ∀ p ∈ R.up, p.1 ∈ pass ∨ look st.own p.1 = Option.none) (hpass : ∀ id ∈ pass, ∃ o, look st.own id = some o)
    (hflat : bor = true → ∀ p ∈ R.up, OwnFlat p.2) (hflat2 : bor = true → ∀ id ∈ pass, ∀ o, look st.own id = some o → OwnFlat o) :
    Inv F (joinLocs γ' γ) { st with own := R.up ++ st.own, next := R.nx } a w' ∧ Left F γ (joinLocs γ' γ) w w' ∧
      (bor = false → ∀ b o, okOf (calleeF F γ w pass bor) γ' w' b o → okOf F (joinLocs γ' γ) w' b o) ∧ LocsLe γ' (joinLocs γ' γ) := by
  have hle' : LocsLe γ' (joinLocs γ' γ) := fun id l h => ⟨l, by simp [joinLocs, h], .refl _⟩
  -- what γ' knows: what was handed over, or is new
  have hdom' : ∀ id l, γ' id = some l → id ∈ pass ∨ look st.own id = Option.none := by
    intro id l h
    obtain ⟨o, ho⟩ := hC.dom id l h
    simp only [St0, look_append] at ho
    cases hq : look R.up id with
    | some o' => exact hup (id, o') (look_mem hq)
    | none =>
      rw [hq] at ho
      simp only [look_subOwn] at ho
      split at ho
      · exact .inl (by assumption)
      · cases ho
  have hpassloc : ∀ id ∈ pass, ∃ l, γ' id = some l := by
    intro id hid
    obtain ⟨o, ho⟩ := hpass id hid
    have : ∃ o', look (R.up ++ subOwn (look st.own) pass) id = some o' := by
      rw [look_append]
      cases look R.up id with
      | some o' => exact ⟨o', rfl⟩
      | none => exact ⟨o, by simp [look_subOwn, hid, ho]⟩
    obtain ⟨o', ho'⟩ := this
    have := hC.own id o' ho'
    cases o' with
    | arr esz xs => obtain ⟨b, n, cur, et, fr, h1, _⟩ := this; exact ⟨_, h1⟩
    | spare esz n =>
      rcases this with h1 | ⟨b, u, s, cur, et, fr, h1, _⟩
      · exact ⟨_, h1⟩
      · exact ⟨_, h1⟩
    | dead => obtain ⟨b, e, n, h1⟩ := this; exact ⟨_, h1⟩
    | map kvs => obtain ⟨b, es, clock, h1, _⟩ := this; exact ⟨_, h1⟩
  have hjoin : ∀ id l, joinLocs γ' γ id = some l → (γ' id = some l) ∨ (γ' id = Option.none ∧ γ id = some l ∧ id ∉ pass) := by
    intro id l h
    unfold joinLocs at h
    cases hq : γ' id with
    | some l' => rw [hq] at h; exact .inl h
    | none =>
      rw [hq] at h
      refine .inr ⟨rfl, h, fun hm => ?_⟩
      obtain ⟨l2, h2⟩ := hpassloc id hm
      rw [hq] at h2; cases h2
  have hle : LocsLe γ (joinLocs γ' γ) := by
    intro id l h
    by_cases hm : id ∈ pass
    · obtain ⟨l', h1, h2⟩ := hL.le id l (by simp [passLocs, hm, h])
      exact ⟨l', by simp [joinLocs, h1], h2⟩
    · refine ⟨l, ?_, .refl _⟩
      unfold joinLocs
      cases hq : γ' id with
      | some l' =>
        rcases hdom' id l' hq with h1 | h1
        · exact absurd h1 hm
        · obtain ⟨o, ho⟩ := hI.dom id l h; rw [h1] at ho; cases ho
      | none => exact h
  have hok : ∀ b o, okOf F γ w b o → okOf F (joinLocs γ' γ) w' b o := by
    intro b o h
    have h' := hL.ok b o (hok0 b o h)
    refine ⟨h'.1, h.2.1, fun id l hl => ?_⟩
    rcases hjoin id l hl with h1 | ⟨_, h1, _⟩
    · exact h'.2.2 id l h1
    · exact h.2.2 id l h1
  have hcell : ∀ b o, okOf F γ w b o → w'.cell? ⟨b, o, Option.none⟩ = w.cell? ⟨b, o, Option.none⟩ := fun b o h => hL.cell b o (hok0 b o h)
  -- a block that the callee may not write is as it was
  have hsame : ∀ b, b < w.heap.size → (∀ id l, id ∈ pass → γ id = some l → l.block ≠ some b) → w'.heap[b]? = w.heap[b]? :=
    fun b hb hx => hC.keep b hb fun ⟨id, l, h1, h2, h3⟩ => hx id l h1 h2 h3
  -- a block that the callee owns at its end
  have hblk' : ∀ id l b, γ' id = some l → l.block = some b → (w.heap.size ≤ b ∧ b < w'.heap.size) ∨ (b < w'.heap.size ∧ ∃ id2 l2, id2 ∈ pass ∧ γ id2 = some l2 ∧ l2.block = some b) := by
    intro id l b h hb
    obtain ⟨h1, h2⟩ := hC.blk id l b h hb
    rcases h2 with h2 | ⟨id2, l2, h3⟩
    · exact .inl ⟨h2, h1⟩
    · exact .inr ⟨h1, id2, l2, h3⟩
  have hconv : bor = false → ∀ b o, okOf (calleeF F γ w pass bor) γ' w' b o → okOf F (joinLocs γ' γ) w' b o := by
    intro hbor b o h
    obtain ⟨h1, h2, h3⟩ := h
    rcases Nat.lt_or_ge b w.heap.size with hlt | hge
    · rcases h2 hlt with hv | ⟨id, l, g1, g2, g3⟩
      · exact hok b o hv
      · rcases g3 with g3 | ⟨g3, _⟩
        · refine ⟨h1, fun hB => ?_, fun id2 l2 hl2 => ?_⟩
          · have := (hI.blk id l b g1 g2).2
            exact hI.xvis b o (this.resolve_left (by omega))
          · rcases hjoin id2 l2 hl2 with e1 | ⟨_, e1, e2⟩
            · exact h3 id2 l2 e1
            · have hne : ∀ b', l2.block = some b' → b ≠ b' := fun b' hb' e => e2 (by have := hI.dist id2 id l2 l b e1 g1 (by rw [hb', e]) g2; rw [this]; exact g3)
              cases l2 with
              | arr b' _ _ => exact hne b' rfl
              | map b' => exact hne b' rfl
              | spare _ _ b' _ _ => exact fun e => absurd e (hne b' rfl)
              | full _ _ => trivial
              | dead _ _ _ => trivial
        · rw [hbor] at g3; cases g3
    · refine ⟨h1, fun hB => by have := hI.size; omega, fun id2 l2 hl2 => ?_⟩
      rcases hjoin id2 l2 hl2 with e1 | ⟨_, e1, e2⟩
      · exact h3 id2 l2 e1
      · have hne : ∀ b', l2.block = some b' → b ≠ b' := fun b' hb' e => by have := (hI.blk id2 l2 b' e1 hb').1; omega
        cases l2 with
        | arr b' _ _ => exact hne b' rfl
        | map b' => exact hne b' rfl
        | spare _ _ b' _ _ => exact fun e => absurd e (hne b' rfl)
        | full _ _ => trivial
        | dead _ _ _ => trivial
  have hownconv : ∀ id obj, γ' id ≠ Option.none → OwnRep (calleeF F γ w pass bor) γ' w' id obj → (bor = true → OwnFlat obj) → OwnRep F (joinLocs γ' γ) w' id obj := by
    intro id obj hne ho hfl
    have hid : ∀ l, γ' id = some l → joinLocs γ' γ id = some l := fun l h => by simp [joinLocs, h]
    cases hb : bor with
    | false =>
      have hcv := hconv hb
      cases obj with
      | arr esz xs =>
        obtain ⟨b, n, cur, et, fr, h1, h2, h3, h4, h5, h6, h7, h8, h9⟩ := ho
        exact ⟨b, n, cur, et, fr, hid _ h1, h2, h3, h4, h5, h6, h7, h8, RepL_mono hcv (fun _ _ _ => rfl) _ hle' h9⟩
      | spare esz n =>
        rcases ho with h1 | ⟨b, u, s, cur, et, fr, h1, h2⟩
        · exact .inl (hid _ h1)
        · exact .inr ⟨b, u, s, cur, et, fr, hid _ h1, h2⟩
      | dead =>
        obtain ⟨b, e, n, h1⟩ := ho
        exact ⟨b, e, n, hid _ h1⟩
      | map kvs =>
        obtain ⟨b, es, clock, h1, h2, h3, h4⟩ := ho
        exact ⟨b, es, clock, hid _ h1, h2, KV_mono hcv (fun _ _ _ => rfl) hle' _ h3, h4⟩
    | true =>
      have hfl := hfl hb
      cases obj with
      | arr esz xs =>
        obtain ⟨b, n, cur, et, fr, h1, h2, h3, h4, h5, h6, h7, h8, h9⟩ := ho
        exact ⟨b, n, cur, et, fr, hid _ h1, h2, h3, h4, h5, h6, h7, h8, hfl _ _ _ _ _ _ _ h9⟩
      | spare esz n =>
        rcases ho with h1 | ⟨b, u, s, cur, et, fr, h1, h2⟩
        · exact .inl (hid _ h1)
        · exact .inr ⟨b, u, s, cur, et, fr, hid _ h1, h2⟩
      | dead =>
        obtain ⟨b, e, n, h1⟩ := ho
        exact ⟨b, e, n, hid _ h1⟩
      | map kvs =>
        obtain ⟨b, es, clock, h1, h2, h3, h4⟩ := ho
        exact ⟨b, es, clock, hid _ h1, h2, KV_flat hfl h3, h4⟩
  refine ⟨?_, ⟨hle, hok, hcell⟩, hconv, hle'⟩
  refine hI.core hC.os hC.tape hC.output hC.size hle hok hcell ?_ ?_ ?_ ?_ ?_
  · intro k hk hx
    exact hsame k (by have := hI.size; omega) fun id l _ h1 h2 => hI.blk_ne h1 h2 hk hx rfl
  · intro id obj hl
    rw [look_append] at hl
    cases hq : look R.up id with
    | some o' =>
      rw [hq] at hl
      cases hl
      have hlo : look (R.up ++ subOwn (look st.own) pass) id = some obj := by rw [look_append, hq]
      have ho := hC.own id obj hlo
      refine hownconv id obj ?_ ho (fun hb => hflat hb (id, obj) (look_mem hq))
      intro hn
      cases obj with
      | arr esz xs => obtain ⟨b, n, cur, et, fr, h1, _⟩ := ho; rw [hn] at h1; cases h1
      | spare esz n =>
        rcases ho with h1 | ⟨b, u, s, cur, et, fr, h1, _⟩
        · rw [hn] at h1; cases h1
        · rw [hn] at h1; cases h1
      | dead => obtain ⟨b, e, n, h1⟩ := ho; rw [hn] at h1; cases h1
      | map kvs => obtain ⟨b, es, clock, h1, _⟩ := ho; rw [hn] at h1; cases h1
    | none =>
      rw [hq] at hl
      by_cases hm : id ∈ pass
      · have hlo : look (R.up ++ subOwn (look st.own) pass) id = some obj := by rw [look_append, hq]; simp [look_subOwn, hm, hl]
        obtain ⟨l, h1⟩ := hpassloc id hm
        exact hownconv id obj (by rw [h1]; simp) (hC.own id obj hlo) (fun hb => hflat2 hb id hm obj hl)
      · have hn : γ' id = Option.none := by
          cases hq2 : γ' id with
          | none => rfl
          | some l' =>
            rcases hdom' id l' hq2 with h1 | h1
            · exact absurd h1 hm
            · rw [h1] at hl; cases hl
        refine OwnRep_mono hok hcell hle (by simp [joinLocs, hn]) (fun l b h1 h2 => ?_) (hI.own id obj hl)
        exact hsame b (hI.blk id l b h1 h2).1 fun id2 l2 h3 h4 h5 => hm (by rw [hI.dist id id2 l l2 b h1 h4 h2 h5]; exact h3)
  · intro id l h
    rw [look_append]
    cases hq : look R.up id with
    | some o' => exact ⟨o', rfl⟩
    | none =>
      rcases hjoin id l h with h1 | ⟨_, h1, _⟩
      · obtain ⟨o, ho⟩ := hC.dom id l h1
        simp only [St0, look_append, hq, look_subOwn] at ho
        split at ho
        · exact ⟨o, ho⟩
        · cases ho
      · exact hI.dom id l h1
  · intro id l b h hb
    rcases hjoin id l h with h1 | ⟨_, h1, _⟩
    · rcases hblk' id l b h1 hb with ⟨h2, h3⟩ | ⟨h2, id2, l2, _, h4, h5⟩
      · exact ⟨h3, .inl (by have := hI.size; omega)⟩
      · exact ⟨h2, (hI.blk id2 l2 b h4 h5).2⟩
    · obtain ⟨h2, h3⟩ := hI.blk id l b h1 hb; exact ⟨by have := hC.size; exact Nat.lt_of_lt_of_le h2 this, h3⟩
  · intro id id' l l' b h h' hb hb'
    rcases hjoin id l h with h1 | ⟨n1, h1, p1⟩ <;> rcases hjoin id' l' h' with h2 | ⟨n2, h2, p2⟩
    · exact hC.dist id id' l l' b h1 h2 hb hb'
    · rcases hblk' id l b h1 hb with ⟨h3, _⟩ | ⟨_, id3, l3, h4, h5, h6⟩
      · have := (hI.blk id' l' b h2 hb').1; omega
      · exact absurd (hI.dist id' id3 l' l3 b h2 h5 hb' h6 ▸ h4) p2
    · rcases hblk' id' l' b h2 hb' with ⟨h3, _⟩ | ⟨_, id3, l3, h4, h5, h6⟩
      · have := (hI.blk id l b h1 hb).1; omega
      · exact absurd (hI.dist id id3 l l3 b h1 h5 hb h6 ▸ h4) p1
    · exact hI.dist id id' l l' b h1 h2 hb hb'

/-- A call by its contract. -/
theorem call_sound {nx : Nat} (hI : Inv F γ st a w) {f : FuncId} {C : Ctr} (hG : Good P f C) {pass : List Nat} {bor : Bool} {as : List AV} {vs : List Value} {R : Res}
    (hrep : RepL w (okOf (calleeF F γ w pass bor) (passLocs γ pass) w) as (passLocs γ pass) vs) (hrun : C.run nx as (subOwn (look st.own) pass) = some R) (hc : R.c)
    (hp : ∀ id ∈ pass, ∃ o, look st.own id = some o ∧ OwnSight pass o ∧ (bor = true → OwnFlat o)) (hwf : ∀ p ∈ subOwn (look st.own) pass, p.1 < nx)
    (hup : ∀ p ∈ R.up, p.1 ∈ pass ∨ look st.own p.1 = Option.none) (hflat : bor = true → Flat R.r ∧ ∀ p ∈ R.up, OwnFlat p.2) :
    CallsTo P f vs.toArray w fun v w' => ∃ γ', Inv F γ' { st with own := R.up ++ st.own, next := R.nx } a w' ∧ Left F γ γ' w w' ∧ Rep w' (okOf F γ' w') R.r γ' v := by
  obtain ⟨h1, h2⟩ := callee_inv hI pass bor (fun id hid o ho => by obtain ⟨o', h3, h4, _⟩ := hp id hid; rw [ho] at h3; cases h3; exact h4)
  have hg := hG nx as (subOwn (look st.own) pass) R hrun hc (calleeF F γ w pass bor) (passLocs γ pass) w vs rfl (inv_next h1) hwf hrep
  intro o a' K Q hK
  refine hg o a' K Q fun v w' ⟨γ', g1, g2, g3⟩ => hK v w' ?_
  obtain ⟨k1, k2, k3, k4⟩ := caller_inv hI pass bor g1 g2 h2 hup (fun id hid => by obtain ⟨o, h3, _⟩ := hp id hid; exact ⟨o, h3⟩) (fun hb => (hflat hb).2)
    (fun hb id hid o ho => by obtain ⟨o', h3, _, h5⟩ := hp id hid; rw [ho] at h3; cases h3; exact h5 hb)
  refine ⟨_, k1, k2, ?_⟩
  cases hb : bor with
  | false => exact Rep_mono (k3 hb) (fun _ _ _ => rfl) _ k4 g3
  | true => exact (hflat hb).1 _ _ _ _ _ _ _ g3
end
end Go.Aw
namespace Go.Aw
open Go
set_option linter.unusedVariables false
set_option linter.unusedSimpArgs false
set_option linter.unusedSectionVars false
variable {P : Program} {F : Fr} {γ : Locs} {st : St} {a : Act} {w : World}

theorem RepC_of_cells {ok : Ok} {b : Nat} : ∀ {cs : List AV} {us : List Value} {o : Nat}, RepL w ok cs noLocs us → (∀ u ∈ us, u.oneCell' = true) → (∀ (j : Nat) u, us[j]? = some u → w.cell? ⟨b, o + j, Option.none⟩ = some u) → (∀ j, j < us.length → ok b (o + j)) → RepC w ok b o cs
  | [], us, o, h, _, _, _ => by simp only [RepC]
  | c :: cs, us, o, h, h1, h2, h3 => by
    simp only [RepL] at h
    obtain ⟨u, r, rfl, h4, h5⟩ := h
    simp only [RepC]
    refine ⟨⟨h3 0 (by simp), u, h2 0 u rfl, h1 u (by simp), h4⟩, RepC_of_cells h5 (fun y hy => h1 y (by simp [hy])) (fun j y hj => ?_) (fun j hj => ?_)⟩
    · have := h2 (j + 1) y (by simpa using hj); rwa [show o + (j + 1) = o + 1 + j from by omega] at this
    · have := h3 (j + 1) (by simpa using hj); rwa [show o + (j + 1) = o + 1 + j from by omega] at this

/-- The callee sees what is lent. -/
theorem ok_lent (hI : Inv F γ st a w) {pass : List Nat} {id b e n : Nat} (hg : γ id = some (.arr b e n)) (hid : id ∉ pass) (o : Nat) : okOf (calleeF F γ w pass true) (passLocs γ pass) w b o := by
  refine ⟨(hI.blk id _ b hg rfl).1, fun _ => .inr ⟨id, _, hg, rfl, .inr ⟨rfl, e, n, rfl⟩⟩, fun id2 l2 h2 => ?_⟩
  unfold passLocs at h2
  split at h2
  · rename_i hm
    have hne : ∀ b', l2.block = some b' → b ≠ b' := fun b' hb' e => hid (by rw [hI.dist id id2 _ l2 b hg h2 rfl (by rw [hb', e])]; exact hm)
    cases l2 with
    | arr b' _ _ => exact hne b' rfl
    | map b' => exact hne b' rfl
    | spare _ _ b' _ _ => exact fun e => absurd e (hne b' rfl)
    | full _ _ => trivial
    | dead _ _ _ => trivial
  · cases h2

theorem imm0_sound {lk : Nat → Option Own} (hlk : ∀ id o, lk id = some o → look st.own id = some o) (hI : Inv F γ st a w) {pass : List Nat} {bor : Bool} {x y : AV} {c : Prop} {ids : List Nat} (h : imm0 lk x = some (c, y, ids)) (hc : c) (hids : ∀ id ∈ ids, id ∉ pass ∧ bor = true)
    (hok : ∀ b o, okOf F γ w b o → okOf (calleeF F γ w pass bor) (passLocs γ pass) w b o) {u : Value} (hx : Rep w (okOf F γ w) x γ u) :
    Rep w (okOf (calleeF F γ w pass bor) (passLocs γ pass)  w) y noLocs u := by
  have up : ∀ {z : AV}, Rep w (okOf F γ w) z noLocs u → Rep w (okOf (calleeF F γ w pass bor) (passLocs γ pass) w) z noLocs u := fun h => Rep_mono hok (fun _ _ _ => rfl) _ (LocsLe.refl _) h
  unfold imm0 at h
  split at h
  · simp only [Option.some.injEq, Prod.mk.injEq] at h
    obtain ⟨_, rfl, _⟩ := h
    exact up (Rep_pure rfl (Rep_imm1 hx))
  · rename_i id i off
    split at h
    · rename_i esz xs hl
      simp only [Option.some.injEq, Prod.mk.injEq] at h
      obtain ⟨rfl, rfl, rfl⟩ := h
      obtain ⟨c1, c2, c3⟩ := hc
      obtain ⟨hn, rfl⟩ := hids id (by simp)
      obtain ⟨b, n, cur, et, fr, g1, g2, g3, g4, g5, g6, g7, g8, g9⟩ := hI.own id _ (hlk id _ hl)
      simp only [Rep] at hx
      obtain ⟨b', esz', n', e1, rfl⟩ := hx
      rw [g1] at e1
      cases e1
      obtain ⟨us, k1, k2, k3, k4⟩ := OwnArr_seg (F := F) (esz := esz) (off := off) (k := esz - off) g2 g3 g5 g7 g8 g9 c1 (by omega)
      have hlen : ((xs.getD i []).drop off).length = esz - off := by
        have : xs.getD i [] = xs[i] := by simp [List.getD, List.getElem?_eq_getElem c1]
        rw [List.length_drop, this, g7 _ (List.getElem_mem c1)]
      rw [List.take_of_length_le (show ((xs.getD i []).drop off).length ≤ esz - off from by omega)] at k3
      simp only [Rep]
      refine ⟨b, _, rfl, RepC_of_cells (us := us) ?_ k4 k2 (fun j _ => ok_lent hI g1 hn _)⟩
      exact RepL_mono hok (fun _ _ _ => rfl) _ (LocsLe.refl _) (RepL_pure c3 (RepL_imm1 k3))
    · cases h
  · rename_i id off len cp
    split at h
    · rename_i esz xs hl
      simp only [Option.some.injEq, Prod.mk.injEq] at h
      obtain ⟨rfl, rfl, rfl⟩ := h
      obtain ⟨c1, c2⟩ := hc
      obtain ⟨hn, rfl⟩ := hids id (by simp)
      obtain ⟨b, n, cur, et, fr, g1, g2, g3, g4, g5, g6, g7, g8, g9⟩ := hI.own id _ (hlk id _ hl)
      simp only [Rep] at hx
      obtain ⟨b', esz', n', cap, oo, e1, rfl, e0, e2, e3, e4, e5⟩ := hx
      rw [g1] at e1
      cases e1
      rcases Nat.eq_zero_or_pos len with hl0 | hl0
      · subst hl0
        simp only [List.take_zero, Rep]
        exact ⟨some ⟨b, oo, Option.none⟩, cap, rfl, by simp, e4, trivial, rfl, by simp only [RepEs]⟩
      have hoo : oo = off * esz := by
        rcases e0 with e0 | e0
        · omega
        · exact e0
      subst hoo
      have hu1 : ∀ cs ∈ xs.drop off, cs.length = esz := fun cs hcs => g7 cs (List.mem_of_mem_drop hcs)
      have hfl : ((xs.drop off).take len).flatten = (xs.flatten.drop (off * esz)).take (len * esz) := by rw [flat_take hu1, flat_drop xs off g7]
      have hxl : ((xs.drop off).take len).length = len := by simp; omega
      have hL := flat_length xs g7
      have hle : (off + len) * esz ≤ xs.length * esz := Nat.mul_le_mul_right _ c1
      have hle2 : xs.length * esz ≤ n * esz := Nat.mul_le_mul_right _ g5
      rw [Nat.add_mul] at hle
      have hR : RepL w (okOf F γ w) ((xs.drop off).take len).flatten γ ((cur.toList.drop (off * esz)).take (len * esz)) := by
        rw [hfl]
        have := RepL_take (len * esz) (RepL_drop (off * esz) g9)
        rw [hL, List.drop_take, List.take_take, Nat.min_eq_left (by omega)] at this
        exact this
      simp only [Rep]
      refine ⟨some ⟨b, off * esz, Option.none⟩, cap, by rw [hxl], by rw [hxl]; exact e2, e4, trivial, rfl, RepEs_flatten ?_⟩
      refine RepC_of_cells (us := (cur.toList.drop (off * esz)).take (len * esz)) ?_ (fun y hy => g8 y (List.mem_of_mem_drop (List.mem_of_mem_take hy))) ?_ (fun j _ => ok_lent hI g1 hn _)
      · refine RepL_mono hok (fun _ _ _ => rfl) _ (LocsLe.refl _) (RepL_pure (fun x hx => ?_) hR)
        obtain ⟨cs, h1, h2⟩ := List.mem_flatten.1 hx
        exact c2 cs h1 x h2
      · intro j v hj
        rw [List.getElem?_take] at hj
        split at hj
        · rw [List.getElem?_drop] at hj
          rw [cell_of_row w b _ cur et fr g2]
          simpa using hj
        · cases hj
    · cases h
  · simp only [Option.some.injEq, Prod.mk.injEq] at h
    obtain ⟨rfl, rfl, _⟩ := h
    refine up ?_
    simp only [Rep] at hx ⊢
    obtain ⟨vs, rfl, h1, h2⟩ := hx
    exact ⟨vs, rfl, RepL_pure hc (RepL_imm1 h1), h2⟩
  · simp only [Option.some.injEq, Prod.mk.injEq] at h
    obtain ⟨_, rfl, _⟩ := h
    exact up hx
  · simp only [Option.some.injEq, Prod.mk.injEq] at h
    obtain ⟨_, rfl, _⟩ := h
    exact up hx
  · simp only [Option.some.injEq, Prod.mk.injEq] at h
    obtain ⟨_, rfl, _⟩ := h
    exact up hx
  · simp only [Option.some.injEq, Prod.mk.injEq] at h
    obtain ⟨_, rfl, _⟩ := h
    exact up hx
  · simp only [Option.some.injEq, Prod.mk.injEq] at h
    obtain ⟨_, rfl, _⟩ := h
    exact up hx
  · simp only [Option.some.injEq, Prod.mk.injEq] at h
    obtain ⟨rfl, rfl, _⟩ := h
    exact up (Rep_pure (by simpa [pure1] using hc) hx)
  · cases h

theorem immL_sound {lk : Nat → Option Own} (hlk : ∀ id o, lk id = some o → look st.own id = some o) (hI : Inv F γ st a w) {pass : List Nat} {bor : Bool} (hok : ∀ b o, okOf F γ w b o → okOf (calleeF F γ w pass bor) (passLocs γ pass) w b o) :
    ∀ {xs ys : List AV} {c : Prop} {ids : List Nat}, immL lk xs = some (c, ys, ids) → c → (∀ id ∈ ids, id ∉ pass ∧ bor = true) → ∀ {us : List Value}, RepL w (okOf F γ w) xs γ us →
      RepL w (okOf (calleeF F γ w pass bor) (passLocs γ pass) w) ys (passLocs γ pass) us
  | [], ys, c, ids, h, hc, hids, us, hu => by
    simp only [immL, Option.some.injEq, Prod.mk.injEq] at h
    obtain ⟨_, rfl, _⟩ := h
    simpa only [RepL] using hu
  | x :: xs, ys, c, ids, h, hc, hids, us, hu => by
    simp only [immL] at h
    split at h
    · rename_i c1 y b d ys' e h1 h2
      simp only [Option.some.injEq, Prod.mk.injEq] at h
      obtain ⟨rfl, rfl, rfl⟩ := h
      simp only [RepL] at hu ⊢
      obtain ⟨u, r, rfl, hu1, hu2⟩ := hu
      exact ⟨u, r, rfl, Rep_mono0 (imm0_sound hlk hI h1 hc.1 (fun id hid => hids id (by simp [hid])) hok hu1), immL_sound hlk hI hok h2 hc.2 (fun id hid => hids id (by simp [hid])) hu2⟩
    · cases h

theorem immA_sound {lk : Nat → Option Own} (hlk : ∀ id o, lk id = some o → look st.own id = some o) (hI : Inv F γ st a w) {pass : List Nat} {bor : Bool} {x y : AV} {c : Prop} {ids : List Nat} (h : immA lk x = some (c, y, ids)) (hc : c) (hids : ∀ id ∈ ids, id ∉ pass ∧ bor = true)
    (hok : ∀ b o, okOf F γ w b o → okOf (calleeF F γ w pass bor) (passLocs γ pass) w b o) {u : Value} (hx : Rep w (okOf F γ w) x γ u) :
    Rep w (okOf (calleeF F γ w pass bor) (passLocs γ pass) w) y (passLocs γ pass) u := by
  unfold immA at h
  split at h
  · split at h
    · rename_i f first caps c1 ys b d zs e h1 h2
      simp only [Option.some.injEq, Prod.mk.injEq] at h
      obtain ⟨rfl, rfl, rfl⟩ := h
      simp only [Rep] at hx ⊢
      obtain ⟨fs, cs, rfl, h3, h4⟩ := hx
      exact ⟨fs, cs, rfl, immL_sound hlk hI hok h1 hc.1 (fun id hid => hids id (by simp [hid])) h3, immL_sound hlk hI hok h2 hc.2 (fun id hid => hids id (by simp [hid])) h4⟩
    · cases h
  · exact Rep_mono0 (imm0_sound hlk hI h hc hids hok hx)

/-! ### a call's arguments -/
structure Prep where
  c : Prop
  as : List AV
  bor : List Nat
  pass : List Nat

def prepA (lk : Nat → Option Own) (raw : List Nat) : Nat → List AV → Option Prep
  | _, [] => some ⟨True, [], [], []⟩
  | i, x :: xs =>
    match prepA lk raw (i + 1) xs with
    | some p =>
      if raw.contains i then (if sightA x then some ⟨p.c, x :: p.as, p.bor, idsOf x ++ p.pass⟩ else Option.none)
      else match immA lk x with
        | some (c, y, b) => some ⟨c ∧ p.c, y :: p.as, b ++ p.bor, p.pass⟩
        | Option.none => Option.none
    | Option.none => Option.none

theorem prepA_sound {lk : Nat → Option Own} (hlk : ∀ id o, lk id = some o → look st.own id = some o) (hI : Inv F γ st a w) {raw : List Nat} {PASS : List Nat} {bor : Bool} (hok : ∀ b o, okOf F γ w b o → okOf (calleeF F γ w PASS bor) (passLocs γ PASS) w b o) :
    ∀ {xs : List AV} {i : Nat} {p : Prep}, prepA lk raw i xs = some p → p.c → (∀ id ∈ p.bor, id ∉ PASS ∧ bor = true) → (∀ id ∈ p.pass, id ∈ PASS) → ∀ {us : List Value}, RepL w (okOf F γ w) xs γ us →
      RepL w (okOf (calleeF F γ w PASS bor) (passLocs γ PASS) w) p.as (passLocs γ PASS) us
  | [], i, p, h, hc, hb, hp, us, hu => by
    simp only [prepA, Option.some.injEq] at h
    subst h
    simpa only [RepL] using hu
  | x :: xs, i, p, h, hc, hb, hp, us, hu => by
    simp only [prepA] at h
    split at h
    · rename_i q hq
      simp only [RepL] at hu
      obtain ⟨u, r, rfl, hu1, hu2⟩ := hu
      split at h
      · split at h
        · rename_i hs
          simp only [Option.some.injEq] at h
          subst h
          simp only [RepL]
          exact ⟨u, r, rfl, Rep_sight (γ := γ) hs (fun id hid => by simp [passLocs, hp id (by simp [hid])]) (Rep_mono hok (fun _ _ _ => rfl) _ (LocsLe.refl _) hu1), prepA_sound hlk hI hok hq hc hb (fun id hid => hp id (by simp [hid])) hu2⟩
        · cases h
      · split at h
        · rename_i c y b hy
          simp only [Option.some.injEq] at h
          subst h
          simp only [RepL]
          exact ⟨u, r, rfl, immA_sound hlk hI hy hc.1 (fun id hid => hb id (by simp [hid])) hok hu1, prepA_sound hlk hI hok hq hc.2 (fun id hid => hb id (by simp [hid])) hp hu2⟩
        · cases h
    · cases h
end Go.Aw
namespace Go.Aw
open Go
set_option linter.unusedVariables false
set_option linter.unusedSimpArgs false
set_option linter.unusedSectionVars false
variable {P : Program} {F : Fr} {γ : Locs} {st : St} {a : Act} {w : World}

abbrev Tab := FuncId → Option Ctr

/-- A call by its contract, off what is known. -/
def callA (T : Tab) (lk : Nat → Option Own) (f : FuncId) (as : List AV) (nx : Nat) : Option Res :=
  match T f with
  | some C =>
    match prepA lk C.raw 0 as with
    | some p =>
      match C.run nx p.as (subOwn lk p.pass) with
      | some R =>
        some ⟨p.c ∧ (p.bor.all (fun i => !p.pass.contains i) = true) ∧ (∀ id ∈ p.pass, match lk id with | some o => OwnSight p.pass o ∧ (p.bor ≠ [] → OwnFlat o) ∧ id < nx | Option.none => False) ∧
            nx ≤ R.nx ∧ (R.up.all (fun q => p.pass.contains q.1 || (decide (nx ≤ q.1) && decide (q.1 < R.nx))) = true) ∧ (p.bor ≠ [] → Flat R.r ∧ ∀ q ∈ R.up, OwnFlat q.2) ∧ R.c, R.r, R.up, R.nx⟩
      | Option.none => Option.none
    | Option.none => Option.none
  | Option.none => Option.none

theorem subOwn_congr {lk lk' : Nat → Option Own} : ∀ {pass : List Nat}, (∀ id ∈ pass, lk id = lk' id) → subOwn lk pass = subOwn lk' pass
  | [], _ => rfl
  | p :: r, h => by
    unfold subOwn
    rw [h p (by simp), subOwn_congr (fun id hid => h id (by simp [hid]))]

theorem callA_sound {T : Tab} (hT : ∀ f C, T f = some C → Good P f C) (hI : Inv F γ st a w) {lk : Nat → Option Own} (hlk : ∀ id o, lk id = some o → look st.own id = some o) {f : FuncId} {as : List AV} {nx : Nat} {R : Res}
    (h : callA T lk f as nx = some R) (hc : R.c) (hfr : ∀ id, nx ≤ id → id < R.nx → look st.own id = Option.none) {vs : List Value} (hvs : RepL w (okOf F γ w) as γ vs) :
    CallsTo P f vs.toArray w fun v w' => ∃ γ', Inv F γ' { st with own := R.up ++ st.own, next := R.nx } a w' ∧ Left F γ γ' w w' ∧ Rep w' (okOf F γ' w') R.r γ' v := by
  unfold callA at h
  split at h
  case h_2 => cases h
  rename_i C hC
  split at h
  case h_2 => cases h
  rename_i p hp
  split at h
  case h_2 => cases h
  rename_i R0 hR
  simp only [Option.some.injEq] at h
  subst h
  obtain ⟨c1, c2, c3, _, c4, c5, c6⟩ := hc
  have hpass : ∀ id ∈ p.pass, ∃ o, lk id = some o ∧ OwnSight p.pass o ∧ (p.bor ≠ [] → OwnFlat o) ∧ id < nx := by
    intro id hid
    have := c3 id hid
    cases hl : lk id with
    | none => rw [hl] at this; exact this.elim
    | some o => rw [hl] at this; exact ⟨o, rfl, this⟩
  let bor : Bool := !p.bor.isEmpty
  have hborT : bor = true ↔ p.bor ≠ [] := by simp [bor, List.isEmpty_iff]
  obtain ⟨_, hok⟩ := callee_inv hI p.pass bor (fun id hid o ho => by
    obtain ⟨o', h1, h2, _⟩ := hpass id hid
    rw [hlk id o' h1] at ho; cases ho; exact h2)
  have hb : ∀ id ∈ p.bor, id ∉ p.pass ∧ bor = true := by
    intro id hid
    refine ⟨fun hm => ?_, ?_⟩
    · have := List.all_eq_true.1 c2 id hid
      simp [hm] at this
    · rw [hborT]; intro e; rw [e] at hid; cases hid
  have hrep := prepA_sound hlk hI hok hp c1 hb (fun id hid => hid) hvs
  have hsub : subOwn lk p.pass = subOwn (look st.own) p.pass := subOwn_congr fun id hid => by
    obtain ⟨o', h1, _⟩ := hpass id hid
    rw [h1, hlk id o' h1]
  rw [hsub] at hR
  have hwf : ∀ q ∈ subOwn (look st.own) p.pass, q.1 < nx := by
    have : ∀ (l : List Nat), (∀ id ∈ l, id < nx) → ∀ q ∈ subOwn (look st.own) l, q.1 < nx := by
      intro l
      induction l with
      | nil => intro _ q h; simp [subOwn] at h
      | cons x l ih =>
        intro hl q h
        unfold subOwn at h
        split at h
        · rcases List.mem_cons.1 h with rfl | h
          · exact hl x (by simp)
          · exact ih (fun id hid => hl id (by simp [hid])) q h
        · exact ih (fun id hid => hl id (by simp [hid])) q h
    exact this p.pass fun id hid => (hpass id hid).elim fun o h => h.2.2.2
  exact call_sound (nx := nx) (R := R0) hI (hT f C hC) (bor := bor) hrep hR c6
    (fun id hid => by obtain ⟨o, h1, h2, h3, _⟩ := hpass id hid; exact ⟨o, hlk id o h1, h2, fun hbt => h3 (hborT.1 hbt)⟩) hwf
    (fun q hq => by
      have := List.all_eq_true.1 c4 q hq
      simp only [Bool.or_eq_true, Bool.and_eq_true, List.contains_iff_mem, decide_eq_true_eq] at this
      rcases this with h1 | h1
      · exact .inl h1
      · exact .inr (hfr q.1 h1.1 h1.2))
    (fun hbt => c5 (hborT.1 hbt))
/-! ### more comparisons -/
def isNilS : Operand → Bool
  | .const (.slice Option.none 0 0) => true
  | _ => false
def nilS : AV → Option (Option Bool)
  | .sl (_ :: _) _ => some (some false)
  | .sl [] _ => some Option.none
  | .os _ _ _ _ => some (some false)
  | _ => Option.none
def ubB (op : BinOp) (b : Option Bool) : Option (Prop × AV) :=
  match b with
  | some b => eqB op b
  | Option.none => match op with
    | .eql => some (True, .ub)
    | .neq => some (True, .ub)
    | _ => Option.none

def kindN (P : Program) (t : TypeId) : Nat :=
  match P.underlying t with
  | some (.int _) => 1
  | some .bool => 2
  | some .string => 3
  | _ => 0
def tEqF (P : Program) (t : TypeId) : Option (List Nat) :=
  match P.underlying t with
  | some (.struct fs) => if (fs.toList.all fun f => f.name != "_") && (fs.toList.map (·.offset) == List.range fs.size) && !P.stoodInHeld t && !P.eqGuardType P.depth t then some (fs.toList.map fun f => kindN P f.type) else Option.none
  | _ => Option.none
def eq1 : Nat → AV → AV → Option Bool
  | 1, .v (.int k a), .v (.int k' b) => if k = k' then some (decide (a = b)) else Option.none
  | 2, .v (.bool a), .v (.bool b) => some (a == b)
  | 3, .str a, .str b => some (decide (a = b))
  | _, _, _ => Option.none
def eqCs : List Nat → List AV → List AV → Option Bool
  | [], [], [] => some true
  | n :: ns, x :: xs, y :: ys => match eq1 n x y, eqCs ns xs ys with
    | some a, some b => some (a && b)
    | _, _ => Option.none
  | _, _, _ => Option.none

/-- A comparison of slices with nil, of structs of flat parts; else as before. -/
def binX (P : Program) (op : BinOp) (t : TypeId) (x y : AV) (oy : Operand) : Option (Prop × AV) :=
  match isNilS oy && (tElem P t).isSome with
  | true => (nilS x).bind (ubB op)
  | false => match x, y with
    | .agg cs, .agg ds => match tEqF P t with
      | some ns => (eqCs ns cs ds).bind (eqB op)
      | Option.none => Option.none
    | x, y => binA P op t x y (isCon oy)

theorem eq1_sound {n : Nat} {x y : AV} {b : Bool} (h : eq1 n x y = some b) {ft : TypeId} (hn : kindN P ft = n) {ok : Ok} {u v : Value} (hx : Rep w ok x γ u) (hy : Rep w ok y γ v) (d : Nat) : (Op.equalIn (d + 1) ft u v).run P w = .ok b w ∧ tAgg P ft = some false := by
  have hag : n ≠ 0 → tAgg P ft = some false := by
    intro h0
    subst hn
    unfold kindN at h0
    unfold tAgg
    split at h0 <;> rename_i hu <;> first | (rw [hu]; rfl) | exact absurd rfl h0
  unfold eq1 at h
  split at h
  · split at h
    · rename_i k a k' b' hk
      subst hk
      simp only [Option.some.injEq] at h
      subst h
      simp only [Rep] at hx hy
      subst hx hy
      refine ⟨?_, hag (by omega)⟩
      unfold kindN at hn
      split at hn <;> (try omega)
      rename_i k2 hu
      rw [run_equalIn_int w d ft k k2 a b' hu]
      congr 1
    · cases h
  · simp only [Option.some.injEq] at h
    subst h
    simp only [Rep] at hx hy
    subst hx hy
    refine ⟨?_, hag (by omega)⟩
    unfold kindN at hn
    split at hn <;> (try omega)
    rename_i hu
    exact run_equalIn_bool w d ft _ _ hu
  · simp only [Option.some.injEq] at h
    subst h
    simp only [Rep] at hx hy
    subst hx hy
    refine ⟨?_, hag (by omega)⟩
    unfold kindN at hn
    split at hn <;> (try omega)
    rename_i hu
    rw [run_equalIn_string w d ft _ _ hu]
    congr 1
    rw [ByteArray.toList_eq, ByteArray.toList_eq]
    rw [Bool.eq_iff_iff]
    simp
  · cases h

theorem eqCs_sound {ok : Ok} (d : Nat) (us vs : Array Value) : ∀ (fs : List Field) (k : Nat) (xs ys : List AV) {b : Bool}, eqCs (fs.map fun f => kindN P f.type) xs ys = some b → (∀ f ∈ fs, f.name ≠ "_") → (∀ (j : Nat) f, fs[j]? = some f → f.offset = k + j) →
    RepL w ok xs γ (us.toList.drop k) → RepL w ok ys γ (vs.toList.drop k) → (Op.eqFields (d + 1) us vs fs).run P w = .ok b w
  | [], k, xs, ys, b, h, _, _, _, _ => by
    cases xs <;> cases ys <;> simp only [List.map_nil, eqCs, Option.some.injEq, reduceCtorEq] at h
    subst h
    simp [Op.eqFields]
  | f :: fs, k, [], ys, b, h, _, _, _, _ => by simp [eqCs] at h
  | f :: fs, k, x :: xs, [], b, h, _, _, _, _ => by simp [eqCs] at h
  | f :: fs, k, x :: xs, y :: ys, b, h, h1, h2, hx, hy => by
    simp only [List.map_cons, eqCs] at h
    split at h
    · rename_i a c ha hc
      simp only [Option.some.injEq] at h
      subst h
      simp only [RepL] at hx hy
      obtain ⟨u, ru, eu, hu1, hu2⟩ := hx
      obtain ⟨v, rv, ev, hv1, hv2⟩ := hy
      have hk : f.offset = k := by have := h2 0 f rfl; omega
      have gu : us[f.offset]? = some u := by rw [hk]; have := congrArg (·[0]?) eu; simpa using this
      have gv : vs[f.offset]? = some v := by rw [hk]; have := congrArg (·[0]?) ev; simpa using this
      obtain ⟨e1, e2⟩ := eq1_sound (P := P) (w := w) ha rfl hu1 hv1 d
      have ru' : ru = us.toList.drop (k + 1) := by
        have := congrArg (·.drop 1) eu; simpa [List.drop_drop] using this.symm
      have rv' : rv = vs.toList.drop (k + 1) := by
        have := congrArg (·.drop 1) ev; simpa [List.drop_drop] using this.symm
      subst ru' rv'
      have ih := eqCs_sound d us vs fs (k + 1) xs ys hc (fun f hf => h1 f (by simp [hf])) (fun j f hf => by have := h2 (j + 1) f (by simpa using hf); omega) hu2 hv2
      have hn := h1 f (by simp)
      simp only [Op.eqFields, ne_eq, hn, not_false_eq_true, if_true, Sem.run_bind, run_part_one e2 _ _ _ gu, run_part_one e2 _ _ _ gv, Result.andThen_ok, e1]
      cases a with
      | false => simp
      | true => simp [ih]
    · cases h

theorem run_equalIn_slice (d : Nat) {t e : TypeId} (he : P.underlying t = some (.slice e)) (base : Option Addr) (len cap : Nat) (w : World) : (Op.equalIn (d + 1) t (.slice base len cap) (.slice Option.none 0 0)).run P w = .ok base.isNone w := by
  cases base <;> simp [Op.equalIn, run_underlying he]

theorem binX_sound {op : BinOp} {t : TypeId} {x y : AV} {c : Prop} {r : AV} {ox oy : Operand} (h : binX P op t x y oy = some (c, r)) (hc : c) {ok : Ok} {u v : Value} (hv : ∀ k, oy = .const k → v = k)
    (hx : Rep w ok x γ u) (hy : Rep w ok y γ v) : ∃ z, (do eqGuard op t ox oy u v; binOp op t u v : Sem Value).run P w = .ok z w ∧ Rep w ok r γ z := by
  unfold binX at h
  split at h
  · rename_i hn
    simp only [Bool.and_eq_true] at hn
    obtain ⟨hn1, hn2⟩ := hn
    have hv0 : v = .slice Option.none 0 0 := by
      unfold isNilS at hn1
      split at hn1
      · exact hv _ rfl
      · cases hn1
    subst hv0
    obtain ⟨e, he⟩ := Option.isSome_iff_exists.1 hn2
    have hus : ∃ base len cap, u = .slice base len cap ∧ ((nilS x = some (some false) ∧ base.isNone = false) ∨ nilS x = some Option.none) := by
      cases hq : nilS x with
      | none => rw [hq] at h; simp at h
      | some q =>
        unfold nilS at hq
        split at hq <;> simp only [Option.some.injEq, reduceCtorEq] at hq <;> subst hq
        · simp only [Rep] at hx
          obtain ⟨base, cap, rfl, k1, k2, k3, k4⟩ := hx
          refine ⟨_, _, _, rfl, .inl ⟨rfl, ?_⟩⟩
          cases base with
          | none => simp only at k4; simp at k1; omega
          | some _ => rfl
        · simp only [Rep] at hx
          obtain ⟨base, cap, rfl, _⟩ := hx
          exact ⟨_, _, _, rfl, .inr rfl⟩
        · simp only [Rep] at hx
          obtain ⟨b, esz, n, cap, o, _, rfl, _⟩ := hx
          exact ⟨_, _, _, rfl, .inl ⟨rfl, rfl⟩⟩
    obtain ⟨base, len, cap, rfl, hcase⟩ := hus
    have heq : (Op.equal t (.slice base len cap) (.slice Option.none 0 0)).run P w = .ok base.isNone w := by
      exact run_equalIn_slice 9999 (und_slice he) base len cap w
    have hg : (eqGuard op t ox oy (.slice base len cap) (.slice Option.none 0 0)).run P w = .ok () w := by
      unfold eqGuard; cases op <;> simp
    rcases hcase with ⟨h1, h2⟩ | h1
    · rw [h1] at h
      simp only [Option.bind_some, ubB] at h
      rw [h2] at heq
      obtain ⟨z, z1, z2⟩ := eqB_sound (P := P) (t := t) (w := w) (ok := ok) (γ := γ) h (by rintro op (rfl | rfl) <;> rfl) heq
      exact ⟨z, by simp only [Sem.run_bind, hg, Result.andThen_ok]; exact z1, z2⟩
    · rw [h1] at h
      simp only [Option.bind_some, ubB] at h
      split at h <;> simp only [Option.some.injEq, Prod.mk.injEq, reduceCtorEq] at h <;> obtain ⟨_, rfl⟩ := h
      · exact ⟨.bool base.isNone, by
          simp only [Sem.run_bind, hg, Result.andThen_ok]
          show (do pure (.bool (← Op.equal t _ _)) : Sem Value).run P w = _
          simp only [Sem.run_bind, heq, Result.andThen_ok]; rfl, by simp only [Rep]; exact ⟨_, rfl⟩⟩
      · exact ⟨.bool (!base.isNone), by
          simp only [Sem.run_bind, hg, Result.andThen_ok]
          show (do pure (.bool (!(← Op.equal t _ _))) : Sem Value).run P w = _
          simp only [Sem.run_bind, heq, Result.andThen_ok]; rfl, by simp only [Rep]; exact ⟨_, rfl⟩⟩
  · split at h
    · rename_i cs ds
      split at h
      · rename_i ns hns
        cases hb : eqCs ns cs ds with
        | none => rw [hb] at h; simp at h
        | some b =>
          rw [hb] at h
          simp only [Option.bind_some] at h
          simp only [Rep] at hx hy
          obtain ⟨us, rfl, a1, a2⟩ := hx
          obtain ⟨vs, rfl, b1, b2⟩ := hy
          unfold tEqF at hns
          split at hns
          · rename_i fs hfs
            split at hns
            · rename_i hcond
              simp only [Option.some.injEq] at hns
              subst hns
              simp only [Bool.and_eq_true, Bool.not_eq_true', List.all_eq_true, bne_iff_ne, beq_iff_eq] at hcond
              obtain ⟨⟨⟨n1, n2⟩, n3⟩, n4⟩ := hcond
              have hfo : P.fieldsOf t = fs := by simp [Program.fieldsOf, hfs]
              have heq : (Op.equal t (.agg us) (.agg vs)).run P w = .ok b w := by
                show (Op.equalIn (9999 + 1) t _ _).run P w = _
                rw [run_equalIn_struct w 9999 t us vs (by rw [hfo]; exact hfs) n3, hfo]
                refine eqCs_sound (P := P) 9998 us vs fs.toList 0 cs ds hb n1 (fun j f hf => ?_) (by simpa using a1) (by simpa using b1)
                have := congrArg (·[j]?) n2
                simp only [List.getElem?_map, hf, Option.map_some] at this
                have hj : j < fs.size := by simpa using (List.getElem?_eq_some_iff.1 hf).1
                rw [List.getElem?_range hj] at this
                simp at this
                omega
              have hg : (eqGuard op t ox oy (.agg us) (.agg vs)).run P w = .ok () w := by
                unfold eqGuard
                cases op <;> simp [n4]
              obtain ⟨z, z1, z2⟩ := eqB_sound (P := P) (t := t) (w := w) (ok := ok) (γ := γ) h (by rintro op (rfl | rfl) <;> rfl) heq
              exact ⟨z, by simp only [Sem.run_bind, hg, Result.andThen_ok]; exact z1, z2⟩
            · cases hns
          · cases hns
      · cases h
    · exact binA_sound h hc hx hy
end Go.Aw
namespace Go.Aw
open Go
set_option linter.unusedVariables false
set_option linter.unusedSimpArgs false
set_option linter.unusedSectionVars false
variable {P : Program} {F : Fr} {γ : Locs} {st : St} {a : Act} {w : World}

/-- A text's bytes in new memory. -/
def strBytesA (P : Program) (s d : TypeId) (l : List UInt8) (nx : Nat) : Option Res :=
  match tStr P s, tElem P d with
  | true, some e => match tInt P e with
    | some .u8 => some ⟨l.length ≤ maxLen, .sl (l.map u8c) (.own nx), [(nx, .spare 1 l.length)], nx + 1⟩
    | _ => Option.none
  | _, _ => Option.none

def ofP (nx : Nat) (x : Option (Prop × AV)) : Option Res :=
  match x with
  | some (c, r) => some ⟨c, r, [], nx⟩
  | Option.none => Option.none

def ownAV (lk : Nat → Option Own) : AV → Option Own
  | .op id _ _ => lk id
  | .os id _ _ _ => lk id
  | .om id => lk id
  | .sl _ (.own id) => lk id
  | _ => Option.none

def isZero : Operand → Bool
  | .const (.int _ 0) => true
  | _ => false

def convR (P : Program) (s d : TypeId) (x : AV) (nx : Nat) : Option Res :=
  match convA P s d x with
  | some (c, r) => some ⟨c, r, [], nx⟩
  | Option.none => match x with
    | .str l => strBytesA P s d l nx
    | _ => Option.none

/-- A walk's wish: the first elements go into a row of one's own. -/
def wishF : Nat := 1000000007

def builtinR (P : Program) (fresh : Bool) (b : Builtin) (ts : List TypeId) (rd : Operand → AV) (as : List Operand) (lk : Nat → Option Own) (nx : Nat) : Option Res :=
  match b, ts, as with
  | .len, [t], [x] => ofP nx (lenA P t (rd x) (ownAV lk (rd x)))
  | .append, [t, u], [s, x] => match appendO P t u (rd s) (rd x) (ownAV lk (rd s)) (ownAV lk (rd x)) fresh nx with
    | some R => some R
    | Option.none => match appendA P t u (rd s) (rd x) (ownAV lk (rd s)) nx with
      | some R => some R
      | Option.none => appendZ P t u (rd s) (rd x) (ownAV lk (rd s)) nx
  | .cap, [t], [x] => ofP nx (capA P t (rd x))
  | .copy, [t, u], [s, x] => copyA P t u (rd s) (rd x) (ownAV lk (rd s)) (ownAV lk (rd x)) nx
  | .min, _, as => ofP nx ((minA false (as.map rd)).map fun r => (True, r))
  | .max, _, as => ofP nx ((minA true (as.map rd)).map fun r => (True, r))
  | _, _, _ => Option.none

/-- An operation off what is known. -/
def opG (P : Program) (T : Tab) (o : Op) (rd : Operand → AV) (lk : Nat → Option Own) (nx : Nat) : Option Res :=
  match o with
  | .move x => some ⟨True, rd x, [], nx⟩
  | .assign x => some ⟨True, rd x, [], nx⟩
  | .box t x => boxA P t (rd x) nx
  | .alloc t => allocA P t nx
  | .build t ps => ofP nx (buildA P t (ps.toList.map fun (i, x) => (i, rd x)))
  | .buildSlice t n ps => buildSliceA P t n (ps.toList.map fun (i, x) => (i, rd x)) nx
  | .load t x => ofP nx (loadA P t (rd x) (ownAV lk (rd x)))
  | .store t x y => storeA P t (rd x) (rd y) (ownAV lk (rd x)) nx
  | .nilCheck x => ofP nx (nilCheckA (rd x))
  | .binOp op t x y _ => ofP nx (binX P op t (rd x) (rd y) y)
  | .unOp op _ x => ofP nx ((unA op (rd x)).map fun r => (True, r))
  | .convert s d x => convR P s d (rd x) nx
  | .makeInterface t x => ofP nx (makeIfcA P t (rd x))
  | .makeFunc (.func f) first caps => some ⟨True, .fn f (first.toList.map rd) (caps.toList.map rd), [], nx⟩
  | .makeMap t Option.none => some (makeMapA t nx)
  | .makeSlice t l c => makeSliceA P t (isZero l) (rd l) (rd c) nx
  | .slice t x lo hi mx => if mx.isSome && hi.isNone then Option.none else ofP nx (sliceA P t (rd x) (lo.map rd) (hi.map rd) (mx.map rd) (ownAV lk (rd x)))
  | .fieldAddr t x f => ofP nx (fieldAddrA P t (rd x) f)
  | .field t x f => ofP nx (fieldA P t (rd x) f)
  | .indexAddr t x i => ofP nx (indexAddrA P t (rd x) (rd i) (ownAV lk (rd x)))
  | .index t x i => ofP nx (indexA P t (rd x) (rd i))
  | .lookup t x i ok => ofP nx (lookupA P t (rd x) (rd i) ok (ownAV lk (rd x)))
  | .mapUpdate t m k x => mapUpdateA P t (rd m) (rd k) (rd x) (ownAV lk (rd m)) nx
  | .extract x i => ofP nx (extractA (rd x) i)
  | .call c =>
    match c.callee with
    | .builtin b => builtinR P (T wishF).isSome b c.argTypes.toList rd c.args.toList lk nx
    | .value f => match rd f with
      | .fn g first caps => callA T lk g (first ++ c.args.toList.map rd ++ caps) nx
      | _ => Option.none
    | _ => Option.none
  | _ => Option.none

/-- Behind an operation. -/
def applyR (st : St) (d : Option Nat) (R : Res) : St := { env := putE st.env d R.r, own := R.up ++ st.own, next := R.nx, nt := st.nt }

def After (P : Program) (F : Fr) (γ0 : Locs) (w0 : World) (st : St) (d : Option Nat) (R : Res) (a' : Act) (w' : World) : Prop := ∃ γ', Inv F γ' (applyR st d R) a' w' ∧ Left F γ0 γ' w0 w'

theorem after_of {γ0 γ' : Locs} {w0 w' : World} {d : Option Nat} {R : Res} {z : Value} (hd : dstOk d st.nt = true) (hL : Left F γ0 γ' w0 w') (hI : Inv F γ' { st with own := R.up ++ st.own, next := R.nx } a w') (hz : Rep w' (okOf F γ' w') R.r γ' z) :
    After P F γ0 w0 st d R (a.put d z) w' := ⟨γ', hI.putE hd hz, hL⟩

theorem wp_does {o : Oper} {R : Res} {Q : Exit → Act → World → Prop} {s : Sem Value} (hrun : ∀ w, (execOp a.eval o).run P w = (s.run P w).andThen fun v w' => .ok (.value v) w')
    (hd : dstOk o.dst st.nt = true) {γ0 : Locs} {w0 : World} (hL : Left F γ0 γ w0 w) (h : Does P F γ st a w s R) : o.wp P a w (After P F γ0 w0 st o.dst R) Q := by
  obtain ⟨z, w', γ', h1, h2, h3, h4⟩ := h
  exact wp_value (by rw [hrun, h1]; rfl) (after_of (P := P) hd (hL.trans h3) h2 h4)

theorem does_quiet {s : Sem Value} {c : Prop} {r : AV} {nx : Nat} (hI : Inv F γ st a w) (h : ∃ z, s.run P w = .ok z w ∧ Rep w (okOf F γ w) r γ z) : Does P F γ st a w s ⟨c, r, [], nx⟩ := by
  obtain ⟨z, h1, h2⟩ := h
  exact ⟨z, w, γ, h1, { hI with env := hI.env }, Left.refl _ _ _, h2⟩

theorem ofP_some {nx : Nat} {x : Option (Prop × AV)} {R : Res} (h : ofP nx x = some R) : ∃ c r, x = some (c, r) ∧ R = ⟨c, r, [], nx⟩ := by
  unfold ofP at h
  split at h
  · simp only [Option.some.injEq] at h; exact ⟨_, _, rfl, h.symm⟩
  · cases h

theorem strBytesA_sound (hI : Inv F γ st a w) {s d : TypeId} {l : List UInt8} {R : Res} (h : strBytesA P s d l st.next = some R) (hc : R.c) (hfresh : look st.own st.next = Option.none) :
    Does P F γ st a w (convert s d (.string ⟨l.toArray⟩)) R := by
  unfold strBytesA at h
  split at h
  · rename_i e hs he
    split at h
    · rename_i hk
      simp only [Option.some.injEq] at h
      subst h
      have hg := look_none_of hI hfresh
      let cap := grownCap w l.length 0 e
      have hcg : l.length ≤ cap := grownCap_ge w _ _ _
      have hcm : cap ≤ maxLen := grownCap_le_maxLen w _ _ _ hc
      let cells : Array Value := (⟨l.toArray⟩ : ByteArray).data.map (fun b => Value.int .u8 b.toNat) ++ Array.replicate (cap - l.length) (Value.int .u8 0)
      have hcs : cells.size = cap := by simp [cells]; omega
      let w1 : World := w.drew.alloc (.cells cells e)
      let w2 : World := w1.freeze ⟨w.heap.size, cap, Option.none⟩ 1
      have hh1 : w1.heap[w.heap.size]? = some (.cells cells e) := alloc_new w.drew _
      have hs1 : w1.heap.size = w.heap.size + 1 := alloc_size w.drew _
      have hh2 : w2.heap[w.heap.size]? = some (.cells cells e (cap, cap + 1)) := by
        show (World.freeze w1 ⟨w.heap.size, cap, Option.none⟩ 1).heap[w.heap.size]? = _
        simp [World.freeze, Array.getElem?_modify, hh1]
      have hs2 : w2.heap.size = w.heap.size + 1 := by
        show (World.freeze w1 ⟨w.heap.size, cap, Option.none⟩ 1).heap.size = _
        simp [World.freeze, hs1]
      have hold : ∀ k, k < w.heap.size → w2.heap[k]? = w.heap[k]? := by
        intro k hk
        show (World.freeze w1 ⟨w.heap.size, cap, Option.none⟩ 1).heap[k]? = _
        simp only [World.freeze, Nat.one_ne_zero, if_false, Array.getElem?_modify]
        rw [if_neg (by omega)]
        exact alloc_old w.drew _ k hk
      obtain ⟨q1, q2⟩ := hI.upd (id := st.next) (nx := st.next + 1) (obj := .spare 1 l.length) (l' := .spare 1 l.length w.heap.size l.length cap) (w' := w2) rfl rfl rfl (by omega)
        (fun l hl => by rw [hg] at hl; cases hl) (fun c hc _ => hold c hc) (fun c o hco => cell_eq_of_heap (hold c hco.1)) (fun c hc => by cases hc; exact .inl ⟨Nat.le_refl _, by omega⟩)
        (fun c o hco => fun e => by have := hco.1; omega)
        (fun hL => .inr ⟨w.heap.size, l.length, cap, cells, e, (cap, cap + 1), by simp [Locs.set], hh2, hcs, hcg, fun o h1 h2 => by simp only at h2; omega⟩)
      refine ⟨.slice (some ⟨w.heap.size, 0, Option.none⟩) l.length cap, w2, _, ?_, q1, q2, ?_⟩
      · have hsz : (⟨l.toArray⟩ : ByteArray).size = l.length := size_toArray' l
        unfold convert
        simp only [Sem.run_bind, run_underlying (und_str hs), run_underlying (und_slice he), Result.andThen_ok, run_underlying (und_int hk)]
        unfold Conv.stringToBytes
        simp only [hsz]
        have hchoose : (choose (Question.appendCap l.length 0 e)).run P w = .ok cap w.drew := by
          show (if (Question.appendCap l.length 0 e).forced then _ else _) = _
          rfl
        simp only [Sem.run_bind, hchoose, Result.andThen_ok]
        have hnew : (newRow e cells).run P w.drew = .ok ⟨w.heap.size, 0, Option.none⟩ w1 := rfl
        have hc' : ((⟨l.toArray⟩ : ByteArray).data.map (fun b => Value.int .u8 b.toNat) ++ Array.replicate (cap - l.length) (Value.int .u8 0)) = cells := rfl
        simp only [hc', hnew, Result.andThen_ok]
        have hms : (markStringish ⟨w.heap.size, 0, Option.none⟩).run P w1 = .ok () w2 := by
          have hsh : w1.shape? w.heap.size = some (e, cap) := by simp [World.shape?, hh1, hcs]
          unfold markStringish
          simp [shape, Sem.run, hsh, freeze, w2]
        simp only [hms, Result.andThen_ok, Sem.run_pure]
      · simp only [Rep]
        refine ⟨some ⟨w.heap.size, 0, Option.none⟩, cap, by simp, by simpa using hcg, hcm, ?_, rfl, RepEs_flatten ?_⟩
        · unfold spareOk
          simp only [Locs.set, if_true, List.length_map]
          exact ⟨Nat.le_refl _, fun _ => .inr ⟨0, rfl, by simp, by simp⟩⟩
        · refine RepC_of_block hh2 (u8_vals l _ _) (by intro u hu; obtain ⟨b, _, rfl⟩ := List.mem_map.1 hu; rfl) ?_ ?_
          · intro j u hj
            have hjl : j < l.length := by
              rcases Nat.lt_or_ge j l.length with h | h
              · exact h
              · rw [List.getElem?_eq_none (by simpa using h)] at hj; cases hj
            simp only [cells, Nat.zero_add]
            rw [Array.getElem?_append_left (by simpa using hjl)]
            simpa using hj
          · intro j hj
            have hjl : j < l.length := by simpa using hj
            refine ⟨by omega, fun h => by have := hI.size; omega, fun i l' hl => ?_⟩
            unfold Locs.set at hl
            split at hl
            · cases hl; exact fun _ => by simpa using hjl
            · have : ∀ b, l'.block = some b → w.heap.size ≠ b := fun b hb => by have := (hI.blk i l' b hl hb).1; omega
              cases l' with
              | arr b _ _ => exact this b rfl
              | map b => exact this b rfl
              | spare _ _ b _ _ => exact fun e => absurd e (this b rfl)
              | full _ _ => trivial
              | dead _ _ _ => trivial
    · cases h
  · cases h
end Go.Aw
namespace Go.Aw
open Go
set_option linter.unusedVariables false
set_option linter.unusedSimpArgs false
set_option linter.unusedSectionVars false
variable {P : Program} {F : Fr} {γ : Locs} {st : St} {a : Act} {w : World}

theorem run_then {s : Sem Value} {w : World} : (do let x ← s; pure (Next.value x) : Sem Next).run P w = (s.run P w).andThen fun v w' => .ok (.value v) w' := by
  simp only [Sem.run_bind, Sem.run_pure]

theorem rep_map {ok : Ok} {rd : Operand → AV} : ∀ (xs : List Operand), (∀ x ∈ xs, Rep w ok (rd x) γ (a.eval x)) → RepL w ok (xs.map rd) γ (xs.map a.eval)
  | [], _ => by simp [RepL]
  | x :: xs, h => by
    simp only [List.map_cons, RepL]
    exact ⟨_, _, rfl, h x (by simp), rep_map xs fun y hy => h y (by simp [hy])⟩

theorem exec_sound {T : Tab} (hT : ∀ f C, T f = some C → Good P f C) {γ0 : Locs} {w0 : World} (hL : Left F γ0 γ w0 w) (hI : Inv F γ st a w) {o : Oper} {rd : Operand → AV} (hrd : ∀ x ∈ o.op.operands.toList, Rep w (okOf F γ w) (rd x) γ (a.eval x))
    {lk : Nat → Option Own} (hlk : ∀ id o, lk id = some o → look st.own id = some o) {nx : Nat} {R : Res} (h : opG P T o.op rd lk nx = some R) (hc : R.c)
    (hfr : ∀ id, nx ≤ id → id < R.nx → look st.own id = Option.none) (hd : dstOk o.dst st.nt = true) {Q : Exit → Act → World → Prop} : o.wp P a w (After P F γ0 w0 st o.dst R) Q := by
  have hI' : Inv F γ { st with next := nx } a w := { hI with env := hI.env }
  have ownOp : ∀ (x : AV) id i off o, x = .op id i off → ownAV lk x = some o → look st.own id = some o := by
    rintro x id i off o rfl h; exact hlk id o h
  have ownOs : ∀ (x : AV) id i off cp o, x = .os id i off cp → ownAV lk x = some o → look st.own id = some o := by
    rintro x id i off cp o rfl h; exact hlk id o h
  have ownOm : ∀ (x : AV) id o, x = .om id → ownAV lk x = some o → look st.own id = some o := by
    rintro x id o rfl h; exact hlk id o h
  have ownSl : ∀ (x : AV) xs id o, x = .sl xs (.own id) → ownAV lk x = some o → look st.own id = some o := by
    rintro x xs id o rfl h; exact hlk id o h
  have fin : ∀ {s : Sem Value} {R' : Res}, execOp a.eval o = (do let x ← s; pure (Next.value x)) → Does P F γ { st with next := nx } a w s R' → o.wp P a w (After P F γ0 w0 st o.dst R') Q := by
    intro s R' he hdo
    refine wp_does (P := P) (γ := γ) (s := s) (fun w => by rw [he, run_then]) hd hL ?_
    obtain ⟨z, w', γ', h1, h2, h3, h4⟩ := hdo
    exact ⟨z, w', γ', h1, h2, h3, h4⟩
  have quiet : ∀ {s : Sem Value} {x : Option (Prop × AV)}, execOp a.eval o = (do let x ← s; pure (Next.value x)) → ofP nx x = some R → (∀ c r, x = some (c, r) → c → ∃ z, s.run P w = .ok z w ∧ Rep w (okOf F γ w) r γ z) → o.wp P a w (After P F γ0 w0 st o.dst R) Q := by
    intro s x he hx hs
    obtain ⟨c, r, rfl, rfl⟩ := ofP_some hx
    exact fin he (does_quiet (st := { st with next := nx }) hI' (hs c r rfl hc))
  obtain ⟨dst, op, type, pos, after, guard⟩ := o
  simp only at h hrd fin quiet hd ⊢
  cases op <;> simp only [opG, reduceCtorEq] at h
  case move x =>
    simp only [Option.some.injEq] at h
    subst h
    exact wp_value (by simp only [execOp]; rfl) (after_of (P := P) hd hL { hI with env := hI.env } (hrd x (by simp [Op.operands])))
  case assign x =>
    simp only [Option.some.injEq] at h
    subst h
    exact wp_value (by simp only [execOp]; rfl) (after_of (P := P) hd hL { hI with env := hI.env } (hrd x (by simp [Op.operands])))
  case box t x => 
    have hx := hrd x (by simp [Op.operands])
    refine fin rfl (boxA_sound (st := { st with next := nx }) hI' h ?_ hx)
    unfold boxA at h
    split at h
    · simp only [Option.some.injEq] at h; subst h; exact hfr nx (Nat.le_refl _) (Nat.lt_succ_self _)
    · cases h
  case alloc t =>
    refine fin rfl (allocA_sound (st := { st with next := nx }) hI' h ?_)
    unfold allocA at h
    split at h
    · simp only [Option.some.injEq] at h; subst h; exact hfr nx (Nat.le_refl _) (Nat.lt_succ_self _)
    · cases h
  case build t ps =>
    refine quiet rfl h fun c r hx hcc => buildA_sound hx hcc (by simp) ?_
    intro j i x u k h1 h2
    simp only [List.getElem?_map, Array.getElem?_toList, Array.getElem?_map] at h1 h2
    cases hp : ps[j]? with
    | none => rw [hp] at h1; cases h1
    | some p =>
      rw [hp] at h1 h2
      simp only [Option.map_some, Option.some.injEq, Prod.mk.injEq] at h1 h2
      obtain ⟨rfl, rfl⟩ := h1
      obtain ⟨rfl, rfl⟩ := h2
      exact ⟨rfl, hrd _ (by simp only [Op.operands, List.toList_toArray]; exact List.mem_map_of_mem (Array.mem_toList_iff.2 (Array.mem_of_getElem? hp)))⟩
  case buildSlice t n ps =>
    refine fin rfl (buildSliceA_sound (st := { st with next := nx }) hI' h hc (by simp) ?_)
    intro j i x u k h1 h2
    simp only [List.getElem?_map, Array.getElem?_toList, Array.getElem?_map] at h1 h2
    cases hp : ps[j]? with
    | none => rw [hp] at h1; cases h1
    | some p =>
      rw [hp] at h1 h2
      simp only [Option.map_some, Option.some.injEq, Prod.mk.injEq] at h1 h2
      obtain ⟨rfl, rfl⟩ := h1
      obtain ⟨rfl, rfl⟩ := h2
      exact ⟨rfl, hrd _ (by simp only [Op.operands, List.toList_toArray]; exact List.mem_map_of_mem (Array.mem_toList_iff.2 (Array.mem_of_getElem? hp)))⟩
  case load t x => exact quiet rfl h fun c r hx hcc => loadA_sound hI hx hcc (ownOp _) (hrd x (by simp [Op.operands]))
  case store t x y =>
    obtain ⟨w', γ', h1, h2, h3, h4⟩ := storeA_sound (st := { st with next := nx }) hI' h hc (ownOp _) (hrd x (by simp [Op.operands])) (hrd y (by simp [Op.operands]))
    exact wp_skipv (by simp only [execOp, Sem.run_bind, h1]; rfl) (after_of (P := P) hd (hL.trans h3) h2 h4)
  case nilCheck x =>
    obtain ⟨c, r, hx, rfl⟩ := ofP_some h
    obtain ⟨z, h1, h2⟩ := nilCheckA_sound (P := P) (o := ⟨dst, .nilCheck x, type, pos, after, guard⟩) (y := x) hx rfl (hrd x (by simp [Op.operands]))
    exact wp_value h1 (after_of (P := P) hd hL { hI with env := hI.env } h2)
  case binOp op t x y ty => exact quiet rfl h fun c r hx hcc => binX_sound hx hcc (fun k hk => by subst hk; rfl) (hrd x (by simp [Op.operands])) (hrd y (by simp [Op.operands]))
  case unOp op t x =>
    refine quiet rfl h fun c r hx hcc => ?_
    cases hu : unA op (rd x) with
    | none => rw [hu] at hx; cases hx
    | some r' =>
      rw [hu] at hx
      simp only [Option.map_some, Option.some.injEq, Prod.mk.injEq] at hx
      obtain ⟨_, rfl⟩ := hx
      exact unA_sound hu (hrd x (by simp [Op.operands]))
  case convert s d x =>
    unfold convR at h
    have hx := hrd x (by simp [Op.operands])
    split at h
    · rename_i c r hcv
      simp only [Option.some.injEq] at h
      subst h
      exact fin rfl (does_quiet (st := { st with next := nx }) hI' (convA_sound hcv hc hx))
    · split at h
      · rename_i l hl
        rw [hl] at hx
        simp only [Rep] at hx
        refine fin (s := convert s d (a.eval x)) rfl ?_
        rw [hx]
        refine strBytesA_sound (st := { st with next := nx }) hI' h hc ?_
        unfold strBytesA at h
        split at h
        · split at h
          · simp only [Option.some.injEq] at h; subst h; exact hfr nx (Nat.le_refl _) (Nat.lt_succ_self _)
          · cases h
        · cases h
      · cases h
  case makeInterface t x => exact quiet rfl h fun c r hx hcc => makeIfcA_sound hx (hrd x (by simp [Op.operands]))
  case makeFunc fn first caps =>
    cases fn <;> simp only [reduceCtorEq] at h
    simp only [Option.some.injEq] at h
    subst h
    rename_i f
    refine wp_value (w' := w) (v := .func (.func f) (first.map a.eval) (caps.map a.eval)) (by simp only [execOp, Instr.makeFunc]; rfl) (after_of (P := P) hd hL { hI with env := hI.env } ?_)
    simp only [Rep]
    exact ⟨_, _, rfl, by simpa using rep_map first.toList fun x hx => hrd x (by simp [Op.operands]; exact .inl (by simpa using hx)), by simpa using rep_map caps.toList fun x hx => hrd x (by simp [Op.operands]; exact .inr (by simpa using hx))⟩
  case makeMap t r =>
    cases r <;> simp only [reduceCtorEq] at h
    simp only [Option.some.injEq] at h
    subst h
    exact fin rfl (makeMapA_sound (st := { st with next := nx }) hI' (hfr nx (Nat.le_refl _) (Nat.lt_succ_self _)))
  case makeSlice t l c =>
    refine fin rfl (makeSliceA_sound (st := { st with next := nx }) hI' h hc ?_ (hrd l (by simp [Op.operands])) (hrd c (by simp [Op.operands])))
    unfold makeSliceA at h
    split at h
    · split at h
      · split at h <;> (simp only [Option.some.injEq] at h; subst h; exact hfr nx (Nat.le_refl _) (Nat.lt_succ_self _))
      · cases h
    · cases h
  case slice t x lo hi mx =>
    split at h
    · cases h
    · rename_i hmx
      refine quiet rfl h fun c r hx hcc => sliceA_sound hI hx hcc (ownOs _) (hrd x (by simp [Op.operands])) ?_ ?_ ?_ ?_ ?_ ?_ ?_
      · intro y hy; cases lo with
        | none => cases hy
        | some l => simp only [Option.map_some, Option.some.injEq] at hy ⊢; subst hy; exact ⟨_, rfl, hrd l (by simp [Op.operands])⟩
      · intro hy; cases lo with
        | none => rfl
        | some l => cases hy
      · intro y hy; cases hi with
        | none => cases hy
        | some l => simp only [Option.map_some, Option.some.injEq] at hy ⊢; subst hy; exact ⟨_, rfl, hrd l (by simp [Op.operands])⟩
      · intro hy; cases hi with
        | none => rfl
        | some l => cases hy
      · intro y hy; cases mx with
        | none => cases hy
        | some l => simp only [Option.map_some, Option.some.injEq] at hy ⊢; subst hy; exact ⟨_, rfl, hrd l (by simp [Op.operands])⟩
      · intro hy; cases mx with
        | none => rfl
        | some l => cases hy
      · intro h1; cases mx with
        | none => exact absurd rfl h1
        | some l => cases hi with
          | none => simp at hmx
          | some l2 => simp
  case fieldAddr t x f => exact quiet rfl h fun c r hx hcc => fieldAddrA_sound hx hcc (hrd x (by simp [Op.operands]))
  case field t x f => exact quiet rfl h fun c r hx hcc => fieldA_sound hx hcc (hrd x (by simp [Op.operands]))
  case indexAddr t x i => exact quiet rfl h fun c r hx hcc => indexAddrA_sound hI hx hcc (ownOs _) (hrd x (by simp [Op.operands])) (hrd i (by simp [Op.operands]))
  case index t x i => exact quiet rfl h fun c r hx hcc => indexA_sound hx hcc (hrd x (by simp [Op.operands])) (hrd i (by simp [Op.operands]))
  case lookup t x i ok => exact quiet rfl h fun c r hx hcc => lookupA_sound hI hx hcc (ownOm _) (hrd x (by simp [Op.operands])) (hrd i (by simp [Op.operands]))
  case mapUpdate t m k x =>
    obtain ⟨w', γ', h1, h2, h3, h4⟩ := mapUpdateA_sound (st := { st with next := nx }) hI' h hc (ownOm _) (hrd m (by simp [Op.operands])) (hrd k (by simp [Op.operands])) (hrd x (by simp [Op.operands]))
    exact wp_skipv (by simp only [execOp, Sem.run_bind, h1]; rfl) (after_of (P := P) hd (hL.trans h3) h2 h4)
  case extract x i => exact quiet rfl h fun c r hx hcc => extractA_sound hx (hrd x (by simp [Op.operands]))
  case call c =>
    obtain ⟨callee, args, ats⟩ := c
    cases callee <;> simp only [reduceCtorEq] at h
    case value f =>
      split at h
      · rename_i g first caps hf
        have hff := hrd f (by simp [Op.operands, Call.operands])
        rw [hf] at hff
        simp only [Rep] at hff
        obtain ⟨fs, cs, he, h1, h2⟩ := hff
        have hargs := rep_map (rd := rd) (ok := okOf F γ w) args.toList (fun x hx => hrd x (by simp [Op.operands, Call.operands]; exact .inr (by simpa using hx)))
        have hcall := callA_sound hT hI hlk h hc hfr (RepL_append (RepL_append h1 hargs) h2)
        unfold Oper.wp execOp
        simp only [resolve, he, Deferred.ofValue, Sem.run_bind, Sem.run_pure, Result.andThen_ok, invoke]
        have hvs : fs ++ Array.map a.eval args ++ cs = (fs.toList ++ args.toList.map a.eval ++ cs.toList).toArray := by
          apply Array.ext'; simp
        rw [hvs]
        exact hcall _ a _ _ fun v w' ⟨γ', k1, k2, k3⟩ => after_of (P := P) hd (hL.trans k2) k1 k3
      · cases h
    case builtin b =>
      have hex : ∀ (s : Sem Value), (∀ ty cs, builtin b ats ty cs (args.map a.eval) = (do let x ← s; pure (Next.value x))) → execOp a.eval ⟨dst, .call ⟨.builtin b, args, ats⟩, type, pos, after, guard⟩ = (do let x ← s; pure (Next.value x)) := by
        intro s hs
        simp only [execOp, resolve, invoke]
        exact hs _ _
      unfold builtinR at h
      split at h
      · rename_i t x hts has
        have ha : ats = #[t] := by apply Array.ext'; simpa using hts
        have hb : args = #[x] := by apply Array.ext'; simpa using has
        subst ha hb
        exact quiet (s := Builtin.len_ #[t] type #[a.eval x]) (by simp [execOp, resolve, invoke, builtin]) h fun c r hx hcc => lenA_sound hI hx (ownOm _) (hrd x (by simp [Op.operands, Call.operands]))
      · rename_i t u s x hts has
        have ha : ats = #[t, u] := by apply Array.ext'; simpa using hts
        have hb : args = #[s, x] := by apply Array.ext'; simpa using has
        subst ha hb
        exact fin (s := Builtin.append_ #[t, u] type #[a.eval s, a.eval x]) (by simp [execOp, resolve, invoke, builtin])
          (by
            split at h
            · rename_i R' hR'
              simp only [Option.some.injEq] at h
              subst h
              exact appendO_sound (st := { st with next := nx }) hI' hR' hc hfr (ownOs _) (ownOs _) (hrd s (by simp [Op.operands, Call.operands])) (hrd x (by simp [Op.operands, Call.operands]))
            · split at h
              · rename_i R' hR'
                simp only [Option.some.injEq] at h
                subst h
                exact appendA_sound (st := { st with next := nx }) hI' hR' hc hfr (ownSl _) (hrd s (by simp [Op.operands, Call.operands])) (hrd x (by simp [Op.operands, Call.operands]))
              · exact appendZ_sound (st := { st with next := nx }) hI' h hc hfr (ownOs _) (hrd s (by simp [Op.operands, Call.operands])) (hrd x (by simp [Op.operands, Call.operands])))
      · rename_i t x hts has
        have ha : ats = #[t] := by apply Array.ext'; simpa using hts
        have hb : args = #[x] := by apply Array.ext'; simpa using has
        subst ha hb
        exact quiet (s := Builtin.cap_ #[t] type #[a.eval x]) (by simp [execOp, resolve, invoke, builtin]) h fun c r hx hcc => capA_sound hx (hrd x (by simp [Op.operands, Call.operands]))
      · rename_i t u s x hts has
        have ha : ats = #[t, u] := by apply Array.ext'; simpa using hts
        have hb : args = #[s, x] := by apply Array.ext'; simpa using has
        subst ha hb
        exact fin (s := Builtin.copy_ #[t, u] type #[a.eval s, a.eval x]) (by simp [execOp, resolve, invoke, builtin])
          (copyA_sound (st := { st with next := nx }) hI' h hc (ownOs _) (ownOs _) (hrd s (by simp [Op.operands, Call.operands])) (hrd x (by simp [Op.operands, Call.operands])))
      · refine quiet (s := Builtin.min_ ats type (args.map a.eval)) rfl h fun c r hx hcc => ?_
        cases hm : minA false (args.toList.map rd) with
        | none => rw [hm] at hx; cases hx
        | some r' =>
          rw [hm] at hx
          simp only [Option.map_some, Option.some.injEq, Prod.mk.injEq] at hx
          obtain ⟨_, rfl⟩ := hx
          exact minA_sound (mx := false) (ats := ats) (ty := type) hm (by simpa using rep_map (rd := rd) (ok := okOf F γ w) args.toList (fun x hx => hrd x (by simp [Op.operands, Call.operands]; simpa using hx)))
      · refine quiet (s := Builtin.max_ ats type (args.map a.eval)) rfl h fun c r hx hcc => ?_
        cases hm : minA true (args.toList.map rd) with
        | none => rw [hm] at hx; cases hx
        | some r' =>
          rw [hm] at hx
          simp only [Option.map_some, Option.some.injEq, Prod.mk.injEq] at hx
          obtain ⟨_, rfl⟩ := hx
          exact minA_sound (mx := true) (ats := ats) (ty := type) hm (by simpa using rep_map (rd := rd) (ok := okOf F γ w) args.toList (fun x hx => hrd x (by simp [Op.operands, Call.operands]; simpa using hx)))
      · cases h
end Go.Aw