import Derived.Test.YtgabhnekhdfhcaaSC
namespace Go.Aw
open Go Go.Proofs
set_option maxRecDepth 100000
set_option linter.unusedVariables false
set_option linter.unusedSimpArgs false
/-! ### rows of jobs: the plain part -/
structure Chk (js : List Job) : Prop where
  len : js.length ≤ 4096
  right : ∀ x ∈ js, jRight x = true
  ids : (js.map (·.id)).Nodup
  sorted : js.Pairwise jLt
  fresh : ∀ x ∈ js.tail, x.gone = 0

theorem at'_mem {js : List Job} {i : Nat} (h : i < js.length) : at' js i ∈ js := by
  simp only [at', List.getD, List.getElem?_eq_getElem h, Option.getD_some]; exact List.getElem_mem h
theorem at'_get {js : List Job} {i : Nat} (h : i < js.length) : at' js i = js[i] := by
  simp only [at', List.getD, List.getElem?_eq_getElem h, Option.getD_some]
theorem right_gone {x : Job} (h : jRight x = true) : 0 ≤ x.gone ∧ x.gone < x.size ∧ 0 ≤ x.prio ∧ x.prio ≤ 2 ∧ 1 ≤ x.size ∧ x.size ≤ 65536 ∧ 0 ≤ x.id ∧ x.id ≤ 4611686018427387904 := by
  simp [jRight] at h; omega
theorem chk_of {js : List Job} (h : jCheck js = true) : Chk js := by
  have hs := (check_spec js).1 h
  have hr : ∀ x ∈ js, jRight x = true := by
    intro x hx
    obtain ⟨i, hi, rfl⟩ := List.mem_iff_getElem.1 hx
    have := (hs i hi).2.1
    rwa [at'_get hi] at this
  refine ⟨check_len h, hr, ?_, ?_, ?_⟩
  · rw [List.nodup_iff_pairwise_ne, List.pairwise_iff_getElem]
    intro i j hi hj hij
    simp only [List.length_map] at hi hj
    have := (hs j hj).2.2.1 i hij
    rw [at'_get hi, at'_get hj] at this
    simpa using this
  · rw [List.pairwise_iff_getElem]
    intro i j hi hj hij
    have := check_lt h (j - i - 1) i (by omega)
    rw [show i + (j - i - 1) + 1 = j by omega, at'_get hi, at'_get hj] at this
    exact this
  · intro x hx
    obtain ⟨i, hi, rfl⟩ := List.mem_iff_getElem.1 hx
    simp only [List.length_tail] at hi
    have h1 := ((hs (i + 1) (by omega)).2.2.2 (by omega)).1
    rw [at'_get (by omega)] at h1
    have h2 := right_gone (hr js[i + 1] (List.getElem_mem _))
    simp only [List.getElem_tail]
    omega
theorem chk_check {js : List Job} (h : Chk js) : jCheck js = true := by
  rw [check_spec]
  intro i hi
  refine ⟨h.len, h.right _ (at'_mem hi), ?_, ?_⟩
  · intro k hk e
    have := h.ids
    rw [List.nodup_iff_pairwise_ne, List.pairwise_iff_getElem] at this
    refine this k i (by simpa using (show k < js.length by omega)) (by simpa using hi) hk ?_
    rw [at'_get hi, at'_get (show k < js.length by omega)] at e
    simpa using e
  · intro h0
    have hp := List.pairwise_iff_getElem.1 h.sorted (i - 1) i (by omega) hi (by omega)
    rw [at'_get hi, at'_get (show i - 1 < js.length by omega)]
    refine ⟨?_, hp⟩
    have : js[i] ∈ js.tail := by
      rw [List.mem_iff_getElem]
      exact ⟨i - 1, by simp; omega, by simp only [List.getElem_tail]; congr 1; omega⟩
    rw [h.fresh _ this]; omega

theorem jLt_total (a b : Job) (h : a.id ≠ b.id) : jLt a b ∨ jLt b a := by unfold jLt; omega
theorem put_take (r : List Job) (x : Job) : r.take (bsPos r x) = r.takeWhile fun y => decide (jOrder y x < 0) := by
  unfold bsPos
  generalize (fun y => decide (jOrder y x < 0)) = p
  induction r with
  | nil => rfl
  | cons y r ih => by_cases h : p y <;> simp [List.takeWhile_cons, h, ih]
theorem put_drop (r : List Job) (x : Job) : r.drop (bsPos r x) = r.dropWhile fun y => decide (jOrder y x < 0) := by
  unfold bsPos
  generalize (fun y => decide (jOrder y x < 0)) = p
  induction r with
  | nil => rfl
  | cons y r ih => by_cases h : p y <;> simp [List.takeWhile_cons, List.dropWhile_cons, h, ih]
theorem take_lt {r : List Job} {x y : Job} (h : y ∈ r.take (bsPos r x)) : jLt y x := by
  rw [put_take] at h
  have : ∀ (l : List Job), y ∈ (l.takeWhile fun y => decide (jOrder y x < 0)) → jLt y x := by
    intro l
    induction l with
    | nil => intro h; simp at h
    | cons z l ih =>
      intro h
      rw [List.takeWhile_cons] at h
      split at h
      · rename_i hz
        rcases List.mem_cons.1 h with rfl | h
        · exact (jOrder_neg _ _).1 (by simpa using hz)
        · exact ih h
      · simp at h
  exact this r h
theorem drop_ge {r : List Job} {x y : Job} (hs : r.Pairwise jLt) (h : y ∈ r.drop (bsPos r x)) : ¬ jLt y x := by
  rw [put_drop] at h
  have : ∀ (l : List Job), l.Pairwise jLt → y ∈ (l.dropWhile fun y => decide (jOrder y x < 0)) → ¬ jLt y x := by
    intro l
    induction l with
    | nil => intro _ h; simp at h
    | cons z l ih =>
      intro hp h
      rw [List.dropWhile_cons] at h
      split at h
      · exact ih (List.pairwise_cons.1 hp).2 h
      · rename_i hz
        have hz' : ¬ jLt z x := fun hl => hz (by simpa using (jOrder_neg _ _).2 hl)
        rcases List.mem_cons.1 h with rfl | h
        · exact hz'
        · exact fun hl => hz' (jLt_trans ((List.pairwise_cons.1 hp).1 y h) hl)
  exact this r hs h
theorem put_mem {r : List Job} {x y : Job} : y ∈ putJ r x ↔ y = x ∨ y ∈ r := by
  unfold putJ
  rw [List.mem_append, List.mem_cons]
  constructor
  · rintro (h | h | h)
    · exact .inr (List.mem_of_mem_take h)
    · exact .inl h
    · exact .inr (List.mem_of_mem_drop h)
  · rintro (h | h)
    · exact .inr (.inl h)
    · rw [← List.take_append_drop (bsPos r x) r, List.mem_append] at h
      rcases h with h | h
      · exact .inl h
      · exact .inr (.inr h)
theorem put_len (r : List Job) (x : Job) : (putJ r x).length = r.length + 1 := by
  have := bsPos_le r x
  simp [putJ]; omega
theorem put_sorted {r : List Job} {x : Job} (hs : r.Pairwise jLt) (hx : ∀ y ∈ r, y.id ≠ x.id) : (putJ r x).Pairwise jLt := by
  unfold putJ
  rw [List.pairwise_append]
  refine ⟨hs.sublist (List.take_sublist _ _), ?_, ?_⟩
  · rw [List.pairwise_cons]
    refine ⟨fun y hy => ?_, hs.sublist (List.drop_sublist _ _)⟩
    have := drop_ge hs hy
    rcases jLt_total y x (hx y (List.mem_of_mem_drop hy)) with h | h
    · exact absurd h this
    · exact h
  · intro y hy z hz
    rcases List.mem_cons.1 hz with rfl | hz
    · exact take_lt hy
    · have h := hs
      rw [← List.take_append_drop (bsPos r x) r, List.pairwise_append] at h
      exact h.2.2 y hy z hz
theorem put_ids {r : List Job} {x : Job} (hn : (r.map (·.id)).Nodup) (hx : ∀ y ∈ r, y.id ≠ x.id) : ((putJ r x).map (·.id)).Nodup := by
  have hp : (putJ r x).Perm (x :: r) := by
    unfold putJ
    refine List.perm_middle.trans ?_
    rw [List.take_append_drop]
  have := (hp.map (·.id)).nodup_iff
  rw [this, List.map_cons, List.nodup_cons]
  refine ⟨?_, hn⟩
  intro h
  obtain ⟨y, hy, e⟩ := List.mem_map.1 h
  exact hx y hy e
theorem put_chk {r : List Job} {x : Job} (hl : r.length + 1 ≤ 4096) (hr : ∀ y ∈ r, jRight y = true) (hxr : jRight x = true) (hn : (r.map (·.id)).Nodup) (hx : ∀ y ∈ r, y.id ≠ x.id) (hs : r.Pairwise jLt) (hg : ∀ y ∈ r, y.gone = 0) (hxg : x.gone = 0) : Chk (putJ r x) ∧ ∀ y ∈ putJ r x, y.gone = 0 := by
  have hall : ∀ y ∈ putJ r x, y.gone = 0 := fun y hy => by
    rcases put_mem.1 hy with rfl | h
    · exact hxg
    · exact hg y h
  refine ⟨⟨by rw [put_len]; omega, fun y hy => ?_, put_ids hn hx, put_sorted hs hx, fun y hy => hall y (List.mem_of_mem_tail hy)⟩, hall⟩
  rcases put_mem.1 hy with rfl | h
  · exact hxr
  · exact hr y h

theorem Chk.tail {j : Job} {r : List Job} (h : Chk (j :: r)) : Chk r ∧ (∀ y ∈ r, y.gone = 0) ∧ (∀ y ∈ r, y.id ≠ j.id) ∧ ∀ y ∈ r, jLt j y := by
  have h1 := h.ids
  rw [List.map_cons, List.nodup_cons] at h1
  have h2 := List.pairwise_cons.1 h.sorted
  have hl := h.len
  simp only [List.length_cons] at hl
  exact ⟨⟨by omega, fun y hy => h.right y (by simp [hy]), h1.2, h2.2, fun y hy => h.fresh y (List.mem_of_mem_tail hy)⟩, fun y hy => h.fresh y hy, fun y hy e => h1.1 (List.mem_map.2 ⟨y, hy, e⟩), h2.1⟩

theorem jLost_cons (j : Job) (r : List Job) : jLost (j :: r) = if jCheck (j :: r) = false ∨ j.gone = 0 then j :: r else putJ r ⟨j.id, j.prio, j.size, 0⟩ := rfl
theorem lost_chk {js : List Job} (h : jCheck js = true) : Chk (jLost js) ∧ (∀ y ∈ jLost js, y.gone = 0) ∧ (jLost js).length = js.length := by
  have hc := chk_of h
  cases js with
  | nil => exact ⟨by simpa [jLost] using hc, by simp [jLost], rfl⟩
  | cons j r =>
    obtain ⟨t1, t2, t3, t4⟩ := hc.tail
    rw [jLost_cons]
    by_cases hg : j.gone = 0
    · rw [if_pos (.inr hg)]
      refine ⟨hc, fun y hy => ?_, rfl⟩
      rcases List.mem_cons.1 hy with rfl | hy
      · exact hg
      · exact t2 y hy
    · rw [if_neg (by simp [h, hg])]
      have hr := right_gone (hc.right j (by simp))
      have hl := hc.len
      simp only [List.length_cons] at hl
      obtain ⟨p1, p2⟩ := put_chk (r := r) (x := ⟨j.id, j.prio, j.size, 0⟩) (by omega) t1.right (by simp [jRight]; omega) t1.ids t3 t1.sorted t2 rfl
      exact ⟨p1, p2, by rw [put_len]; rfl⟩

theorem put_first {r : List Job} {x : Job} (h : ∀ y ∈ r, jLt x y) : putJ r x = x :: r := by
  have hp : bsPos r x = 0 := by
    cases r with
    | nil => rfl
    | cons y r =>
      unfold bsPos
      rw [List.takeWhile_cons_of_neg]
      · rfl
      · simp only [decide_eq_true_eq, jOrder_neg]
        exact jLt_asymm (h y (by simp))
  simp [putJ, hp]

theorem fill_len : ∀ (js : List Job) (v : Int) (ps : List Part) (ds : List Int), (fillF js v ps ds).1.length ≤ js.length
  | [], v, ps, ds => by simp [fillF]
  | j :: r, v, ps, ds => by
    unfold fillF
    split
    · exact Nat.le_refl _
    · split
      · exact Nat.le_succ_of_le (fill_len r _ _ _)
      · exact Nat.le_refl _

theorem lost_fill {a : List Job} (hc : Chk a) (hg : ∀ y ∈ a, y.gone = 0) (v : Int) : (jFill a v).1.length < a.length ∨ jLost (jFill a v).1 = a := by
  have self : jLost a = a := by
    cases a with
    | nil => rfl
    | cons j r => rw [jLost_cons, if_pos (.inr (hg j (by simp)))]
  unfold jFill
  split
  · exact .inr self
  · rename_i hv
    cases a with
    | nil => exact .inr rfl
    | cons j r =>
      have hv' : 1 ≤ v ∧ v ≤ 65536 := by
        have h1 : ¬ v < 1 := fun h => hv (.inr (.inl h))
        have h2 : ¬ 65536 < v := fun h => hv (.inr (.inr h))
        omega
      unfold fillF
      rw [if_neg (by omega)]
      split
      · exact .inl (Nat.lt_succ_of_le (fill_len r _ _ _))
      · rename_i hne
        right
        obtain ⟨t1, t2, t3, t4⟩ := hc.tail
        have hr := right_gone (hc.right j (by simp))
        have hj := hg j (by simp)
        have ht : 1 ≤ takes v j ∧ takes v j < j.size := by
          unfold takes at hne ⊢
          split <;> split at hne <;> omega
        have hb : jCheck (⟨j.id, j.prio, j.size, j.gone + takes v j⟩ :: r) = true := by
          refine chk_check ⟨hc.len, ?_, hc.ids, ?_, t2⟩
          · intro y hy
            rcases List.mem_cons.1 hy with rfl | hy
            · simp [jRight]; omega
            · exact t1.right y hy
          · rw [List.pairwise_cons]
            refine ⟨fun y hy => ?_, t1.sorted⟩
            have h1 := t4 y hy
            have h2 := t2 y hy
            unfold jLt at h1 ⊢
            left
            simp only [mn1, h2]
            split <;> split <;> omega
        rw [jLost_cons, if_neg (by simp [hb]; omega)]
        have e : (⟨j.id, j.prio, j.size, 0⟩ : Job) = j := by cases j; simp at hj ⊢; exact hj.symm
        rw [e, put_first t4]

theorem lost_steps {a : List Job} (hc : Chk a) (hg : ∀ y ∈ a, y.gone = 0) {i : Nat} (hi : i < a.length) :
    (at' a i).gone = 0 ∧ (0 < i → ¬ ((at' a (i - 1)).prio < (at' a i).prio) ∧ ¬ ((at' a i).prio = (at' a (i - 1)).prio ∧ (at' a i).id < (at' a (i - 1)).id)) := by
  refine ⟨hg _ (at'_mem hi), fun h0 => ?_⟩
  have hp := List.pairwise_iff_getElem.1 hc.sorted (i - 1) i (by omega) hi (by omega)
  rw [at'_get hi, at'_get (show i - 1 < a.length by omega)]
  have g1 := hg _ (List.getElem_mem (show i - 1 < a.length by omega))
  have g2 := hg _ (List.getElem_mem hi)
  unfold jLt at hp
  rw [g1, g2] at hp
  omega
end Go.Aw
namespace Go.Aw
open Go Go.Proofs
set_option maxRecDepth 100000
set_option linter.unusedVariables false
set_option linter.unusedSimpArgs false
/-! ### what slots do: the plain part -/
theorem takes_spec {v : Int} {j : Job} (hv : 0 < v) (hr : jRight j = true) : 1 ≤ takes v j ∧ takes v j ≤ v ∧ takes v j ≤ left1 j ∧ (takes v j = left1 j ∨ takes v j = v) ∧ (left1 j ≤ v → takes v j = left1 j) ∧ (v < left1 j → takes v j = v) := by
  have := right_gone hr
  unfold takes left1
  split <;> omega

theorem Chk.part {j : Job} {r : List Job} (h : Chk (j :: r)) {g : Int} (h0 : 0 ≤ g) (h1 : g < j.size) (hgt : j.gone ≤ g) : Chk (⟨j.id, j.prio, j.size, g⟩ :: r) := by
  obtain ⟨t1, t2, t3, t4⟩ := h.tail
  have hr := right_gone (h.right j (by simp))
  refine ⟨h.len, ?_, h.ids, ?_, t2⟩
  · intro y hy
    rcases List.mem_cons.1 hy with rfl | hy
    · simp [jRight]; omega
    · exact t1.right y hy
  · rw [List.pairwise_cons]
    refine ⟨fun y hy => ?_, t1.sorted⟩
    have h1 := t4 y hy
    have h2 := t2 y hy
    unfold jLt at h1 ⊢
    simp only [mn1, h2] at h1 ⊢
    split at h1 <;> split at h1 <;> split <;> split <;> omega

/-- What a slot leaves may be. -/
theorem fill_chk : ∀ (js : List Job) (v : Int) (ps : List Part) (ds : List Int), Chk js → Chk (fillF js v ps ds).1
  | [], v, ps, ds, h => by simpa [fillF] using h
  | j :: r, v, ps, ds, h => by
    unfold fillF
    split
    · exact h
    · rename_i hv
      have hs := takes_spec (v := v) (j := j) (by omega) (h.right j (by simp))
      have hr := right_gone (h.right j (by simp))
      split
      · exact fill_chk r _ _ _ h.tail.1
      · refine h.part (by omega) ?_ (by omega)
        unfold left1 at hs
        omega

/-- The parts of a slot. -/
def fillP : List Job → Int → List Part
  | [], _ => []
  | j :: r, v => if v ≤ 0 then [] else ⟨j.id, j.gone, takes v j⟩ :: (if j.gone + takes v j = j.size then fillP r (v - takes v j) else [])
theorem fill_parts : ∀ (js : List Job) (v : Int) (ps : List Part) (ds : List Int), (fillF js v ps ds).2.1 = ps ++ fillP js v
  | [], v, ps, ds => by simp [fillF, fillP]
  | j :: r, v, ps, ds => by
    unfold fillF fillP
    split
    · simp
    · split
      · rw [fill_parts r]; simp
      · simp
theorem fill_acc : ∀ (js : List Job) (v : Int) (ps ps' : List Part) (ds ds' : List Int), (fillF js v ps ds).1 = (fillF js v ps' ds').1
  | [], v, ps, ps', ds, ds' => rfl
  | j :: r, v, ps, ps', ds, ds' => by
    unfold fillF
    split
    · rfl
    · split
      · exact fill_acc r _ _ _ _ _
      · rfl

/-! #### parts -/
/-- The bytes of a job that were sent. -/
def sentOf (row : List Job) (y : Job) : Int := match row.find? (fun x => x.id == y.id) with
  | some x => x.gone
  | Option.none => y.size
structure SentR (l row : List Job) (sent : List Int) : Prop where
  chk : Chk row
  from' : ∀ x ∈ row, ∃ y ∈ l, y.id = x.id ∧ y.size = x.size
  sent : sent = l.map (sentOf row)
/-- One part is looked up. -/
def findJ (l : List Job) (a : Int) : Option Nat := l.findIdx? fun y => y.id == a
def stepJ (l : List Job) (p : Part) (j : Nat) (s : Bool × List Int) : Bool × List Int :=
  if (at' l j).id = p.id then (decide (p.at' = s.2.getD j 0) && decide (1 ≤ p.n), s.2.set j (s.2.getD j 0 + p.n)) else s
def innerN (l : List Job) (p : Part) (sent : List Int) : Nat → Bool × List Int
  | 0 => (false, sent)
  | j + 1 => stepJ l p j (innerN l p sent j)
theorem innerN_len (l : List Job) (p : Part) (sent : List Int) : ∀ j, (innerN l p sent j).2.length = sent.length
  | 0 => rfl
  | j + 1 => by
    simp only [innerN, stepJ]
    split
    · simp [innerN_len l p sent j]
    · exact innerN_len l p sent j
theorem innerN_before {l : List Job} {p : Part} {sent : List Int} {i : Nat} (hn : ∀ j, j < i → (at' l j).id ≠ p.id) : ∀ j, j ≤ i → innerN l p sent j = (false, sent)
  | 0, _ => rfl
  | j + 1, h => by
    simp only [innerN, stepJ]
    rw [innerN_before hn j (by omega), if_neg (hn j (by omega))]
theorem innerN_spec {l : List Job} {p : Part} {sent : List Int} {i : Nat} (hi : i < l.length) (hid : (at' l i).id = p.id) (hn : ∀ j, j < l.length → j ≠ i → (at' l j).id ≠ p.id) :
    ∀ d, i + 1 + d ≤ l.length → innerN l p sent (i + 1 + d) = (decide (p.at' = sent.getD i 0) && decide (1 ≤ p.n), sent.set i (sent.getD i 0 + p.n))
  | 0, _ => by
    simp only [Nat.add_zero, innerN, stepJ]
    rw [innerN_before (i := i) (fun j hj => hn j (by omega) (by omega)) i (Nat.le_refl _), if_pos hid]
  | d + 1, h => by
    rw [show i + 1 + (d + 1) = (i + 1 + d) + 1 by omega]
    simp only [innerN, stepJ]
    rw [innerN_spec hi hid hn d (by omega), if_neg (hn _ (by omega) (by omega))]

def sumP : List Part → Int
  | [] => 0
  | p :: ps => p.n + sumP ps
theorem sumP_append (a b : List Part) : sumP (a ++ b) = sumP a + sumP b := by
  induction a with
  | nil => simp [sumP]
  | cons p a ih => simp only [List.cons_append, sumP, ih]; omega
/-- All parts in a row. -/
def procN (l : List Job) (sent : List Int) : List Part → List Int
  | [] => sent
  | p :: ps => procN l (innerN l p sent l.length).2 ps
def okN (l : List Job) (sent : List Int) : List Part → Bool
  | [] => true
  | p :: ps => (innerN l p sent l.length).1 && okN l (innerN l p sent l.length).2 ps

theorem nodup_at {l : List Job} (hn : (l.map (·.id)).Nodup) {i j : Nat} (hi : i < l.length) (hj : j < l.length) (h : (at' l j).id = (at' l i).id) : j = i := by
  rw [at'_get hi, at'_get hj] at h
  rw [List.nodup_iff_pairwise_ne, List.pairwise_iff_getElem] at hn
  rcases Nat.lt_trichotomy i j with hlt | he | hgt
  · exact absurd (by rw [List.getElem_map, List.getElem_map]; exact h.symm) (hn i j (by simpa using hi) (by simpa using hj) hlt)
  · exact he.symm
  · exact absurd (by rw [List.getElem_map, List.getElem_map]; exact h) (hn j i (by simpa using hj) (by simpa using hi) hgt)
theorem find_none {r : List Job} {a : Int} (h : ∀ y ∈ r, y.id ≠ a) : r.find? (fun x => x.id == a) = Option.none := by
  rw [List.find?_eq_none]
  intro x hx
  simpa using h x hx

theorem sent_step {l : List Job} (hl : Chk l) {j : Job} {r : List Job} {sent : List Int} (h : SentR l (j :: r) sent) {t : Int} (ht : 1 ≤ t) (htl : j.gone + t ≤ j.size) :
    (innerN l ⟨j.id, j.gone, t⟩ sent l.length).1 = true ∧
      (j.gone + t = j.size → SentR l r (innerN l ⟨j.id, j.gone, t⟩ sent l.length).2) ∧ (j.gone + t < j.size → SentR l (⟨j.id, j.prio, j.size, j.gone + t⟩ :: r) (innerN l ⟨j.id, j.gone, t⟩ sent l.length).2) := by
  obtain ⟨h1, h2, h3⟩ := h
  obtain ⟨t1, t2, t3, t4⟩ := h1.tail
  have hr := right_gone (h1.right j (by simp))
  obtain ⟨y, hy, hyi, hys⟩ := h2 j (by simp)
  obtain ⟨i, hi, rfl⟩ := List.mem_iff_getElem.1 hy
  have hid : (at' l i).id = j.id := by rw [at'_get hi]; exact hyi
  have hne : ∀ k, k < l.length → k ≠ i → (at' l k).id ≠ j.id := fun k hk hki e => hki (nodup_at hl.ids hi hk (by rw [e, hid]))
  have hin := innerN_spec (p := ⟨j.id, j.gone, t⟩) (sent := sent) hi hid hne (l.length - (i + 1)) (by omega)
  rw [show i + 1 + (l.length - (i + 1)) = l.length by omega] at hin
  have hsi : sent.getD i 0 = j.gone := by
    rw [h3]
    simp [List.getD, hi, sentOf, hyi]
  rw [hin]
  simp only
  rw [hsi]
  have hset : ∀ row', (∀ k, (hk : k < l.length) → k ≠ i → sentOf row' l[k] = sentOf (j :: r) l[k]) → sentOf row' l[i] = j.gone + t → sent.set i (j.gone + t) = l.map (sentOf row') := by
    intro row' g1 g2
    refine List.ext_getElem (by rw [h3]; simp) fun k hk1 hk2 => ?_
    simp only [List.length_set] at hk1
    have hkl : k < l.length := by simpa using hk2
    rw [List.getElem_set]
    split
    · rename_i e; subst e; simp [g2]
    · rename_i e
      simp only [h3, List.getElem_map]
      exact (g1 k hkl (fun e' => e e'.symm)).symm
  have hother : ∀ k, (hk : k < l.length) → k ≠ i → (j.id == l[k].id) = false := by
    intro k hk hki
    have := hne k hk hki
    rw [at'_get hk] at this
    simpa using fun e => this e.symm
  refine ⟨by simp [ht], fun he => ⟨t1, fun x hx => h2 x (by simp [hx]), hset _ ?_ ?_⟩, fun hlt => ⟨h1.part (by omega) hlt (by omega), ?_, hset _ ?_ ?_⟩⟩
  · intro k hk hki
    simp only [sentOf, List.find?_cons, hother k hk hki]
  · simp only [sentOf]
    rw [find_none (fun y hy => by rw [hyi]; exact t3 y hy)]
    simp only
    omega
  · intro x hx
    rcases List.mem_cons.1 hx with rfl | hx
    · exact ⟨_, List.getElem_mem hi, hyi, hys⟩
    · exact h2 x (by simp [hx])
  · intro k hk hki
    simp only [sentOf, List.find?_cons, hother k hk hki]
  · simp only [sentOf, List.find?_cons, hyi, beq_self_eq_true]

theorem fill_sent {l : List Job} (hl : Chk l) : ∀ (row : List Job) (v : Int) (sent : List Int), SentR l row sent → okN l sent (fillP row v) = true ∧ SentR l (fillF row v [] []).1 (procN l sent (fillP row v)) ∧ (0 ≤ v → 0 ≤ sumP (fillP row v) ∧ sumP (fillP row v) ≤ v ∧ ((fillF row v [] []).1 ≠ [] → sumP (fillP row v) = v)) ∧ ∀ p ∈ fillP row v, 1 ≤ p.n ∧ p.n ≤ 65536
  | [], v, sent, h => ⟨rfl, by simpa [fillF, fillP, procN] using h, fun hv => ⟨by simp [fillP, sumP], by simpa [fillP, sumP] using hv, by simp [fillF]⟩, by simp [fillP]⟩
  | j :: r, v, sent, h => by
    unfold fillF fillP
    by_cases hv : v ≤ 0
    · rw [if_pos hv, if_pos hv]
      exact ⟨rfl, h, fun h0 => ⟨by simp [sumP], by simpa [sumP] using h0, fun _ => by simp [sumP]; omega⟩, by simp⟩
    rw [if_neg hv, if_neg hv]
    have hr := right_gone (h.chk.right j (by simp))
    have ht := takes_spec (v := v) (j := j) (by omega) (h.chk.right j (by simp))
    unfold left1 at ht
    obtain ⟨s1, s2, s3⟩ := sent_step hl h (t := takes v j) (by omega) (by omega)
    by_cases he : j.gone + takes v j = j.size
    · rw [if_pos he, if_pos he]
      obtain ⟨q1, q2, q3, q4⟩ := fill_sent hl r (v - takes v j) _ (s2 he)
      rw [fill_acc r _ _ [] _ []]
      refine ⟨by simp [okN, s1, q1], by simpa [procN] using q2, fun h0 => ?_, fun p hp => ?_⟩
      · obtain ⟨w1, w2, w3⟩ := q3 (by omega)
        simp only [sumP]
        exact ⟨by omega, by omega, fun hne => by have := w3 hne; omega⟩
      · rcases List.mem_cons.1 hp with rfl | hp
        · exact ⟨by simp; omega, by simp; omega⟩
        · exact q4 p hp
    · rw [if_neg he, if_neg he]
      refine ⟨by simp [okN, s1], by simpa [procN] using s3 (by omega), fun h0 => ⟨by simp [sumP]; omega, by simp [sumP]; omega, fun _ => by simp [sumP]; omega⟩, fun p hp => ?_⟩
      simp at hp
      subst hp
      exact ⟨by simp; omega, by simp; omega⟩

theorem innerN_get {l : List Job} {p : Part} {S : List Int} : ∀ (j k : Nat), j ≤ k → (innerN l p S j).2.getD k 0 = S.getD k 0
  | 0, k, _ => rfl
  | j + 1, k, h => by
    simp only [innerN, stepJ]
    split
    · have := innerN_get (l := l) (p := p) (S := S) j k (by omega)
      simp only [List.getD_eq_getElem?_getD] at this ⊢
      rw [List.getElem?_set_ne (by omega)]
      exact this
    · exact innerN_get j k (by omega)
theorem innerN_bound {l : List Job} {p : Part} {S : List Int} {B : Int} (hp : 1 ≤ p.n ∧ p.n ≤ 65536) (hS : ∀ k, 0 ≤ S.getD k 0 ∧ S.getD k 0 ≤ B) : ∀ (j k : Nat), 0 ≤ (innerN l p S j).2.getD k 0 ∧ (innerN l p S j).2.getD k 0 ≤ B + 65536
  | 0, k => by have := hS k; simp only [innerN]; omega
  | j + 1, k => by
    have ih := innerN_bound (l := l) hp hS j k
    simp only [innerN, stepJ]
    split
    · by_cases hk : k = j
      · subst hk
        have h1 := innerN_get (l := l) (p := p) (S := S) k k (Nat.le_refl _)
        have h2 := hS k
        rw [h1]
        simp only [List.getD_eq_getElem?_getD] at h2 ⊢
        by_cases hl : k < (innerN l p S k).2.length
        · rw [List.getElem?_set_self hl]; simp only [Option.getD_some]; omega
        · rw [List.getElem?_eq_none (by simpa using hl)]; simp only [Option.getD_none]; omega
      · simp only [List.getD_eq_getElem?_getD] at ih ⊢
        rw [List.getElem?_set_ne (fun e => hk e.symm)]
        exact ih
    · exact ih
theorem procN_snoc (l : List Job) : ∀ (ps : List Part) (S : List Int) (m : Nat), (hm : m < ps.length) → procN l S (ps.take (m + 1)) = (innerN l ps[m] (procN l S (ps.take m)) l.length).2
  | p :: ps, S, 0, _ => by simp [procN]
  | p :: ps, S, m + 1, hm => by
    simp only [List.take_succ_cons, procN, List.getElem_cons_succ]
    exact procN_snoc l ps _ m (by simpa using hm)
theorem okN_at (l : List Job) : ∀ (ps : List Part) (S : List Int) (m : Nat), (hm : m < ps.length) → okN l S ps = true → (innerN l ps[m] (procN l S (ps.take m)) l.length).1 = true
  | p :: ps, S, 0, _, h => by simp [okN] at h; simpa [procN] using h.1
  | p :: ps, S, m + 1, hm, h => by
    simp only [okN, Bool.and_eq_true] at h
    simp only [List.take_succ_cons, procN, List.getElem_cons_succ]
    exact okN_at l ps _ m (by simpa using hm) h.2
theorem sumP_snoc : ∀ (ps : List Part) (m : Nat), (hm : m < ps.length) → sumP (ps.take (m + 1)) = sumP (ps.take m) + ps[m].n
  | p :: ps, 0, _ => by simp [sumP]
  | p :: ps, m + 1, hm => by
    have := sumP_snoc ps m (by simpa using hm)
    simp only [List.take_succ_cons, sumP, List.getElem_cons_succ]
    omega
theorem sumP_le : ∀ (ps : List Part), (∀ p ∈ ps, 1 ≤ p.n ∧ p.n ≤ 65536) → 0 ≤ sumP ps ∧ sumP ps ≤ 65536 * ps.length
  | [], _ => by simp [sumP]
  | p :: ps, h => by
    have h1 := h p (by simp)
    have h2 := sumP_le ps (fun q hq => h q (by simp [hq]))
    simp only [sumP, List.length_cons]
    omega
theorem procN_len (l : List Job) : ∀ (ps : List Part) (S : List Int), (procN l S ps).length = S.length
  | [], S => rfl
  | p :: ps, S => by simp only [procN]; rw [procN_len l ps, innerN_len]
theorem procN_bound (l : List Job) : ∀ (ps : List Part) (S : List Int) (B : Int), (∀ p ∈ ps, 1 ≤ p.n ∧ p.n ≤ 65536) → (∀ k, 0 ≤ S.getD k 0 ∧ S.getD k 0 ≤ B) → ∀ k, 0 ≤ (procN l S ps).getD k 0 ∧ (procN l S ps).getD k 0 ≤ B + 65536 * ps.length
  | [], S, B, _, hS, k => by have := hS k; simp only [procN, List.length_nil]; omega
  | p :: ps, S, B, hp, hS, k => by
    have := procN_bound l ps (innerN l p S l.length).2 (B + 65536) (fun q hq => hp q (by simp [hq])) (innerN_bound (hp p (by simp)) hS l.length) k
    simp only [procN, List.length_cons]
    omega
theorem fillP_len : ∀ (js : List Job) (v : Int), (fillP js v).length ≤ js.length
  | [], v => by simp [fillP]
  | j :: r, v => by
    unfold fillP
    split
    · simp
    · split
      · have := fillP_len r (v - takes v j); simp; omega
      · simp
theorem SentR.bound {l row : List Job} {S : List Int} (hl : Chk l) (h : SentR l row S) (k : Nat) : 0 ≤ S.getD k 0 ∧ S.getD k 0 ≤ 65536 := by
  rw [h.sent]
  by_cases hk : k < l.length
  · simp only [List.getD_eq_getElem?_getD, List.getElem?_map, List.getElem?_eq_getElem hk, Option.map_some, Option.getD_some, sentOf]
    split
    · rename_i x hx
      have := right_gone (h.chk.right x (List.mem_of_find?_eq_some hx))
      omega
    · have := right_gone (hl.right l[k] (List.getElem_mem hk))
      omega
  · simp [List.getD_eq_getElem?_getD, List.getElem?_eq_none (show l.length ≤ k by omega)]
theorem SentR.len {l row : List Job} {S : List Int} (h : SentR l row S) : S.length = l.length := by rw [h.sent]; simp
theorem sent_init {l : List Job} (hl : Chk l) : SentR l l (l.map (·.gone)) := by
  refine ⟨hl, fun x hx => ⟨x, hx, rfl, rfl⟩, ?_⟩
  refine List.map_congr_left fun y hy => ?_
  unfold sentOf
  cases hf : l.find? (fun x => x.id == y.id) with
  | none =>
    rw [List.find?_eq_none] at hf
    exact absurd (by simp) (hf y hy)
  | some x =>
    have h1 := List.find?_some hf
    have h2 := List.mem_of_find?_eq_some hf
    obtain ⟨i, hi, rfl⟩ := List.mem_iff_getElem.1 h2
    obtain ⟨j, hj, rfl⟩ := List.mem_iff_getElem.1 hy
    have := nodup_at hl.ids hj hi (by rw [at'_get hi, at'_get hj]; simpa using h1)
    subst this
    rfl
theorem sent_end {l : List Job} {S : List Int} (h : SentR l [] S) (k : Nat) (hk : k < l.length) : S.getD k 0 = (at' l k).size := by
  rw [h.sent, at'_get hk]
  simp [List.getD_eq_getElem?_getD, hk, sentOf]

/-! #### slots -/
def aheadOf : List Job → Int → Int
  | [], _ => 0
  | j :: r, a => if j.id = a then left1 j else left1 j + aheadOf r a
def hasId (js : List Job) (a : Int) : Prop := ∃ j ∈ js, j.id = a
theorem ahead_pos {a : Int} : ∀ {js : List Job}, (∀ j ∈ js, jRight j = true) → hasId js a → 1 ≤ aheadOf js a
  | [], _, ⟨j, h, _⟩ => by simp at h
  | j :: r, h, ⟨x, hx, e⟩ => by
    have := right_left (h j (by simp))
    unfold aheadOf
    split
    · omega
    · rename_i hne
      have hr : hasId r a := by
        rcases List.mem_cons.1 hx with rfl | hx
        · exact absurd e hne
        · exact ⟨x, hx, e⟩
      have := ahead_pos (fun y hy => h y (by simp [hy])) hr
      omega
theorem fill_done : ∀ (js : List Job) (v : Int) (ps : List Part) (ds : List Int) (a : Int), Chk js → hasId js a → a ∉ ds →
    (a ∈ (fillF js v ps ds).2.2 ↔ aheadOf js a ≤ v) ∧ (v < aheadOf js a → 0 ≤ v → hasId (fillF js v ps ds).1 a ∧ aheadOf (fillF js v ps ds).1 a = aheadOf js a - v)
  | [], v, ps, ds, a, _, ⟨j, h, _⟩, _ => by simp at h
  | j :: r, v, ps, ds, a, hc, ⟨x, hx, e⟩, hd => by
    have hp := ahead_pos hc.right ⟨x, hx, e⟩
    obtain ⟨t1, t2, t3, t4⟩ := hc.tail
    have hr := right_gone (hc.right j (by simp))
    have hl := right_left (hc.right j (by simp))
    unfold fillF
    by_cases hv : v ≤ 0
    · rw [if_pos hv]
      exact ⟨⟨fun h => absurd h hd, fun h => by omega⟩, fun h h0 => ⟨⟨x, hx, e⟩, by simp only; omega⟩⟩
    rw [if_neg hv]
    have ht := takes_spec (v := v) (j := j) (by omega) (hc.right j (by simp))
    by_cases hj : j.id = a
    · have hA : aheadOf (j :: r) a = left1 j := by simp [aheadOf, hj]
      rw [hA]
      by_cases he : j.gone + takes v j = j.size
      · rw [if_pos he]
        have hin : ∀ (q : List Job) (v : Int) (ps : List Part) (ds : List Int), a ∈ ds → a ∈ (fillF q v ps ds).2.2 := by
          intro q
          induction q with
          | nil => intro v ps ds h; simpa [fillF] using h
          | cons z q ih =>
            intro v ps ds h
            unfold fillF
            split
            · exact h
            · split
              · exact ih _ _ _ (by simp [h])
              · exact h
        unfold left1 at ht hl ⊢
        exact ⟨⟨fun _ => by omega, fun _ => hin _ _ _ _ (by simp [hj])⟩, fun h => by omega⟩
      · rw [if_neg he]
        unfold left1 at ht hl ⊢
        refine ⟨⟨fun h => absurd h hd, fun h => by omega⟩, fun h h0 => ⟨⟨_, List.mem_cons_self, hj⟩, ?_⟩⟩
        simp only [aheadOf, hj, if_true, left1]
        omega
    · have hA : aheadOf (j :: r) a = left1 j + aheadOf r a := by simp [aheadOf, hj]
      have hra : hasId r a := by
        rcases List.mem_cons.1 hx with rfl | hx
        · exact absurd e hj
        · exact ⟨x, hx, e⟩
      have hpr := ahead_pos t1.right hra
      rw [hA]
      by_cases he : j.gone + takes v j = j.size
      · rw [if_pos he]
        obtain ⟨q1, q2⟩ := fill_done r (v - takes v j) (ps ++ [⟨j.id, j.gone, takes v j⟩]) (ds ++ [j.id]) a t1 hra (by simp [hd]; exact fun e => hj e.symm)
        have hte : takes v j = left1 j := by unfold left1; omega
        refine ⟨by rw [q1]; omega, fun h h0 => ?_⟩
        obtain ⟨w1, w2⟩ := q2 (by omega) (by omega)
        exact ⟨w1, by rw [w2]; omega⟩
      · rw [if_neg he]
        unfold left1 at ht hl ⊢
        refine ⟨⟨fun h => absurd h hd, fun h => by omega⟩, fun h h0 => ⟨?_, ?_⟩⟩
        · obtain ⟨y, hy, e'⟩ := hra; exact ⟨y, by simp [hy], e'⟩
        · simp only [aheadOf, hj, if_false, left1]
          omega
theorem fill_sub : ∀ (js : List Job) (v : Int) (ps : List Part) (ds : List Int), ∀ x ∈ (fillF js v ps ds).1, ∃ y ∈ js, y.id = x.id ∧ y.prio = x.prio
  | [], v, ps, ds, x, hx => by simp [fillF] at hx
  | j :: r, v, ps, ds, x, hx => by
    unfold fillF at hx
    split at hx
    · exact ⟨x, hx, rfl, rfl⟩
    · split at hx
      · obtain ⟨y, hy, e⟩ := fill_sub r _ _ _ x hx
        exact ⟨y, by simp [hy], e⟩
      · rcases List.mem_cons.1 hx with rfl | hx
        · exact ⟨j, by simp, rfl, rfl⟩
        · exact ⟨x, by simp [hx], rfl, rfl⟩

theorem ahead_append {a : Int} : ∀ (A B : List Job), hasId A a → aheadOf (A ++ B) a = aheadOf A a
  | [], B, ⟨j, h, _⟩ => by simp at h
  | j :: A, B, ⟨x, hx, e⟩ => by
    simp only [List.cons_append, aheadOf]
    split
    · rfl
    · rename_i hne
      rw [ahead_append A B]
      rcases List.mem_cons.1 hx with rfl | hx
      · exact absurd e hne
      · exact ⟨x, hx, e⟩
/-- What is added behind a job does not delay it. -/
theorem put_ahead {row : List Job} {x : Job} {a : Int} (hs : row.Pairwise jLt) (h : ∃ y ∈ row, y.id = a ∧ jLt y x) : hasId (putJ row x) a ∧ aheadOf (putJ row x) a = aheadOf row a := by
  obtain ⟨y, hy, e, hlt⟩ := h
  have hm : y ∈ row.take (bsPos row x) := by
    rw [← List.take_append_drop (bsPos row x) row, List.mem_append] at hy
    rcases hy with hy | hy
    · exact hy
    · exact absurd hlt (drop_ge hs hy)
  have hT : hasId (row.take (bsPos row x)) a := ⟨y, hm, e⟩
  refine ⟨⟨y, put_mem.2 (.inr (by exact List.mem_of_mem_take hm)), e⟩, ?_⟩
  unfold putJ
  rw [ahead_append _ _ hT]
  conv => rhs; rw [← List.take_append_drop (bsPos row x) row]
  rw [ahead_append _ _ hT]
theorem add_chk {row : List Job} {x : Job} (hc : Chk row) (hl : row.length + 1 ≤ 4096) (hr : jRight x = true) (hx : ∀ y ∈ row, y.id ≠ x.id) (hg : x.gone = 0) : Chk (putJ row x) := by
  refine ⟨by rw [put_len]; omega, fun y hy => ?_, put_ids hc.ids hx, put_sorted hc.sorted hx, ?_⟩
  · rcases put_mem.1 hy with rfl | h
    · exact hr
    · exact hc.right y h
  · cases row with
    | nil => intro y hy; simp [putJ, bsPos] at hy
    | cons j r =>
      obtain ⟨t1, t2, t3, t4⟩ := hc.tail
      have hj := right_gone (hc.right j (by simp))
      by_cases hj0 : j.gone = 0
      · intro y hy
        rcases put_mem.1 (List.mem_of_mem_tail hy) with rfl | h
        · exact hg
        · rcases List.mem_cons.1 h with rfl | h
          · exact hj0
          · exact t2 y h
      · have hlt : jOrder j x < 0 := by
          rw [jOrder_neg]
          unfold jLt mn1
          rw [hg]
          left
          split <;> split <;> omega
        have hp : ∃ p, bsPos (j :: r) x = p + 1 := by
          unfold bsPos
          rw [List.takeWhile_cons_of_pos (by simpa using hlt), List.length_cons]
          exact ⟨_, rfl⟩
        obtain ⟨p, hp⟩ := hp
        intro y hy
        unfold putJ at hy
        rw [hp] at hy
        simp only [List.take_succ_cons, List.cons_append, List.tail_cons, List.drop_succ_cons, List.mem_append, List.mem_cons] at hy
        rcases hy with h | rfl | h
        · exact t2 y (List.mem_of_mem_take h)
        · exact hg
        · exact t2 y (List.mem_of_mem_drop h)
theorem find_neg {js : List Job} {a : Int} (h : ∀ y ∈ js, y.id ≠ a) : findId js a = -1 := by
  rcases findId_spec js a with h1 | ⟨k, h1, h2, h3⟩
  · exact h1.1
  · exact absurd h3 (h _ (at'_mem h1))
theorem add_ok {row : List Job} {a p s : Int} (hc : Chk row) (hl : row.length < 400) (ha : ∀ y ∈ row, y.id ≠ a) (hr : jRight ⟨a, p, s, 0⟩ = true) : jAdd row a p s = (putJ row ⟨a, p, s, 0⟩, 0) := by
  unfold jAdd
  rw [if_neg (by simp [chk_check hc]), if_neg (by rw [find_neg ha]; omega), if_neg]
  simp [hr]; omega

theorem sumLeft_ahead : ∀ (js : List Job) (a : Int) (k : Nat), (hk : k < js.length) → js[k].id = a → (∀ i, (hi : i < k) → (js[i]'(by omega)).id ≠ a) → sumLeft (js.take k) + left1 js[k] = aheadOf js a
  | [], a, k, hk, _, _ => by simp at hk
  | j :: r, a, 0, hk, h, hn => by
    simp at h
    simp [sumLeft, aheadOf, h]
  | j :: r, a, k + 1, hk, h, hn => by
    have h0 := hn 0 (by omega)
    simp only [List.getElem_cons_zero] at h0
    have := sumLeft_ahead r a k (by simpa using hk) (by simpa using h) (fun i hi => by simpa using hn (i + 1) (by omega))
    simp only [List.take_succ_cons, sumLeft, List.getElem_cons_succ, aheadOf, if_neg h0]
    omega
theorem slot_spec {js : List Job} {a v : Int} (h : 1 ≤ jSlot js a v) : Chk js ∧ hasId js a ∧ 1 ≤ v ∧ v ≤ 65536 ∧ jSlot js a v = (aheadOf js a + v - 1) / v := by
  unfold jSlot at h ⊢
  split at h
  · omega
  rename_i hc
  rw [if_neg hc]
  have hv : 1 ≤ v ∧ v ≤ 65536 := by
    have h1 : ¬ v < 1 := fun h => hc (.inr (.inl h))
    have h2 : ¬ 65536 < v := fun h => hc (.inr (.inr h))
    omega
  have ha : (jAhead js a).2 = true := by
    rcases hq : (jAhead js a).2 with _ | _
    · exact absurd (.inl hq) hc
    · rfl
  unfold jAhead at ha ⊢
  split at ha
  · cases ha
  rename_i hf
  rw [if_neg hf]
  have hck : jCheck js = true := by
    rcases hq : jCheck js with _ | _
    · exact absurd (.inr hq) hf
    · rfl
  have hCh := chk_of hck
  rcases findId_spec js a with h1 | ⟨k, h1, h2, h3⟩
  · exact absurd (.inl (by rw [h1.1]; omega)) hf
  rw [h2]
  simp only [Int.toNat_natCast]
  have h3' : js[k].id = a := by have := at'_get h1; simp only [at'] at this; rw [this] at h3; exact h3
  have hsum := sumLeft_ahead js a k h1 h3' (fun i hi e => by
    have := nodup_at hCh.ids h1 (show i < js.length by omega) (by rw [at'_get h1, at'_get (show i < js.length by omega), e, h3'])
    omega)
  have e : js.getD k default = js[k] := at'_get h1
  rw [e]
  have hhas : hasId js a := ⟨_, List.getElem_mem h1, h3'⟩
  have hpos := ahead_pos hCh.right hhas
  refine ⟨hCh, hhas, hv.1, hv.2, ?_⟩
  rw [hsum, Int.tdiv_eq_ediv_of_nonneg (by omega)]
end Go.Aw
namespace Go.Aw
open Go Go.Proofs
set_option maxRecDepth 100000
set_option linter.unusedVariables false
set_option linter.unusedSimpArgs false
@[go_sem] theorem v9_tField_28_2 : tField Sp 28 2 = some (2, 3) := by kernel_rfl
@[go_sem] theorem v9_tField_38_0 : tField Sp 38 0 = some (0, 3) := by kernel_rfl
@[go_sem] theorem v9_tField_38_1 : tField Sp 38 1 = some (1, 3) := by kernel_rfl
@[go_sem] theorem v9_tField_38_2 : tField Sp 38 2 = some (2, 3) := by kernel_rfl
theorem ints_getD (S : List Int) (j : Nat) (h : j < S.length) : (S.map iC).getD j [] = iC (S.getD j 0) := by
  simp [List.getD_eq_getElem?_getD, h]
@[go_sem] theorem ints_store (S : List Int) (i : Nat) (z : Int) : (S.map iC).set i (((S.map iC).getD i []).set 0 (.v (.int .i64 z))) = (S.set i z).map iC := by
  by_cases h : i < S.length
  · rw [List.map_set]; congr 1; simp [List.getD_eq_getElem?_getD, h, iC]
  · rw [List.set_eq_of_length_le (by simpa using h), List.set_eq_of_length_le (by simpa using h)]
@[simp] theorem seenL_rep (l : List Nat) (n : Nat) (x : Value) : seenL l (List.replicate n (AV.v x)) = True := by
  induction n with
  | zero => simp [seenL]
  | succ n ih => simp [List.replicate_succ, seenL, seen, ih]
@[simp] theorem seenL_ints (l : List Nat) (js : List Int) : seenL l (js.map iC).flatten := by
  induction js with
  | nil => simp [seenL]
  | cons j js ih => simp only [List.map_cons, List.flatten_cons]; exact (seenL_append l).2 ⟨by simp [iC, seenL, seen], ih⟩
attribute [go_sem] iC_get
@[go_sem] theorem partC_g0 (j : Part) (x : AV) : (partC j).getD 0 x = .v (.int .i64 j.id) := rfl
@[go_sem] theorem partC_d1 (j : Part) : List.drop 1 (partC j) = [.v (.int .i64 j.at'), .v (.int .i64 j.n)] := rfl
@[go_sem] theorem partC_d2 (j : Part) : List.drop 2 (partC j) = [.v (.int .i64 j.n)] := rfl
@[go_sem] theorem partC_g1 (j : Part) (x : AV) : (partC j).getD 1 x = .v (.int .i64 j.at') := rfl
@[go_sem] theorem partC_g2 (j : Part) (x : AV) : (partC j).getD 2 x = .v (.int .i64 j.n) := rfl
@[go_sem] theorem iC_set0 (i z : Int) : (iC i).set 0 (.v (.int .i64 z)) = iC z := rfl
@[go_sem] theorem bif_and (x y : Bool) : (bif x then y else false) = (x && y) := by cases x <;> rfl
@[go_sem] theorem bif_or (x y : Bool) : (bif x then true else y) = (x || y) := by cases x <;> rfl
theorem pt'_get {js : List Part} {i : Nat} (h : i < js.length) : pt' js i = js[i] := by
  simp only [pt', List.getD, List.getElem?_eq_getElem h, Option.getD_some]
@[go_sem] def cSchedParts : Ctr := ctr2 aJobs (argI .i64) (fun _ _ => True) fun _ _ => .v (.bool true)
theorem gSchedParts : Good Sp 4 cSchedParts := by
  refine good2 (T := look [(6, cCheck), (7, cHeads), (9, cFill)]) (fn := Try.f4) (c := _) (tab_ok (by simpa using ⟨gCheck, gHeads, gFill⟩)) (by kernel_rfl) rfl (by kernel_rfl) rfl ?_
  intro l v hpre nx
  show Awp Sp _ _ _ _ ⟨[(0, .sl (l.map jobC) .none), (1, .v (.int .i64 v))], [], nx, 172⟩
  refine awp_sreg [some 4] rfl fun K1 hK1 => ?_
  refine oP ?_; refine oE (hK1 _ ?_); clear hK1 K1
  refine awp_seq_k fun J2 hJ2 => ?_
  refine awp_sreg [some 17, some 18, some 19, some 20, some 21, some 22, some 23, some 24, some 25, some 26, some 27, some 28, some 29, some 30, some 31, some 32] rfl fun K3 hK3 => ?_
  refine oP ?_; refine oP ?_; refine oP ?_; refine oP ?_; refine oP ?_; refine oP ?_
  refine oP ?_; refine oP ?_; refine oP ?_; refine oP ?_; refine oP ?_; refine oP ?_
  refine oP ?_; refine oP ?_; refine oP ?_; refine oP ?_; refine oE (hK3 _ ?_); clear hK3 K3
  refine awp_cond rfl (fun b1 => ?_) (fun b1 => ?_)
  · refine awp_sreg [some 33, some 4] rfl fun K4 hK4 => ?_
    refine oP ?_; refine oP ?_; refine oE (hK4 _ ?_); clear hK4 K4
    refine awp_ret (kRet ?_)
    rfl
  refine awp_skip (hJ2 _ ?_)
  have hck : jCheck l = true ∧ l.length ≤ 50 ∧ 1 ≤ v ∧ v ≤ 65536 := by rcases hq : jCheck l <;> simp [hq] at b1 ⊢; omega
  obtain ⟨hck, hl0, hv1, hv2⟩ := hck
  have hc := chk_of hck
  refine awp_sreg [some 34, some 5] rfl fun K5 hK5 => ?_
  refine oP ?_; refine oP ?_; refine oE (hK5 _ ?_); clear hK5 K5
  refine awp_sreg [some 35, some 36, some 37, some 6] rfl fun K6 hK6 => ?_
  refine oP ?_; refine oP ?_; refine oN ?_; refine oP ?_; refine oE (hK6 _ ?_); clear hK6 K6
  refine awp_seq_k fun J7 hJ7 => ?_
  refine awp_sreg [some 7] rfl fun K8 hK8 => ?_
  refine oP ?_; refine oE (hK8 _ ?_); clear hK8 K8
  refine awp_block ?_
  refine awp_loop ⟨[0, 1, 5, 6, 7], [nx], nx + 1, []⟩ (fun m st => ∃ (i : Nat) (S : List Int), i ≤ l.length ∧ S.length = l.length ∧ (∀ k, k < i → S.getD k 0 = (at' l k).gone) ∧ m = l.length - i ∧ st = ⟨[(0, .sl (l.map jobC) .none), (1, .v (.int .i64 v)), (5, .sl (l.map jobC) .none), (6, .os nx 0 l.length (some l.length)), (7, .v (.int .i64 i))], [(nx, .arr 1 (S.map iC))], nx + 1, 172⟩) l.length (by simp) ⟨_, _, (by simp only [keepSt, Nat.left_eq_add, Nat.add_eq_left, Nat.one_ne_zero, Nat.add_assoc, Nat.reduceAdd, List.mem_cons, List.not_mem_nil, or_false, true_or, or_true, tokSt, pick1, look, dropSp, allSeen, allSeenO, seen, seenL, seenO, Nat.reduceEqDiff, ↓reduceIte, reduceCtorEq, List.map_cons, List.map_nil, and_self, and_true, true_and, List.contains_nil, Bool.false_eq_true] <;> rfl), by simp [seen, seenL, -List.map_set, -List.map_map], 0, List.replicate l.length 0, by omega, by simp, fun k hk => by omega, rfl, by simp [iC]⟩ ?_
  rintro m st ⟨i, S, h1, h2, h3, h4, rfl⟩
  refine awp_seq_k fun J9 hJ9 => ?_
  refine awp_sreg [some 38, some 39, some 40, some 41] rfl fun K10 hK10 => ?_
  refine oP ?_; refine oP ?_; refine oP ?_; refine oP ?_; refine oE (hK10 _ ?_); clear hK10 K10
  refine awp_cond rfl (fun b6 => ?_) (fun b6 => ?_)
  · refine awp_skip (hJ9 _ ?_)
    refine awp_seq_k fun J11 hJ11 => ?_
    refine awp_block ?_
    have hi : i < l.length := by simp at b6; omega
    have hx := nth_mapD jobC l i hi
    refine awp_reg [some 44, some 45, some 46, some 47, some 48, some 49, some 50, some 51, Option.none] rfl fun K12 hK12 => ?_
    refine oP ?_; refine oP ?_; refine oP ?_; refine oP ?_; refine oP ?_ (h := by simp only [hx, go_sem, ↓reduceIte, Nat.reduceAdd, Nat.reduceSub, Nat.reduceMul, Nat.reduceEqDiff, Nat.reduceLT, Nat.reduceLeDiff, Nat.reducePow, Nat.reduceBEq, reduceCtorEq, Int.toNat_zero]; ((try simp (disch := omega) only [wrap64, wrapU64, wrapU32, wrapU16, wrapU8, go_sem, Nat.reduceAdd]); rfl))
    refine oP ?_; refine oP ?_; refine oP ?_; refine oWn ?_; refine oE (hK12 _ ?_); clear hK12 K12
    refine hJ11 _ ?_
    refine awp_reg [some 42, some 43, some 7] rfl fun K13 hK13 => ?_
    refine oP ?_; refine oP ?_; refine oP ?_; refine oE (hK13 _ ?_); clear hK13 K13
    refine ⟨_, _, (by simp only [keepSt, Nat.left_eq_add, Nat.add_eq_left, Nat.one_ne_zero, Nat.add_assoc, Nat.reduceAdd, List.mem_cons, List.not_mem_nil, or_false, true_or, or_true, tokSt, pick1, look, dropSp, allSeen, allSeenO, seen, seenL, seenO, Nat.reduceEqDiff, ↓reduceIte, reduceCtorEq, List.map_cons, List.map_nil, and_self, and_true, true_and, List.contains_nil, Bool.false_eq_true] <;> rfl), by simp [seen, seenL, -List.map_set, -List.map_map], l.length - (i + 1), by omega, i + 1, S.set i (at' l i).gone, by omega, by simp [h2], fun k hk => ?_, rfl, rfl⟩
    simp only [List.getD_eq_getElem?_getD]
    by_cases hki : k = i
    · subst hki; rw [List.getElem?_set_self (by omega)]; rfl
    · rw [List.getElem?_set_ne (fun e => hki e.symm)]
      have := h3 k (by omega)
      rwa [List.getD_eq_getElem?_getD] at this
  refine awp_exit (hJ7 _ ?_)
  refine awp_seq_k fun J14 hJ14 => ?_
  have hi : i = l.length := by simp at b6; omega
  have hS : S = l.map (·.gone) := by
    refine List.ext_getElem (by simp [h2]) fun k hk1 hk2 => ?_
    have := h3 k (by omega)
    rw [List.getD_eq_getElem?_getD, List.getElem?_eq_getElem hk1, at'_get (by omega)] at this
    simpa using this
  subst hS
  clear h1 h2 h3 h4 hi
  refine awp_sreg [some 8] rfl fun K15 hK15 => ?_
  refine oP ?_; refine oE (hK15 _ ?_); clear hK15 K15
  refine awp_block ?_
  refine awp_loop ⟨[0, 1, 5, 6, 8], [nx], nx + 1, []⟩ (fun m st => ∃ (k : Nat) (row : List Job) (S : List Int), k ≤ 300 ∧ SentR l row S ∧ m = 300 - k ∧ st = ⟨[(0, .sl (l.map jobC) .none), (1, .v (.int .i64 v)), (5, .sl (row.map jobC) .none), (6, .os nx 0 l.length (some l.length)), (8, .v (.int .i64 k))], [(nx, .arr 1 (S.map iC))], nx + 1, 172⟩) 300 (by simp) ⟨_, _, (by simp only [keepSt, Nat.left_eq_add, Nat.add_eq_left, Nat.one_ne_zero, Nat.add_assoc, Nat.reduceAdd, List.mem_cons, List.not_mem_nil, or_false, true_or, or_true, tokSt, pick1, look, dropSp, allSeen, allSeenO, seen, seenL, seenO, Nat.reduceEqDiff, ↓reduceIte, reduceCtorEq, List.map_cons, List.map_nil, and_self, and_true, true_and, List.contains_nil, Bool.false_eq_true] <;> rfl), by simp [seen, seenL, -List.map_set, -List.map_map], 0, l, l.map (·.gone), by omega, sent_init hc, rfl, rfl⟩ ?_
  rintro m st ⟨k, row, S, h1, hR, h4, rfl⟩
  refine awp_seq_k fun J16 hJ16 => ?_
  refine awp_sreg [some 52, some 53, some 54, some 55, some 56, some 57, some 58] rfl fun K17 hK17 => ?_
  refine oP ?_; refine oP ?_; refine oP ?_; refine oP ?_; refine oP ?_; refine oP ?_
  refine oP ?_; refine oE (hK17 _ ?_); clear hK17 K17
  refine awp_cond rfl (fun b10 => ?_) (fun b10 => ?_)
  · refine awp_skip (hJ16 _ ?_)
    refine awp_seq_k fun J18 hJ18 => ?_
    refine awp_block ?_
    have hk : k < 300 ∧ row ≠ [] := by
      simp at b10
      exact ⟨by omega, fun e => by rw [e] at b10; simp at b10⟩
    have hcr := chk_check hR.chk
    have hF : jFill row v = fillF row v [] [] := by unfold jFill; rw [if_neg (by simp [hcr]; omega)]
    obtain ⟨f1, f2, f3, f4⟩ := fill_sent hc row v S hR
    obtain ⟨f5, f6, f7⟩ := f3 (by omega)
    have hP : (jFill row v).2.1 = fillP row v := by rw [hF, fill_parts]; rfl
    have hN : (jFill row v).1 = (fillF row v [] []).1 := by rw [hF]
    have hPl := fillP_len row v
    have hrl := hR.chk.len
    have hNc := chk_check (fill_chk row v [] [] hR.chk)
    generalize hps : fillP row v = ps at f1 f2 f4 f5 f6 f7 hP hPl
    generalize hnr : (fillF row v [] []).1 = nr at f2 f7 hN hNc
    refine awp_sreg [some 62, some 63, some 64, some 61, some 65, some 66, some 67, some 9, some 10, some 11] rfl fun K19 hK19 => ?_
    refine oP ?_; refine oP ?_; refine oP ?_ (h := by simp only [hP, hN, go_sem, ↓reduceIte, Nat.reduceAdd, Nat.reduceSub, Nat.reduceMul, Nat.reduceEqDiff, Nat.reduceLT, Nat.reduceLeDiff, Nat.reducePow, Nat.reduceBEq, reduceCtorEq, Int.toNat_zero]; ((try simp (disch := omega) only [wrap64, wrapU64, wrapU32, wrapU16, wrapU8, go_sem, Nat.reduceAdd]); rfl))
    refine oP ?_; refine oP ?_; refine oP ?_; refine oP ?_; refine oP ?_; refine oP ?_
    refine oP ?_; refine oE (hK19 _ ?_); clear hK19 K19
    refine awp_sreg [some 12] rfl fun K20 hK20 => ?_
    refine oP ?_; refine oE (hK20 _ ?_); clear hK20 K20
    refine awp_seq_k fun J21 hJ21 => ?_
    refine awp_sreg [some 13] rfl fun K22 hK22 => ?_
    refine oP ?_; refine oE (hK22 _ ?_); clear hK22 K22
    refine awp_block ?_
    refine awp_loop ⟨[0, 1, 5, 6, 8, 9, 10, 12, 13], [nx], nx + 1, []⟩ (fun m st => ∃ q : Nat, q ≤ ps.length ∧ m = ps.length - q ∧ st = ⟨[(0, .sl (l.map jobC) .none), (1, .v (.int .i64 v)), (5, .sl (row.map jobC) .none), (6, .os nx 0 l.length (some l.length)), (8, .v (.int .i64 k)), (9, .sl (nr.map jobC) .none), (10, .sl (ps.map partC) .none), (12, .v (.int .i64 (sumP (ps.take q)))), (13, .v (.int .i64 q))], [(nx, .arr 1 ((procN l S (ps.take q)).map iC))], nx + 1, 172⟩) ps.length (by simp) ⟨_, _, (by simp only [keepSt, Nat.left_eq_add, Nat.add_eq_left, Nat.one_ne_zero, Nat.add_assoc, Nat.reduceAdd, List.mem_cons, List.not_mem_nil, or_false, true_or, or_true, tokSt, pick1, look, dropSp, allSeen, allSeenO, seen, seenL, seenO, Nat.reduceEqDiff, ↓reduceIte, reduceCtorEq, List.map_cons, List.map_nil, and_self, and_true, true_and, List.contains_nil, Bool.false_eq_true] <;> rfl), by simp [seen, seenL, -List.map_set, -List.map_map], 0, by omega, rfl, rfl⟩ ?_
    rintro m2 st ⟨q, g1, g2, rfl⟩
    refine awp_seq_k fun J23 hJ23 => ?_
    refine awp_sreg [some 68, some 69, some 70, some 71] rfl fun K24 hK24 => ?_
    refine oP ?_; refine oP ?_; refine oP ?_; refine oP ?_; refine oE (hK24 _ ?_); clear hK24 K24
    refine awp_cond rfl (fun b15 => ?_) (fun b15 => ?_)
    · refine awp_skip (hJ23 _ ?_)
      refine awp_seq_k fun J25 hJ25 => ?_
      refine awp_block ?_
      have hq : q < ps.length := by simp at b15; omega
      obtain ⟨p, hpq⟩ : ∃ p, ps[q] = p := ⟨_, rfl⟩
      have hpe : ps.getD q default = p := by simp [List.getD, hq, hpq]
      have hxp := nth_mapD partC ps q hq
      rw [hpe] at hxp
      have hpn := f4 p (by rw [← hpq]; exact List.getElem_mem hq)
      have hok := okN_at l ps S q hq f1
      have hsn := procN_snoc l ps S q hq
      have hsm := sumP_snoc ps q hq
      rw [hpq] at hok hsn hsm
      have hsl := sumP_le (ps.take q) (fun x hx => f4 x (List.mem_of_mem_take hx))
      have htl : (ps.take q).length ≤ 4096 := by simp; omega
      have hSb := procN_bound l (ps.take q) S 65536 (fun x hx => f4 x (List.mem_of_mem_take hx)) (hR.bound hc)
      have hSl := (procN_len l (ps.take q) S).trans hR.len
      generalize hS1 : procN l S (ps.take q) = S1 at hok hsn hSb hSl
      refine awp_sreg [some 14] rfl fun K26 hK26 => ?_
      refine oP ?_; refine oE (hK26 _ ?_); clear hK26 K26
      refine awp_seq_k fun J27 hJ27 => ?_
      refine awp_sreg [some 15] rfl fun K28 hK28 => ?_
      refine oP ?_; refine oE (hK28 _ ?_); clear hK28 K28
      refine awp_block ?_
      refine awp_loop ⟨[0, 1, 5, 6, 8, 9, 10, 12, 13, 14, 15], [nx], nx + 1, []⟩ (fun m st => ∃ j : Nat, j ≤ l.length ∧ m = l.length - j ∧ st = ⟨[(0, .sl (l.map jobC) .none), (1, .v (.int .i64 v)), (5, .sl (row.map jobC) .none), (6, .os nx 0 l.length (some l.length)), (8, .v (.int .i64 k)), (9, .sl (nr.map jobC) .none), (10, .sl (ps.map partC) .none), (12, .v (.int .i64 (sumP (ps.take q)))), (13, .v (.int .i64 q)), (14, .v (.bool (innerN l p S1 j).1)), (15, .v (.int .i64 j))], [(nx, .arr 1 ((innerN l p S1 j).2.map iC))], nx + 1, 172⟩) l.length (by simp) ⟨_, _, (by simp only [keepSt, Nat.left_eq_add, Nat.add_eq_left, Nat.one_ne_zero, Nat.add_assoc, Nat.reduceAdd, List.mem_cons, List.not_mem_nil, or_false, true_or, or_true, tokSt, pick1, look, dropSp, allSeen, allSeenO, seen, seenL, seenO, Nat.reduceEqDiff, ↓reduceIte, reduceCtorEq, List.map_cons, List.map_nil, and_self, and_true, true_and, List.contains_nil, Bool.false_eq_true] <;> rfl), by simp [seen, seenL, -List.map_set, -List.map_map], 0, by omega, rfl, rfl⟩ ?_
      rintro m3 st ⟨j, e1, e2, rfl⟩
      refine awp_seq_k fun J29 hJ29 => ?_
      refine awp_sreg [some 74, some 75, some 76, some 77] rfl fun K30 hK30 => ?_
      refine oP ?_; refine oP ?_; refine oP ?_; refine oP ?_; refine oE (hK30 _ ?_); clear hK30 K30
      refine awp_cond rfl (fun b19 => ?_) (fun b19 => ?_)
      · refine awp_skip (hJ29 _ ?_)
        refine awp_seq_k fun J31 hJ31 => ?_
        refine awp_block ?_
        have hj : j < l.length := by simp at b19; omega
        have hxj := nth_mapD jobC l j hj
        have hTl : (innerN l p S1 j).2.length = l.length := (innerN_len l p S1 j).trans hSl
        have hTb := innerN_get (l := l) (p := p) (S := S1) j j (Nat.le_refl _)
        have hSj := hSb j
        have hstep : innerN l p S1 (j + 1) = stepJ l p j (innerN l p S1 j) := rfl
        generalize hT : innerN l p S1 j = T at hTl hTb hstep
        have hxT := ints_getD T.2 j (by omega)
        refine awp_sq mixO [] (by kernel_rfl) [some 80, some 81, some 82, some 83, some 84, some 85, some 86, some 87, some 88, some 89, some 90] rfl fun K32 hK32 => ?_
        refine qP ?_; refine qP ?_; refine qP ?_ (h := by simp only [hxj, go_sem, ↓reduceIte, Nat.reduceAdd, Nat.reduceSub, Nat.reduceMul, Nat.reduceEqDiff, Nat.reduceLT, Nat.reduceLeDiff, Nat.reducePow, Nat.reduceBEq, reduceCtorEq, Int.toNat_zero]; ((try simp (disch := omega) only [wrap64, wrapU64, wrapU32, wrapU16, wrapU8, go_sem, Nat.reduceAdd]); rfl))
        refine qP ?_; refine qP ?_; refine qP ?_; refine qP ?_; refine qP ?_ (h := by simp only [hxp, go_sem, ↓reduceIte, Nat.reduceAdd, Nat.reduceSub, Nat.reduceMul, Nat.reduceEqDiff, Nat.reduceLT, Nat.reduceLeDiff, Nat.reducePow, Nat.reduceBEq, reduceCtorEq, Int.toNat_zero]; ((try simp (disch := omega) only [wrap64, wrapU64, wrapU32, wrapU16, wrapU8, go_sem, Nat.reduceAdd]); rfl))
        refine qP ?_; refine qP ?_; refine qP ?_; refine qE (hK32 _ ?_); clear hK32 K32
        refine awp_cond rfl (fun b21 => ?_) (fun b21 => ?_)
        · have hid : (at' l j).id = p.id := by simpa using b21
          unfold stepJ at hstep
          rw [if_pos hid] at hstep
          refine awp_sq mixO [] (by kernel_rfl) [some 91, some 92, some 93, some 94, some 95, some 96, some 97, some 98, some 99, some 100, some 101, some 102, some 103, some 104, some 105, some 106, some 107, some 108, some 14] rfl fun K33 hK33 => ?_
          refine qP ?_; refine qP ?_; refine qP ?_ (h := by simp only [hxp, go_sem, ↓reduceIte, Nat.reduceAdd, Nat.reduceSub, Nat.reduceMul, Nat.reduceEqDiff, Nat.reduceLT, Nat.reduceLeDiff, Nat.reducePow, Nat.reduceBEq, reduceCtorEq, Int.toNat_zero]; ((try simp (disch := omega) only [wrap64, wrapU64, wrapU32, wrapU16, wrapU8, go_sem, Nat.reduceAdd]); rfl))
          refine qP ?_; refine qP ?_; refine qP ?_; refine qP ?_; refine qP ?_; refine qP ?_ (h := by simp only [hxT, go_sem, ↓reduceIte, Nat.reduceAdd, Nat.reduceSub, Nat.reduceMul, Nat.reduceEqDiff, Nat.reduceLT, Nat.reduceLeDiff, Nat.reducePow, Nat.reduceBEq, reduceCtorEq, Int.toNat_zero]; ((try simp (disch := omega) only [wrap64, wrapU64, wrapU32, wrapU16, wrapU8, go_sem, Nat.reduceAdd]); rfl))
          refine qP ?_; refine qP ?_; refine qP ?_; refine qP ?_; refine qP ?_ (h := by simp only [hxp, go_sem, ↓reduceIte, Nat.reduceAdd, Nat.reduceSub, Nat.reduceMul, Nat.reduceEqDiff, Nat.reduceLT, Nat.reduceLeDiff, Nat.reducePow, Nat.reduceBEq, reduceCtorEq, Int.toNat_zero]; ((try simp (disch := omega) only [wrap64, wrapU64, wrapU32, wrapU16, wrapU8, go_sem, Nat.reduceAdd]); rfl))
          refine qP ?_; refine qP ?_; refine qP ?_; refine qP ?_; refine qP ?_; refine qE (hK33 _ ?_); clear hK33 K33
          refine awp_rq mixO [13] (by kernel_rfl) [some 109, some 110, some 111, some 112, some 113, some 114, some 115, some 116, some 117, some 118, some 119, some 120, some 121, Option.none] rfl fun K34 hK34 => ?_
          refine qP ?_; refine qP ?_; refine qP ?_; refine qP ?_; refine qP ?_; refine qP ?_ (h := by simp only [hxT, go_sem, ↓reduceIte, Nat.reduceAdd, Nat.reduceSub, Nat.reduceMul, Nat.reduceEqDiff, Nat.reduceLT, Nat.reduceLeDiff, Nat.reducePow, Nat.reduceBEq, reduceCtorEq, Int.toNat_zero]; ((try simp (disch := omega) only [wrap64, wrapU64, wrapU32, wrapU16, wrapU8, go_sem, Nat.reduceAdd]); rfl))
          refine qP ?_; refine qP ?_; refine qP ?_ (h := by simp only [hxp, go_sem, ↓reduceIte, Nat.reduceAdd, Nat.reduceSub, Nat.reduceMul, Nat.reduceEqDiff, Nat.reduceLT, Nat.reduceLeDiff, Nat.reducePow, Nat.reduceBEq, reduceCtorEq, Int.toNat_zero]; ((try simp (disch := omega) only [wrap64, wrapU64, wrapU32, wrapU16, wrapU8, go_sem, Nat.reduceAdd]); rfl))
          refine qP ?_; refine qP ?_; refine qP ?_; refine qP ?_; refine qWn ?_; refine qE (hK34 _ ?_); clear hK34 K34
          refine hJ31 _ ?_
          refine awp_reg [some 78, some 79, some 15] rfl fun K35 hK35 => ?_
          refine oP ?_; refine oP ?_; refine oP ?_; refine oE (hK35 _ ?_); clear hK35 K35
          exact ⟨_, _, (by simp only [keepSt, Nat.left_eq_add, Nat.add_eq_left, Nat.one_ne_zero, Nat.add_assoc, Nat.reduceAdd, List.mem_cons, List.not_mem_nil, or_false, true_or, or_true, tokSt, pick1, look, dropSp, allSeen, allSeenO, seen, seenL, seenO, Nat.reduceEqDiff, ↓reduceIte, reduceCtorEq, List.map_cons, List.map_nil, and_self, and_true, true_and, List.contains_nil, Bool.false_eq_true] <;> rfl), by simp [seen, seenL, -List.map_set, -List.map_map], l.length - (j + 1), by omega, j + 1, by omega, rfl, by rw [hstep] <;> rfl⟩
        have hid : ¬ (at' l j).id = p.id := by simpa using b21
        unfold stepJ at hstep
        rw [if_neg hid] at hstep
        refine awp_skip (hJ31 _ ?_)
        refine awp_reg [some 78, some 79, some 15] rfl fun K36 hK36 => ?_
        refine oP ?_; refine oP ?_; refine oP ?_; refine oE (hK36 _ ?_); clear hK36 K36
        exact ⟨_, _, (by simp only [keepSt, Nat.left_eq_add, Nat.add_eq_left, Nat.one_ne_zero, Nat.add_assoc, Nat.reduceAdd, List.mem_cons, List.not_mem_nil, or_false, true_or, or_true, tokSt, pick1, look, dropSp, allSeen, allSeenO, seen, seenL, seenO, Nat.reduceEqDiff, ↓reduceIte, reduceCtorEq, List.map_cons, List.map_nil, and_self, and_true, true_and, List.contains_nil, Bool.false_eq_true] <;> rfl), by simp [seen, seenL, -List.map_set, -List.map_map], l.length - (j + 1), by omega, j + 1, by omega, rfl, by rw [hstep] <;> rfl⟩
      refine awp_exit (hJ27 _ ?_)
      refine awp_seq_k fun J37 hJ37 => ?_
      have hj : j = l.length := by simp at b19; omega
      subst hj
      rw [hok]
      refine awp_sreg [some 122, some 123] rfl fun K38 hK38 => ?_
      refine oP ?_; refine oP ?_; refine oE (hK38 _ ?_); clear hK38 K38
      refine awp_cond rfl (fun b24 => ?_) (fun b24 => ?_)
      · simp at b24
      refine awp_skip (hJ37 _ ?_)
      refine awp_reg [some 124, some 125, some 126, some 127, some 128, some 129, some 130, some 12] rfl fun K39 hK39 => ?_
      refine oP ?_; refine oP ?_; refine oP ?_; refine oP ?_ (h := by simp only [hxp, go_sem, ↓reduceIte, Nat.reduceAdd, Nat.reduceSub, Nat.reduceMul, Nat.reduceEqDiff, Nat.reduceLT, Nat.reduceLeDiff, Nat.reducePow, Nat.reduceBEq, reduceCtorEq, Int.toNat_zero]; ((try simp (disch := omega) only [wrap64, wrapU64, wrapU32, wrapU16, wrapU8, go_sem, Nat.reduceAdd]); rfl))
      refine oP ?_; refine oP ?_; refine oP ?_; refine oP ?_; refine oE (hK39 _ ?_); clear hK39 K39
      refine hJ25 _ ?_
      refine awp_reg [some 72, some 73, some 13] rfl fun K40 hK40 => ?_
      refine oP ?_; refine oP ?_; refine oP ?_; refine oE (hK40 _ ?_); clear hK40 K40
      exact ⟨_, _, (by simp only [keepSt, Nat.left_eq_add, Nat.add_eq_left, Nat.one_ne_zero, Nat.add_assoc, Nat.reduceAdd, List.mem_cons, List.not_mem_nil, or_false, true_or, or_true, tokSt, pick1, look, dropSp, allSeen, allSeenO, seen, seenL, seenO, Nat.reduceEqDiff, ↓reduceIte, reduceCtorEq, List.map_cons, List.map_nil, and_self, and_true, true_and, List.contains_nil, Bool.false_eq_true] <;> rfl), by simp [seen, seenL, -List.map_set, -List.map_map], ps.length - (q + 1), by omega, q + 1, by omega, rfl, by rw [hsm, hsn] <;> rfl⟩
    refine awp_exit (hJ21 _ ?_)
    refine awp_seq_k fun J41 hJ41 => ?_
    have hq : q = ps.length := by simp at b15; omega
    subst hq
    rw [List.take_of_length_le (Nat.le_refl _)]
    refine awp_sreg [some 131, some 132, some 133, some 134, some 135, some 136, some 137, some 138, some 139, some 140, some 141, some 142, some 143, some 144, some 145, some 146, some 147, some 148] rfl fun K42 hK42 => ?_
    refine oP ?_; refine oP ?_; refine oP ?_; refine oP ?_; refine oP ?_; refine oP ?_
    refine oP ?_; refine oP ?_; refine oP ?_; refine oP ?_; refine oP ?_; refine oP ?_
    refine oP ?_; refine oP ?_; refine oP ?_; refine oP ?_; refine oP ?_; refine oP ?_
    refine oE (hK42 _ ?_); clear hK42 K42
    refine awp_cond rfl (fun b27 => ?_) (fun b27 => ?_)
    · exfalso
      by_cases hn : nr = []
      · subst hn; simp [hNc] at b27; omega
      · have := f7 hn
        simp [hNc, this] at b27
    refine awp_skip (hJ41 _ ?_)
    refine awp_reg [some 149, some 5] rfl fun K43 hK43 => ?_
    refine oP ?_; refine oP ?_; refine oE (hK43 _ ?_); clear hK43 K43
    refine hJ18 _ ?_
    refine awp_reg [some 59, some 60, some 8] rfl fun K44 hK44 => ?_
    refine oP ?_; refine oP ?_; refine oP ?_; refine oE (hK44 _ ?_); clear hK44 K44
    exact ⟨_, _, (by simp only [keepSt, Nat.left_eq_add, Nat.add_eq_left, Nat.one_ne_zero, Nat.add_assoc, Nat.reduceAdd, List.mem_cons, List.not_mem_nil, or_false, true_or, or_true, tokSt, pick1, look, dropSp, allSeen, allSeenO, seen, seenL, seenO, Nat.reduceEqDiff, ↓reduceIte, reduceCtorEq, List.map_cons, List.map_nil, and_self, and_true, true_and, List.contains_nil, Bool.false_eq_true] <;> rfl), by simp [seen, seenL, -List.map_set, -List.map_map], 300 - (k + 1), by omega, k + 1, nr, _, by omega, f2, rfl, rfl⟩
  refine awp_exit (hJ14 _ ?_)
  refine awp_seq_k fun J45 hJ45 => ?_
  refine awp_sreg [some 16] rfl fun K46 hK46 => ?_
  refine oP ?_; refine oE (hK46 _ ?_); clear hK46 K46
  refine awp_block ?_
  refine awp_loop ⟨[0, 1, 5, 6, 16], [nx], nx + 1, []⟩ (fun m st => ∃ i : Nat, i ≤ l.length ∧ m = l.length - i ∧ st = ⟨[(0, .sl (l.map jobC) .none), (1, .v (.int .i64 v)), (5, .sl (row.map jobC) .none), (6, .os nx 0 l.length (some l.length)), (16, .v (.int .i64 i))], [(nx, .arr 1 (S.map iC))], nx + 1, 172⟩) l.length (by simp) ⟨_, _, (by simp only [keepSt, Nat.left_eq_add, Nat.add_eq_left, Nat.one_ne_zero, Nat.add_assoc, Nat.reduceAdd, List.mem_cons, List.not_mem_nil, or_false, true_or, or_true, tokSt, pick1, look, dropSp, allSeen, allSeenO, seen, seenL, seenO, Nat.reduceEqDiff, ↓reduceIte, reduceCtorEq, List.map_cons, List.map_nil, and_self, and_true, true_and, List.contains_nil, Bool.false_eq_true] <;> rfl), by simp [seen, seenL, -List.map_set, -List.map_map], 0, by omega, rfl, rfl⟩ ?_
  rintro m3 st ⟨i, g1, g2, rfl⟩
  refine awp_seq_k fun J47 hJ47 => ?_
  refine awp_sreg [some 150, some 151, some 152, some 153, some 154, some 155, some 156, some 157, some 158] rfl fun K48 hK48 => ?_
  refine oP ?_; refine oP ?_; refine oP ?_; refine oP ?_; refine oP ?_; refine oP ?_
  refine oP ?_; refine oP ?_; refine oP ?_; refine oE (hK48 _ ?_); clear hK48 K48
  refine awp_cond rfl (fun b31 => ?_) (fun b31 => ?_)
  · refine awp_skip (hJ47 _ ?_)
    refine awp_seq_k fun J49 hJ49 => ?_
    refine awp_block ?_
    have hi : i < l.length ∧ row = [] := by
      simp at b31
      exact ⟨by omega, b31.2⟩
    obtain ⟨hi, hrow⟩ := hi
    have hSl := hR.len
    have hxi := nth_mapD jobC l i hi
    have hse : S.getD i 0 = (at' l i).size := sent_end (by rw [hrow] at hR; exact hR) i hi
    have hxS := ints_getD S i (by rw [hR.len]; exact hi)
    rw [hse] at hxS
    refine awp_sq mixO [] (by kernel_rfl) [some 161, some 162, some 163, some 164, some 165, some 166, some 167, some 168, some 169, some 170] rfl fun K50 hK50 => ?_
    refine qP ?_; refine qP ?_; refine qP ?_; refine qP ?_ (h := by simp only [hxS, go_sem, ↓reduceIte, Nat.reduceAdd, Nat.reduceSub, Nat.reduceMul, Nat.reduceEqDiff, Nat.reduceLT, Nat.reduceLeDiff, Nat.reducePow, Nat.reduceBEq, reduceCtorEq, Int.toNat_zero]; ((try simp (disch := omega) only [wrap64, wrapU64, wrapU32, wrapU16, wrapU8, go_sem, Nat.reduceAdd]); rfl))
    refine qP ?_; refine qP ?_; refine qP ?_ (h := by simp only [hxi, go_sem, ↓reduceIte, Nat.reduceAdd, Nat.reduceSub, Nat.reduceMul, Nat.reduceEqDiff, Nat.reduceLT, Nat.reduceLeDiff, Nat.reducePow, Nat.reduceBEq, reduceCtorEq, Int.toNat_zero]; ((try simp (disch := omega) only [wrap64, wrapU64, wrapU32, wrapU16, wrapU8, go_sem, Nat.reduceAdd]); rfl))
    refine qP ?_; refine qP ?_; refine qP ?_; refine qE (hK50 _ ?_); clear hK50 K50
    refine awp_cond rfl (fun b33 => ?_) (fun b33 => ?_)
    · (exfalso; simp at b33)
    refine awp_skip (hJ49 _ ?_)
    refine awp_reg [some 159, some 160, some 16] rfl fun K51 hK51 => ?_
    refine oP ?_; refine oP ?_; refine oP ?_; refine oE (hK51 _ ?_); clear hK51 K51
    exact ⟨_, _, (by simp only [keepSt, Nat.left_eq_add, Nat.add_eq_left, Nat.one_ne_zero, Nat.add_assoc, Nat.reduceAdd, List.mem_cons, List.not_mem_nil, or_false, true_or, or_true, tokSt, pick1, look, dropSp, allSeen, allSeenO, seen, seenL, seenO, Nat.reduceEqDiff, ↓reduceIte, reduceCtorEq, List.map_cons, List.map_nil, and_self, and_true, true_and, List.contains_nil, Bool.false_eq_true] <;> rfl), by simp [seen, seenL, -List.map_set, -List.map_map], l.length - (i + 1), by omega, i + 1, by omega, rfl, rfl⟩
  refine awp_exit (hJ45 _ ?_)
  refine awp_sreg [some 171, some 4] rfl fun K52 hK52 => ?_
  refine oP ?_; refine oP ?_; refine oE (hK52 _ ?_); clear hK52 K52
  refine awp_ret (kRet ?_)
  rfl
end Go.Aw