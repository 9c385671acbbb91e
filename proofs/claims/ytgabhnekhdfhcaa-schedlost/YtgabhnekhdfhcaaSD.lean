import Derived.Test.YtgabhnekhdfhcaaSC
namespace Go.Aw
open Go Go.Proofs
set_option maxRecDepth 100000
set_option linter.unusedVariables false
set_option linter.unusedSimpArgs false
/-! ### rows of jobs: the plain part -/
structure Chk (js : List Job) : Prop where
  len : js.length ≤ 4096
  right : ∀ x ∈ js, jRight x = true
  ids : (js.map (·.id)).Nodup
  sorted : js.Pairwise jLt
  fresh : ∀ x ∈ js.tail, x.gone = 0

theorem at'_mem {js : List Job} {i : Nat} (h : i < js.length) : at' js i ∈ js := by
  simp only [at', List.getD, List.getElem?_eq_getElem h, Option.getD_some]; exact List.getElem_mem h
theorem at'_get {js : List Job} {i : Nat} (h : i < js.length) : at' js i = js[i] := by
  simp only [at', List.getD, List.getElem?_eq_getElem h, Option.getD_some]
theorem right_gone {x : Job} (h : jRight x = true) : 0 ≤ x.gone ∧ x.gone < x.size ∧ 0 ≤ x.prio ∧ x.prio ≤ 2 ∧ 1 ≤ x.size ∧ x.size ≤ 65536 ∧ 0 ≤ x.id ∧ x.id ≤ 4611686018427387904 := by
  simp [jRight] at h; omega
theorem chk_of {js : List Job} (h : jCheck js = true) : Chk js := by
  have hs := (check_spec js).1 h
  have hr : ∀ x ∈ js, jRight x = true := by
    intro x hx
    obtain ⟨i, hi, rfl⟩ := List.mem_iff_getElem.1 hx
    have := (hs i hi).2.1
    rwa [at'_get hi] at this
  refine ⟨check_len h, hr, ?_, ?_, ?_⟩
  · rw [List.nodup_iff_pairwise_ne, List.pairwise_iff_getElem]
    intro i j hi hj hij
    simp only [List.length_map] at hi hj
    have := (hs j hj).2.2.1 i hij
    rw [at'_get hi, at'_get hj] at this
    simpa using this
  · rw [List.pairwise_iff_getElem]
    intro i j hi hj hij
    have := check_lt h (j - i - 1) i (by omega)
    rw [show i + (j - i - 1) + 1 = j by omega, at'_get hi, at'_get hj] at this
    exact this
  · intro x hx
    obtain ⟨i, hi, rfl⟩ := List.mem_iff_getElem.1 hx
    simp only [List.length_tail] at hi
    have h1 := ((hs (i + 1) (by omega)).2.2.2 (by omega)).1
    rw [at'_get (by omega)] at h1
    have h2 := right_gone (hr js[i + 1] (List.getElem_mem _))
    simp only [List.getElem_tail]
    omega
theorem chk_check {js : List Job} (h : Chk js) : jCheck js = true := by
  rw [check_spec]
  intro i hi
  refine ⟨h.len, h.right _ (at'_mem hi), ?_, ?_⟩
  · intro k hk e
    have := h.ids
    rw [List.nodup_iff_pairwise_ne, List.pairwise_iff_getElem] at this
    refine this k i (by simpa using (show k < js.length by omega)) (by simpa using hi) hk ?_
    rw [at'_get hi, at'_get (show k < js.length by omega)] at e
    simpa using e
  · intro h0
    have hp := List.pairwise_iff_getElem.1 h.sorted (i - 1) i (by omega) hi (by omega)
    rw [at'_get hi, at'_get (show i - 1 < js.length by omega)]
    refine ⟨?_, hp⟩
    have : js[i] ∈ js.tail := by
      rw [List.mem_iff_getElem]
      exact ⟨i - 1, by simp; omega, by simp only [List.getElem_tail]; congr 1; omega⟩
    rw [h.fresh _ this]; omega

theorem jLt_total (a b : Job) (h : a.id ≠ b.id) : jLt a b ∨ jLt b a := by unfold jLt; omega
theorem put_take (r : List Job) (x : Job) : r.take (bsPos r x) = r.takeWhile fun y => decide (jOrder y x < 0) := by
  unfold bsPos
  generalize (fun y => decide (jOrder y x < 0)) = p
  induction r with
  | nil => rfl
  | cons y r ih => by_cases h : p y <;> simp [List.takeWhile_cons, h, ih]
theorem put_drop (r : List Job) (x : Job) : r.drop (bsPos r x) = r.dropWhile fun y => decide (jOrder y x < 0) := by
  unfold bsPos
  generalize (fun y => decide (jOrder y x < 0)) = p
  induction r with
  | nil => rfl
  | cons y r ih => by_cases h : p y <;> simp [List.takeWhile_cons, List.dropWhile_cons, h, ih]
theorem take_lt {r : List Job} {x y : Job} (h : y ∈ r.take (bsPos r x)) : jLt y x := by
  rw [put_take] at h
  have : ∀ (l : List Job), y ∈ (l.takeWhile fun y => decide (jOrder y x < 0)) → jLt y x := by
    intro l
    induction l with
    | nil => intro h; simp at h
    | cons z l ih =>
      intro h
      rw [List.takeWhile_cons] at h
      split at h
      · rename_i hz
        rcases List.mem_cons.1 h with rfl | h
        · exact (jOrder_neg _ _).1 (by simpa using hz)
        · exact ih h
      · simp at h
  exact this r h
theorem drop_ge {r : List Job} {x y : Job} (hs : r.Pairwise jLt) (h : y ∈ r.drop (bsPos r x)) : ¬ jLt y x := by
  rw [put_drop] at h
  have : ∀ (l : List Job), l.Pairwise jLt → y ∈ (l.dropWhile fun y => decide (jOrder y x < 0)) → ¬ jLt y x := by
    intro l
    induction l with
    | nil => intro _ h; simp at h
    | cons z l ih =>
      intro hp h
      rw [List.dropWhile_cons] at h
      split at h
      · exact ih (List.pairwise_cons.1 hp).2 h
      · rename_i hz
        have hz' : ¬ jLt z x := fun hl => hz (by simpa using (jOrder_neg _ _).2 hl)
        rcases List.mem_cons.1 h with rfl | h
        · exact hz'
        · exact fun hl => hz' (jLt_trans ((List.pairwise_cons.1 hp).1 y h) hl)
  exact this r hs h
theorem put_mem {r : List Job} {x y : Job} : y ∈ putJ r x ↔ y = x ∨ y ∈ r := by
  unfold putJ
  rw [List.mem_append, List.mem_cons]
  constructor
  · rintro (h | h | h)
    · exact .inr (List.mem_of_mem_take h)
    · exact .inl h
    · exact .inr (List.mem_of_mem_drop h)
  · rintro (h | h)
    · exact .inr (.inl h)
    · rw [← List.take_append_drop (bsPos r x) r, List.mem_append] at h
      rcases h with h | h
      · exact .inl h
      · exact .inr (.inr h)
theorem put_len (r : List Job) (x : Job) : (putJ r x).length = r.length + 1 := by
  have := bsPos_le r x
  simp [putJ]; omega
theorem put_sorted {r : List Job} {x : Job} (hs : r.Pairwise jLt) (hx : ∀ y ∈ r, y.id ≠ x.id) : (putJ r x).Pairwise jLt := by
  unfold putJ
  rw [List.pairwise_append]
  refine ⟨hs.sublist (List.take_sublist _ _), ?_, ?_⟩
  · rw [List.pairwise_cons]
    refine ⟨fun y hy => ?_, hs.sublist (List.drop_sublist _ _)⟩
    have := drop_ge hs hy
    rcases jLt_total y x (hx y (List.mem_of_mem_drop hy)) with h | h
    · exact absurd h this
    · exact h
  · intro y hy z hz
    rcases List.mem_cons.1 hz with rfl | hz
    · exact take_lt hy
    · have h := hs
      rw [← List.take_append_drop (bsPos r x) r, List.pairwise_append] at h
      exact h.2.2 y hy z hz
theorem put_ids {r : List Job} {x : Job} (hn : (r.map (·.id)).Nodup) (hx : ∀ y ∈ r, y.id ≠ x.id) : ((putJ r x).map (·.id)).Nodup := by
  have hp : (putJ r x).Perm (x :: r) := by
    unfold putJ
    refine List.perm_middle.trans ?_
    rw [List.take_append_drop]
  have := (hp.map (·.id)).nodup_iff
  rw [this, List.map_cons, List.nodup_cons]
  refine ⟨?_, hn⟩
  intro h
  obtain ⟨y, hy, e⟩ := List.mem_map.1 h
  exact hx y hy e
theorem put_chk {r : List Job} {x : Job} (hl : r.length + 1 ≤ 4096) (hr : ∀ y ∈ r, jRight y = true) (hxr : jRight x = true) (hn : (r.map (·.id)).Nodup) (hx : ∀ y ∈ r, y.id ≠ x.id) (hs : r.Pairwise jLt) (hg : ∀ y ∈ r, y.gone = 0) (hxg : x.gone = 0) : Chk (putJ r x) ∧ ∀ y ∈ putJ r x, y.gone = 0 := by
  have hall : ∀ y ∈ putJ r x, y.gone = 0 := fun y hy => by
    rcases put_mem.1 hy with rfl | h
    · exact hxg
    · exact hg y h
  refine ⟨⟨by rw [put_len]; omega, fun y hy => ?_, put_ids hn hx, put_sorted hs hx, fun y hy => hall y (List.mem_of_mem_tail hy)⟩, hall⟩
  rcases put_mem.1 hy with rfl | h
  · exact hxr
  · exact hr y h

theorem Chk.tail {j : Job} {r : List Job} (h : Chk (j :: r)) : Chk r ∧ (∀ y ∈ r, y.gone = 0) ∧ (∀ y ∈ r, y.id ≠ j.id) ∧ ∀ y ∈ r, jLt j y := by
  have h1 := h.ids
  rw [List.map_cons, List.nodup_cons] at h1
  have h2 := List.pairwise_cons.1 h.sorted
  have hl := h.len
  simp only [List.length_cons] at hl
  exact ⟨⟨by omega, fun y hy => h.right y (by simp [hy]), h1.2, h2.2, fun y hy => h.fresh y (List.mem_of_mem_tail hy)⟩, fun y hy => h.fresh y hy, fun y hy e => h1.1 (List.mem_map.2 ⟨y, hy, e⟩), h2.1⟩

theorem jLost_cons (j : Job) (r : List Job) : jLost (j :: r) = if jCheck (j :: r) = false ∨ j.gone = 0 then j :: r else putJ r ⟨j.id, j.prio, j.size, 0⟩ := rfl
theorem lost_chk {js : List Job} (h : jCheck js = true) : Chk (jLost js) ∧ (∀ y ∈ jLost js, y.gone = 0) ∧ (jLost js).length = js.length := by
  have hc := chk_of h
  cases js with
  | nil => exact ⟨by simpa [jLost] using hc, by simp [jLost], rfl⟩
  | cons j r =>
    obtain ⟨t1, t2, t3, t4⟩ := hc.tail
    rw [jLost_cons]
    by_cases hg : j.gone = 0
    · rw [if_pos (.inr hg)]
      refine ⟨hc, fun y hy => ?_, rfl⟩
      rcases List.mem_cons.1 hy with rfl | hy
      · exact hg
      · exact t2 y hy
    · rw [if_neg (by simp [h, hg])]
      have hr := right_gone (hc.right j (by simp))
      have hl := hc.len
      simp only [List.length_cons] at hl
      obtain ⟨p1, p2⟩ := put_chk (r := r) (x := ⟨j.id, j.prio, j.size, 0⟩) (by omega) t1.right (by simp [jRight]; omega) t1.ids t3 t1.sorted t2 rfl
      exact ⟨p1, p2, by rw [put_len]; rfl⟩

theorem put_first {r : List Job} {x : Job} (h : ∀ y ∈ r, jLt x y) : putJ r x = x :: r := by
  have hp : bsPos r x = 0 := by
    cases r with
    | nil => rfl
    | cons y r =>
      unfold bsPos
      rw [List.takeWhile_cons_of_neg]
      · rfl
      · simp only [decide_eq_true_eq, jOrder_neg]
        exact jLt_asymm (h y (by simp))
  simp [putJ, hp]

theorem fill_len : ∀ (js : List Job) (v : Int) (ps : List Part) (ds : List Int), (fillF js v ps ds).1.length ≤ js.length
  | [], v, ps, ds => by simp [fillF]
  | j :: r, v, ps, ds => by
    unfold fillF
    split
    · exact Nat.le_refl _
    · split
      · exact Nat.le_succ_of_le (fill_len r _ _ _)
      · exact Nat.le_refl _

theorem lost_fill {a : List Job} (hc : Chk a) (hg : ∀ y ∈ a, y.gone = 0) (v : Int) : (jFill a v).1.length < a.length ∨ jLost (jFill a v).1 = a := by
  have self : jLost a = a := by
    cases a with
    | nil => rfl
    | cons j r => rw [jLost_cons, if_pos (.inr (hg j (by simp)))]
  unfold jFill
  split
  · exact .inr self
  · rename_i hv
    cases a with
    | nil => exact .inr rfl
    | cons j r =>
      have hv' : 1 ≤ v ∧ v ≤ 65536 := by
        have h1 : ¬ v < 1 := fun h => hv (.inr (.inl h))
        have h2 : ¬ 65536 < v := fun h => hv (.inr (.inr h))
        omega
      unfold fillF
      rw [if_neg (by omega)]
      split
      · exact .inl (Nat.lt_succ_of_le (fill_len r _ _ _))
      · rename_i hne
        right
        obtain ⟨t1, t2, t3, t4⟩ := hc.tail
        have hr := right_gone (hc.right j (by simp))
        have hj := hg j (by simp)
        have ht : 1 ≤ takes v j ∧ takes v j < j.size := by
          unfold takes at hne ⊢
          split <;> split at hne <;> omega
        have hb : jCheck (⟨j.id, j.prio, j.size, j.gone + takes v j⟩ :: r) = true := by
          refine chk_check ⟨hc.len, ?_, hc.ids, ?_, t2⟩
          · intro y hy
            rcases List.mem_cons.1 hy with rfl | hy
            · simp [jRight]; omega
            · exact t1.right y hy
          · rw [List.pairwise_cons]
            refine ⟨fun y hy => ?_, t1.sorted⟩
            have h1 := t4 y hy
            have h2 := t2 y hy
            unfold jLt at h1 ⊢
            left
            simp only [mn1, h2]
            split <;> split <;> omega
        rw [jLost_cons, if_neg (by simp [hb]; omega)]
        have e : (⟨j.id, j.prio, j.size, 0⟩ : Job) = j := by cases j; simp at hj ⊢; exact hj.symm
        rw [e, put_first t4]

theorem lost_steps {a : List Job} (hc : Chk a) (hg : ∀ y ∈ a, y.gone = 0) {i : Nat} (hi : i < a.length) :
    (at' a i).gone = 0 ∧ (0 < i → ¬ ((at' a (i - 1)).prio < (at' a i).prio) ∧ ¬ ((at' a i).prio = (at' a (i - 1)).prio ∧ (at' a i).id < (at' a (i - 1)).id)) := by
  refine ⟨hg _ (at'_mem hi), fun h0 => ?_⟩
  have hp := List.pairwise_iff_getElem.1 hc.sorted (i - 1) i (by omega) hi (by omega)
  rw [at'_get hi, at'_get (show i - 1 < a.length by omega)]
  have g1 := hg _ (List.getElem_mem (show i - 1 < a.length by omega))
  have g2 := hg _ (List.getElem_mem hi)
  unfold jLt at hp
  rw [g1, g2] at hp
  omega
end Go.Aw
namespace Go.Aw
open Go Go.Proofs
set_option maxRecDepth 100000
set_option linter.unusedVariables false
set_option linter.unusedSimpArgs false
@[go_sem] theorem v6_tField_28_1 : tField Sp 28 1 = some (1, 3) := by kernel_rfl
@[go_sem] def cSchedLost : Ctr := ctr2 aJobs (argI .i64) (fun _ _ => True) fun _ _ => .v (.bool true)
theorem gSchedLost : Good Sp 5 cSchedLost := by
  refine good2 (T := look [(6, cCheck), (7, cHeads), (11, cLost), (9, cFill), (12, cSame)]) (fn := Try.f5) (c := _) (tab_ok (by simpa using ⟨gCheck, gHeads, gLost, gFill, gSame⟩)) (by kernel_rfl) rfl (by kernel_rfl) rfl ?_
  intro js v hpre nx
  show Awp Sp _ _ _ _ ⟨[(0, .sl (js.map jobC) .none), (1, .v (.int .i64 v))], [], nx, 110⟩
  refine awp_sreg [some 4] rfl fun K1 hK1 => ?_
  refine oP ?_; refine oE (hK1 _ ?_); clear hK1 K1
  refine awp_seq_k fun J2 hJ2 => ?_
  refine awp_sreg [some 10, some 11, some 12, some 13, some 14, some 15, some 16, some 17] rfl fun K3 hK3 => ?_
  refine oP ?_; refine oP ?_; refine oP ?_; refine oP ?_; refine oP ?_; refine oP ?_
  refine oP ?_; refine oP ?_; refine oE (hK3 _ ?_); clear hK3 K3
  refine awp_cond rfl (fun b1 => ?_) (fun b1 => ?_)
  · refine awp_sreg [some 18, some 4] rfl fun K4 hK4 => ?_
    refine oP ?_; refine oP ?_; refine oE (hK4 _ ?_); clear hK4 K4
    refine awp_ret (kRet ?_)
    rfl
  refine awp_skip (hJ2 _ ?_)
  have hck : jCheck js = true ∧ js.length ≤ 100 := by rcases hq : jCheck js <;> simp [hq] at b1 ⊢; omega
  obtain ⟨hck, hl0⟩ := hck
  obtain ⟨hc, hg, hl⟩ := lost_chk hck
  have hcka := chk_check hc
  generalize hA : jLost js = a at hc hg hl hcka
  refine awp_sreg [some 19, some 20, some 5] rfl fun K5 hK5 => ?_
  refine oP ?_; refine oP ?_ (h := by simp only [hA, go_sem, ↓reduceIte, Nat.reduceAdd, Nat.reduceSub, Nat.reduceMul, Nat.reduceEqDiff, Nat.reduceLT, Nat.reduceLeDiff, Nat.reducePow, Nat.reduceBEq, reduceCtorEq, Int.toNat_zero]; ((try simp (disch := omega) only [wrap64, wrapU64, wrapU32, wrapU16, wrapU8, go_sem, Nat.reduceAdd]); rfl))
  refine oP ?_; refine oE (hK5 _ ?_); clear hK5 K5
  refine awp_sreg [some 22, some 23, some 24, some 21, some 25, some 26, some 27, some 6, some 7, some 8] rfl fun K6 hK6 => ?_
  refine oP ?_; refine oP ?_; refine oP ?_; refine oP ?_; refine oP ?_; refine oP ?_
  refine oP ?_; refine oP ?_; refine oP ?_; refine oP ?_; refine oE (hK6 _ ?_); clear hK6 K6
  refine awp_seq_k fun J7 hJ7 => ?_
  refine awp_sreg [some 28, some 29, some 30, some 31, some 32, some 33, some 34, some 35, some 36, some 37] rfl fun K8 hK8 => ?_
  refine oP ?_; refine oP ?_; refine oP ?_; refine oP ?_; refine oP ?_; refine oP ?_
  refine oP ?_; refine oP ?_; refine oP ?_; refine oP ?_; refine oE (hK8 _ ?_); clear hK8 K8
  refine awp_cond rfl (fun b5 => ?_) (fun b5 => ?_)
  · (exfalso; simp [hcka, hl] at b5)
  refine awp_skip (hJ7 _ ?_)
  refine awp_seq_k fun J9 hJ9 => ?_
  refine awp_sreg [some 9] rfl fun K10 hK10 => ?_
  refine oP ?_; refine oE (hK10 _ ?_); clear hK10 K10
  refine awp_block ?_
  refine awp_loop ⟨[5, 6, 9], [], nx, []⟩ (fun m st => ∃ i : Nat, i ≤ a.length ∧ m = a.length - i ∧ st = ⟨[(5, .sl (a.map jobC) .none), (6, .sl ((jFill a v).1.map jobC) .none), (9, .v (.int .i64 i))], [], nx, 110⟩) a.length (by simp) ⟨_, _, (by simp only [keepSt, Nat.left_eq_add, Nat.add_eq_left, Nat.one_ne_zero, Nat.add_assoc, Nat.reduceAdd, List.mem_cons, List.not_mem_nil, or_false, true_or, or_true, tokSt, pick1, look, dropSp, allSeen, allSeenO, seen, seenL, seenO, Nat.reduceEqDiff, ↓reduceIte, reduceCtorEq, List.map_cons, List.map_nil, and_self, and_true, true_and, List.contains_nil, Bool.false_eq_true] <;> rfl), by simp [seen, seenL], 0, by omega, rfl, rfl⟩ ?_
  rintro m st ⟨i, h1, h3, rfl⟩
  refine awp_seq_k fun J11 hJ11 => ?_
  refine awp_sreg [some 38, some 39, some 40, some 41] rfl fun K12 hK12 => ?_
  refine oP ?_; refine oP ?_; refine oP ?_; refine oP ?_; refine oE (hK12 _ ?_); clear hK12 K12
  refine awp_cond rfl (fun b8 => ?_) (fun b8 => ?_)
  · refine awp_skip (hJ11 _ ?_)
    refine awp_seq_k fun J13 hJ13 => ?_
    refine awp_block ?_
    have hi : i < a.length := by simp at b8; omega
    have hx1 := nth_mapD jobC a i hi
    have hx2 : nth (a.map jobC) ((i : Int) - 1) = jobC (at' a (i - 1)) := by
      rcases Nat.eq_zero_or_pos i with h0 | h0
      · subst h0
        have := nth_mapD jobC a 0 hi
        simpa [nth] using this
      · rw [show ((i : Int) - 1) = ((i - 1 : Nat) : Int) by omega]; exact nth_mapD jobC a (i - 1) (by omega)
    have hs := lost_steps hc hg hi
    refine awp_sq mixO [] (by kernel_rfl) [some 44, some 45, some 46, some 47, some 48, some 49, some 50, some 51, some 52, some 53, some 54, some 55, some 56, some 57, some 58, some 59, some 60, some 61, some 62, some 63, some 64, some 65, some 66, some 67, some 68, some 69, some 70, some 71, some 72, some 73, some 74, some 75, some 76, some 77, some 78, some 79, some 80, some 81, some 82, some 83, some 84, some 85, some 86, some 87, some 88, some 89, some 90, some 91, some 92, some 93, some 94, some 95] rfl fun K14 hK14 => ?_
    refine qP ?_; refine qP ?_; refine qP ?_ (h := by simp only [hx1, go_sem, ↓reduceIte, Nat.reduceAdd, Nat.reduceSub, Nat.reduceMul, Nat.reduceEqDiff, Nat.reduceLT, Nat.reduceLeDiff, Nat.reducePow, Nat.reduceBEq, reduceCtorEq, Int.toNat_zero]; ((try simp (disch := omega) only [wrap64, wrapU64, wrapU32, wrapU16, wrapU8, go_sem, Nat.reduceAdd]); rfl))
    refine qP ?_; refine qP ?_; refine qP ?_; refine qP ?_; refine qP ?_; refine qP ?_
    refine qP ?_; refine qP ?_; refine qP ?_; refine qP ?_ (h := by simp only [hx1, go_sem, ↓reduceIte, Nat.reduceAdd, Nat.reduceSub, Nat.reduceMul, Nat.reduceEqDiff, Nat.reduceLT, Nat.reduceLeDiff, Nat.reducePow, Nat.reduceBEq, reduceCtorEq, Int.toNat_zero]; ((try simp (disch := omega) only [wrap64, wrapU64, wrapU32, wrapU16, wrapU8, go_sem, Nat.reduceAdd]); rfl))
    refine qP ?_; refine qP ?_; refine qP ?_; refine qP ?_; refine qP ?_; refine qP ?_ (h := by simp only [hx2, go_sem, ↓reduceIte, Nat.reduceAdd, Nat.reduceSub, Nat.reduceMul, Nat.reduceEqDiff, Nat.reduceLT, Nat.reduceLeDiff, Nat.reducePow, Nat.reduceBEq, reduceCtorEq, Int.toNat_zero]; ((try simp (disch := omega) only [wrap64, wrapU64, wrapU32, wrapU16, wrapU8, go_sem, Nat.reduceAdd]); rfl))
    refine qP ?_; refine qP ?_; refine qP ?_; refine qP ?_; refine qP ?_; refine qP ?_
    refine qP ?_ (h := by simp only [hx1, go_sem, ↓reduceIte, Nat.reduceAdd, Nat.reduceSub, Nat.reduceMul, Nat.reduceEqDiff, Nat.reduceLT, Nat.reduceLeDiff, Nat.reducePow, Nat.reduceBEq, reduceCtorEq, Int.toNat_zero]; ((try simp (disch := omega) only [wrap64, wrapU64, wrapU32, wrapU16, wrapU8, go_sem, Nat.reduceAdd]); rfl))
    refine qP ?_; refine qP ?_; refine qP ?_; refine qP ?_; refine qP ?_; refine qP ?_ (h := by simp only [hx2, go_sem, ↓reduceIte, Nat.reduceAdd, Nat.reduceSub, Nat.reduceMul, Nat.reduceEqDiff, Nat.reduceLT, Nat.reduceLeDiff, Nat.reducePow, Nat.reduceBEq, reduceCtorEq, Int.toNat_zero]; ((try simp (disch := omega) only [wrap64, wrapU64, wrapU32, wrapU16, wrapU8, go_sem, Nat.reduceAdd]); rfl))
    refine qP ?_; refine qP ?_; refine qP ?_; refine qP ?_; refine qP ?_; refine qP ?_
    refine qP ?_ (h := by simp only [hx1, go_sem, ↓reduceIte, Nat.reduceAdd, Nat.reduceSub, Nat.reduceMul, Nat.reduceEqDiff, Nat.reduceLT, Nat.reduceLeDiff, Nat.reducePow, Nat.reduceBEq, reduceCtorEq, Int.toNat_zero]; ((try simp (disch := omega) only [wrap64, wrapU64, wrapU32, wrapU16, wrapU8, go_sem, Nat.reduceAdd]); rfl))
    refine qP ?_; refine qP ?_; refine qP ?_; refine qP ?_; refine qP ?_; refine qP ?_ (h := by simp only [hx2, go_sem, ↓reduceIte, Nat.reduceAdd, Nat.reduceSub, Nat.reduceMul, Nat.reduceEqDiff, Nat.reduceLT, Nat.reduceLeDiff, Nat.reducePow, Nat.reduceBEq, reduceCtorEq, Int.toNat_zero]; ((try simp (disch := omega) only [wrap64, wrapU64, wrapU32, wrapU16, wrapU8, go_sem, Nat.reduceAdd]); rfl))
    refine qP ?_; refine qP ?_; refine qP ?_; refine qP ?_; refine qP ?_; refine qP ?_
    refine qP ?_; refine qE (hK14 _ ?_); clear hK14 K14
    refine awp_cond rfl (fun b10 => ?_) (fun b10 => ?_)
    · exfalso
      obtain ⟨s1, s2⟩ := hs
      have hbad : ¬ (false = true) := by simp
      apply hbad
      rw [← b10]
      simp only [at'] at s1 s2
      simp only [List.getD_eq_getElem?_getD] at s1 s2
      simp
      refine ⟨s1, fun h0 => ?_⟩
      obtain ⟨s3, s4⟩ := s2 h0
      exact ⟨by omega, fun e => by omega⟩
    refine awp_skip (hJ13 _ ?_)
    refine awp_reg [some 42, some 43, some 9] rfl fun K15 hK15 => ?_
    refine oP ?_; refine oP ?_; refine oP ?_; refine oE (hK15 _ ?_); clear hK15 K15
    exact ⟨_, _, (by simp only [keepSt, Nat.left_eq_add, Nat.add_eq_left, Nat.one_ne_zero, Nat.add_assoc, Nat.reduceAdd, List.mem_cons, List.not_mem_nil, or_false, true_or, or_true, tokSt, pick1, look, dropSp, allSeen, allSeenO, seen, seenL, seenO, Nat.reduceEqDiff, ↓reduceIte, reduceCtorEq, List.map_cons, List.map_nil, and_self, and_true, true_and, List.contains_nil, Bool.false_eq_true] <;> rfl), by simp [seen, seenL], a.length - (i + 1), by omega, i + 1, by omega, rfl, rfl⟩
  refine awp_exit (hJ9 _ ?_)
  refine awp_sreg [some 96, some 97, some 98, some 99, some 100, some 101, some 102, some 103, some 104, some 105, some 106, some 107, some 108, some 109, some 4] rfl fun K16 hK16 => ?_
  refine oP ?_; refine oP ?_; refine oP ?_; refine oP ?_; refine oP ?_; refine oP ?_
  refine oP ?_; refine oP ?_; refine oP ?_; refine oP ?_; refine oP ?_; refine oP ?_
  refine oP ?_; refine oP ?_; refine oP ?_; refine oE (hK16 _ ?_); clear hK16 K16
  refine awp_ret (kRet ?_)
  have hfin := lost_fill hc hg v
  simp
  rcases hfin with h | h
  · left; omega
  · right; exact h
end Go.Aw