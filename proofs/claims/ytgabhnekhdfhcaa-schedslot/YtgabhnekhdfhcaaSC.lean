import Derived.Test.YtgabhnekhdfhcaaSB
import Derived.Test.YtgabhnekhdfhcaaLC
namespace Go.Aw
open Go Go.Proofs
set_option maxRecDepth 100000
set_option linter.unusedVariables false
set_option linter.unusedSimpArgs false
@[go_sem] theorem v1_tBytes_28 : tBytes Sp 28 = some 32 := by kernel_rfl
@[go_sem] theorem v1_tElem_22 : tElem Sp 22 = some 28 := by kernel_rfl
@[go_sem] theorem v1_tElem_3 : tElem Sp 3 = Option.none := by kernel_rfl
@[go_sem] theorem v1_tInt_22 : tInt Sp 22 = Option.none := by kernel_rfl
@[go_sem] theorem v1_tInt_3 : tInt Sp 3 = some .i64 := by kernel_rfl
@[go_sem] theorem v1_tSize_28 : tSize Sp 28 = some 4 := by kernel_rfl
@[go_sem] theorem v1_tStr_22 : tStr Sp 22 = false := by kernel_rfl
@[go_sem] theorem v1_tStr_3 : tStr Sp 3 = false := by kernel_rfl
@[go_sem] theorem v1_tZero_28 : tZero Sp 28 = some [.int .i64 0, .int .i64 0, .int .i64 0, .int .i64 0] := by kernel_rfl
attribute [go_sem] cPlace cCheck cClone cSlot cFill cRight cAhead decJobs_C decJob_C cOverlaps
def codJob : Cod Job := ⟨jobC, decJob, decJob_C, fun _ _ => decJob_eq⟩
def aJob : Arg Job := argAg codJob
def aJobs : Arg (List Job) := argSl codJob
@[go_sem] theorem aJob_dec (l : Job) : aJob.dec (.agg (jobC l)) = some l := decJob_C l
@[go_sem] theorem aJob_dec' (a b c d : Int) : aJob.dec (.agg [.v (.int .i64 a), .v (.int .i64 b), .v (.int .i64 c), .v (.int .i64 d)]) = some ⟨a, b, c, d⟩ := rfl
@[go_sem] theorem aJobs_dec (l : List Job) (sp : Spare) : aJobs.dec (.sl (l.map jobC) sp) = some l := decJobs_C l
@[go_sem] theorem aJobs_nil (sp : Spare) : aJobs.dec (.sl [] sp) = some [] := rfl
@[go_sem] theorem jobC_take (j : Job) : List.take 4 (jobC j) = jobC j := rfl
@[go_sem] theorem jobC_imm (j : Job) : List.map imm1 (jobC j) = jobC j := rfl
@[go_sem] theorem jobC_pure (j : Job) : (∀ c ∈ jobC j, pure1 c = true) = True := by simp [jobC, pure1]
@[go_sem] theorem jobC_spl (j : Job) (a b c d : AV) : spl [a, b, c, d] 0 (jobC j) = jobC j := rfl
@[go_sem] theorem decJobs_cons (j : Job) (l : List Job) : decL decJob (jobC j :: l.map jobC) = some (j :: l) := decJobs_C (j :: l)
@[go_sem] theorem aJobs_cons (j : Job) (l : List Job) (sp : Spare) : aJobs.dec (.sl (jobC j :: l.map jobC) sp) = some (j :: l) := decJobs_C (j :: l)
@[go_sem] theorem jobC_ids (j : Job) : idsOf.idsL (jobC j) = [] := rfl
theorem sight_j (l : List Job) (p : List Nat) (n : Nat) : OwnSight p (Own.arr n (List.map jobC l)) := by
  intro cs h x hx
  obtain ⟨j, _, rfl⟩ := List.mem_map.1 h
  simp [jobC] at hx
  rcases hx with rfl | rfl | rfl | rfl <;> simp [sightA, idsOf]
attribute [go_sem] jobC_length
@[go_sem] def cOrder2 : Ctr := ctr2 aJob aJob (fun _ _ => True) fun x y => .v (.int .i64 (jOrder x y))
theorem gOrder2 : Good Sp 14 cOrder2 := good_sub gOrder (fun nx al own R hR hc => by
  simp only [cOrder2, ctr2] at hR
  split at hR
  case h_2 => cases hR
  split at hR
  case h_2 => (cases hR; exact hc.elim)
  rename_i x y _ _ a b h1 h2
  cases hR
  simp only [aJob, argAg] at h1 h2
  split at h1
  case h_2 => cases h1
  split at h2
  case h_2 => cases h2
  refine ⟨_, ?_, hc, rfl, rfl, rfl⟩
  simp only [codJob] at h1 h2
  simp only [cOrder, h1, h2])

theorem gOverlaps : Good Sp 30 cOverlaps :=
  good_overlaps (fn := Try.f30) (tS := 22) (tR := 4) (e := 28) (by kernel_rfl) (by kernel_rfl) (by kernel_rfl) (by kernel_rfl) (by kernel_rfl) (by kernel_rfl) 4 (run_sizeOf (n := 4) (by kernel_rfl))

/-- slices.Insert of one job. -/
def cIns : Ctr := ⟨[0], fun nx al own => match al, own with
  | [.sl [] .tight, .v (.int .i64 at'), .sl [c] _], [] => match decJob c with
    | some j => some ⟨at' = 0, .sl [jobC j] .none, [], nx⟩
    | Option.none => Option.none
  | [.os id 0 len _, .v (.int .i64 at'), .sl [c] _], [(id', .arr esz xs)] => match decL decJob xs, decJob c with
    | some js, some j => some ⟨id = id' ∧ esz = 4 ∧ len = js.length ∧ 0 < len ∧ len ≤ 5000 ∧ 0 ≤ at' ∧ at' ≤ len, .sl ((js.take at'.toNat ++ j :: js.drop at'.toNat).map jobC) .none, [(id, .dead)], nx + 1⟩
    | _, _ => Option.none
  | _, _ => Option.none⟩
attribute [go_sem] cIns
theorem flat_pure (l : List Job) : ∀ cs ∈ l.map jobC, ∀ c ∈ cs, pure1 c = true := by
  intro cs h c hc
  obtain ⟨j, _, rfl⟩ := List.mem_map.1 h
  simp [jobC] at hc
  rcases hc with rfl | rfl | rfl | rfl <;> rfl
theorem ins_list {α : Type} (xs ys : List α) (x : α) (k : Nat) (hk : k < xs.length) (r : Nat) :
    List.take (xs.length + 1) (List.drop 0 (List.take k (List.take (k + 1) (xs ++ ys) ++ List.take (xs.length + 1 - (k + 1)) (List.take (xs.length + 1 - k) (List.drop k (xs ++ ys))) ++ List.drop r (xs ++ ys)) ++ List.take (xs.length + 1 - k) [x] ++
      List.drop (k + min 1 (xs.length + 1 - k)) (List.take (k + 1) (xs ++ ys) ++ List.take (xs.length + 1 - (k + 1)) (List.take (xs.length + 1 - k) (List.drop k (xs ++ ys))) ++ List.drop r (xs ++ ys)))) = xs.take k ++ x :: xs.drop k := by
  have e1 : List.take (k + 1) (xs ++ ys) = xs.take (k + 1) := List.take_append_of_le_length (by omega)
  have e2 : List.drop k (xs ++ ys) = xs.drop k ++ ys := List.drop_append_of_le_length (by omega)
  have e3 : List.take (xs.length + 1 - (k + 1)) (List.take (xs.length + 1 - k) (xs.drop k ++ ys)) = xs.drop k := by
    rw [List.take_take, Nat.min_eq_left (by omega), List.take_append_of_le_length (by simp), List.take_of_length_le (by simp)]
  rw [e2, e3, e1]
  generalize List.drop r (xs ++ ys) = R
  have e4 : List.take k (xs.take (k + 1) ++ xs.drop k ++ R) = xs.take k := by
    rw [List.append_assoc, List.take_append_of_le_length (by simp; omega), List.take_take, Nat.min_eq_left (by omega)]
  have e5 : k + min 1 (xs.length + 1 - k) = k + 1 := by omega
  have e6 : List.drop (k + 1) (xs.take (k + 1) ++ xs.drop k ++ R) = xs.drop k ++ R := by
    have hl : (xs.take (k + 1)).length = k + 1 := by simp; omega
    rw [List.append_assoc]
    have := List.drop_left (l₁ := xs.take (k + 1)) (l₂ := xs.drop k ++ R)
    rw [hl] at this
    exact this
  have e7 : List.take (xs.length + 1 - k) [x] = [x] := List.take_of_length_le (by simp; omega)
  rw [e5, e4, e6, e7, List.drop_zero]
  have hl : (xs.take k ++ x :: xs.drop k).length = xs.length + 1 := by simp; omega
  have : xs.take k ++ [x] ++ (xs.drop k ++ R) = (xs.take k ++ x :: xs.drop k) ++ R := by simp
  rw [this, List.take_append_of_le_length (by omega), List.take_of_length_le (by omega)]
theorem ins_list2 {α : Type} (xs ys : List α) (x z : α) (k : Nat) (hk : k < xs.length) (R : List α) :
    List.take (k + (xs.length + 1 - k)) (List.drop 0 (List.take (k + 1) (List.take k (List.take k (xs ++ ys) ++ List.replicate (xs.length + 1 - k) z) ++ List.take (k + (xs.length + 1 - k) - k) [x] ++
        List.drop (k + min 1 (k + (xs.length + 1 - k) - k)) (List.take k (xs ++ ys) ++ List.replicate (xs.length + 1 - k) z)) ++
      List.take (k + (xs.length + 1 - k) - (k + 1)) (List.take (xs.length - k) (List.drop k (xs ++ ys))) ++ R)) = xs.take k ++ x :: xs.drop k := by
  have e1 : List.take k (xs ++ ys) = xs.take k := List.take_append_of_le_length (by omega)
  have e2 : List.drop k (xs ++ ys) = xs.drop k ++ ys := List.drop_append_of_le_length (by omega)
  have e3 : List.take (k + (xs.length + 1 - k) - (k + 1)) (List.take (xs.length - k) (xs.drop k ++ ys)) = xs.drop k := by
    rw [List.take_take, Nat.min_eq_left (by omega), List.take_append_of_le_length (by simp; omega), List.take_of_length_le (by simp; omega)]
  have hl : (xs.take k).length = k := by simp; omega
  have e4 : List.take k (xs.take k ++ List.replicate (xs.length + 1 - k) z) = xs.take k := by
    rw [List.take_append_of_le_length (by omega), List.take_of_length_le (by omega)]
  have e7 : List.take (k + (xs.length + 1 - k) - k) [x] = [x] := List.take_of_length_le (by simp; omega)
  rw [e2, e3, e1, e4, e7, List.drop_zero]
  have e5 : List.take (k + 1) (xs.take k ++ [x] ++ List.drop (k + min 1 (k + (xs.length + 1 - k) - k)) (xs.take k ++ List.replicate (xs.length + 1 - k) z)) = xs.take k ++ [x] := by
    rw [List.take_append_of_le_length (by simp; omega), List.take_of_length_le (by simp; omega)]
  rw [e5, List.take_append_of_le_length (by simp; omega), List.take_of_length_le (by simp; omega)]
  simp
abbrev jk (m : Nat) : List (List AV) := List.replicate m [AV.junk, AV.junk, AV.junk, AV.junk]
theorem len4x (l : List Job) (m : Nat) : ∀ cs ∈ List.map jobC l ++ jk m, cs.length = 4 := by
  intro cs h
  rcases List.mem_append.1 h with h | h
  · obtain ⟨j, _, rfl⟩ := List.mem_map.1 h; rfl
  · rw [List.eq_of_mem_replicate h]; rfl
theorem sight_jj (l : List Job) (m id : Nat) : OwnSight [id] (Own.arr 4 (List.map jobC l ++ List.replicate m [AV.junk, AV.junk, AV.junk, AV.junk])) := by
  intro cs h x hx
  rcases List.mem_append.1 h with h | h
  · obtain ⟨j, _, rfl⟩ := List.mem_map.1 h
    simp [jobC] at hx
    rcases hx with rfl | rfl | rfl | rfl <;> simp [sightA, idsOf]
  · rw [List.eq_of_mem_replicate h] at hx
    simp at hx
    subst hx
    simp [sightA, idsOf]
theorem len4 (l : List Job) : ∀ cs ∈ l.map jobC, cs.length = 4 := by
  intro cs h
  obtain ⟨j, _, rfl⟩ := List.mem_map.1 h
  rfl
theorem gIns : Good Sp 28 cIns := by
  refine good_of (T := look [(30, cOverlaps)]) (fn := Try.f28) (c := _) (tab_ok (by simpa using gOverlaps)) (by kernel_rfl) rfl (by kernel_rfl) ?_
  intro nx al own R hR hc hlt
  simp only [cIns] at hR
  split at hR
  case h_3 => cases hR
  · split at hR
    case h_2 => cases hR
    rename_i at' c sp2 _ j hj
    cases decJob_eq hj
    cases hR
    have hc : at' = 0 := hc
    subst hc
    refine ⟨Nat.le_of_ble_eq_true rfl, ?_⟩
    show Awp Sp _ _ _ _ ⟨[(0, .sl [] .tight), (1, .v (.int .i64 0)), (2, .sl [jobC j] sp2)], [], nx, 95⟩
    refine awp_sreg [some 6] rfl fun K1 hK1 => ?_
    refine oP ?_; refine oE (hK1 _ ?_); clear hK1 K1
    refine awp_sreg [some 10, some 11, some 12] rfl fun K2 hK2 => ?_
    refine oP ?_; refine oP ?_; refine oP ?_; refine oE (hK2 _ ?_); clear hK2 K2
    refine awp_sreg [some 13, some 14, some 7] rfl fun K3 hK3 => ?_
    refine oP ?_; refine oP ?_; refine oP ?_; refine oE (hK3 _ ?_); clear hK3 K3
    refine awp_seq_k fun J4 hJ4 => ?_
    refine awp_sreg [some 15, some 16] rfl fun K5 hK5 => ?_
    refine oP ?_; refine oP ?_; refine oE (hK5 _ ?_); clear hK5 K5
    refine awp_cond rfl (fun b3 => ?_) (fun b3 => ?_)
    · simp at b3
    refine awp_skip (hJ4 _ ?_)
    refine awp_sreg [some 18, some 19, some 8] rfl fun K6 hK6 => ?_
    refine oP ?_; refine oP ?_; refine oP ?_; refine oE (hK6 _ ?_); clear hK6 K6
    refine awp_seq_k fun J7 hJ7 => ?_
    refine awp_sreg [some 20, some 21, some 22] rfl fun K8 hK8 => ?_
    refine oP ?_; refine oP ?_; refine oP ?_; refine oE (hK8 _ ?_); clear hK8 K8
    refine awp_cond rfl (fun b6 => ?_) (fun b6 => ?_)
    · refine awp_sreg [some 23, some 24, some 25, some 6] rfl fun K9 hK9 => ?_
      refine oP ?_; refine oP ?_; refine oN ?_; refine oP ?_; refine oE (hK9 _ ?_); clear hK9 K9
      refine awp_ret (kRet ?_)
      rfl
    simp at b6
  · split at hR
    case h_2 => cases hR
    rename_i id len cp at' c sp2 id' esz xs _ _ js j hjs hj
    cases decJob_eq hj
    cases decJobs_eq hjs
    cases hR
    obtain ⟨rfl, rfl, rfl, h1, h2, h3, h4⟩ := hc
    refine ⟨Nat.le_of_ble_eq_true rfl, ?_⟩
    show Awp Sp _ _ _ _ ⟨[(0, .os id 0 js.length cp), (1, .v (.int .i64 at')), (2, .sl [jobC j] sp2)], [(id, .arr 4 (js.map jobC))], nx, 95⟩
    have hnx : id < nx := hlt (id, Own.arr 4 (js.map jobC)) (by simp)
    clear hj hjs hlt
    refine awp_env 2 rfl (fun _ _ _ _ h => rep_sl_none h) ?_
    refine awp_open 0 id (esz := 4) (xs := js.map jobC) rfl (by simp [look]) fun cap m hm1 hm2 hm3 => ?_
    obtain ⟨k, rfl⟩ := Int.eq_ofNat_of_zero_le h3
    simp only [List.length_map] at hm2
    by_cases hroom : js.length + 1 ≤ cap
    · refine awp_sreg [some 6] rfl fun K10 hK10 => ?_
      refine oP ?_; refine oE (hK10 _ ?_); clear hK10 K10
      refine awp_sreg [some 10, some 11, some 12] rfl fun K11 hK11 => ?_
      refine oP ?_; refine oP ?_; refine oP ?_; refine oE (hK11 _ ?_); clear hK11 K11
      refine awp_sreg [some 13, some 14, some 7] rfl fun K12 hK12 => ?_
      refine oP ?_; refine oP ?_; refine oP ?_; refine oE (hK12 _ ?_); clear hK12 K12
      refine awp_seq_k fun J13 hJ13 => ?_
      refine awp_sreg [some 15, some 16] rfl fun K14 hK14 => ?_
      refine oP ?_; refine oP ?_; refine oE (hK14 _ ?_); clear hK14 K14
      refine awp_cond rfl (fun b3 => ?_) (fun b3 => ?_)
      · simp at b3
      refine awp_skip (hJ13 _ ?_)
      refine awp_sreg [some 18, some 19, some 8] rfl fun K15 hK15 => ?_
      refine oP ?_; refine oP ?_; refine oP ?_; refine oE (hK15 _ ?_); clear hK15 K15
      refine awp_seq_k fun J16 hJ16 => ?_
      refine awp_sreg [some 20, some 21, some 22] rfl fun K17 hK17 => ?_
      refine oP ?_; refine oP ?_; refine oP ?_; refine oE (hK17 _ ?_); clear hK17 K17
      refine awp_cond rfl (fun b6 => ?_) (fun b6 => ?_)
      · refine awp_sreg [some 23, some 24, some 25, some 6] rfl fun K18 hK18 => ?_
        refine oP ?_; refine oP ?_; refine oW ?_ (h := by simp only [hroom, go_sem, ↓reduceIte, Nat.reduceAdd, Nat.reduceSub, Nat.reduceMul, Nat.reduceEqDiff, Nat.reduceLT, Nat.reduceLeDiff, Nat.reducePow, Nat.reduceBEq, reduceCtorEq, Int.toNat_zero]; rfl)
        refine oP ?_; refine oE (hK18 _ ?_); clear hK18 K18
        have hk : k = js.length := by simp at b6; omega
        subst hk
        refine awp_dieE 6 id ((js ++ [j]).map jobC) rfl (look_self _ _ _) (by simp) (by simp [List.take_append, List.take_of_length_le]) (flat_pure _) ?_
        refine awp_ret (kRet ?_ (hs := by simp [sameL, look, seenO]))
        simp
      refine awp_skip (hJ16 _ ?_)
      refine awp_seq_k fun J19 hJ19 => ?_
      have hk : k < js.length := by simp at b6; omega
      refine awp_sreg [some 26, some 27, some 28, some 29, some 30, some 31] rfl fun K20 hK20 => ?_
      refine oP ?_; refine oP ?_; refine oP ?_; refine oP ?_; refine oP ?_; refine oP ?_
      refine oE (hK20 _ ?_); clear hK20 K20
      refine awp_cond rfl (fun b8 => ?_) (fun b8 => ?_)
      · (exfalso; simp at b8; omega)
      refine awp_skip (hJ19 _ ?_)
      refine awp_sreg [some 56, some 57, some 58, some 59, some 60, some 0] rfl fun K21 hK21 => ?_
      refine oP ?_; refine oP ?_; refine oP ?_; refine oP ?_; refine oP ?_; refine oP ?_
      refine oE (hK21 _ ?_); clear hK21 K21
      refine awp_seq_k fun J22 hJ22 => ?_
      refine awp_sreg [some 61, some 62, some 63, some 64, some 65, some 66, some 67, some 68] rfl fun K23 hK23 => ?_
      refine oP ?_; refine oP ?_; refine oP ?_; refine oP ?_; refine oP ?_; refine oP ?_
      refine oP ?_ (hc := by exact ⟨sight_jj _ _ _, hnx⟩)
      refine oP ?_; refine oE (hK23 _ ?_); clear hK23 K23
      refine awp_cond rfl (fun b14 => ?_) (fun b14 => ?_)
      · refine awp_sq mixO [8] (by kernel_rfl) [some 69, some 70, some 71, some 72, some 73, some 74, some 75, some 76, some 77] rfl fun K24 hK24 => ?_
        refine qP ?_; refine qP ?_; refine qP ?_; refine qP ?_; refine qP ?_; refine qP ?_
        refine qP ?_; refine qP ?_; refine qW ?_ (hc := by exact ⟨by simp; omega, fun cs h => len4x _ _ _ (List.mem_of_mem_drop (List.mem_of_mem_take h)), by simp; omega⟩)
        refine qE (hK24 _ ?_); clear hK24 K24
        refine awp_sreg [some 78, some 79, some 80, some 81, some 82] rfl fun K25 hK25 => ?_
        refine oP ?_; refine oP ?_; refine oP ?_; refine oP ?_; refine oW ?_ (hc := by simp; omega)
        refine oE (hK25 _ ?_); clear hK25 K25
        refine awp_sreg [some 83, some 6] rfl fun K26 hK26 => ?_
        refine oP ?_; refine oP ?_; refine oE (hK26 _ ?_); clear hK26 K26
        have hfin := fun r => ins_list (js.map jobC) (jk m) (jobC j) k (by simpa using hk) r
        simp only [List.length_map] at hfin
        have hfin2 : (js.map jobC).take k ++ jobC j :: (js.map jobC).drop k = (js.take k ++ j :: js.drop k).map jobC := by simp
        simp only [hfin2] at hfin
        refine awp_dieE 6 id ((js.take k ++ j :: js.drop k).map jobC) rfl (look_self _ _ _) ?_ (hfin _) (flat_pure _) ?_
        · simp; omega
        refine awp_ret (kRet ?_ (hs := by simp [sameL, look, seenO]))
        simp
      simp at b14
    · refine awp_sreg [some 6] rfl fun K27 hK27 => ?_
      refine oP ?_; refine oE (hK27 _ ?_); clear hK27 K27
      refine awp_sreg [some 10, some 11, some 12] rfl fun K28 hK28 => ?_
      refine oP ?_; refine oP ?_; refine oP ?_; refine oE (hK28 _ ?_); clear hK28 K28
      refine awp_sreg [some 13, some 14, some 7] rfl fun K29 hK29 => ?_
      refine oP ?_; refine oP ?_; refine oP ?_; refine oE (hK29 _ ?_); clear hK29 K29
      refine awp_seq_k fun J30 hJ30 => ?_
      refine awp_sreg [some 15, some 16] rfl fun K31 hK31 => ?_
      refine oP ?_; refine oP ?_; refine oE (hK31 _ ?_); clear hK31 K31
      refine awp_cond rfl (fun b3 => ?_) (fun b3 => ?_)
      · simp at b3
      refine awp_skip (hJ30 _ ?_)
      refine awp_sreg [some 18, some 19, some 8] rfl fun K32 hK32 => ?_
      refine oP ?_; refine oP ?_; refine oP ?_; refine oE (hK32 _ ?_); clear hK32 K32
      refine awp_seq_k fun J33 hJ33 => ?_
      refine awp_sreg [some 20, some 21, some 22] rfl fun K34 hK34 => ?_
      refine oP ?_; refine oP ?_; refine oP ?_; refine oE (hK34 _ ?_); clear hK34 K34
      refine awp_cond rfl (fun b6 => ?_) (fun b6 => ?_)
      · refine awp_sreg [some 23, some 24, some 25, some 6] rfl fun K35 hK35 => ?_
        refine oP ?_; refine oP ?_; refine oN ?_ (h := by simp only [hroom, go_sem, ↓reduceIte, Nat.reduceAdd, Nat.reduceSub, Nat.reduceMul, Nat.reduceEqDiff, Nat.reduceLT, Nat.reduceLeDiff, Nat.reducePow, Nat.reduceBEq, reduceCtorEq, Int.toNat_zero]; rfl) (hf := by simpa using hnx)
        refine oP ?_; refine oE (hK35 _ ?_); clear hK35 K35
        have hk : k = js.length := by simp at b6; omega
        subst hk
        have hne : nx ≠ id := by omega
        refine awp_dieE 6 nx ((js ++ [j]).map jobC) rfl (look_self _ _ _) (by simp) (by simp [List.take_append, List.take_of_length_le]) (flat_pure _) ?_
        refine awp_dieE 0 id (esz := 4) (xs := js.map jobC ++ jk m) (js.map jobC) rfl (by simp [look, hne.symm]) (by simp) (by simp) (flat_pure _) ?_
        refine awp_ret (kRet ?_ (hs := by simp [sameL, look, seenO]))
        simp
      refine awp_skip (hJ33 _ ?_)
      refine awp_seq_k fun J36 hJ36 => ?_
      have hk : k < js.length := by simp at b6; omega
      refine awp_sreg [some 26, some 27, some 28, some 29, some 30, some 31] rfl fun K37 hK37 => ?_
      refine oP ?_; refine oP ?_; refine oP ?_; refine oP ?_; refine oP ?_; refine oP ?_
      refine oE (hK37 _ ?_); clear hK37 K37
      refine awp_cond rfl (fun b8 => ?_) (fun b8 => ?_)
      · refine awp_sreg [some 32, some 33, some 34, some 35, some 36, some 37, some 38, some 39, some 40, some 9] rfl fun K38 hK38 => ?_
        refine oP ?_; refine oP ?_; refine oP ?_; refine oP ?_; refine oP ?_; refine oP ?_
        refine oP ?_; refine oP ?_; refine oN ?_ (hf := by simpa using hnx)
        refine oP ?_; refine oE (hK38 _ ?_); clear hK38 K38
        have hidn : (id = nx) = False := eq_false (by omega)
        have hnid : (nx = id) = False := eq_false (by omega)
        refine awp_sreg [some 41, some 42, some 43, some 44, some 45] rfl fun K39 hK39 => ?_
        refine oP ?_; refine oP ?_; refine oP ?_; refine oP ?_; refine oW ?_; refine oE (hK39 _ ?_); clear hK39 K39
        refine awp_sq mixO [8] (by kernel_rfl) [some 46, some 47, some 48, some 49, some 50, some 51, some 52, some 53, some 54] rfl fun K40 hK40 => ?_
        refine qP ?_; refine qP ?_; refine qP ?_; refine qP ?_; refine qP ?_; refine qP ?_
        refine qP ?_; refine qP ?_ (h := by simp only [hidn, hnid, go_sem, ↓reduceIte, Nat.reduceAdd, Nat.reduceSub, Nat.reduceMul, Nat.reduceEqDiff, Nat.reduceLT, Nat.reduceLeDiff, Nat.reducePow, Nat.reduceBEq, reduceCtorEq, Int.toNat_zero]; ((try simp (disch := omega) only [wrap64, wrapU64, wrapU32, wrapU16, wrapU8, go_sem, Nat.reduceAdd]); rfl))
        refine qW ?_ (h := by simp only [hidn, hnid, go_sem, ↓reduceIte, Nat.reduceAdd, Nat.reduceSub, Nat.reduceMul, Nat.reduceEqDiff, Nat.reduceLT, Nat.reduceLeDiff, Nat.reducePow, Nat.reduceBEq, reduceCtorEq, Int.toNat_zero]; rfl) (hc := by exact ⟨by simp; omega, fun cs h => len4x _ _ _ (List.mem_of_mem_drop (List.mem_of_mem_take h)), by simp; omega⟩)
        refine qE (hK40 _ ?_); clear hK40 K40
        refine awp_sreg [some 55, some 6] rfl fun K41 hK41 => ?_
        refine oP ?_; refine oP ?_; refine oE (hK41 _ ?_); clear hK41 K41
        have hfin := fun R => ins_list2 (js.map jobC) (jk m) (jobC j) [AV.v (Value.int IntKind.i64 0), AV.v (Value.int IntKind.i64 0), AV.v (Value.int IntKind.i64 0), AV.v (Value.int IntKind.i64 0)] k (by simpa using hk) R
        simp only [List.length_map] at hfin
        have hfin2 : (js.map jobC).take k ++ jobC j :: (js.map jobC).drop k = (js.take k ++ j :: js.drop k).map jobC := by simp
        simp only [hfin2] at hfin
        refine awp_dieE 6 nx ((js.take k ++ j :: js.drop k).map jobC) rfl (look_self _ _ _) ?_ (hfin _) (flat_pure _) ?_
        · simp; omega
        refine awp_dieE 0 id (esz := 4) (xs := js.map jobC ++ jk m) (js.map jobC) rfl (by simp [look, hidn]) (by simp) (by simp) (flat_pure _) ?_
        refine awp_ret (kRet ?_ (hs := by simp [sameL, look, seenO]))
        simp
      (exfalso; simp at b8; omega)
end Go.Aw
namespace Go.Aw
open Go Go.Proofs
set_option maxRecDepth 100000
set_option linter.unusedVariables false
set_option linter.unusedSimpArgs false
@[go_sem] theorem v2_tAgg_28 : tAgg Sp 28 = some true := by kernel_rfl
@[go_sem] theorem v2_tArr_22 : tArr Sp 22 = Option.none := by kernel_rfl
@[go_sem] theorem v2_tElem_35 : tElem Sp 35 = Option.none := by kernel_rfl
@[go_sem] theorem v2_tInt_35 : tInt Sp 35 = some .u64 := by kernel_rfl
@[go_sem] theorem v2_tStr_35 : tStr Sp 35 = false := by kernel_rfl
def fnD : AV → Option Nat
  | .fn f [] [] => some f
  | _ => Option.none
def argFn : Arg Nat where
  dec := fnD
  enc := fun f => .fn f [] []
  ok := fun x a hd w ok γ u hr => by
    unfold fnD at hd
    split at hd
    · cases hd; exact hr
    · cases hd
@[go_sem] theorem argFn_dec (f : Nat) : argFn.dec (.fn f [] []) = some f := rfl
abbrev at' (js : List Job) (i : Nat) : Job := js.getD i default
def bsPos (js : List Job) (x : Job) : Nat := (js.takeWhile fun y => decide (jOrder y x < 0)).length
def bsFound (js : List Job) (x : Job) : Bool := decide (bsPos js x < js.length) && decide (jOrder (at' js (bsPos js x)) x = 0)
def PartB (js : List Job) (x : Job) : Prop := ∀ i j, i ≤ j → j < js.length → jOrder (at' js j) x < 0 → jOrder (at' js i) x < 0
theorem bsPos_eq (x : Job) : ∀ (js : List Job) (i : Nat), i ≤ js.length → (∀ a, a < i → jOrder (at' js a) x < 0) → (∀ a, i ≤ a → a < js.length → ¬ jOrder (at' js a) x < 0) → bsPos js x = i
  | [], i, h1, h2, h3 => by simp at h1; simp [bsPos, h1]
  | y :: r, i, h1, h2, h3 => by
    unfold bsPos
    cases i with
    | zero =>
      have := h3 0 (by omega) (by simp)
      simp [at'] at this
      rw [List.takeWhile_cons_of_neg (by simpa using this)]
      rfl
    | succ i =>
      have := h2 0 (by omega)
      simp [at'] at this
      rw [List.takeWhile_cons_of_pos (by simpa using this), List.length_cons]
      have := bsPos_eq x r i (by simpa using h1) (fun a ha => by simpa [at'] using h2 (a + 1) (by omega)) (fun a ha hb => by simpa [at'] using h3 (a + 1) (by omega) (by simpa using hb))
      unfold bsPos at this
      rw [this]
@[go_sem] def cBin : Ctr := ctr3 aJobs aJob argFn (fun js x f => f = 14 ∧ PartB js x ∧ js.length ≤ 1000000) fun js x f => .tup [.v (.int .i64 (bsPos js x : Nat)), .v (.bool (bsFound js x))]
theorem gBin : Good Sp 27 cBin := by
  refine good3 (T := look [(14, cOrder2)] ) (fn := Try.f27) (c := _)  (tab_ok (by simpa using gOrder2)) (by kernel_rfl) rfl (by kernel_rfl) rfl ?_
  intro js x f hpre nx
  show Awp Sp _ _ _ _ ⟨[(0, .sl (js.map jobC) .none), (1, .agg (jobC x)), (2, .fn f [] [])], [], nx, 49⟩
  obtain ⟨rfl, hp, hlen⟩ := hpre
  refine awp_sreg [some 4, some 6, some 7] rfl fun K1 hK1 => ?_
  refine oN ?_ (h := by simp only [jobC, go_sem, ↓reduceIte, Nat.reduceAdd, Nat.reduceSub, Nat.reduceMul, Nat.reduceEqDiff, Nat.reduceLT, Nat.reduceLeDiff, Nat.reducePow, Nat.reduceBEq, reduceCtorEq, Int.toNat_zero]; rfl)
  refine oP ?_; refine oP ?_; refine oE (hK1 _ ?_); clear hK1 K1
  refine awp_sreg [some 12, some 13, some 8] rfl fun K2 hK2 => ?_
  refine oP ?_; refine oP ?_; refine oP ?_; refine oE (hK2 _ ?_); clear hK2 K2
  refine awp_sreg [some 14, some 9, some 10] rfl fun K3 hK3 => ?_
  refine oP ?_; refine oP ?_; refine oP ?_; refine oE (hK3 _ ?_); clear hK3 K3
  refine awp_seq_k fun J4 hJ4 => ?_
  refine awp_block ?_
  refine awp_loop ⟨[0, 2, 4, 8, 9, 10], [nx], nx + 1, []⟩ (fun m st => ∃ i j : Nat, i ≤ j ∧ j ≤ js.length ∧ (∀ a, a < i → jOrder (at' js a) x < 0) ∧ (∀ a, j ≤ a → a < js.length → ¬ jOrder (at' js a) x < 0) ∧ m = j - i ∧ st = ⟨[(0, .sl (js.map jobC) .none), (2, .fn 14 [] []), (4, .op nx 0 0), (8, .v (.int .i64 js.length)), (9, .v (.int .i64 i)), (10, .v (.int .i64 j))], [(nx, .arr 4 [jobC x])], nx + 1, 49⟩) js.length (by simp) ⟨_, _, (by simp only [keepSt, Nat.left_eq_add, Nat.add_eq_left, Nat.one_ne_zero, Nat.add_assoc, Nat.reduceAdd, List.mem_cons, List.not_mem_nil, or_false, true_or, or_true, tokSt, pick1, look, dropSp, allSeen, allSeenO, seen, seenL, seenO, Nat.reduceEqDiff, ↓reduceIte, reduceCtorEq, List.map_cons, List.map_nil, and_self, and_true, true_and, List.contains_nil, Bool.false_eq_true] <;> rfl), by simp [seen, seenL], 0, js.length, by omega, by omega, fun a ha => by omega, fun a ha hb => by omega, rfl, by simp [jobC]⟩ ?_
  rintro m st ⟨i, j, h1, h2, h3, h4, h5, rfl⟩
  refine awp_seq_k fun J5 hJ5 => ?_
  refine awp_sreg [some 15, some 16, some 17] rfl fun K6 hK6 => ?_
  refine oP ?_; refine oP ?_; refine oP ?_; refine oE (hK6 _ ?_); clear hK6 K6
  refine awp_cond rfl (fun b3 => ?_) (fun b3 => ?_)
  · refine awp_skip (hJ5 _ ?_)
    refine awp_block ?_
    have hij : i < j := by simp at b3; omega
    refine awp_sreg [some 18, some 19, some 20, some 21, some 22, some 23, some 11] rfl fun K7 hK7 => ?_
    refine oP ?_; refine oP ?_; refine oP ?_; refine oP ?_; refine oP ?_; refine oP ?_
    refine oP ?_; refine oE (hK7 _ ?_); clear hK7 K7
    have hx : nth (js.map jobC) (((i + j) / 2 : Nat) : Int) = jobC (at' js ((i + j) / 2)) := by
      rw [nth_map jobC js _ (by omega)]; congr 1; simp [List.getD, show (i + j) / 2 < js.length by omega]
    refine awp_sq mixO [] (by kernel_rfl) [some 24, some 25, some 26, some 27, some 28, some 29, some 30, some 31] rfl fun K8 hK8 => ?_
    refine qP ?_; refine qP ?_; refine qP ?_; refine qP ?_ (hc := by exact ⟨by omega, by omega, len4 _⟩)
    refine qP ?_ (h := by simp only [hx, go_sem, ↓reduceIte, Nat.reduceAdd, Nat.reduceSub, Nat.reduceMul, Nat.reduceEqDiff, Nat.reduceLT, Nat.reduceLeDiff, Nat.reducePow, Nat.reduceBEq, reduceCtorEq, Int.toNat_zero]; ((try simp (disch := omega) only [wrap64, wrapU64, wrapU32, wrapU16, wrapU8, go_sem, Nat.reduceAdd]); rfl))
    refine qP ?_; refine qP ?_; refine qP ?_; refine qE (hK8 _ ?_); clear hK8 K8
    refine awp_cond rfl (fun b5 => ?_) (fun b5 => ?_)
    · have hlt : jOrder (at' js ((i + j) / 2)) x < 0 := by simpa using b5
      refine awp_reg [some 32, some 33, some 9] rfl fun K9 hK9 => ?_
      refine oP ?_; refine oP ?_; refine oP ?_; refine oE (hK9 _ ?_); clear hK9 K9
      refine ⟨_, _, (by simp only [keepSt, Nat.left_eq_add, Nat.add_eq_left, Nat.one_ne_zero, Nat.add_assoc, Nat.reduceAdd, List.mem_cons, List.not_mem_nil, or_false, true_or, or_true, tokSt, pick1, look, dropSp, allSeen, allSeenO, seen, seenL, seenO, Nat.reduceEqDiff, ↓reduceIte, reduceCtorEq, List.map_cons, List.map_nil, and_self, and_true, true_and, List.contains_nil, Bool.false_eq_true] <;> rfl), by simp [seen, seenL, jobC], j - ((i + j) / 2 + 1), by omega, (i + j) / 2 + 1, j, by omega, by omega, fun a ha => ?_, h4, rfl, rfl⟩
      exact hp a ((i + j) / 2) (by omega) (by omega) hlt
    have hge : ¬ jOrder (at' js ((i + j) / 2)) x < 0 := by simpa using b5
    refine awp_reg [some 34, some 10] rfl fun K10 hK10 => ?_
    refine oP ?_; refine oP ?_; refine oE (hK10 _ ?_); clear hK10 K10
    refine ⟨_, _, (by simp only [keepSt, Nat.left_eq_add, Nat.add_eq_left, Nat.one_ne_zero, Nat.add_assoc, Nat.reduceAdd, List.mem_cons, List.not_mem_nil, or_false, true_or, or_true, tokSt, pick1, look, dropSp, allSeen, allSeenO, seen, seenL, seenO, Nat.reduceEqDiff, ↓reduceIte, reduceCtorEq, List.map_cons, List.map_nil, and_self, and_true, true_and, List.contains_nil, Bool.false_eq_true] <;> rfl), by simp [seen, seenL, jobC], (i + j) / 2 - i, by omega, i, (i + j) / 2, by omega, by omega, h3, fun a ha hb hc => ?_, rfl, rfl⟩
    exact hge (hp ((i + j) / 2) a (by omega) (by omega) hc)
  refine awp_exit (hJ4 _ ?_)
  have hij : i = j := by simp at b3; omega
  subst hij
  have hpos := bsPos_eq x js i h2 h3 h4
  by_cases hi : i < js.length
  · have hx : nth (js.map jobC) (i : Int) = jobC (at' js i) := by
      rw [nth_map jobC js _ hi]; congr 1; simp [List.getD, hi]
    refine awp_sq mixO [] (by kernel_rfl) [some 35, some 36, some 37, some 38, some 39, some 40, some 41, some 42, some 43, some 44, some 45, some 46, some 47, some 48, some 6, some 7] rfl fun K11 hK11 => ?_
    refine qP ?_; refine qP ?_; refine qP ?_; refine qP ?_; refine qP ?_; refine qP ?_
    refine qP ?_; refine qP ?_; refine qP ?_ (hc := by exact fun hg => ⟨by first | omega | (simp at hg; omega), by first | omega | (simp at hg; omega), by first | omega | (simp at hg; omega), len4 _⟩)
    refine qP ?_ (h := by simp only [hx, go_sem, ↓reduceIte, Nat.reduceAdd, Nat.reduceSub, Nat.reduceMul, Nat.reduceEqDiff, Nat.reduceLT, Nat.reduceLeDiff, Nat.reducePow, Nat.reduceBEq, reduceCtorEq, Int.toNat_zero]; ((try simp (disch := omega) only [wrap64, wrapU64, wrapU32, wrapU16, wrapU8, go_sem, Nat.reduceAdd]); rfl)) (hc := by simp)
    refine qP ?_; refine qP ?_ (hc := by simp)
    refine qP ?_; refine qP ?_; refine qP ?_; refine qP ?_; refine qE (hK11 _ ?_); clear hK11 K11
    refine awp_ret (kRet ?_)
    simp [bsFound, hpos, hi]
  have hx : nth (js.map jobC) (i : Int) = [] := by
    have : js[i]? = Option.none := List.getElem?_eq_none (by omega)
    simp [nth, List.getD, this]; rfl
  refine awp_sq mixO [] (by kernel_rfl) [some 35, some 36, some 37, some 38, some 39, some 40, some 41, some 42, some 43, some 44, some 45, some 46, some 47, some 48, some 6, some 7] rfl fun K12 hK12 => ?_
  refine qP ?_; refine qP ?_; refine qP ?_; refine qP ?_; refine qP ?_; refine qP ?_
  refine qP ?_; refine qP ?_; refine qP ?_ (hc := by exact fun hg => ⟨by first | omega | (simp at hg; omega), by first | omega | (simp at hg; omega), by first | omega | (simp at hg; omega), len4 _⟩)
  refine qP ?_ (h := by simp only [hx, go_sem, ↓reduceIte, Nat.reduceAdd, Nat.reduceSub, Nat.reduceMul, Nat.reduceEqDiff, Nat.reduceLT, Nat.reduceLeDiff, Nat.reducePow, Nat.reduceBEq, reduceCtorEq, Int.toNat_zero]; ((try simp (disch := omega) only [wrap64, wrapU64, wrapU32, wrapU16, wrapU8, go_sem, Nat.reduceAdd]); rfl))
  refine qP ?_; refine qP ?_; refine qP ?_; refine qP ?_; refine qP ?_; refine qP ?_
  refine qE (hK12 _ ?_); clear hK12 K12
  refine awp_ret (kRet ?_)
  simp [bsFound, hpos, hi]
def putJ (js : List Job) (x : Job) : List Job := js.take (bsPos js x) ++ x :: js.drop (bsPos js x)
theorem bsPos_le (js : List Job) (x : Job) : bsPos js x ≤ js.length := by unfold bsPos; exact (List.takeWhile_sublist _).length_le
@[go_sem] def cPut : Ctr := ctr3 aJobs aJob argFn (fun js x f => f = 14 ∧ PartB js x ∧ js.length ≤ 4096) fun js x f => .sl ((putJ js x).map jobC) .none
theorem gPut : Good Sp 21 cPut := by
  refine good3 (T := look [(27, cBin), (20, cClone), (28, cIns)]) (fn := Try.f21) (c := _) (tab_ok (by simpa using ⟨gBin, gClone, gIns⟩)) (by kernel_rfl) rfl (by kernel_rfl) rfl ?_
  intro js x f hpre nx
  show Awp Sp _ _ _ _ ⟨[(0, .sl (js.map jobC) .none), (1, .agg (jobC x)), (2, .fn f [] [])], [], nx, 22⟩
  obtain ⟨rfl, hp, hlen⟩ := hpre
  have hb := bsPos_le js x
  rcases js with _ | ⟨j0, js0⟩
  · refine awp_sreg [some 4, some 6] rfl fun K1 hK1 => ?_
    refine oN ?_; refine oP ?_; refine oE (hK1 _ ?_); clear hK1 K1
    refine awp_sreg [some 10, some 11, some 12, some 13, some 9, some 14, some 15, some 7, some 8] rfl fun K2 hK2 => ?_
    refine oP ?_; refine oP ?_; refine oP ?_; refine oP ?_ (h := by simp only [List.map_nil, go_sem, ↓reduceIte, Nat.reduceAdd, Nat.reduceSub, Nat.reduceMul, Nat.reduceEqDiff, Nat.reduceLT, Nat.reduceLeDiff, Nat.reducePow, Nat.reduceBEq, reduceCtorEq, Int.toNat_zero]; ((try simp (disch := omega) only [wrap64, wrapU64, wrapU32, wrapU16, wrapU8, go_sem, Nat.reduceAdd]); rfl)) (hc := by first | (simp [*]; done) | (simp [*]; omega))
    refine oP ?_; refine oP ?_; refine oP ?_; refine oP ?_; refine oP ?_; refine oE (hK2 _ ?_); clear hK2 K2
    refine awp_sq mixO [] (by kernel_rfl) [some 16, some 17, some 18, some 19, some 20, some 21, some 6] rfl fun K3 hK3 => ?_
    refine qP ?_; refine qP ?_; refine qP ?_; refine qP ?_; refine qP ?_; refine qP ?_ (hc := by simp [bsPos])
    refine qP ?_; refine qE (hK3 _ ?_); clear hK3 K3
    refine awp_ret (kRet ?_)
    simp [putJ]
  simp only [List.length_cons] at hlen hb
  refine awp_sreg [some 4, some 6] rfl fun K4 hK4 => ?_
  refine oN ?_; refine oP ?_; refine oE (hK4 _ ?_); clear hK4 K4
  refine awp_sreg [some 10, some 11, some 12, some 13, some 9, some 14, some 15, some 7, some 8] rfl fun K5 hK5 => ?_
  refine oP ?_; refine oP ?_; refine oP ?_; refine oP ?_ (h := by simp only [List.map_nil, go_sem, ↓reduceIte, Nat.reduceAdd, Nat.reduceSub, Nat.reduceMul, Nat.reduceEqDiff, Nat.reduceLT, Nat.reduceLeDiff, Nat.reducePow, Nat.reduceBEq, reduceCtorEq, Int.toNat_zero]; ((try simp (disch := omega) only [wrap64, wrapU64, wrapU32, wrapU16, wrapU8, go_sem, Nat.reduceAdd]); rfl)) (hc := by first | (simp [*]; done) | (simp [*]; omega))
  refine oP ?_; refine oP ?_; refine oP ?_; refine oP ?_; refine oP ?_; refine oE (hK5 _ ?_); clear hK5 K5
  refine awp_sdrawU mixO [(1, 2), (1, 3), (0, 4), (1, 4), (2, 4)] (by kernel_rfl) [some 16, some 17, some 18, some 19, some 20, some 21, some 6] rfl fun K6 hK6 => ?_
  refine dQ ?_; refine dN ?_; refine dQ ?_; refine dQ ?_; refine dQ ?_; refine dM ?_ (hc := by exact ⟨sight_j (j0 :: js0) _ _, by omega, by omega, by omega, by omega, by omega⟩)
  refine dP ?_; refine dE (hK6 _ ?_); clear hK6 K6
  refine awp_ret (kRet ?_)
  simp [putJ]
end Go.Aw
namespace Go.Aw
open Go Go.Proofs
set_option maxRecDepth 100000
set_option linter.unusedVariables false
set_option linter.unusedSimpArgs false
@[go_sem] theorem v3_tAgg_3 : tAgg Sp 3 = some false := by kernel_rfl
@[go_sem] theorem v3_tAgg_38 : tAgg Sp 38 = some true := by kernel_rfl
@[go_sem] theorem v3_tArr_23 : tArr Sp 23 = Option.none := by kernel_rfl
@[go_sem] theorem v3_tArr_29 : tArr Sp 29 = Option.none := by kernel_rfl
@[go_sem] theorem v3_tElem_23 : tElem Sp 23 = some 3 := by kernel_rfl
@[go_sem] theorem v3_tElem_29 : tElem Sp 29 = some 38 := by kernel_rfl
@[go_sem] theorem v3_tEqF_28 : tEqF Sp 28 = some [1, 1, 1, 1] := by kernel_rfl
@[go_sem] theorem v3_tEqF_38 : tEqF Sp 38 = some [1, 1, 1] := by kernel_rfl
@[go_sem] theorem v3_tField_28_3 : tField Sp 28 3 = some (3, 3) := by kernel_rfl
@[go_sem] theorem v3_tPlaces_28 : tPlaces Sp 28 = some [(0, 1), (1, 1), (2, 1), (3, 1)] := by kernel_rfl
@[go_sem] theorem v3_tSize_3 : tSize Sp 3 = some 1 := by kernel_rfl
@[go_sem] theorem v3_tSize_38 : tSize Sp 38 = some 3 := by kernel_rfl
@[go_sem] theorem v3_tStr_23 : tStr Sp 23 = false := by kernel_rfl
@[go_sem] theorem v3_tStr_29 : tStr Sp 29 = false := by kernel_rfl
@[go_sem] theorem jobC_d1 (j : Job) : List.drop 1 (jobC j) = [.v (.int .i64 j.prio), .v (.int .i64 j.size), .v (.int .i64 j.gone)] := rfl
@[go_sem] theorem jobC_d2 (j : Job) : List.drop 2 (jobC j) = [.v (.int .i64 j.size), .v (.int .i64 j.gone)] := rfl
@[go_sem] theorem jobC_d3 (j : Job) : List.drop 3 (jobC j) = [.v (.int .i64 j.gone)] := rfl
@[go_sem] theorem jobC_g0 (j : Job) (x : AV) : (jobC j).getD 0 x = .v (.int .i64 j.id) := rfl
@[go_sem] theorem jobC_g1 (j : Job) (x : AV) : (jobC j).getD 1 x = .v (.int .i64 j.prio) := rfl
@[go_sem] theorem jobC_g2 (j : Job) (x : AV) : (jobC j).getD 2 x = .v (.int .i64 j.size) := rfl
@[go_sem] theorem jobC_g3 (j : Job) (x : AV) : (jobC j).getD 3 x = .v (.int .i64 j.gone) := rfl
@[go_sem] theorem jobC_setc3 (j : Job) (v : Int) : spl (jobC j) 3 [.v (.int .i64 v)] = jobC ⟨j.id, j.prio, j.size, v⟩ := rfl
@[go_sem] theorem jobC_set3 (j : Job) (v : Int) : (jobC j).set 3 (.v (.int .i64 v)) = jobC ⟨j.id, j.prio, j.size, v⟩ := rfl
@[go_sem] theorem take_len_map {α β : Type} (f : α → β) (l : List α) : List.take l.length (l.map f) = l.map f := List.take_of_length_le (by simp)
/-- One job stands ahead of another. -/
def jLt (a b : Job) : Prop := mn1 b.gone < mn1 a.gone ∨ (mn1 b.gone = mn1 a.gone ∧ (b.prio < a.prio ∨ (b.prio = a.prio ∧ a.id < b.id)))
theorem jOrder_neg (a b : Job) : jOrder a b < 0 ↔ jLt a b := by
  unfold jOrder jLt
  generalize mn1 b.gone = x
  generalize mn1 a.gone = y
  simp only [orI, cmpI]
  by_cases h1 : x < y
  · simp [h1]
  by_cases h2 : y < x
  · have : ¬ (x = y) := by omega
    simp [h1, h2, this]
  have e : x = y := by omega
  subst e
  by_cases h3 : b.prio < a.prio
  · simp [h3]
  by_cases h4 : a.prio < b.prio
  · have : ¬ (b.prio = a.prio) := by omega
    simp [h3, h4, this]
  have e : b.prio = a.prio := by omega
  by_cases h5 : a.id < b.id
  · simp [e, h5]
  by_cases h6 : b.id < a.id
  · simp [e, h5, h6]
  · simp [e, h5, h6]
theorem jLt_trans {a b c : Job} (h1 : jLt a b) (h2 : jLt b c) : jLt a c := by unfold jLt at *; omega
theorem jLt_asymm {a b : Job} (h1 : jLt a b) : ¬ jLt b a := by unfold jLt at *; omega
theorem jOrder_pos (a b : Job) (h : 0 ≤ jOrder a b) : ¬ jLt a b := fun h1 => by have := (jOrder_neg a b).2 h1; omega

theorem check_spec (js : List Job) : jCheck js = true ↔ ∀ i, i < js.length → js.length ≤ 4096 ∧ jRight (at' js i) = true ∧ (∀ k, k < i → (at' js k).id ≠ (at' js i).id) ∧ (0 < i → (at' js i).gone ≤ 0 ∧ jLt (at' js (i - 1)) (at' js i)) := by
  unfold jCheck
  rw [List.all_eq_true]
  constructor
  · intro h i hi
    have := h i (by simpa using hi)
    unfold badAt at this
    simp only [Bool.not_eq_true', Bool.or_eq_false_iff, Bool.not_eq_false', Bool.and_eq_false_iff, decide_eq_false_iff_not] at this
    obtain ⟨⟨⟨h1, h2⟩, h3⟩, h4⟩ := this
    refine ⟨by omega, h2, ?_, fun hi0 => ?_⟩
    · intro k hk e
      have : ((js.take i).map (·.id)).contains (js.getD i default).id = true := by
        rw [List.contains_iff_mem, List.mem_map]
        refine ⟨at' js k, ?_, e⟩
        rw [List.mem_iff_getElem]
        refine ⟨k, by simp; omega, ?_⟩
        simp [at', List.getD, show k < js.length by omega]
      rw [h3] at this
      cases this
    · rcases h4 with h4 | ⟨h5, h6⟩
      · omega
      · exact ⟨by simpa using h5, (jOrder_neg _ _).1 (by simpa using h6)⟩
  · intro h i hi
    have hi : i < js.length := by simpa using hi
    obtain ⟨h1, h2, h3, h4⟩ := h i hi
    unfold badAt
    simp only [Bool.not_eq_true', Bool.or_eq_false_iff, Bool.not_eq_false', Bool.and_eq_false_iff, decide_eq_false_iff_not]
    refine ⟨⟨⟨by omega, h2⟩, ?_⟩, ?_⟩
    · rw [Bool.eq_false_iff]
      intro hc
      rw [List.contains_iff_mem, List.mem_map] at hc
      obtain ⟨x, hx, e⟩ := hc
      obtain ⟨k, hk, rfl⟩ := List.mem_iff_getElem.1 hx
      have hk2 : k < i := by simp at hk; omega
      refine h3 k hk2 ?_
      simp only [List.getElem_take] at e
      rw [← e]
      simp [at', List.getD, show k < js.length by omega]
    · by_cases h0 : 0 < i
      · obtain ⟨h5, h6⟩ := h4 h0
        have := (jOrder_neg _ _).2 h6
        exact .inr ⟨by simpa using h5, by simpa using this⟩
      · exact .inl (by omega)

theorem check_lt {js : List Job} (h : jCheck js = true) : ∀ (d i : Nat), i + d + 1 < js.length → jLt (at' js i) (at' js (i + d + 1))
  | 0, i, hi => (((check_spec js).1 h (i + 1) (by omega)).2.2.2 (by omega)).2
  | d + 1, i, hi => jLt_trans (check_lt h d i (by omega)) (((check_spec js).1 h (i + (d + 1) + 1) (by omega)).2.2.2 (by omega)).2
theorem part_of_check {js : List Job} (h : jCheck js = true) (x : Job) : PartB js x := by
  intro i j hij hj hx
  rcases Nat.lt_or_ge i j with hlt | hge
  · rw [jOrder_neg] at hx ⊢
    have := check_lt h (j - i - 1) i (by omega)
    rw [show i + (j - i - 1) + 1 = j by omega] at this
    exact jLt_trans this hx
  · have : i = j := by omega
    subst this; exact hx
theorem part_tail {j : Job} {r : List Job} {x : Job} (h : PartB (j :: r) x) : PartB r x := by
  intro a b hab hb hx
  exact h (a + 1) (b + 1) (by omega) (by simpa using hb) hx
theorem check_len {js : List Job} (h : jCheck js = true) : js.length ≤ 4096 := by
  rcases Nat.eq_zero_or_pos js.length with h0 | h0
  · omega
  · exact ((check_spec js).1 h 0 h0).1

@[go_sem] def cRight2 : Ctr := ctr1 aJob (fun _ => True) fun x => .v (.bool (jRight x))
theorem gRight2 : Good Sp 13 cRight2 := good_sub gRight (fun nx al own R hR hc => by
  simp only [cRight2, ctr1] at hR
  split at hR
  case h_2 => cases hR
  split at hR
  case h_2 => (cases hR; exact hc.elim)
  rename_i h1
  cases hR
  simp only [aJob, argAg] at h1
  split at h1
  case h_2 => cases h1
  refine ⟨_, ?_, hc, rfl, rfl, rfl⟩
  simp only [codJob] at h1
  simp only [cRight, h1])

def jAdd (js : List Job) (a p s : Int) : List Job × Int :=
  if jCheck js = false then (js, 2) else if 0 ≤ findId js a then (js, 180) else if jRight ⟨a, p, s, 0⟩ = false ∨ js.length = 4096 then (js, 2) else (putJ js ⟨a, p, s, 0⟩, 0)
@[go_sem] def cAdd : Ctr := ctr4 aJobs (argI .i64) (argI .i64) (argI .i64) (fun _ _ _ _ => True) fun js a p s => .tup [.sl ((jAdd js a p s).1.map jobC) .none, .v (.int .i64 (jAdd js a p s).2)]
theorem gAdd : Good Sp 10 cAdd := by
  refine good4 (T := look [(6, cCheck), (19, cPlace), (13, cRight2), (21, cPut), (14, cOrder2)]) (fn := Try.f10) (c := _) (tab_ok (by simpa using ⟨gCheck, gPlace, gRight2, gPut, gOrder2⟩)) (by kernel_rfl) rfl (by kernel_rfl) rfl ?_
  intro js a p s hpre nx
  show Awp Sp _ _ _ _ ⟨[(0, .sl (js.map jobC) .none), (1, .v (.int .i64 a)), (2, .v (.int .i64 p)), (3, .v (.int .i64 s))], [], nx, 39⟩
  refine awp_sreg [some 8, some 9] rfl fun K1 hK1 => ?_
  refine oP ?_; refine oP ?_; refine oE (hK1 _ ?_); clear hK1 K1
  refine awp_sreg [some 11, some 12, some 13, some 14, some 10, Option.none] rfl fun K2 hK2 => ?_
  refine oP ?_; refine oP ?_; refine oP ?_; refine oP ?_; refine oN ?_; refine oWn ?_
  refine oE (hK2 _ ?_); clear hK2 K2
  refine awp_seq_k fun J3 hJ3 => ?_
  refine awp_block ?_
  refine awp_sreg [some 16, some 17, some 18, some 15] rfl fun K4 hK4 => ?_
  refine oP ?_; refine oP ?_; refine oP ?_; refine oP ?_; refine oE (hK4 _ ?_); clear hK4 K4
  refine awp_cond rfl (fun b2 => ?_) (fun b2 => ?_)
  · have hck : jCheck js = false := by simpa using b2
    refine awp_sreg [some 19, some 8, some 9] rfl fun K5 hK5 => ?_
    refine oP ?_; refine oP ?_; refine oP ?_; refine oE (hK5 _ ?_); clear hK5 K5
    refine awp_ret (kRet ?_)
    simp [jAdd, hck]
  have hck : jCheck js = true := by simpa using b2
  refine awp_sreg [some 21, some 22, some 23, some 24, some 20] rfl fun K6 hK6 => ?_
  refine oP ?_; refine oP ?_; refine oP ?_; refine oP ?_; refine oP ?_; refine oE (hK6 _ ?_); clear hK6 K6
  refine awp_cond rfl (fun b4 => ?_) (fun b4 => ?_)
  · have hf : 0 ≤ findId js a := by simpa using b4
    refine awp_sreg [some 25, some 8, some 9] rfl fun K7 hK7 => ?_
    refine oP ?_; refine oP ?_; refine oP ?_; refine oE (hK7 _ ?_); clear hK7 K7
    refine awp_ret (kRet ?_)
    simp [jAdd, hck, hf]
  have hf : ¬ 0 ≤ findId js a := by simpa using b4
  refine awp_sreg [some 27, some 28, some 29, some 30, some 31, some 32, some 33, some 34, some 26] rfl fun K8 hK8 => ?_
  refine oP ?_; refine oP ?_; refine oP ?_; refine oP ?_; refine oP ?_; refine oP ?_
  refine oP ?_; refine oP ?_; refine oP ?_; refine oE (hK8 _ ?_); clear hK8 K8
  refine awp_cond rfl (fun b6 => ?_) (fun b6 => ?_)
  · have hr : jRight ⟨a, p, s, 0⟩ = false ∨ js.length = 4096 := by simp at b6; rcases hq : jRight ⟨a, p, s, 0⟩ <;> simp [hq] at b6 ⊢; omega
    refine awp_sreg [some 35, some 8, some 9] rfl fun K9 hK9 => ?_
    refine oP ?_; refine oP ?_; refine oP ?_; refine oE (hK9 _ ?_); clear hK9 K9
    refine awp_ret (kRet ?_)
    simp [jAdd, hck, hf, hr]
  have hr : ¬ (jRight ⟨a, p, s, 0⟩ = false ∨ js.length = 4096) := by simp at b6; rcases hq : jRight ⟨a, p, s, 0⟩ <;> simp [hq] at b6 ⊢; omega
  refine awp_skip (hJ3 _ ?_)
  refine awp_sreg [some 36, some 37, some 38, some 8, some 9] rfl fun K10 hK10 => ?_
  refine oP ?_; refine oP ?_; refine oP ?_ (hc := by exact ⟨part_of_check hck _, check_len hck⟩)
  refine oP ?_; refine oP ?_; refine oE (hK10 _ ?_); clear hK10 K10
  refine awp_ret (kRet ?_)
  simp [jAdd, hck, hf, hr]

def jLost : List Job → List Job
  | [] => []
  | j :: r => if jCheck (j :: r) = false ∨ j.gone = 0 then j :: r else putJ r ⟨j.id, j.prio, j.size, 0⟩
@[go_sem] def cLost : Ctr := ctr1 aJobs (fun _ => True) fun js => .sl ((jLost js).map jobC) .none
theorem gLost : Good Sp 11 cLost := by
  refine good1 (T := look [(6, cCheck), (21, cPut), (14, cOrder2)]) (fn := Try.f11) (c := _) (tab_ok (by simpa using ⟨gCheck, gPut, gOrder2⟩)) (by kernel_rfl) rfl (by kernel_rfl) rfl ?_
  intro js hpre nx
  show Awp Sp _ _ _ _ ⟨[(0, .sl (js.map jobC) .none)], [], nx, 28⟩
  rcases js with _ | ⟨j0, js0⟩
  · refine awp_sreg [some 2] rfl fun K1 hK1 => ?_
    refine oP ?_; refine oE (hK1 _ ?_); clear hK1 K1
    refine awp_seq_k fun J2 hJ2 => ?_
    refine awp_sreg [some 4, some 5, some 6, some 7, some 8, some 9, some 10, some 11, some 12, some 13, some 14, some 15, some 16, some 17, some 18] rfl fun K3 hK3 => ?_
    refine oP ?_; refine oP ?_ (h := by simp only [List.map_nil, go_sem, ↓reduceIte, Nat.reduceAdd, Nat.reduceSub, Nat.reduceMul, Nat.reduceEqDiff, Nat.reduceLT, Nat.reduceLeDiff, Nat.reducePow, Nat.reduceBEq, reduceCtorEq, Int.toNat_zero]; ((try simp (disch := omega) only [wrap64, wrapU64, wrapU32, wrapU16, wrapU8, go_sem, Nat.reduceAdd]); rfl))
    refine oP ?_; refine oP ?_; refine oP ?_; refine oP ?_; refine oP ?_; refine oP ?_
    refine oP ?_; refine oP ?_; refine oP ?_; refine oP ?_; refine oP ?_; refine oP ?_
    refine oP ?_; refine oE (hK3 _ ?_); clear hK3 K3
    refine awp_cond rfl (fun b1 => ?_) (fun b1 => ?_)
    · refine awp_sreg [some 19, some 2] rfl fun K4 hK4 => ?_
      refine oP ?_; refine oP ?_; refine oE (hK4 _ ?_); clear hK4 K4
      refine awp_ret (kRet ?_)
      simp [jLost]
    (exfalso; simp at b1)
  refine awp_sreg [some 2] rfl fun K5 hK5 => ?_
  refine oP ?_; refine oE (hK5 _ ?_); clear hK5 K5
  refine awp_seq_k fun J6 hJ6 => ?_
  refine awp_sreg [some 4, some 5, some 6, some 7, some 8, some 9, some 10, some 11, some 12, some 13, some 14, some 15, some 16, some 17, some 18] rfl fun K7 hK7 => ?_
  refine oP ?_; refine oP ?_; refine oP ?_; refine oP ?_; refine oP ?_; refine oP ?_
  refine oP ?_; refine oP ?_; refine oP ?_; refine oP ?_; refine oP ?_; refine oP ?_
  refine oP ?_; refine oP ?_; refine oP ?_; refine oE (hK7 _ ?_); clear hK7 K7
  refine awp_cond rfl (fun b1 => ?_) (fun b1 => ?_)
  · refine awp_sreg [some 19, some 2] rfl fun K8 hK8 => ?_
    refine oP ?_; refine oP ?_; refine oE (hK8 _ ?_); clear hK8 K8
    refine awp_ret (kRet ?_)
    simp at b1; rcases hq : jCheck (j0 :: js0) <;> simp [hq] at b1 <;> simp [jLost, hq]; rw [if_pos (by omega)]; rfl
  refine awp_skip (hJ6 _ ?_)
  have hb : jCheck (j0 :: js0) = true ∧ ¬ (j0.gone = 0) := by rcases hq : jCheck (j0 :: js0) <;> simp [hq] at b1 ⊢; exact b1.2
  refine awp_sreg [some 20, some 21, some 22, some 3, Option.none] rfl fun K9 hK9 => ?_
  refine oP ?_; refine oP ?_; refine oP ?_; refine oN ?_; refine oWn ?_; refine oE (hK9 _ ?_); clear hK9 K9
  refine awp_sreg [some 23, Option.none] rfl fun K10 hK10 => ?_
  refine oP ?_; refine oWn ?_; refine oE (hK10 _ ?_); clear hK10 K10
  have hl := check_len hb.1
  simp only [List.length_cons] at hl
  refine awp_sq mixO [] (by kernel_rfl) [some 24, some 25, some 26, some 27, some 2] rfl fun K11 hK11 => ?_
  refine qP ?_; refine qP ?_; refine qP ?_; refine qP ?_ (hc := by exact ⟨part_tail (part_of_check hb.1 _), by omega⟩)
  refine qP ?_; refine qE (hK11 _ ?_); clear hK11 K11
  refine awp_ret (kRet ?_)
  simp [jLost, hb.1, hb.2]

def jDrop0 (js : List Job) (a : Int) : List Job × Int := if jCheck js = false then (js, 2) else (js, 181)
@[go_sem] def cDrop : Ctr := ctr2 aJobs (argI .i64) (fun js a => findId js a < 0) fun js a => .tup [.sl ((jDrop0 js a).1.map jobC) .none, .v (.int .i64 (jDrop0 js a).2)]
theorem gDrop : Good Sp 16 cDrop := by
  refine good2 (T := look [(19, cPlace), (6, cCheck), (20, cClone)]) (fn := Try.f16) (c := _) (tab_ok (by simpa using ⟨gPlace, gCheck, gClone⟩)) (by kernel_rfl) rfl (by kernel_rfl) rfl ?_
  intro js a hpre nx
  show Awp Sp _ _ _ _ ⟨[(0, .sl (js.map jobC) .none), (1, .v (.int .i64 a))], [], nx, 25⟩
  refine awp_sreg [some 4, some 5] rfl fun K1 hK1 => ?_
  refine oP ?_; refine oP ?_; refine oE (hK1 _ ?_); clear hK1 K1
  refine awp_sreg [some 7, some 8, some 9, some 6] rfl fun K2 hK2 => ?_
  refine oP ?_; refine oP ?_; refine oP ?_; refine oP ?_; refine oE (hK2 _ ?_); clear hK2 K2
  refine awp_seq_k fun J3 hJ3 => ?_
  refine awp_block ?_
  refine awp_sreg [some 11, some 12, some 13, some 10] rfl fun K4 hK4 => ?_
  refine oP ?_; refine oP ?_; refine oP ?_; refine oP ?_; refine oE (hK4 _ ?_); clear hK4 K4
  refine awp_cond rfl (fun b2 => ?_) (fun b2 => ?_)
  · refine awp_sreg [some 14, some 4, some 5] rfl fun K5 hK5 => ?_
    refine oP ?_; refine oP ?_; refine oP ?_; refine oE (hK5 _ ?_); clear hK5 K5
    refine awp_ret (kRet ?_)
    simp at b2; simp [jDrop0, b2]
  refine awp_sreg [some 16, some 17, some 15] rfl fun K6 hK6 => ?_
  refine oP ?_; refine oP ?_; refine oP ?_; refine oE (hK6 _ ?_); clear hK6 K6
  refine awp_cond rfl (fun b4 => ?_) (fun b4 => ?_)
  · refine awp_sreg [some 18, some 4, some 5] rfl fun K7 hK7 => ?_
    refine oP ?_; refine oP ?_; refine oP ?_; refine oE (hK7 _ ?_); clear hK7 K7
    refine awp_ret (kRet ?_)
    simp at b2; simp [jDrop0, b2]
  (exfalso; simp at b4; omega)

theorem eq_step {α : Type} [Inhabited α] {a b : List α} (hl : a.length = b.length) {i : Nat} (hi : i < a.length) (h : a.take i = b.take i) (he : a.getD i default = b.getD i default) : a.take (i + 1) = b.take (i + 1) := by
  rw [List.take_succ_eq_append_getElem hi, List.take_succ_eq_append_getElem (show i < b.length by omega), h]
  simp only [List.getD_eq_getElem?_getD, List.getElem?_eq_getElem hi, List.getElem?_eq_getElem (show i < b.length by omega), Option.getD_some] at he
  rw [he]
@[go_sem] def cSame : Ctr := ctr2 aJobs aJobs (fun _ _ => True) fun a b => .v (.bool (decide (a = b)))
theorem job_ne (x y : Job) : (!(decide (x.id = y.id) && (decide (x.prio = y.prio) && (decide (x.size = y.size) && decide (x.gone = y.gone))))) = decide (x ≠ y) := by
  rw [Bool.eq_iff_iff]
  cases x; cases y
  simp
theorem gSame : Good Sp 12 cSame := by
  refine good2 (T := look []) (fn := Try.f12) (c := _) tab_nil (by kernel_rfl) rfl (by kernel_rfl) rfl ?_
  intro a b hpre nx
  show Awp Sp _ _ _ _ ⟨[(0, .sl (a.map jobC) .none), (1, .sl (b.map jobC) .none)], [], nx, 26⟩
  refine awp_fact (sl_len (i := 0) rfl) fun hlen => ?_
  replace hlen := maxLen_le hlen
  rw [List.length_map] at hlen
  refine awp_sreg [some 4] rfl fun K1 hK1 => ?_
  refine oP ?_; refine oE (hK1 _ ?_); clear hK1 K1
  refine awp_seq_k fun J2 hJ2 => ?_
  refine awp_sreg [some 6, some 7, some 8, some 9, some 10] rfl fun K3 hK3 => ?_
  refine oP ?_; refine oP ?_; refine oP ?_; refine oP ?_; refine oP ?_; refine oE (hK3 _ ?_); clear hK3 K3
  refine awp_cond rfl (fun b1 => ?_) (fun b1 => ?_)
  · refine awp_sreg [some 4] rfl fun K4 hK4 => ?_
    refine oP ?_; refine oE (hK4 _ ?_); clear hK4 K4
    refine awp_ret (kRet ?_)
    simp at b1
    have : a ≠ b := fun e => b1 (by rw [e])
    simp [this]
  refine awp_skip (hJ2 _ ?_)
  refine awp_seq_k fun J5 hJ5 => ?_
  have hl : a.length = b.length := by simp at b1; omega
  refine awp_sreg [some 5] rfl fun K6 hK6 => ?_
  refine oP ?_; refine oE (hK6 _ ?_); clear hK6 K6
  refine awp_block ?_
  refine awp_loop ⟨[0, 1, 5], [], nx, []⟩ (fun m st => ∃ i : Nat, i ≤ a.length ∧ a.take i = b.take i ∧ m = a.length - i ∧ st = ⟨[(0, .sl (a.map jobC) .none), (1, .sl (b.map jobC) .none), (5, .v (.int .i64 i))], [], nx, 26⟩) a.length (by simp) ⟨_, _, (by simp only [keepSt, Nat.left_eq_add, Nat.add_eq_left, Nat.one_ne_zero, Nat.add_assoc, Nat.reduceAdd, List.mem_cons, List.not_mem_nil, or_false, true_or, or_true, tokSt, pick1, look, dropSp, allSeen, allSeenO, seen, seenL, seenO, Nat.reduceEqDiff, ↓reduceIte, reduceCtorEq, List.map_cons, List.map_nil, and_self, and_true, true_and, List.contains_nil, Bool.false_eq_true] <;> rfl), by simp [seen, seenL], 0, by omega, rfl, rfl, rfl⟩ ?_
  rintro m st ⟨i, h1, h2, h3, rfl⟩
  refine awp_seq_k fun J7 hJ7 => ?_
  refine awp_sreg [some 11, some 12, some 13, some 14] rfl fun K8 hK8 => ?_
  refine oP ?_; refine oP ?_; refine oP ?_; refine oP ?_; refine oE (hK8 _ ?_); clear hK8 K8
  refine awp_cond rfl (fun b4 => ?_) (fun b4 => ?_)
  · refine awp_skip (hJ7 _ ?_)
    refine awp_seq_k fun J9 hJ9 => ?_
    refine awp_block ?_
    have hi : i < a.length := by simp at b4; omega
    have hxa : nth (a.map jobC) (i : Int) = jobC (at' a i) := by rw [nth_map jobC a _ hi]; congr 1; simp [List.getD, hi]
    have hxb : nth (b.map jobC) (i : Int) = jobC (at' b i) := by rw [nth_map jobC b _ (by omega)]; congr 1; simp [List.getD, show i < b.length by omega]
    refine awp_sq mixO [] (by kernel_rfl) [some 17, some 18, some 19, some 20, some 21, some 22, some 23, some 24, some 25] rfl fun K10 hK10 => ?_
    refine qP ?_; refine qP ?_; refine qP ?_; refine qP ?_ (h := by simp only [hxa, go_sem, ↓reduceIte, Nat.reduceAdd, Nat.reduceSub, Nat.reduceMul, Nat.reduceEqDiff, Nat.reduceLT, Nat.reduceLeDiff, Nat.reducePow, Nat.reduceBEq, reduceCtorEq, Int.toNat_zero]; ((try simp (disch := omega) only [wrap64, wrapU64, wrapU32, wrapU16, wrapU8, go_sem, Nat.reduceAdd]); rfl))
    refine qP ?_; refine qP ?_; refine qP ?_; refine qP ?_ (h := by simp only [hxb, go_sem, ↓reduceIte, Nat.reduceAdd, Nat.reduceSub, Nat.reduceMul, Nat.reduceEqDiff, Nat.reduceLT, Nat.reduceLeDiff, Nat.reducePow, Nat.reduceBEq, reduceCtorEq, Int.toNat_zero]; ((try simp (disch := omega) only [wrap64, wrapU64, wrapU32, wrapU16, wrapU8, go_sem, Nat.reduceAdd]); rfl))
    refine qP ?_ (h := by simp only [jobC, job_ne, go_sem, ↓reduceIte, Nat.reduceAdd, Nat.reduceSub, Nat.reduceMul, Nat.reduceEqDiff, Nat.reduceLT, Nat.reduceLeDiff, Nat.reducePow, Nat.reduceBEq, reduceCtorEq, Int.toNat_zero]; ((try simp (disch := omega) only [wrap64, wrapU64, wrapU32, wrapU16, wrapU8, go_sem, Nat.reduceAdd]); rfl))
    refine qE (hK10 _ ?_); clear hK10 K10
    refine awp_cond rfl (fun b6 => ?_) (fun b6 => ?_)
    · refine awp_sreg [some 4] rfl fun K11 hK11 => ?_
      refine oP ?_; refine oE (hK11 _ ?_); clear hK11 K11
      refine awp_ret (kRet ?_)
      have hne : at' a i ≠ at' b i := by simpa using b6
      have : a ≠ b := fun e => hne (by rw [e])
      simp [this]
    refine awp_skip (hJ9 _ ?_)
    refine awp_reg [some 15, some 16, some 5] rfl fun K12 hK12 => ?_
    refine oP ?_; refine oP ?_; refine oP ?_; refine oE (hK12 _ ?_); clear hK12 K12
    have he : at' a i = at' b i := by simpa using b6
    exact ⟨_, _, (by simp only [keepSt, Nat.left_eq_add, Nat.add_eq_left, Nat.one_ne_zero, Nat.add_assoc, Nat.reduceAdd, List.mem_cons, List.not_mem_nil, or_false, true_or, or_true, tokSt, pick1, look, dropSp, allSeen, allSeenO, seen, seenL, seenO, Nat.reduceEqDiff, ↓reduceIte, reduceCtorEq, List.map_cons, List.map_nil, and_self, and_true, true_and, List.contains_nil, Bool.false_eq_true] <;> rfl), by simp [seen, seenL], a.length - (i + 1), by omega, i + 1, by omega, eq_step hl hi h2 he, rfl, rfl⟩
  refine awp_exit (hJ5 _ ?_)
  refine awp_sreg [some 4] rfl fun K13 hK13 => ?_
  refine oP ?_; refine oE (hK13 _ ?_); clear hK13 K13
  refine awp_ret (kRet ?_)
  have hi : i = a.length := by simp at b4; omega
  rw [List.take_of_length_le (by omega), List.take_of_length_le (by omega)] at h2
  simp [h2]

def decPart : List AV → Option Part
  | [.v (.int .i64 a), .v (.int .i64 b), .v (.int .i64 c)] => some ⟨a, b, c⟩
  | _ => Option.none
def codPart : Cod Part := ⟨partC, decPart, fun _ => rfl, fun cs j h => by
  unfold decPart at h
  split at h
  · cases h; rfl
  · cases h⟩
def aParts : Arg (List Part) := argSl codPart
@[go_sem] theorem aParts_dec (l : List Part) (sp : Spare) : aParts.dec (.sl (l.map partC) sp) = some l := argSl_dec codPart l sp
attribute [go_sem] partC_length
theorem part_ne (x y : Part) : (!(decide (x.id = y.id) && (decide (x.at' = y.at') && decide (x.n = y.n)))) = decide (x ≠ y) := by
  rw [Bool.eq_iff_iff]
  cases x; cases y
  simp
abbrev pt' (js : List Part) (i : Nat) : Part := js.getD i default
theorem nth_mapD {α β : Type} [Inhabited α] [Inhabited β] (f : α → β) (l : List α) (i : Nat) (h : i < l.length) : nth (l.map f) (i : Int) = f (l.getD i default) := by
  rw [nth_map f l i h]; congr 1; simp [List.getD, h]
@[go_sem] def cParts : Ctr := ctr2 aParts aParts (fun _ _ => True) fun a b => .v (.bool (decide (a = b)))
theorem gParts : Good Sp 17 cParts := by
  refine good2 (T := look []) (fn := Try.f17) (c := _) tab_nil (by kernel_rfl) rfl (by kernel_rfl) rfl ?_
  intro a b hpre nx
  show Awp Sp _ _ _ _ ⟨[(0, .sl (a.map partC) .none), (1, .sl (b.map partC) .none)], [], nx, 26⟩
  refine awp_fact (sl_len (i := 0) rfl) fun hlen => ?_
  replace hlen := maxLen_le hlen
  rw [List.length_map] at hlen
  refine awp_sreg [some 4] rfl fun K1 hK1 => ?_
  refine oP ?_; refine oE (hK1 _ ?_); clear hK1 K1
  refine awp_seq_k fun J2 hJ2 => ?_
  refine awp_sreg [some 6, some 7, some 8, some 9, some 10] rfl fun K3 hK3 => ?_
  refine oP ?_; refine oP ?_; refine oP ?_; refine oP ?_; refine oP ?_; refine oE (hK3 _ ?_); clear hK3 K3
  refine awp_cond rfl (fun b1 => ?_) (fun b1 => ?_)
  · refine awp_sreg [some 4] rfl fun K4 hK4 => ?_
    refine oP ?_; refine oE (hK4 _ ?_); clear hK4 K4
    refine awp_ret (kRet ?_)
    simp at b1
    have : a ≠ b := fun e => b1 (by rw [e])
    simp [this]
  refine awp_skip (hJ2 _ ?_)
  refine awp_seq_k fun J5 hJ5 => ?_
  have hl : a.length = b.length := by simp at b1; omega
  refine awp_sreg [some 5] rfl fun K6 hK6 => ?_
  refine oP ?_; refine oE (hK6 _ ?_); clear hK6 K6
  refine awp_block ?_
  refine awp_loop ⟨[0, 1, 5], [], nx, []⟩ (fun m st => ∃ i : Nat, i ≤ a.length ∧ a.take i = b.take i ∧ m = a.length - i ∧ st = ⟨[(0, .sl (a.map partC) .none), (1, .sl (b.map partC) .none), (5, .v (.int .i64 i))], [], nx, 26⟩) a.length (by simp) ⟨_, _, (by simp only [keepSt, Nat.left_eq_add, Nat.add_eq_left, Nat.one_ne_zero, Nat.add_assoc, Nat.reduceAdd, List.mem_cons, List.not_mem_nil, or_false, true_or, or_true, tokSt, pick1, look, dropSp, allSeen, allSeenO, seen, seenL, seenO, Nat.reduceEqDiff, ↓reduceIte, reduceCtorEq, List.map_cons, List.map_nil, and_self, and_true, true_and, List.contains_nil, Bool.false_eq_true] <;> rfl), by simp [seen, seenL], 0, by omega, rfl, rfl, rfl⟩ ?_
  rintro m st ⟨i, h1, h2, h3, rfl⟩
  refine awp_seq_k fun J7 hJ7 => ?_
  refine awp_sreg [some 11, some 12, some 13, some 14] rfl fun K8 hK8 => ?_
  refine oP ?_; refine oP ?_; refine oP ?_; refine oP ?_; refine oE (hK8 _ ?_); clear hK8 K8
  refine awp_cond rfl (fun b4 => ?_) (fun b4 => ?_)
  · refine awp_skip (hJ7 _ ?_)
    refine awp_seq_k fun J9 hJ9 => ?_
    refine awp_block ?_
    have hi : i < a.length := by simp at b4; omega
    have hxa := nth_mapD partC a i hi
    have hxb := nth_mapD partC b i (by omega)
    refine awp_sq mixO [] (by kernel_rfl) [some 17, some 18, some 19, some 20, some 21, some 22, some 23, some 24, some 25] rfl fun K10 hK10 => ?_
    refine qP ?_; refine qP ?_; refine qP ?_; refine qP ?_ (h := by simp only [hxa, partC, go_sem, ↓reduceIte, Nat.reduceAdd, Nat.reduceSub, Nat.reduceMul, Nat.reduceEqDiff, Nat.reduceLT, Nat.reduceLeDiff, Nat.reducePow, Nat.reduceBEq, reduceCtorEq, Int.toNat_zero]; ((try simp (disch := omega) only [wrap64, wrapU64, wrapU32, wrapU16, wrapU8, go_sem, Nat.reduceAdd]); rfl))
    refine qP ?_; refine qP ?_; refine qP ?_; refine qP ?_ (h := by simp only [hxb, partC, go_sem, ↓reduceIte, Nat.reduceAdd, Nat.reduceSub, Nat.reduceMul, Nat.reduceEqDiff, Nat.reduceLT, Nat.reduceLeDiff, Nat.reducePow, Nat.reduceBEq, reduceCtorEq, Int.toNat_zero]; ((try simp (disch := omega) only [wrap64, wrapU64, wrapU32, wrapU16, wrapU8, go_sem, Nat.reduceAdd]); rfl))
    refine qP ?_ (h := by simp only [partC, part_ne, go_sem, ↓reduceIte, Nat.reduceAdd, Nat.reduceSub, Nat.reduceMul, Nat.reduceEqDiff, Nat.reduceLT, Nat.reduceLeDiff, Nat.reducePow, Nat.reduceBEq, reduceCtorEq, Int.toNat_zero]; ((try simp (disch := omega) only [wrap64, wrapU64, wrapU32, wrapU16, wrapU8, go_sem, Nat.reduceAdd]); rfl))
    refine qE (hK10 _ ?_); clear hK10 K10
    refine awp_cond rfl (fun b6 => ?_) (fun b6 => ?_)
    · refine awp_sreg [some 4] rfl fun K11 hK11 => ?_
      refine oP ?_; refine oE (hK11 _ ?_); clear hK11 K11
      refine awp_ret (kRet ?_)
      have hne : pt' a i ≠ pt' b i := by simpa using b6
      have : a ≠ b := fun e => hne (by rw [e])
      simp [this]
    refine awp_skip (hJ9 _ ?_)
    refine awp_reg [some 15, some 16, some 5] rfl fun K12 hK12 => ?_
    refine oP ?_; refine oP ?_; refine oP ?_; refine oE (hK12 _ ?_); clear hK12 K12
    have he : pt' a i = pt' b i := by simpa using b6
    exact ⟨_, _, (by simp only [keepSt, Nat.left_eq_add, Nat.add_eq_left, Nat.one_ne_zero, Nat.add_assoc, Nat.reduceAdd, List.mem_cons, List.not_mem_nil, or_false, true_or, or_true, tokSt, pick1, look, dropSp, allSeen, allSeenO, seen, seenL, seenO, Nat.reduceEqDiff, ↓reduceIte, reduceCtorEq, List.map_cons, List.map_nil, and_self, and_true, true_and, List.contains_nil, Bool.false_eq_true] <;> rfl), by simp [seen, seenL], a.length - (i + 1), by omega, i + 1, by omega, eq_step hl hi h2 he, rfl, rfl⟩
  refine awp_exit (hJ5 _ ?_)
  refine awp_sreg [some 4] rfl fun K13 hK13 => ?_
  refine oP ?_; refine oE (hK13 _ ?_); clear hK13 K13
  refine awp_ret (kRet ?_)
  have hi : i = a.length := by simp at b4; omega
  rw [List.take_of_length_le (by omega), List.take_of_length_le (by omega)] at h2
  simp [h2]

def codInt : Cod Int := ⟨iC, decInt, decInt_C, fun _ _ => decInt_eq⟩
def aInts : Arg (List Int) := argSl codInt
@[go_sem] theorem aInts_dec (l : List Int) (sp : Spare) : aInts.dec (.sl (l.map iC) sp) = some l := decInts_C l
attribute [go_sem] iC_length
@[go_sem] theorem iC_get (i : Int) (x : AV) : (iC i).getD 0 x = .v (.int .i64 i) := rfl
@[go_sem] def cInts : Ctr := ctr2 aInts aInts (fun _ _ => True) fun a b => .v (.bool (decide (a = b)))
theorem gInts : Good Sp 18 cInts := by
  refine good2 (T := look []) (fn := Try.f18) (c := _) tab_nil (by kernel_rfl) rfl (by kernel_rfl) rfl ?_
  intro a b hpre nx
  show Awp Sp _ _ _ _ ⟨[(0, .sl (a.map iC) .none), (1, .sl (b.map iC) .none)], [], nx, 26⟩
  refine awp_fact (sl_len (i := 0) rfl) fun hlen => ?_
  replace hlen := maxLen_le hlen
  rw [List.length_map] at hlen
  refine awp_sreg [some 4] rfl fun K1 hK1 => ?_
  refine oP ?_; refine oE (hK1 _ ?_); clear hK1 K1
  refine awp_seq_k fun J2 hJ2 => ?_
  refine awp_sreg [some 6, some 7, some 8, some 9, some 10] rfl fun K3 hK3 => ?_
  refine oP ?_; refine oP ?_; refine oP ?_; refine oP ?_; refine oP ?_; refine oE (hK3 _ ?_); clear hK3 K3
  refine awp_cond rfl (fun b1 => ?_) (fun b1 => ?_)
  · refine awp_sreg [some 4] rfl fun K4 hK4 => ?_
    refine oP ?_; refine oE (hK4 _ ?_); clear hK4 K4
    refine awp_ret (kRet ?_)
    simp at b1
    have : a ≠ b := fun e => b1 (by rw [e])
    simp [this]
  refine awp_skip (hJ2 _ ?_)
  refine awp_seq_k fun J5 hJ5 => ?_
  have hl : a.length = b.length := by simp at b1; omega
  refine awp_sreg [some 5] rfl fun K6 hK6 => ?_
  refine oP ?_; refine oE (hK6 _ ?_); clear hK6 K6
  refine awp_block ?_
  refine awp_loop ⟨[0, 1, 5], [], nx, []⟩ (fun m st => ∃ i : Nat, i ≤ a.length ∧ a.take i = b.take i ∧ m = a.length - i ∧ st = ⟨[(0, .sl (a.map iC) .none), (1, .sl (b.map iC) .none), (5, .v (.int .i64 i))], [], nx, 26⟩) a.length (by simp) ⟨_, _, (by simp only [keepSt, Nat.left_eq_add, Nat.add_eq_left, Nat.one_ne_zero, Nat.add_assoc, Nat.reduceAdd, List.mem_cons, List.not_mem_nil, or_false, true_or, or_true, tokSt, pick1, look, dropSp, allSeen, allSeenO, seen, seenL, seenO, Nat.reduceEqDiff, ↓reduceIte, reduceCtorEq, List.map_cons, List.map_nil, and_self, and_true, true_and, List.contains_nil, Bool.false_eq_true] <;> rfl), by simp [seen, seenL], 0, by omega, rfl, rfl, rfl⟩ ?_
  rintro m st ⟨i, h1, h2, h3, rfl⟩
  refine awp_seq_k fun J7 hJ7 => ?_
  refine awp_sreg [some 11, some 12, some 13, some 14] rfl fun K8 hK8 => ?_
  refine oP ?_; refine oP ?_; refine oP ?_; refine oP ?_; refine oE (hK8 _ ?_); clear hK8 K8
  refine awp_cond rfl (fun b4 => ?_) (fun b4 => ?_)
  · refine awp_skip (hJ7 _ ?_)
    refine awp_seq_k fun J9 hJ9 => ?_
    refine awp_block ?_
    have hi : i < a.length := by simp at b4; omega
    have hxa := nth_mapD iC a i hi
    have hxb := nth_mapD iC b i (by omega)
    refine awp_sq mixO [] (by kernel_rfl) [some 17, some 18, some 19, some 20, some 21, some 22, some 23, some 24, some 25] rfl fun K10 hK10 => ?_
    refine qP ?_; refine qP ?_; refine qP ?_; refine qP ?_ (h := by simp only [hxa, go_sem, ↓reduceIte, Nat.reduceAdd, Nat.reduceSub, Nat.reduceMul, Nat.reduceEqDiff, Nat.reduceLT, Nat.reduceLeDiff, Nat.reducePow, Nat.reduceBEq, reduceCtorEq, Int.toNat_zero]; ((try simp (disch := omega) only [wrap64, wrapU64, wrapU32, wrapU16, wrapU8, go_sem, Nat.reduceAdd]); rfl))
    refine qP ?_; refine qP ?_; refine qP ?_; refine qP ?_ (h := by simp only [hxb, go_sem, ↓reduceIte, Nat.reduceAdd, Nat.reduceSub, Nat.reduceMul, Nat.reduceEqDiff, Nat.reduceLT, Nat.reduceLeDiff, Nat.reducePow, Nat.reduceBEq, reduceCtorEq, Int.toNat_zero]; ((try simp (disch := omega) only [wrap64, wrapU64, wrapU32, wrapU16, wrapU8, go_sem, Nat.reduceAdd]); rfl))
    refine qP ?_; refine qE (hK10 _ ?_); clear hK10 K10
    refine awp_cond rfl (fun b6 => ?_) (fun b6 => ?_)
    · refine awp_sreg [some 4] rfl fun K11 hK11 => ?_
      refine oP ?_; refine oE (hK11 _ ?_); clear hK11 K11
      refine awp_ret (kRet ?_)
      have hne : a.getD i default ≠ b.getD i default := by simpa using b6
      have : a ≠ b := fun e => hne (by rw [e])
      simp [this]
    refine awp_skip (hJ9 _ ?_)
    refine awp_reg [some 15, some 16, some 5] rfl fun K12 hK12 => ?_
    refine oP ?_; refine oP ?_; refine oP ?_; refine oE (hK12 _ ?_); clear hK12 K12
    have he : a.getD i default = b.getD i default := by simpa using b6
    exact ⟨_, _, (by simp only [keepSt, Nat.left_eq_add, Nat.add_eq_left, Nat.one_ne_zero, Nat.add_assoc, Nat.reduceAdd, List.mem_cons, List.not_mem_nil, or_false, true_or, or_true, tokSt, pick1, look, dropSp, allSeen, allSeenO, seen, seenL, seenO, Nat.reduceEqDiff, ↓reduceIte, reduceCtorEq, List.map_cons, List.map_nil, and_self, and_true, true_and, List.contains_nil, Bool.false_eq_true] <;> rfl), by simp [seen, seenL], a.length - (i + 1), by omega, i + 1, by omega, eq_step hl hi h2 he, rfl, rfl⟩
  refine awp_exit (hJ5 _ ?_)
  refine awp_sreg [some 4] rfl fun K13 hK13 => ?_
  refine oP ?_; refine oE (hK13 _ ?_); clear hK13 K13
  refine awp_ret (kRet ?_)
  have hi : i = a.length := by simp at b4; omega
  rw [List.take_of_length_le (by omega), List.take_of_length_le (by omega)] at h2
  simp [h2]
end Go.Aw
namespace Go.Aw
open Go Go.Proofs
set_option maxRecDepth 100000
set_option linter.unusedVariables false
set_option linter.unusedSimpArgs false
@[go_sem] theorem v4_tBytes_3 : tBytes Sp 3 = some 8 := by kernel_rfl
@[go_sem] theorem v4_tBytes_38 : tBytes Sp 38 = some 24 := by kernel_rfl
@[go_sem] theorem v4_tField_28_0 : tField Sp 28 0 = some (0, 3) := by kernel_rfl
@[go_sem] theorem v4_tPlaces_38 : tPlaces Sp 38 = some [(0, 1), (1, 1), (2, 1)] := by kernel_rfl
@[go_sem] theorem v4_tZero_3 : tZero Sp 3 = some [.int .i64 0] := by kernel_rfl
@[go_sem] theorem v4_tZero_38 : tZero Sp 38 = some [.int .i64 0, .int .i64 0, .int .i64 0] := by kernel_rfl
attribute [go_sem] cAhead cSlot cFill
def L1 : List Job := [⟨1, 0, 10, 0⟩]
def L2 : List Job := [⟨2, 2, 4, 0⟩, ⟨1, 0, 10, 0⟩]
def L3 : List Job := [⟨1, 0, 10, 4⟩]
def P1 : List Part := [⟨2, 0, 4⟩, ⟨1, 0, 4⟩]
theorem ad1 : jAdd [] 1 0 10 = (L1, 0) := by decide
theorem ad2 : jAdd L1 2 2 4 = (L2, 0) := by decide
theorem ad3 : jAdd L2 2 0 1 = (L2, 180) := by decide
theorem dr1 : jDrop0 L2 3 = (L2, 181) := by decide
theorem dr2 : findId L2 3 = -1 := by decide
theorem fi1 : jFill L2 8 = (L3, P1, [2]) := by decide
theorem ah1 : jAhead L2 1 = (4, true) := by decide
theorem so1 : jSlot L3 1 8 = 1 := by decide
theorem so2 : jSlot L2 1 8 = 2 := by decide
theorem lo1 : jLost L3 = L1 := by decide
theorem ln2 : L2.length = 2 := rfl
theorem ln3 : L3.length = 1 := rfl
theorem ln1 : L1.length = 1 := rfl
theorem nt2 : nth (L2.map jobC) 0 = jobC ⟨2, 2, 4, 0⟩ := rfl
theorem nt3 : nth (L3.map jobC) 0 = jobC ⟨1, 0, 10, 4⟩ := rfl
@[go_sem] def cHeads : Ctr := ctr0 True (.v (.bool true))
attribute [go_sem] ad1 ad2 ad3 dr1 fi1 ah1 so1 so2 lo1 ln1 ln2 ln3 nt2 nt3
theorem gHeads : Good Sp 7 cHeads := by
  refine good0 (T := look [(10, cAdd), (9, cFill), (15, cAhead), (16, cDrop), (17, cParts), (18, cInts), (8, cSlot), (11, cLost)]) (fn := Try.f7) (c := _) (tab_ok (by simpa using ⟨gAdd, gFill, gAhead, gDrop, gParts, gInts, gSlot, gLost⟩)) (by kernel_rfl) rfl (by kernel_rfl) ?_
  intro hpre nx
  show Awp Sp _ _ _ _ ⟨[], [], nx, 117⟩
  refine awp_sreg [some 0] rfl fun K1 hK1 => ?_
  refine oP ?_; refine oE (hK1 _ ?_); clear hK1 K1
  refine awp_sreg [some 15, some 14, some 16, some 17, some 1, some 2] rfl fun K2 hK2 => ?_
  refine oP ?_; refine oP ?_; refine oP ?_; refine oP ?_; refine oP ?_; refine oP ?_
  refine oE (hK2 _ ?_); clear hK2 K2
  refine awp_sreg [some 19, some 20, some 18, some 21, some 22, some 3, some 4] rfl fun K3 hK3 => ?_
  refine oP ?_; refine oP ?_; refine oP ?_; refine oP ?_; refine oP ?_; refine oP ?_
  refine oP ?_; refine oE (hK3 _ ?_); clear hK3 K3
  refine awp_sreg [some 24, some 25, some 23, some 26, some 27, some 28, some 5, some 6, some 7] rfl fun K4 hK4 => ?_
  refine oP ?_; refine oP ?_; refine oP ?_; refine oP ?_; refine oP ?_; refine oP ?_
  refine oP ?_; refine oP ?_; refine oP ?_; refine oE (hK4 _ ?_); clear hK4 K4
  refine awp_sreg [some 30, some 31, some 29, some 32, some 33, some 8, some 9] rfl fun K5 hK5 => ?_
  refine oP ?_; refine oP ?_; refine oP ?_; refine oP ?_; refine oP ?_; refine oP ?_
  refine oP ?_; refine oE (hK5 _ ?_); clear hK5 K5
  refine awp_sreg [some 35, some 36, some 34, some 37, some 38, some 10, some 11] rfl fun K6 hK6 => ?_
  refine oP ?_; refine oP ?_; refine oP ?_; refine oP ?_; refine oP ?_; refine oP ?_
  refine oP ?_; refine oE (hK6 _ ?_); clear hK6 K6
  refine awp_sreg [some 40, some 41, some 39, some 42, some 43, some 12, some 13] rfl fun K7 hK7 => ?_
  refine oP ?_; refine oP ?_; refine oP ?_; refine oP ?_; refine oP ?_; refine oP ?_
  refine oP ?_; refine oE (hK7 _ ?_); clear hK7 K7
  refine awp_sreg [some 44, some 45, some 46, some 47, some 48, some 49, some 50, some 51, some 52, some 53, some 54, some 55, some 56, some 57, some 58, some 59, some 60, some 61, some 62, some 63, some 64, some 65, some 66, some 67, some 68, some 69, some 70, some 71, some 72, some 73, some 74, some 75, some 76, some 77, some 78, some 79, some 80, some 81, some 82, some 83, some 84, some 85, some 86, some 87, some 88, some 89, some 90, some 91, some 92, some 93, some 94, some 95, some 96, some 97, some 98, some 99, some 100, some 101, some 102, some 103, some 104, some 105, some 106, some 107, some 108, some 109, some 110, some 111, some 112, some 113, some 114, some 115, some 116, some 0] rfl fun K8 hK8 => ?_
  refine oP ?_; refine oP ?_; refine oP ?_; refine oP ?_; refine oP ?_; refine oP ?_
  refine oP ?_; refine oP ?_; refine oP ?_; refine oP ?_; refine oP ?_; refine oP ?_
  refine oP ?_; refine oP ?_; refine oP ?_; refine oP ?_; refine oP ?_; refine oP ?_
  refine oP ?_; refine oP ?_; refine oP ?_; refine oP ?_; refine oP ?_; refine oP ?_
  refine oP ?_; refine oP ?_; refine oP ?_; refine oP ?_; refine oP ?_; refine oP ?_
  refine oP ?_; refine oP ?_; refine oP ?_; refine oP ?_; refine oP ?_; refine oP ?_
  refine oP ?_; refine oP ?_; refine oP ?_; refine oP ?_; refine oP ?_; refine oP ?_
  refine oP ?_; refine oP ?_; refine oP ?_; refine oP ?_; refine oP ?_; refine oP ?_
  refine oP ?_; refine oP ?_; refine oP ?_; refine oP ?_; refine oP ?_; refine oP ?_
  refine oP ?_; refine oP ?_; refine oP ?_; refine oP ?_; refine oP ?_; refine oP ?_
  refine oP ?_; refine oP ?_; refine oP ?_; refine oP ?_; refine oP ?_; refine oP ?_
  refine oP ?_; refine oP ?_; refine oP ?_; refine oP ?_; refine oP ?_; refine oP ?_
  refine oP ?_; refine oP ?_; refine oE (hK8 _ ?_); clear hK8 K8
  refine awp_ret (kRet ?_)
  rfl
end Go.Aw