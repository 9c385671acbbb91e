import Derived.Test.YtgabhnekhdfhcaaSP
namespace Go.Aw
open Go Go.Proofs
set_option maxRecDepth 100000
set_option linter.unusedVariables false
set_option linter.unusedSimpArgs false
@[go_sem] theorem v10_tBool_4 : tBool Sp 4 = true := by kernel_rfl
@[go_sem] theorem v10_tField_28_1 : tField Sp 28 1 = some (1, 3) := by kernel_rfl
theorem slot_iff {A v n k : Int} (hv : 1 ≤ v) (hn : n = (A + v - 1) / v) : (A - (k - 1) * v ≤ v ↔ n ≤ k) := by
  have h1 : n * v ≤ A + v - 1 := by rw [hn]; exact Int.ediv_mul_le _ (by omega)
  have h2 : A + v - 1 < (n + 1) * v := by rw [hn]; exact Int.lt_ediv_add_one_mul_self _ (by omega)
  rw [Int.add_mul, Int.one_mul] at h2
  have e : (k - 1) * v = k * v - v := by rw [Int.sub_mul, Int.one_mul]
  rw [e]
  constructor
  · intro h
    have h3 : n * v < (k + 1) * v := by rw [Int.add_mul, Int.one_mul]; omega
    have := Int.lt_of_mul_lt_mul_right h3 (by omega)
    omega
  · intro h
    have := Int.mul_le_mul_of_nonneg_right h (show 0 ≤ v by omega)
    omega
theorem slot_pos {A v n : Int} (hv : 1 ≤ v) (hn : n = (A + v - 1) / v) (h1 : 1 ≤ n) : 1 ≤ A := by
  rw [hn] at h1
  have := Int.mul_le_of_le_ediv (by omega) h1
  omega
def anyN (ds : List Int) (a : Int) : Nat → Bool
  | 0 => false
  | i + 1 => anyN ds a i || decide (ds.getD i 0 = a)
theorem anyN_spec (ds : List Int) (a : Int) : ∀ i, i ≤ ds.length → (anyN ds a i = true ↔ a ∈ ds.take i)
  | 0, _ => by simp [anyN]
  | i + 1, h => by
    have ih := anyN_spec ds a i (by omega)
    rw [List.take_succ_eq_append_getElem (show i < ds.length by omega), List.mem_append]
    simp only [anyN, Bool.or_eq_true, ih, decide_eq_true_eq, List.mem_singleton, List.getD_eq_getElem?_getD, List.getElem?_eq_getElem (show i < ds.length by omega), Option.getD_some]
    constructor
    · rintro (h | h)
      · exact .inl h
      · exact .inr h.symm
    · rintro (h | h)
      · exact .inl h
      · exact .inr h.symm
def szOf (z : Int) : Int := IntKind.i64.wrap ((IntKind.u64.wrap z).tmod 2000)
theorem szOf_bound (z : Int) : 0 ≤ szOf z ∧ szOf z ≤ 1999 := by
  unfold szOf
  have h0 : 0 ≤ IntKind.u64.wrap z := by
    unfold IntKind.wrap; simp only [IntKind.signed, IntKind.bits]; simp; omega
  rw [Int.tmod_eq_emod_of_nonneg h0, wrap64 (by omega) (by omega)]
  omega
/-- What holds between two slots. -/
structure SlotR (a v A tp pr : Int) (n k : Nat) (row : List Job) : Prop where
  chk : Chk row
  len : row.length ≤ 100 + k
  ids : ∀ x ∈ row, x.id ≤ tp + k
  has : k < n → hasId row a ∧ aheadOf row a = A - k * v ∧ ∀ y ∈ row, y.id = a → y.prio = pr
theorem slot_round {a v A tp pr : Int} {n k : Nat} {row : List Job} (h : SlotR a v A tp pr n k row) (hv : 1 ≤ v) (hn : (n : Int) = (A + v - 1) / v) (hk : k < n) :
    (a ∈ (fillF row v [] []).2.2 ↔ n = k + 1) ∧ SlotR a v A tp pr n (k + 1) (fillF row v [] []).1 ∧ ∀ x ∈ (fillF row v [] []).1, x.id ≤ tp + k := by
  obtain ⟨h1, h2, h3⟩ := h.has hk
  obtain ⟨d1, d2⟩ := fill_done row v [] [] a h.chk h1 (by simp)
  have hi := slot_iff (k := (k : Int) + 1) hv hn
  rw [show ((k : Int) + 1 - 1) = k by omega] at hi
  have hsub := fill_sub row v [] []
  have hids : ∀ x ∈ (fillF row v [] []).1, x.id ≤ tp + k := by
    intro x hx
    obtain ⟨y, hy, e, _⟩ := hsub x hx
    rw [← e]; exact h.ids y hy
  refine ⟨?_, ⟨fill_chk _ _ _ _ h.chk, ?_, fun x hx => ?_, fun hk1 => ?_⟩, hids⟩
  · rw [d1, h2, hi]; omega
  · have := fill_len row v [] []
    have := h.len
    omega
  · have := hids x hx; omega
  · have hnot : v < aheadOf row a := by
      rw [h2]
      by_cases hc : A - k * v ≤ v
      · have := hi.1 hc; omega
      · omega
    obtain ⟨e1, e2⟩ := d2 hnot (by omega)
    refine ⟨e1, ?_, fun y hy hya => ?_⟩
    · rw [e2, h2]
      have : ((k + 1 : Nat) : Int) * v = k * v + v := by rw [Int.natCast_add, Int.add_mul]; simp
      omega
    · obtain ⟨z, hz, e3, e4⟩ := hsub y hy
      rw [← e4]; exact h3 z hz (by rw [e3, hya])
theorem slot_add {a v A tp pr s : Int} {n k : Nat} {row : List Job} (h : SlotR a v A tp pr n (k + 1) row) (hids : ∀ x ∈ row, x.id ≤ tp + k) (hat : a ≤ tp) (h0 : 0 ≤ tp) (htp : tp < 4611686018427386904) (hk : k < 300) (hpr : 0 ≤ pr ∧ pr ≤ 2) (hs : 0 ≤ s ∧ s ≤ 1999) (hl : row.length < 400) :
    jAdd row (tp + (k + 1)) pr (1 + s) = (putJ row ⟨tp + (k + 1), pr, 1 + s, 0⟩, 0) ∧ (row.length + 1 ≤ 100 + (k + 1) → SlotR a v A tp pr n (k + 1) (putJ row ⟨tp + (k + 1), pr, 1 + s, 0⟩)) ∧ Chk (putJ row ⟨tp + (k + 1), pr, 1 + s, 0⟩) := by
  have hr : jRight ⟨tp + (k + 1), pr, 1 + s, 0⟩ = true := by simp [jRight]; omega
  have hne : ∀ y ∈ row, y.id ≠ tp + (k + 1) := fun y hy e => by have := hids y hy; omega
  have hc := add_chk h.chk (by omega) hr hne rfl
  refine ⟨add_ok h.chk hl hne hr, fun hlen => ⟨hc, by rw [put_len]; exact hlen, fun x hx => ?_, fun hk2 => ?_⟩, hc⟩
  · rcases put_mem.1 hx with rfl | hx
    · simp
    · exact h.ids x hx
  · obtain ⟨h1, h2, h3⟩ := h.has hk2
    obtain ⟨y, hy, hya⟩ := h1
    have hlt : jLt y ⟨tp + (k + 1), pr, 1 + s, 0⟩ := by
      have := h3 y hy hya
      have hg := right_gone (h.chk.right y hy)
      unfold jLt mn1
      simp only
      split <;> split <;> omega
    obtain ⟨p1, p2⟩ := put_ahead h.chk.sorted ⟨y, hy, hya, hlt⟩
    refine ⟨p1, by rw [p2, h2], fun z hz hza => ?_⟩
    rcases put_mem.1 hz with rfl | hz
    · rfl
    · exact h3 z hz hza
@[go_sem] def cSchedSlot : Ctr := ctr4 aJobs (argI .i64) (argI .i64) aInts (fun _ _ _ _ => True) fun _ _ _ _ => .v (.bool true)
theorem gSchedSlot : Good Sp 3 cSchedSlot := by
  refine good4 (T := look [(6, cCheck), (7, cHeads), (8, cSlot), (9, cFill), (10, cAdd)]) (fn := Try.f3) (c := _) (tab_ok (by simpa using ⟨gCheck, gHeads, gSlot, gFill, gAdd⟩)) (by kernel_rfl) rfl (by kernel_rfl) rfl ?_
  intro l a v sz hpre nx
  show Awp Sp _ _ _ _ ⟨[(0, .sl (l.map jobC) .none), (1, .v (.int .i64 a)), (2, .v (.int .i64 v)), (3, .sl (sz.map iC) .none)], [], nx, 136⟩
  refine awp_fact (sl_len (i := 3) rfl) fun hlen => ?_
  replace hlen := maxLen_le hlen
  rw [List.length_map] at hlen
  refine awp_sreg [some 8] rfl fun K1 hK1 => ?_
  refine oP ?_; refine oE (hK1 _ ?_); clear hK1 K1
  refine awp_seq_k fun J2 hJ2 => ?_
  refine awp_sreg [some 22, some 23, some 24, some 25, some 26, some 27, some 28, some 29] rfl fun K3 hK3 => ?_
  refine oP ?_; refine oP ?_; refine oP ?_; refine oP ?_; refine oP ?_; refine oP ?_
  refine oP ?_; refine oP ?_; refine oE (hK3 _ ?_); clear hK3 K3
  refine awp_cond rfl (fun b1 => ?_) (fun b1 => ?_)
  · refine awp_sreg [some 30, some 8] rfl fun K4 hK4 => ?_
    refine oP ?_; refine oP ?_; refine oE (hK4 _ ?_); clear hK4 K4
    refine awp_ret (kRet ?_)
    rfl
  refine awp_skip (hJ2 _ ?_)
  have hck : jCheck l = true ∧ l.length ≤ 100 := by rcases hq : jCheck l <;> simp [hq] at b1 ⊢; omega
  obtain ⟨hck, hl0⟩ := hck
  refine awp_sreg [some 31, some 32, some 33, some 34, some 9] rfl fun K5 hK5 => ?_
  refine oP ?_; refine oP ?_; refine oP ?_; refine oP ?_; refine oP ?_; refine oE (hK5 _ ?_); clear hK5 K5
  refine awp_seq_k fun J6 hJ6 => ?_
  refine awp_sreg [some 35, some 36, some 37, some 38, some 39, some 40] rfl fun K7 hK7 => ?_
  refine oP ?_; refine oP ?_; refine oP ?_; refine oP ?_; refine oP ?_; refine oP ?_
  refine oE (hK7 _ ?_); clear hK7 K7
  refine awp_cond rfl (fun b4 => ?_) (fun b4 => ?_)
  · refine awp_sreg [some 41, some 8] rfl fun K8 hK8 => ?_
    refine oP ?_; refine oP ?_; refine oE (hK8 _ ?_); clear hK8 K8
    refine awp_ret (kRet ?_)
    rfl
  refine awp_skip (hJ6 _ ?_)
  have hn0 : 1 ≤ jSlot l a v ∧ jSlot l a v ≤ 300 := by simp at b4; omega
  obtain ⟨s1, s2, s3, s4, s5⟩ := slot_spec hn0.1
  generalize hA : aheadOf l a = A at s5
  obtain ⟨n, hn⟩ := Int.eq_ofNat_of_zero_le (show 0 ≤ jSlot l a v by omega)
  rw [hn] at s5 hn0
  obtain ⟨y0, hy0, hya⟩ := s2
  rw [hn]
  refine awp_sreg [some 10, some 11] rfl fun K9 hK9 => ?_
  refine oP ?_; refine oP ?_; refine oE (hK9 _ ?_); clear hK9 K9
  refine awp_seq_k fun J10 hJ10 => ?_
  refine awp_sreg [some 12] rfl fun K11 hK11 => ?_
  refine oP ?_; refine oE (hK11 _ ?_); clear hK11 K11
  refine awp_block ?_
  refine awp_loop ⟨[0, 1, 2, 3, 9, 10, 11, 12], [], nx, []⟩ (fun m st => ∃ (i : Nat) (pr tp : Int), i ≤ l.length ∧ (∀ k, k < i → (at' l k).id = a → pr = (at' l k).prio) ∧ (0 ≤ pr ∧ pr ≤ 2) ∧ (∀ k, k < i → (at' l k).id ≤ tp) ∧ (0 ≤ tp ∧ tp ≤ 4611686018427387904) ∧ m = l.length - i ∧ st = ⟨[(0, .sl (l.map jobC) .none), (1, .v (.int .i64 a)), (2, .v (.int .i64 v)), (3, .sl (sz.map iC) .none), (9, .v (.int .i64 n)), (10, .v (.int .i64 pr)), (11, .v (.int .i64 tp)), (12, .v (.int .i64 i))], [], nx, 136⟩) l.length (by simp) ⟨_, _, (by simp only [keepSt, Nat.left_eq_add, Nat.add_eq_left, Nat.one_ne_zero, Nat.add_assoc, Nat.reduceAdd, List.mem_cons, List.not_mem_nil, or_false, true_or, or_true, tokSt, pick1, look, dropSp, allSeen, allSeenO, seen, seenL, seenO, Nat.reduceEqDiff, ↓reduceIte, reduceCtorEq, List.map_cons, List.map_nil, and_self, and_true, true_and, List.contains_nil, Bool.false_eq_true] <;> rfl), by simp [seen, seenL], 0, 0, 0, by omega, fun k hk => by omega, by omega, fun k hk => by omega, by omega, rfl, rfl⟩ ?_
  rintro m st ⟨i, pr, tp, h1, h2, h3, h4, h5, h6, rfl⟩
  refine awp_seq_k fun J12 hJ12 => ?_
  refine awp_sreg [some 42, some 43, some 44, some 45] rfl fun K13 hK13 => ?_
  refine oP ?_; refine oP ?_; refine oP ?_; refine oP ?_; refine oE (hK13 _ ?_); clear hK13 K13
  refine awp_cond rfl (fun b8 => ?_) (fun b8 => ?_)
  · refine awp_skip (hJ12 _ ?_)
    refine awp_seq_k fun J14 hJ14 => ?_
    refine awp_block ?_
    refine awp_seq_k fun J15 hJ15 => ?_
    have hi : i < l.length := by simp at b8; omega
    have hx := nth_mapD jobC l i hi
    have hri := right_gone (s1.right _ (at'_mem hi))
    refine awp_sreg [some 48, some 49, some 50, some 51, some 52, some 53, some 54] rfl fun K16 hK16 => ?_
    refine oP ?_; refine oP ?_; refine oP ?_ (h := by simp only [hx, go_sem, ↓reduceIte, Nat.reduceAdd, Nat.reduceSub, Nat.reduceMul, Nat.reduceEqDiff, Nat.reduceLT, Nat.reduceLeDiff, Nat.reducePow, Nat.reduceBEq, reduceCtorEq, Int.toNat_zero]; ((try simp (disch := omega) only [wrap64, wrapU64, wrapU32, wrapU16, wrapU8, go_sem, Nat.reduceAdd]); rfl))
    refine oP ?_; refine oP ?_; refine oP ?_; refine oP ?_; refine oE (hK16 _ ?_); clear hK16 K16
    refine awp_cond rfl (fun b10 => ?_) (fun b10 => ?_)
    · have hid : (at' l i).id = a := by simpa using b10
      refine awp_reg [some 55, some 56, some 57, some 58, some 59, some 10] rfl fun K17 hK17 => ?_
      refine oP ?_; refine oP ?_; refine oP ?_ (h := by simp only [hx, go_sem, ↓reduceIte, Nat.reduceAdd, Nat.reduceSub, Nat.reduceMul, Nat.reduceEqDiff, Nat.reduceLT, Nat.reduceLeDiff, Nat.reducePow, Nat.reduceBEq, reduceCtorEq, Int.toNat_zero]; ((try simp (disch := omega) only [wrap64, wrapU64, wrapU32, wrapU16, wrapU8, go_sem, Nat.reduceAdd]); rfl))
      refine oP ?_; refine oP ?_; refine oP ?_; refine oE (hK17 _ ?_); clear hK17 K17
      refine hJ15 _ ?_
      refine awp_reg [some 60, some 61, some 62, some 63, some 64, some 65, some 66, some 11] rfl fun K18 hK18 => ?_
      refine oP ?_; refine oP ?_; refine oP ?_; refine oP ?_ (h := by simp only [hx, go_sem, ↓reduceIte, Nat.reduceAdd, Nat.reduceSub, Nat.reduceMul, Nat.reduceEqDiff, Nat.reduceLT, Nat.reduceLeDiff, Nat.reducePow, Nat.reduceBEq, reduceCtorEq, Int.toNat_zero]; ((try simp (disch := omega) only [wrap64, wrapU64, wrapU32, wrapU16, wrapU8, go_sem, Nat.reduceAdd]); rfl))
      refine oP ?_; refine oP ?_; refine oP ?_; refine oP ?_; refine oE (hK18 _ ?_); clear hK18 K18
      refine hJ14 _ ?_
      refine awp_reg [some 46, some 47, some 12] rfl fun K19 hK19 => ?_
      refine oP ?_; refine oP ?_; refine oP ?_; refine oE (hK19 _ ?_); clear hK19 K19
      refine ⟨_, _, (by simp only [keepSt, Nat.left_eq_add, Nat.add_eq_left, Nat.one_ne_zero, Nat.add_assoc, Nat.reduceAdd, List.mem_cons, List.not_mem_nil, or_false, true_or, or_true, tokSt, pick1, look, dropSp, allSeen, allSeenO, seen, seenL, seenO, Nat.reduceEqDiff, ↓reduceIte, reduceCtorEq, List.map_cons, List.map_nil, and_self, and_true, true_and, List.contains_nil, Bool.false_eq_true] <;> rfl), by simp [seen, seenL], l.length - (i + 1), by omega, i + 1, _, _, by omega, fun k hk hka => ?_, ?_, fun k hk => ?_, ?_, rfl, rfl⟩
      · by_cases hki : k = i
        · subst hki; first | rfl | exact absurd hka hid
        · first | exact h2 k (by omega) hka | exact absurd (nodup_at s1.ids hi (by omega) (by rw [hka, hid])) hki
      · first | exact h3 | exact ⟨hri.2.2.1, hri.2.2.2.1⟩
      · have h4' : ∀ k, k < i → (l.getD k default).id ≤ tp := h4
        show (l.getD k default).id ≤ _
        by_cases hki : k = i
        · subst hki; split <;> omega
        · have := h4' k (by omega); split <;> omega
      · have hr1 : 0 ≤ (l.getD i default).id ∧ (l.getD i default).id ≤ 4611686018427387904 := ⟨hri.2.2.2.2.2.2.1, hri.2.2.2.2.2.2.2⟩
        exact ⟨by split <;> omega, by split <;> omega⟩
    have hid : ¬ (at' l i).id = a := by simpa using b10
    refine awp_skip (hJ15 _ ?_)
    refine awp_reg [some 60, some 61, some 62, some 63, some 64, some 65, some 66, some 11] rfl fun K20 hK20 => ?_
    refine oP ?_; refine oP ?_; refine oP ?_; refine oP ?_ (h := by simp only [hx, go_sem, ↓reduceIte, Nat.reduceAdd, Nat.reduceSub, Nat.reduceMul, Nat.reduceEqDiff, Nat.reduceLT, Nat.reduceLeDiff, Nat.reducePow, Nat.reduceBEq, reduceCtorEq, Int.toNat_zero]; ((try simp (disch := omega) only [wrap64, wrapU64, wrapU32, wrapU16, wrapU8, go_sem, Nat.reduceAdd]); rfl))
    refine oP ?_; refine oP ?_; refine oP ?_; refine oP ?_; refine oE (hK20 _ ?_); clear hK20 K20
    refine hJ14 _ ?_
    refine awp_reg [some 46, some 47, some 12] rfl fun K21 hK21 => ?_
    refine oP ?_; refine oP ?_; refine oP ?_; refine oE (hK21 _ ?_); clear hK21 K21
    refine ⟨_, _, (by simp only [keepSt, Nat.left_eq_add, Nat.add_eq_left, Nat.one_ne_zero, Nat.add_assoc, Nat.reduceAdd, List.mem_cons, List.not_mem_nil, or_false, true_or, or_true, tokSt, pick1, look, dropSp, allSeen, allSeenO, seen, seenL, seenO, Nat.reduceEqDiff, ↓reduceIte, reduceCtorEq, List.map_cons, List.map_nil, and_self, and_true, true_and, List.contains_nil, Bool.false_eq_true] <;> rfl), by simp [seen, seenL], l.length - (i + 1), by omega, i + 1, _, _, by omega, fun k hk hka => ?_, ?_, fun k hk => ?_, ?_, rfl, rfl⟩
    · by_cases hki : k = i
      · subst hki; first | rfl | exact absurd hka hid
      · first | exact h2 k (by omega) hka | exact absurd (nodup_at s1.ids hi (by omega) (by rw [hka, hid])) hki
    · first | exact h3 | exact ⟨hri.2.2.1, hri.2.2.2.1⟩
    · have h4' : ∀ k, k < i → (l.getD k default).id ≤ tp := h4
      show (l.getD k default).id ≤ _
      by_cases hki : k = i
      · subst hki; split <;> omega
      · have := h4' k (by omega); split <;> omega
    · have hr1 : 0 ≤ (l.getD i default).id ∧ (l.getD i default).id ≤ 4611686018427387904 := ⟨hri.2.2.2.2.2.2.1, hri.2.2.2.2.2.2.2⟩
      exact ⟨by split <;> omega, by split <;> omega⟩
  refine awp_exit (hJ10 _ ?_)
  have hi : i = l.length := by simp at b8; omega
  subst hi
  obtain ⟨q0, hq0, hq1⟩ := List.mem_iff_getElem.1 hy0
  have hat : a ≤ tp := by have := h4 q0 hq0; rw [at'_get hq0, hq1, hya] at this; exact this
  have hstart : SlotR a v A tp pr n 0 l := by
    refine ⟨s1, by omega, fun x hx => ?_, fun _ => ⟨⟨y0, hy0, hya⟩, by rw [hA]; simp, fun y hy hyy => ?_⟩⟩
    · obtain ⟨q, hq, rfl⟩ := List.mem_iff_getElem.1 hx
      have := h4 q hq; rw [at'_get hq] at this; simpa using this
    · obtain ⟨q, hq, rfl⟩ := List.mem_iff_getElem.1 hy
      have := h2 q hq (by rw [at'_get hq]; exact hyy)
      rw [at'_get hq] at this; exact this.symm
  clear h2 h4 h6
  refine awp_sreg [some 67, some 13] rfl fun K22 hK22 => ?_
  refine oP ?_; refine oP ?_; refine oE (hK22 _ ?_); clear hK22 K22
  refine awp_seq_k fun J23 hJ23 => ?_
  refine awp_sreg [some 14] rfl fun K24 hK24 => ?_
  refine oP ?_; refine oE (hK24 _ ?_); clear hK24 K24
  refine awp_block ?_
  refine awp_loop ⟨[0, 1, 2, 3, 9, 10, 11, 13, 14], [], nx, []⟩ (fun m st => ∃ (k : Nat) (row : List Job), k ≤ n ∧ SlotR a v A tp pr n k row ∧ m = n - k ∧ st = ⟨[(0, .sl (l.map jobC) .none), (1, .v (.int .i64 a)), (2, .v (.int .i64 v)), (3, .sl (sz.map iC) .none), (9, .v (.int .i64 n)), (10, .v (.int .i64 pr)), (11, .v (.int .i64 tp)), (13, .sl (row.map jobC) .none), (14, .v (.int .i64 (k + 1 : Nat)))], [], nx, 136⟩) n (by simp) ⟨_, _, (by simp only [keepSt, Nat.left_eq_add, Nat.add_eq_left, Nat.one_ne_zero, Nat.add_assoc, Nat.reduceAdd, List.mem_cons, List.not_mem_nil, or_false, true_or, or_true, tokSt, pick1, look, dropSp, allSeen, allSeenO, seen, seenL, seenO, Nat.reduceEqDiff, ↓reduceIte, reduceCtorEq, List.map_cons, List.map_nil, and_self, and_true, true_and, List.contains_nil, Bool.false_eq_true] <;> rfl), by simp [seen, seenL], 0, l, by omega, hstart, rfl, rfl⟩ ?_
  rintro m2 st ⟨k, row, g1, hR, g3, rfl⟩
  refine awp_seq_k fun J25 hJ25 => ?_
  refine awp_sreg [some 68, some 69, some 70] rfl fun K26 hK26 => ?_
  refine oP ?_; refine oP ?_; refine oP ?_; refine oE (hK26 _ ?_); clear hK26 K26
  refine awp_cond rfl (fun b15 => ?_) (fun b15 => ?_)
  · refine awp_skip (hJ25 _ ?_)
    refine awp_seq_k fun J27 hJ27 => ?_
    refine awp_block ?_
    have hk : k < n := by simp at b15; omega
    have hcr := chk_check hR.chk
    have hF : jFill row v = fillF row v [] [] := by unfold jFill; rw [if_neg (by simp [hcr]; omega)]
    obtain ⟨r1, r2, r3⟩ := slot_round hR s3 s5 hk
    have hnl := fill_len row v [] []
    have hrl := hR.len
    generalize hnr : (fillF row v [] []).1 = nr at r2 r3 hnl
    generalize hds : (fillF row v [] []).2.2 = ds at r1
    refine awp_sreg [some 74, some 75, some 76, some 73, some 77, some 78, some 79, some 15, some 16, some 17] rfl fun K28 hK28 => ?_
    refine oP ?_; refine oP ?_; refine oP ?_ (h := by simp only [hF, hnr, hds, go_sem, ↓reduceIte, Nat.reduceAdd, Nat.reduceSub, Nat.reduceMul, Nat.reduceEqDiff, Nat.reduceLT, Nat.reduceLeDiff, Nat.reducePow, Nat.reduceBEq, reduceCtorEq, Int.toNat_zero]; ((try simp (disch := omega) only [wrap64, wrapU64, wrapU32, wrapU16, wrapU8, go_sem, Nat.reduceAdd]); rfl))
    refine oP ?_; refine oP ?_; refine oP ?_; refine oP ?_; refine oP ?_; refine oP ?_
    refine oP ?_; refine oE (hK28 _ ?_); clear hK28 K28
    refine awp_fact (sl_len (i := 17) rfl) fun hdl => ?_
    replace hdl := maxLen_le hdl
    rw [List.length_map] at hdl
    refine awp_sreg [some 18] rfl fun K29 hK29 => ?_
    refine oP ?_; refine oE (hK29 _ ?_); clear hK29 K29
    refine awp_seq_k fun J30 hJ30 => ?_
    refine awp_sreg [some 19] rfl fun K31 hK31 => ?_
    refine oP ?_; refine oE (hK31 _ ?_); clear hK31 K31
    refine awp_block ?_
    refine awp_loop ⟨[0, 1, 2, 3, 9, 10, 11, 13, 14, 15, 17, 18, 19], [], nx, []⟩ (fun m st => ∃ i : Nat, i ≤ ds.length ∧ m = ds.length - i ∧ st = ⟨[(0, .sl (l.map jobC) .none), (1, .v (.int .i64 a)), (2, .v (.int .i64 v)), (3, .sl (sz.map iC) .none), (9, .v (.int .i64 n)), (10, .v (.int .i64 pr)), (11, .v (.int .i64 tp)), (13, .sl (row.map jobC) .none), (14, .v (.int .i64 (k + 1 : Nat))), (15, .sl (nr.map jobC) .none), (17, .sl (ds.map iC) .none), (18, .v (.bool (anyN ds a i))), (19, .v (.int .i64 i))], [], nx, 136⟩) ds.length (by simp) ⟨_, _, (by simp only [keepSt, Nat.left_eq_add, Nat.add_eq_left, Nat.one_ne_zero, Nat.add_assoc, Nat.reduceAdd, List.mem_cons, List.not_mem_nil, or_false, true_or, or_true, tokSt, pick1, look, dropSp, allSeen, allSeenO, seen, seenL, seenO, Nat.reduceEqDiff, ↓reduceIte, reduceCtorEq, List.map_cons, List.map_nil, and_self, and_true, true_and, List.contains_nil, Bool.false_eq_true] <;> rfl), by simp [seen, seenL], 0, by omega, rfl, rfl⟩ ?_
    rintro m3 st ⟨i, e1, e2, rfl⟩
    refine awp_seq_k fun J32 hJ32 => ?_
    refine awp_sreg [some 80, some 81, some 82, some 83] rfl fun K33 hK33 => ?_
    refine oP ?_; refine oP ?_; refine oP ?_; refine oP ?_; refine oE (hK33 _ ?_); clear hK33 K33
    refine awp_cond rfl (fun b20 => ?_) (fun b20 => ?_)
    · refine awp_skip (hJ32 _ ?_)
      refine awp_seq_k fun J34 hJ34 => ?_
      refine awp_block ?_
      have hi : i < ds.length := by simp at b20; omega
      have hxd := nth_mapD iC ds i hi
      have hdd : ds.getD i default = ds.getD i 0 := rfl
      rw [hdd] at hxd
      refine awp_reg [some 86, some 87, some 88, some 89, some 90, some 91, some 92, some 93, some 94, some 18] rfl fun K35 hK35 => ?_
      refine oP ?_; refine oP ?_; refine oP ?_; refine oP ?_; refine oP ?_; refine oP ?_ (h := by simp only [hxd, go_sem, ↓reduceIte, Nat.reduceAdd, Nat.reduceSub, Nat.reduceMul, Nat.reduceEqDiff, Nat.reduceLT, Nat.reduceLeDiff, Nat.reducePow, Nat.reduceBEq, reduceCtorEq, Int.toNat_zero]; ((try simp (disch := omega) only [wrap64, wrapU64, wrapU32, wrapU16, wrapU8, go_sem, Nat.reduceAdd]); rfl))
      refine oP ?_; refine oP ?_; refine oP ?_; refine oP ?_; refine oE (hK35 _ ?_); clear hK35 K35
      refine hJ34 _ ?_
      refine awp_reg [some 84, some 85, some 19] rfl fun K36 hK36 => ?_
      refine oP ?_; refine oP ?_; refine oP ?_; refine oE (hK36 _ ?_); clear hK36 K36
      exact ⟨_, _, (by simp only [keepSt, Nat.left_eq_add, Nat.add_eq_left, Nat.one_ne_zero, Nat.add_assoc, Nat.reduceAdd, List.mem_cons, List.not_mem_nil, or_false, true_or, or_true, tokSt, pick1, look, dropSp, allSeen, allSeenO, seen, seenL, seenO, Nat.reduceEqDiff, ↓reduceIte, reduceCtorEq, List.map_cons, List.map_nil, and_self, and_true, true_and, List.contains_nil, Bool.false_eq_true] <;> rfl), by simp [seen, seenL], ds.length - (i + 1), by omega, i + 1, by omega, rfl, rfl⟩
    refine awp_exit (hJ30 _ ?_)
    refine awp_seq_k fun J37 hJ37 => ?_
    have hi : i = ds.length := by simp at b20; omega
    subst hi
    have hany := anyN_spec ds a ds.length (Nat.le_refl _)
    rw [List.take_of_length_le (Nat.le_refl _), r1] at hany
    refine awp_sreg [some 95, some 96, some 97, some 98, some 99] rfl fun K38 hK38 => ?_
    refine oP ?_; refine oP ?_; refine oP ?_; refine oP ?_; refine oP ?_; refine oE (hK38 _ ?_); clear hK38 K38
    refine awp_cond rfl (fun b23 => ?_) (fun b23 => ?_)
    · exfalso
      rcases hq : anyN ds a ds.length with _ | _
      · rw [hq] at b23 hany; simp at hany b23; omega
      · rw [hq] at b23 hany; simp at hany b23; omega
    refine awp_skip (hJ37 _ ?_)
    refine awp_sreg [some 100, some 13] rfl fun K39 hK39 => ?_
    refine oP ?_; refine oP ?_; refine oE (hK39 _ ?_); clear hK39 K39
    refine awp_sreg [some 101, some 102, some 103, some 104, some 105, some 106, some 107, some 108, some 109, some 110, some 111, some 112, some 113] rfl fun K40 hK40 => ?_
    refine oP ?_; refine oP ?_; refine oP ?_; refine oP ?_; refine oP ?_; refine oP ?_
    refine oP ?_; refine oP ?_; refine oP ?_; refine oP ?_; refine oP ?_; refine oP ?_
    refine oP ?_; refine oE (hK40 _ ?_); clear hK40 K40
    refine awp_cond rfl (fun b26 => ?_) (fun b26 => ?_)
    · have hadd : k + 1 ≤ sz.length ∧ tp < 4611686018427386904 ∧ nr.length < 400 := by simp at b26; omega
      have hx1 : nth (sz.map iC) (((k + 1 : Nat) : Int) - 1) = iC (sz.getD k 0) := by
        rw [show (((k + 1 : Nat) : Int) - 1) = (k : Int) by omega]; exact nth_mapD iC sz k (by omega)
      have hsb := szOf_bound (sz.getD k 0)
      obtain ⟨w1, w2, w3⟩ := slot_add r2 r3 hat h5.1 hadd.2.1 (by omega) h3 hsb hadd.2.2
      have hw1 : jAdd nr (tp + ((k + 1 : Nat) : Int)) pr (1 + szOf (sz.getD k 0)) = (putJ nr ⟨tp + (k + 1), pr, 1 + szOf (sz.getD k 0), 0⟩, 0) := by rw [← w1]; congr 1
      refine awp_sreg [some 115, some 116, some 117, some 118, some 119, some 120, some 121, some 122, some 123, some 124, some 125, some 126, some 127, some 128, some 129, some 114, some 130, some 131, some 20, some 21] rfl fun K41 hK41 => ?_
      refine oP ?_; refine oP ?_; refine oP ?_; refine oP ?_; refine oP ?_; refine oP ?_
      refine oP ?_; refine oP ?_; refine oP ?_; refine oP ?_ (h := by simp only [hx1, go_sem, ↓reduceIte, Nat.reduceAdd, Nat.reduceSub, Nat.reduceMul, Nat.reduceEqDiff, Nat.reduceLT, Nat.reduceLeDiff, Nat.reducePow, Nat.reduceBEq, reduceCtorEq, Int.toNat_zero]; ((try simp (disch := omega) only [wrap64, wrapU64, wrapU32, wrapU16, wrapU8, go_sem, Nat.reduceAdd]); rfl))
      refine oP ?_; refine oP ?_; refine oP ?_ (h := by (show stepL Sp _ _ _ _ _ = some ⟨True, .v (.int .i64 (szOf (sz.getD k 0))), [], nx⟩); simp only [go_sem, ↓reduceIte, Nat.reduceAdd, Nat.reduceEqDiff, reduceCtorEq, szOf])
      refine oP ?_; refine oP ?_ (h := by simp only [hw1, go_sem, ↓reduceIte, Nat.reduceAdd, Nat.reduceSub, Nat.reduceMul, Nat.reduceEqDiff, Nat.reduceLT, Nat.reduceLeDiff, Nat.reducePow, Nat.reduceBEq, reduceCtorEq, Int.toNat_zero]; ((try simp (disch := omega) only [wrap64, wrapU64, wrapU32, wrapU16, wrapU8, go_sem, Nat.reduceAdd]); rfl))
      refine oP ?_; refine oP ?_; refine oP ?_; refine oP ?_; refine oP ?_; refine oE (hK41 _ ?_); clear hK41 K41
      refine awp_seq_k fun J42 hJ42 => ?_
      refine awp_sreg [some 132, some 133] rfl fun K43 hK43 => ?_
      refine oP ?_; refine oP ?_; refine oE (hK43 _ ?_); clear hK43 K43
      refine awp_cond rfl (fun b28 => ?_) (fun b28 => ?_)
      · simp at b28
      refine awp_skip (hJ42 _ ?_)
      refine awp_reg [some 134, some 13] rfl fun K44 hK44 => ?_
      refine oP ?_; refine oP ?_; refine oE (hK44 _ ?_); clear hK44 K44
      refine hJ27 _ ?_
      refine awp_reg [some 71, some 72, some 14] rfl fun K45 hK45 => ?_
      refine oP ?_; refine oP ?_; refine oP ?_; refine oE (hK45 _ ?_); clear hK45 K45
      first
      | exact ⟨_, _, (by simp only [keepSt, Nat.left_eq_add, Nat.add_eq_left, Nat.one_ne_zero, Nat.add_assoc, Nat.reduceAdd, List.mem_cons, List.not_mem_nil, or_false, true_or, or_true, tokSt, pick1, look, dropSp, allSeen, allSeenO, seen, seenL, seenO, Nat.reduceEqDiff, ↓reduceIte, reduceCtorEq, List.map_cons, List.map_nil, and_self, and_true, true_and, List.contains_nil, Bool.false_eq_true] <;> rfl), by simp [seen, seenL], n - (k + 1), by omega, k + 1, nr, by omega, r2, rfl, rfl⟩
      | exact ⟨_, _, (by simp only [keepSt, Nat.left_eq_add, Nat.add_eq_left, Nat.one_ne_zero, Nat.add_assoc, Nat.reduceAdd, List.mem_cons, List.not_mem_nil, or_false, true_or, or_true, tokSt, pick1, look, dropSp, allSeen, allSeenO, seen, seenL, seenO, Nat.reduceEqDiff, ↓reduceIte, reduceCtorEq, List.map_cons, List.map_nil, and_self, and_true, true_and, List.contains_nil, Bool.false_eq_true] <;> rfl), by simp [seen, seenL], n - (k + 1), by omega, k + 1, _, by omega, w2 (by omega), rfl, rfl⟩
    refine awp_skip (hJ27 _ ?_)
    refine awp_reg [some 71, some 72, some 14] rfl fun K46 hK46 => ?_
    refine oP ?_; refine oP ?_; refine oP ?_; refine oE (hK46 _ ?_); clear hK46 K46
    first
    | exact ⟨_, _, (by simp only [keepSt, Nat.left_eq_add, Nat.add_eq_left, Nat.one_ne_zero, Nat.add_assoc, Nat.reduceAdd, List.mem_cons, List.not_mem_nil, or_false, true_or, or_true, tokSt, pick1, look, dropSp, allSeen, allSeenO, seen, seenL, seenO, Nat.reduceEqDiff, ↓reduceIte, reduceCtorEq, List.map_cons, List.map_nil, and_self, and_true, true_and, List.contains_nil, Bool.false_eq_true] <;> rfl), by simp [seen, seenL], n - (k + 1), by omega, k + 1, nr, by omega, r2, rfl, rfl⟩
    | exact ⟨_, _, (by simp only [keepSt, Nat.left_eq_add, Nat.add_eq_left, Nat.one_ne_zero, Nat.add_assoc, Nat.reduceAdd, List.mem_cons, List.not_mem_nil, or_false, true_or, or_true, tokSt, pick1, look, dropSp, allSeen, allSeenO, seen, seenL, seenO, Nat.reduceEqDiff, ↓reduceIte, reduceCtorEq, List.map_cons, List.map_nil, and_self, and_true, true_and, List.contains_nil, Bool.false_eq_true] <;> rfl), by simp [seen, seenL], n - (k + 1), by omega, k + 1, _, by omega, w2 (by omega), rfl, rfl⟩
  refine awp_exit (hJ23 _ ?_)
  refine awp_sreg [some 135, some 8] rfl fun K47 hK47 => ?_
  refine oP ?_; refine oP ?_; refine oE (hK47 _ ?_); clear hK47 K47
  refine awp_ret (kRet ?_)
  rfl
end Go.Aw