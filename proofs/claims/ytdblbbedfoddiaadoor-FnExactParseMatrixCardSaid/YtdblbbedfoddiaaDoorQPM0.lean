/- A part of the proof of ParseMatrix. -/
import Derived.Lib.SplitLaws
import Derived.Test.YtdblbbedfoddiaaDoorQPMH
/- Texts of bytes, powers of boxes. Plain. -/
namespace Go.Proofs.YtdblbbedfoddiaaDoor
set_option linter.unusedSimpArgs false
set_option linter.unusedVariables false
set_option maxRecDepth 20000
set_option maxHeartbeats 1000000
open Go.Abs

def hexA : Array UInt8 := #[48, 49, 50, 51, 52, 53, 54, 55, 56, 57, 97, 98, 99, 100, 101, 102]
def hexC (n : Nat) : UInt8 := hexA.getD n 0
/-- The text of the first n bytes. -/
def hx (f : Nat → UInt8) : Nat → List UInt8
  | 0 => []
  | k + 1 => hx f k ++ [hexC ((f k).toNat / 16), hexC ((f k).toNat % 16)]
def digOk (c : UInt8) : Bool := (decide (48 ≤ c) && decide (c ≤ 57)) || (decide (97 ≤ c) && decide (c ≤ 102))
def digV (c : UInt8) : UInt8 := if decide (48 ≤ c) && decide (c ≤ 57) then c - 48 else c - 97 + 10
theorem hex_dig0 : ∀ n, n < 256 → digOk (UInt8.ofNat n) = true → hexC (digV (UInt8.ofNat n)).toNat = UInt8.ofNat n ∧ (digV (UInt8.ofNat n)).toNat < 16 := by decide +kernel
theorem hex_dig {c : UInt8} (h : digOk c = true) : hexC (digV c).toNat = c ∧ (digV c).toNat < 16 := by
  have := hex_dig0 c.toNat (u8_lt c)
  rw [UInt8.ofNat_toNat] at this
  exact this h
/-- A sign of a text. -/
def ch (s : ByteArray) (i : Nat) : UInt8 := s.data.getD i 0
def gdP (s : ByteArray) (k : Nat) : Bool := digOk (ch s (2 * k)) && digOk (ch s (2 * k + 1))
def unV (s : ByteArray) (k : Nat) : UInt8 := UInt8.ofNat (16 * (digV (ch s (2 * k))).toNat + (digV (ch s (2 * k + 1))).toNat)
def hexOk (s : ByteArray) : Bool := s.size % 2 == 0 && allT (gdP s) (s.size / 2)
end Go.Proofs.YtdblbbedfoddiaaDoor
/- Texts cut at a sign. Plain. -/
namespace Go.Proofs.YtdblbbedfoddiaaDoor
set_option linter.unusedSimpArgs false
set_option linter.unusedVariables false
set_option maxRecDepth 20000
set_option maxHeartbeats 1000000
open Go.Abs

/-- A list cut at each c. -/
def cutL (c : UInt8) : List UInt8 → List (List UInt8)
  | [] => [[]]
  | b :: l => if b = c then [] :: cutL c l else match cutL c l with
    | [] => [[b]]
    | p :: ps => (b :: p) :: ps
def glue (x : List UInt8) : List (List UInt8) → List (List UInt8)
  | [] => [x]
  | p :: ps => (x ++ p) :: ps
theorem cutL_ne (c : UInt8) : ∀ l, ∃ p ps, cutL c l = p :: ps
  | [] => ⟨[], [], rfl⟩
  | b :: l => by
    obtain ⟨p, ps, e⟩ := cutL_ne c l
    unfold cutL
    split
    · exact ⟨_, _, rfl⟩
    · rw [e]; exact ⟨_, _, rfl⟩
theorem cutL_eq (c : UInt8) (l : List UInt8) : cutL c (c :: l) = [] :: cutL c l := by rw [cutL, if_pos rfl]
theorem cutL_other {b c : UInt8} (h : b ≠ c) (l : List UInt8) : cutL c (b :: l) = glue [b] (cutL c l) := by
  rw [cutL, if_neg h]
  cases cutL c l <;> rfl
theorem glue_nil {R : List (List UInt8)} (h : ∃ p ps, R = p :: ps) : glue [] R = R := by obtain ⟨p, ps, rfl⟩ := h; rfl
theorem glue_two (x y : List UInt8) {R : List (List UInt8)} (h : ∃ p ps, R = p :: ps) : glue x (glue y R) = glue (x ++ y) R := by obtain ⟨p, ps, rfl⟩ := h; simp [glue]
theorem index_other {b c : UInt8} (h : b ≠ c) (l : List UInt8) : Lib.index (b :: l) [c] = if Lib.index l [c] == -1 then -1 else Lib.index l [c] + 1 := by
  have hp : ([c] : List UInt8).isPrefixOf (b :: l) = false := by simp [List.isPrefixOf, Ne.symm h]
  rw [Lib.index, hp]; simp
theorem index_same (c : UInt8) (l : List UInt8) : Lib.index (c :: l) [c] = 0 := by rw [Lib.index]; simp [List.isPrefixOf]
/-- The library's cuts. -/
theorem splitK_cut (c : UInt8) : ∀ l : List UInt8, Lib.splitK [c] 0 (Lib.count l [c]) l = cutL c l
  | [] => by rw [Lib.count_one]; rfl
  | b :: l => by
    have ih := splitK_cut c l
    by_cases h : b = c
    · subst h
      rw [Lib.count_cons_eq, Nat.add_comm, Lib.splitK, index_same, if_neg (by decide), cutL_eq]
      show List.take 0 (b :: l) :: Lib.splitK [b] 0 (Lib.count l [b]) (List.drop 1 (b :: l)) = _
      rw [List.take_zero, List.drop_one, List.tail_cons, ih]
    · rw [Lib.count_cons_ne b c l h, cutL_other h, ← ih]
      by_cases hm : Lib.index l [c] = -1
      · rw [Lib.count_miss hm]; rfl
      · have hge := Lib.index_ge l [c]
        obtain ⟨j, hj⟩ : ∃ j : Nat, Lib.index l [c] = j := ⟨(Lib.index l [c]).toNat, by omega⟩
        have hc := Lib.count_hit (s := l) (sub := [c]) (by simp) hj
        obtain ⟨n, hn⟩ : ∃ n, Lib.count l [c] = n + 1 := ⟨_, by rw [hc, Nat.add_comm]⟩
        have hix : Lib.index (b :: l) [c] = ((j + 1 : Nat) : Int) := by
          rw [index_other h, if_neg (fun e => hm (beq_iff_eq.1 e)), hj]; omega
        have n1 : ¬ ((((j + 1 : Nat) : Int)) == -1) = true := fun e => by have := beq_iff_eq.1 e; omega
        have n2 : ¬ (((j : Nat) : Int) == -1) = true := fun e => by have := beq_iff_eq.1 e; omega
        rw [hn, Lib.splitK, Lib.splitK, hix, hj, if_neg n1, if_neg n2]
        show List.take (j + 1) (b :: l) :: Lib.splitK [c] 0 n (List.drop (j + 1 + 1) (b :: l)) = (b :: List.take j l) :: Lib.splitK [c] 0 n (List.drop (j + 1) l)
        rfl
/-- The pieces behind the first k signs, and where the next begins. -/
def spP (s : ByteArray) (c : UInt8) : Nat → List ByteArray × Nat
  | 0 => ([], 0)
  | k + 1 => if ch s k = c then ((spP s c k).1 ++ [s.extract (spP s c k).2 k], k + 1) else spP s c k
def spA (s : ByteArray) (c : UInt8) : List ByteArray := (spP s c s.size).1 ++ [s.extract (spP s c s.size).2 s.size]
theorem spP_t {s : ByteArray} {c : UInt8} {k : Nat} (h : ch s k = c) : spP s c (k + 1) = ((spP s c k).1 ++ [s.extract (spP s c k).2 k], k + 1) := by rw [spP, if_pos h]
theorem spP_f {s : ByteArray} {c : UInt8} {k : Nat} (h : ch s k ≠ c) : spP s c (k + 1) = spP s c k := by rw [spP, if_neg h]
theorem spP_le (s : ByteArray) (c : UInt8) : ∀ k, (spP s c k).2 ≤ k ∧ (spP s c k).1.length ≤ k
  | 0 => ⟨Nat.le_refl _, Nat.le_refl _⟩
  | k + 1 => by
    obtain ⟨h1, h2⟩ := spP_le s c k
    by_cases h : ch s k = c
    · rw [spP_t h]; simp; omega
    · rw [spP_f h]; omega
theorem ext_list (s : ByteArray) (a b : Nat) : (s.extract a b).data.toList = (s.data.toList.take b).drop a := by
  rw [Lib.extract_data, List.drop_take]
theorem sz_list (s : ByteArray) : s.size = s.data.toList.length := by rw [Array.length_toList]; rfl
theorem drop_ch {s : ByteArray} {k : Nat} (h : k < s.size) : s.data.toList.drop k = ch s k :: s.data.toList.drop (k + 1) := by
  have h' : k < s.data.toList.length := by rw [← sz_list]; exact h
  rw [List.drop_eq_getElem_cons h']
  congr 1
  unfold ch
  rw [Array.getD_eq_getD_getElem?, ← Array.getElem?_toList, List.getElem?_eq_getElem h']; rfl
theorem take_ch {s : ByteArray} {k a : Nat} (h : k < s.size) (ha : a ≤ k) : (s.data.toList.take (k + 1)).drop a = (s.data.toList.take k).drop a ++ [ch s k] := by
  have h' : k < s.data.toList.length := by rw [← sz_list]; exact h
  have e : s.data.toList[k] = ch s k := by
    unfold ch
    rw [Array.getD_eq_getD_getElem?, ← Array.getElem?_toList, List.getElem?_eq_getElem h']; rfl
  rw [List.take_succ_eq_append_getElem h', e, List.drop_append_of_le_length (by rw [List.length_take]; omega)]
theorem spP_cut (s : ByteArray) (c : UInt8) : ∀ k, k ≤ s.size → cutL c s.data.toList = (spP s c k).1.map (·.data.toList) ++ glue ((s.data.toList.take k).drop (spP s c k).2) (cutL c (s.data.toList.drop k))
  | 0, _ => by
    show _ = [] ++ glue ((s.data.toList.take 0).drop 0) (cutL c (s.data.toList.drop 0))
    rw [List.nil_append, List.take_zero, List.drop_nil, List.drop_zero, glue_nil (cutL_ne c _)]
  | k + 1, hk => by
    obtain ⟨h1, _⟩ := spP_le s c k
    rw [spP_cut s c k (by omega), drop_ch (show k < s.size by omega)]
    by_cases h : ch s k = c
    · rw [spP_t h, h, cutL_eq, List.map_append, List.append_assoc]
      congr 1
      show glue _ ([] :: _) = [(s.extract (spP s c k).2 k).data.toList] ++ glue ((s.data.toList.take (k + 1)).drop (k + 1)) _
      have d1 : (s.data.toList.take (k + 1)).drop (k + 1) = [] := List.drop_eq_nil_of_le (by rw [List.length_take]; omega)
      rw [d1, glue_nil (cutL_ne c _), ext_list]
      simp [glue]
    · rw [spP_f h, cutL_other h, glue_two _ _ (cutL_ne c _), take_ch (show k < s.size by omega) h1]
theorem spA_cut (s : ByteArray) (c : UInt8) : (spA s c).map (·.data.toList) = cutL c s.data.toList := by
  have d2 : s.data.toList.drop s.size = [] := List.drop_eq_nil_of_le (by rw [sz_list]; exact Nat.le_refl _)
  rw [spP_cut s c s.size (Nat.le_refl _), d2]
  unfold spA
  rw [List.map_append]
  show _ ++ [(s.extract _ _).data.toList] = _ ++ glue _ [[]]
  rw [ext_list]; simp [glue]
theorem ba_inj {x y : ByteArray} (h : x.data.toList = y.data.toList) : x = y := by
  cases x; cases y; congr 1; exact Array.ext' h
theorem map_ba : ∀ {xs ys : List ByteArray}, xs.map (·.data.toList) = ys.map (·.data.toList) → xs = ys
  | [], [], _ => rfl
  | [], _ :: _, h => by simp at h
  | _ :: _, [], h => by simp at h
  | x :: xs, y :: ys, h => by
    simp only [List.map_cons, List.cons.injEq] at h
    rw [ba_inj h.1, map_ba h.2]
/-- The pieces are the library's. -/
theorem spA_lib (s : ByteArray) (c : UInt8) : Lib.splitB ⟨#[c]⟩ 0 (Lib.countB s ⟨#[c]⟩) s = spA s c := map_ba (by
  rw [Lib.splitB_data, spA_cut]
  exact splitK_cut c s.data.toList)
theorem spA_len (s : ByteArray) (c : UInt8) : Lib.countB s ⟨#[c]⟩ + 1 = (spA s c).length := by
  rw [← spA_lib, Lib.splitB_all _ (show 1 ≤ (⟨#[c]⟩ : ByteArray).size from Nat.le_refl 1) 0 _ _ rfl]
theorem spA_le (s : ByteArray) (c : UInt8) : (spA s c).length ≤ s.size + 1 := by
  have := (spP_le s c s.size).2
  unfold spA; rw [List.length_append]; simp; omega
theorem spA_piece {s : ByteArray} {c : UInt8} {p : ByteArray} (h : p ∈ spA s c) : p.size ≤ s.size := by
  have key : ∀ k, k ≤ s.size → ∀ q ∈ (spP s c k).1, q.size ≤ s.size := fun k => by
    induction k with
    | zero => intro _ q hq; cases hq
    | succ k ih =>
      intro hk q hq
      by_cases h : ch s k = c
      · rw [spP_t h] at hq
        rcases List.mem_append.1 hq with hq | hq
        · exact ih (by omega) q hq
        · rw [List.mem_singleton.1 hq, ByteArray.size_extract]; omega
      · rw [spP_f h] at hq; exact ih (by omega) q hq
  unfold spA at h
  rcases List.mem_append.1 h with h | h
  · exact key _ (Nat.le_refl _) p h
  · rw [List.mem_singleton.1 h, ByteArray.size_extract]; omega
end Go.Proofs.YtdblbbedfoddiaaDoor
/- Texts of bytes: signs and texts. -/
namespace Go.Proofs.YtdblbbedfoddiaaDoor
set_option linter.unusedSimpArgs false
set_option linter.unusedVariables false
set_option maxRecDepth 20000
set_option maxHeartbeats 1000000
open Go.Abs

/-- What a digit is worth. -/
def digI (c : UInt8) : Int := if digOk c then ((digV c).toNat : Int) else -1
theorem digI_ac (c : UInt8) (h : List Blk) : AC Tryd.prog 14 [B c] h (.tuple #[B (if digOk c then digV c else 0), .bool (digOk c)]) h := by
  (refine AC_begin (fun _ _ => Tryd.call14 _ _) Tryd.func14 rfl Tryd.ntmps14 Tryd.results14 (fun hwf => ?_); simp only [List.length_cons, List.length_nil, Nat.reduceAdd, Nat.reduceSub, List.replicate, List.cons_append, List.nil_append])
  cases e1 : decide (48 ≤ c) <;> cases e2 : decide (c ≤ 57) <;> cases e3 : decide (97 ≤ c) <;> cases e4 : decide (c ≤ 102)
  all_goals ((repeat (first | ((first | refine AI_au ?_ | refine WA_seq (WA_region ?_) | refine WA_region ?_ | refine WA_exit ?_); try simp (maxSteps := 1000000) (disch := first | omega | rfl | decide | (simp only [List.length_cons, List.length_nil, List.length_append, Bs_length, Is_length, Vs_length, Bl_length, Il_length] <;> omega)) only [go_sem, Nat.reduceAdd, Int.reduceAdd, Int.reduceSub, Int.reduceMul, Bool.not_true, Bool.not_false, e1, e2, e3, e4, yieldA_at 2 7, yieldA_at 2 16]) | refine WA_seq ?_ | refine WA_block ?_ | (refine WA_skip ?_; try simp only [go_sem]) | (refine WA_ret ?_; try simp only [go_sem]) | refine WA_ct rfl ?_ | refine WA_cf rfl ?_)))
  all_goals (((first | refine ret_none (by first | exact .inr rfl | exact .inl rfl) ?_ | refine ret_same (by first | exact .inr rfl | exact .inl rfl) ?_ (by first | rfl | exact plain_agg (by simp only [go_sem]) | exact plain_two (by first | exact plain_agg (by simp only [go_sem]) | rfl) (by first | exact plain_agg (by simp only [go_sem]) | rfl)) | refine ret_full (by first | exact .inr rfl | exact .inl rfl) (by simp) ?_); simp (maxSteps := 1000000) (disch := first | omega | rfl | decide | (simp only [List.length_cons, List.length_nil, List.length_append, Bs_length, Is_length, Vs_length, Bl_length, Il_length] <;> omega)) only [go_sem, Nat.reduceAdd, Int.reduceAdd, Int.reduceSub, Int.reduceMul, Bool.not_true, Bool.not_false, digOk, digV, e1, e2, e3, e4, Bool.and_true, Bool.and_false, Bool.or_true, Bool.or_false, if_true, if_false, Bool.false_eq_true]; try rfl))

end Go.Proofs.YtdblbbedfoddiaaDoor
/- Texts of bytes: bytes of texts, boxes of texts. -/
namespace Go.Proofs.YtdblbbedfoddiaaDoor
set_option linter.unusedSimpArgs false
set_option linter.unusedVariables false
set_option maxRecDepth 20000
set_option maxHeartbeats 1000000
open Go.Abs

theorem Bs_snoc1 {n : Nat} (f : Nat → UInt8) : Bs n f ++ [B (f n)] = Bs (n + 1) f := by
  unfold Bs; rw [List.range_succ, List.map_append]; rfl
theorem nib_or0 : ∀ d, d < 16 → ∀ e, e < 16 → (UInt8.ofNat (d * 16) ||| UInt8.ofNat e) = UInt8.ofNat (16 * d + e) := by decide +kernel
theorem nib_or {d e : UInt8} (hd : d.toNat < 16) (he : e.toNat < 16) : (UInt8.ofNat (d.toNat * 16) ||| e) = UInt8.ofNat (16 * d.toNat + e.toNat) := by
  have := nib_or0 d.toNat hd e.toNat he
  rwa [UInt8.ofNat_toNat] at this
theorem shl4 {P : Program} {T : TypeId} (k : IntKind) (d : UInt8) : abin P .shl T (B d) (.int k 4) = some (B (UInt8.ofNat (d.toNat * 16))) := by
  have := abin_shl_I (P := P) (T := T) .u8 k (d.toNat : Int) 4 (by omega)
  show abin P .shl T (.int .u8 (d.toNat : Int)) (.int k 4) = _
  rw [this, wrap_B, show min (Int.toNat 4) IntKind.u8.bits = 4 from rfl, show ((d.toNat : Int) * 2 ^ 4) = ((d.toNat * 16 : Nat) : Int) by rw [Int.natCast_mul]; rfl, toB_nat]
theorem allT_first {f : Nat → Bool} : ∀ {n : Nat}, allT f n = false → ∃ i, i < n ∧ f i = false ∧ allT f i = true
  | 0, h => by cases h
  | n + 1, h => by
    cases hn : allT f n with
    | false => obtain ⟨i, h1, h2, h3⟩ := allT_first hn; exact ⟨i, by omega, h2, h3⟩
    | true =>
      cases hf : f n with
      | false => exact ⟨n, by omega, hf, hn⟩
      | true => rw [allT_s hn hf] at h; cases h
theorem allT_get {f : Nat → Bool} {n i : Nat} (h : allT f n = true) (hi : i < n) : f i = true := List.all_eq_true.1 h i (List.mem_range.2 hi)
theorem gdP_t {s : ByteArray} {k : Nat} (h : gdP s k = true) : digOk (ch s (2 * k)) = true ∧ digOk (ch s (2 * k + 1)) = true := by
  unfold gdP at h; rwa [Bool.and_eq_true] at h
theorem digI_t {c : UInt8} (h : digOk c = true) : digI c = (((digV c).toNat : Nat) : Int) := if_pos h
theorem digI_f {c : UInt8} (h : digOk c = false) : digI c = -1 := if_neg (by rw [h]; decide)
theorem ch_is (s : ByteArray) (i : Nat) : s.data.getD i 0 = ch s i := rfl
theorem unV_is (s : ByteArray) (k : Nat) : UInt8.ofNat (16 * (digV (ch s (2 * k))).toNat + (digV (ch s (2 * k + 1))).toNat) = unV s k := rfl
def digI0 (a b c d : Bool) (x : UInt8) : Int := if a && b then ((x - 48).toNat : Int) else if c && d then (((x - 97).toNat + 10 : Nat) : Int) else -1
theorem dig10 : ∀ n, n < 256 → 97 ≤ UInt8.ofNat n → UInt8.ofNat n ≤ 102 → (UInt8.ofNat n - 97 + 10).toNat = (UInt8.ofNat n - 97).toNat + 10 := by decide +kernel
theorem dig_I (c : UInt8) : digI c = digI0 (decide (48 ≤ c)) (decide (c ≤ 57)) (decide (97 ≤ c)) (decide (c ≤ 102)) c := by
  unfold digI digI0 digOk digV
  cases e : (decide (48 ≤ c) && decide (c ≤ 57))
  · cases e2 : (decide (97 ≤ c) && decide (c ≤ 102))
    · rfl
    · rw [Bool.and_eq_true, decide_eq_true_eq, decide_eq_true_eq] at e2
      have := dig10 c.toNat (u8_lt c)
      rw [UInt8.ofNat_toNat] at this
      show (((c - 97 + 10).toNat : Nat) : Int) = _
      rw [this e2.1 e2.2]; rfl
  · rfl
attribute [local irreducible] ch unV digV digOk
theorem fromI_ok {s : ByteArray} (hs : s.size ≤ 1048576) (hx : hexOk s = true) (h : List Blk) : AC Tryd.prog 10 [.string s] h (.tuple #[sl h.length 0 (s.size / 2) 1, .bool true]) (h ++ [⟨Bs (s.size / 2) (unV s), true⟩]) := by
  unfold hexOk at hx
  rw [Bool.and_eq_true, beq_iff_eq] at hx
  obtain ⟨h0, h1⟩ := hx
  have hb0 : (s.size % 2 == 1) = false := by rw [h0]; rfl
  (refine AC_begin (fun _ _ => Tryd.call10 _ _) Tryd.func10 rfl Tryd.ntmps10 Tryd.results10 (fun hwf => ?_); simp only [List.length_cons, List.length_nil, Nat.reduceAdd, Nat.reduceSub, List.replicate, List.cons_append, List.nil_append])
  (repeat (first | ((first | refine AI_au ?_ | refine WA_seq (WA_region ?_) | refine WA_region ?_ | refine WA_exit ?_); try simp (maxSteps := 1000000) (disch := first | omega | rfl | decide | (simp only [List.length_cons, List.length_nil, List.length_append, Bs_length, Is_length, Vs_length, Bl_length, Il_length] <;> omega)) only [go_sem, Nat.reduceAdd, Int.reduceAdd, Int.reduceSub, Int.reduceMul, Bool.not_true, Bool.not_false, hb0, yieldA_at 2 38]) | refine WA_seq ?_ | refine WA_block ?_ | (refine WA_skip ?_; try simp only [go_sem]) | (refine WA_ret ?_; try simp only [go_sem]) | refine WA_ct rfl ?_ | refine WA_cf rfl ?_))
  refine WA_forP (fun k => [(2, J), (3, J), (4, sl h.length 0 k 1), (5, .int .i64 ((2 * k : Nat))), (6, J), (7, J), (8, J), (9, J), (10, J), (15, J), (16, J), (17, J), (18, J), (19, J), (20, J), (21, J), (22, J), (23, J), (24, J), (25, J), (26, J), (27, J), (28, J), (29, J), (30, J), (31, J), (32, J), (33, J), (34, J), (35, J), (36, J), (37, J), (38, J), (39, J), (40, J), (41, J), (42, J), (43, J), (44, J), (45, J), (46, J), (47, J), (48, J)]) (fun k => [(0, ⟨Bs k (unV s), true⟩)]) (s.size / 2) ?_ ?_ ?_ <;> (try simp only [patT_cons, patT_nil, patL_cons, patL_nil, list_set_zero, list_set_succ, blk_set_zero, blk_set_succ])
  · rw [Nat.mul_zero]
    (refine Drop_slots (by first | exact Nat.le_refl _ | simp) ?_; focus ((try simp only [JL_same, JL_J, JL_nil, Int.reduceAdd, Nat.sub_sub, Int.natCast_add, Int.natCast_one, Int.natCast_zero, Int.cast_ofNat_Int, Nat.add_zero, Bool.false_eq_true, if_false, if_true]); (try exact JL_refl _)))
  · intro k hk
    obtain ⟨g0, g1⟩ := gdP_t (allT_get h1 hk)
    have v0 := (hex_dig g0).2
    have v1 := (hex_dig g1).2
    have hor := nib_or v0 v1
    rw [unV_is] at hor
    (repeat (first | ((first | refine AI_au ?_ | ((first | with_reducible apply callB_i | with_reducible apply callK_intro | with_reducible apply callQ_i); (focus (first | assumption | (with_reducible apply digI_ac <;> (first | assumption | rfl | (simp (disch := omega) only [go_sem]; first | done | rfl) | omega | decide | (simp; done))))); (try exact WP_au)) | refine WA_seq (WA_region ?_) | refine WA_region ?_ | refine WA_exit ?_); try simp (maxSteps := 1000000) (disch := first | omega | rfl | decide | (simp only [List.length_cons, List.length_nil, List.length_append, Bs_length, Is_length, Vs_length, Bl_length, Il_length] <;> omega)) only [go_sem, Nat.reduceAdd, Int.reduceAdd, Int.reduceSub, Int.reduceMul, Bool.not_true, Bool.not_false, ch_is, g0, g1, if_true, Bool.not_true, shl4, hor, sub1, Bs_snoc1, yieldA_at 2 38]) | refine WA_seq ?_ | refine WA_block ?_ | (refine WA_skip ?_; try simp only [go_sem]) | (refine WA_ret ?_; try simp only [go_sem]) | refine WA_ct rfl ?_ | refine WA_cf rfl ?_))
    rw [show 2 * (k + 1) = 2 * k + 2 by omega]
    (refine Drop_gc [2] (by first | exact Nat.le_refl _ | first | assumption | omega | (simp only [List.length_append, List.length_cons, List.length_nil, List.length_replicate]; omega)) (by assumption) (by decide) ?_ ?_; (focus (repeat (first | exact trivial | (refine And.intro ⟨_, rfl, ?_⟩ ?_; (focus first | (refine Fit_plain ?_; simp only [go_sem, List.all_append, List.all_cons, List.all_nil, Bool.and_self]; done) | exact Fit_nil rfl | exact Fit_dead | (refine Fit_eq ?_ ?_; (focus simp only [go_sem, List.all_append, List.all_cons, List.all_nil, Bool.and_self]); (focus (first | rfl | (simp only [Int.natCast_add, Int.natCast_one, Int.natCast_zero, Int.cast_ofNat_Int, Nat.add_zero]; done) | (simp only [Int.natCast_add, Int.natCast_one, Int.natCast_zero, Int.cast_ofNat_Int, Nat.add_zero]; rfl))))))))); (focus (repeat (first | exact JR_nil | refine JR_J ?_ | (refine JR_plain ?_ ?_; (focus first | rfl | (refine plain_agg ?_; simp only [go_sem, List.all_append, List.all_cons, List.all_nil, Bool.and_self]; done))) | ((first | refine JR_pt ?_ ?_ ?_ | refine JR_sl ?_ ?_ ?_); (focus first | (rw [rhoF_new0]; rfl) | (rw [rhoF_new]; rfl) | (rw [rhoF_old]; first | assumption | omega)); (focus first | assumption | omega | (simp only [List.length_append, List.length_cons, List.length_nil, List.length_replicate]; omega))) | (refine JR_plain' ?_ ?_ ?_; (focus first | rfl | (refine plain_agg ?_; simp only [go_sem, List.all_append, List.all_cons, List.all_nil, Bool.and_self]; done)); (focus (first | rfl | (simp only [Int.natCast_add, Int.natCast_one, Int.natCast_zero, Int.cast_ofNat_Int, Nat.add_zero]; done) | (simp only [Int.natCast_add, Int.natCast_one, Int.natCast_zero, Int.cast_ofNat_Int, Nat.add_zero]; rfl)))) | (refine JR_sl' ?_ ?_ ?_ ?_; (focus first | (rw [rhoF_new0]; rfl) | (rw [rhoF_new]; rfl) | (rw [rhoF_old]; first | assumption | omega)); (focus first | assumption | omega | (simp only [List.length_append, List.length_cons, List.length_nil, List.length_replicate]; omega)); (focus first | rfl | omega | (first | rfl | (simp only [Int.natCast_add, Int.natCast_one, Int.natCast_zero, Int.cast_ofNat_Int, Nat.add_zero]; done) | (simp only [Int.natCast_add, Int.natCast_one, Int.natCast_zero, Int.cast_ofNat_Int, Nat.add_zero]; rfl))))))))
  · (repeat (first | ((first | refine AI_au ?_ | refine WA_seq (WA_region ?_) | refine WA_region ?_ | refine WA_exit ?_); try simp (maxSteps := 1000000) (disch := first | omega | rfl | decide | (simp only [List.length_cons, List.length_nil, List.length_append, Bs_length, Is_length, Vs_length, Bl_length, Il_length] <;> omega)) only [go_sem, Nat.reduceAdd, Int.reduceAdd, Int.reduceSub, Int.reduceMul, Bool.not_true, Bool.not_false, yieldA_at 2 38]) | refine WA_seq ?_ | refine WA_block ?_ | (refine WA_skip ?_; try simp only [go_sem]) | (refine WA_ret ?_; try simp only [go_sem]) | refine WA_ct rfl ?_ | refine WA_cf rfl ?_))
    ((first | refine ret_none (by first | exact .inr rfl | exact .inl rfl) ?_ | refine ret_same (by first | exact .inr rfl | exact .inl rfl) ?_ (by first | rfl | exact plain_agg (by simp only [go_sem]) | exact plain_two (by first | exact plain_agg (by simp only [go_sem]) | rfl) (by first | exact plain_agg (by simp only [go_sem]) | rfl)) | refine ret_full (by first | exact .inr rfl | exact .inl rfl) (by simp) ?_); simp (maxSteps := 1000000) (disch := first | omega | rfl | decide | (simp only [List.length_cons, List.length_nil, List.length_append, Bs_length, Is_length, Vs_length, Bl_length, Il_length] <;> omega)) only [go_sem, Nat.reduceAdd, Int.reduceAdd, Int.reduceSub, Int.reduceMul, Bool.not_true, Bool.not_false]; try rfl)
theorem fromI_no {s : ByteArray} (hs : s.size ≤ 1048576) (hx : hexOk s = false) (h : List Blk) : AC Tryd.prog 10 [.string s] h (.tuple #[.slice none 0 0, .bool false]) h := by
  unfold hexOk at hx
  by_cases h0 : s.size % 2 = 0
  · have hb0 : (s.size % 2 == 1) = false := by rw [h0]; rfl
    rw [h0] at hx
    obtain ⟨i, hi, hf, hall⟩ := allT_first hx
    (refine AC_begin (fun _ _ => Tryd.call10 _ _) Tryd.func10 rfl Tryd.ntmps10 Tryd.results10 (fun hwf => ?_); simp only [List.length_cons, List.length_nil, Nat.reduceAdd, Nat.reduceSub, List.replicate, List.cons_append, List.nil_append])
    (repeat (first | ((first | refine AI_au ?_ | refine WA_seq (WA_region ?_) | refine WA_region ?_ | refine WA_exit ?_); try simp (maxSteps := 1000000) (disch := first | omega | rfl | decide | (simp only [List.length_cons, List.length_nil, List.length_append, Bs_length, Is_length, Vs_length, Bl_length, Il_length] <;> omega)) only [go_sem, Nat.reduceAdd, Int.reduceAdd, Int.reduceSub, Int.reduceMul, Bool.not_true, Bool.not_false, hb0, yieldA_at 2 38]) | refine WA_seq ?_ | refine WA_block ?_ | (refine WA_skip ?_; try simp only [go_sem]) | (refine WA_ret ?_; try simp only [go_sem]) | refine WA_ct rfl ?_ | refine WA_cf rfl ?_))
    refine WA_forP (fun k => [(2, J), (3, J), (4, sl h.length 0 k 1), (5, .int .i64 ((2 * k : Nat))), (6, J), (7, J), (8, J), (9, J), (10, J), (15, J), (16, J), (17, J), (18, J), (19, J), (20, J), (21, J), (22, J), (23, J), (24, J), (25, J), (26, J), (27, J), (28, J), (29, J), (30, J), (31, J), (32, J), (33, J), (34, J), (35, J), (36, J), (37, J), (38, J), (39, J), (40, J), (41, J), (42, J), (43, J), (44, J), (45, J), (46, J), (47, J), (48, J)]) (fun k => [(0, ⟨Bs k (unV s), true⟩)]) (i) ?_ ?_ ?_ <;> (try simp only [patT_cons, patT_nil, patL_cons, patL_nil, list_set_zero, list_set_succ, blk_set_zero, blk_set_succ])
    · rw [Nat.mul_zero]
      (refine Drop_slots (by first | exact Nat.le_refl _ | simp) ?_; focus ((try simp only [JL_same, JL_J, JL_nil, Int.reduceAdd, Nat.sub_sub, Int.natCast_add, Int.natCast_one, Int.natCast_zero, Int.cast_ofNat_Int, Nat.add_zero, Bool.false_eq_true, if_false, if_true]); (try exact JL_refl _)))
    · intro k hk
      obtain ⟨g0, g1⟩ := gdP_t (allT_get hall hk)
      have v0 := (hex_dig g0).2
      have v1 := (hex_dig g1).2
      have hor := nib_or v0 v1
      rw [unV_is] at hor
      (repeat (first | ((first | refine AI_au ?_ | ((first | with_reducible apply callB_i | with_reducible apply callK_intro | with_reducible apply callQ_i); (focus (first | assumption | (with_reducible apply digI_ac <;> (first | assumption | rfl | (simp (disch := omega) only [go_sem]; first | done | rfl) | omega | decide | (simp; done))))); (try exact WP_au)) | refine WA_seq (WA_region ?_) | refine WA_region ?_ | refine WA_exit ?_); try simp (maxSteps := 1000000) (disch := first | omega | rfl | decide | (simp only [List.length_cons, List.length_nil, List.length_append, Bs_length, Is_length, Vs_length, Bl_length, Il_length] <;> omega)) only [go_sem, Nat.reduceAdd, Int.reduceAdd, Int.reduceSub, Int.reduceMul, Bool.not_true, Bool.not_false, ch_is, g0, g1, if_true, Bool.not_true, shl4, hor, sub1, Bs_snoc1, yieldA_at 2 38]) | refine WA_seq ?_ | refine WA_block ?_ | (refine WA_skip ?_; try simp only [go_sem]) | (refine WA_ret ?_; try simp only [go_sem]) | refine WA_ct rfl ?_ | refine WA_cf rfl ?_))
      rw [show 2 * (k + 1) = 2 * k + 2 by omega]
      (refine Drop_gc [2] (by first | exact Nat.le_refl _ | first | assumption | omega | (simp only [List.length_append, List.length_cons, List.length_nil, List.length_replicate]; omega)) (by assumption) (by decide) ?_ ?_; (focus (repeat (first | exact trivial | (refine And.intro ⟨_, rfl, ?_⟩ ?_; (focus first | (refine Fit_plain ?_; simp only [go_sem, List.all_append, List.all_cons, List.all_nil, Bool.and_self]; done) | exact Fit_nil rfl | exact Fit_dead | (refine Fit_eq ?_ ?_; (focus simp only [go_sem, List.all_append, List.all_cons, List.all_nil, Bool.and_self]); (focus (first | rfl | (simp only [Int.natCast_add, Int.natCast_one, Int.natCast_zero, Int.cast_ofNat_Int, Nat.add_zero]; done) | (simp only [Int.natCast_add, Int.natCast_one, Int.natCast_zero, Int.cast_ofNat_Int, Nat.add_zero]; rfl))))))))); (focus (repeat (first | exact JR_nil | refine JR_J ?_ | (refine JR_plain ?_ ?_; (focus first | rfl | (refine plain_agg ?_; simp only [go_sem, List.all_append, List.all_cons, List.all_nil, Bool.and_self]; done))) | ((first | refine JR_pt ?_ ?_ ?_ | refine JR_sl ?_ ?_ ?_); (focus first | (rw [rhoF_new0]; rfl) | (rw [rhoF_new]; rfl) | (rw [rhoF_old]; first | assumption | omega)); (focus first | assumption | omega | (simp only [List.length_append, List.length_cons, List.length_nil, List.length_replicate]; omega))) | (refine JR_plain' ?_ ?_ ?_; (focus first | rfl | (refine plain_agg ?_; simp only [go_sem, List.all_append, List.all_cons, List.all_nil, Bool.and_self]; done)); (focus (first | rfl | (simp only [Int.natCast_add, Int.natCast_one, Int.natCast_zero, Int.cast_ofNat_Int, Nat.add_zero]; done) | (simp only [Int.natCast_add, Int.natCast_one, Int.natCast_zero, Int.cast_ofNat_Int, Nat.add_zero]; rfl)))) | (refine JR_sl' ?_ ?_ ?_ ?_; (focus first | (rw [rhoF_new0]; rfl) | (rw [rhoF_new]; rfl) | (rw [rhoF_old]; first | assumption | omega)); (focus first | assumption | omega | (simp only [List.length_append, List.length_cons, List.length_nil, List.length_replicate]; omega)); (focus first | rfl | omega | (first | rfl | (simp only [Int.natCast_add, Int.natCast_one, Int.natCast_zero, Int.cast_ofNat_Int, Nat.add_zero]; done) | (simp only [Int.natCast_add, Int.natCast_one, Int.natCast_zero, Int.cast_ofNat_Int, Nat.add_zero]; rfl))))))))
    · unfold gdP at hf
      cases g0 : digOk (ch s (2 * i)) <;> cases g1 : digOk (ch s (2 * i + 1))
      all_goals try (rw [g0, g1] at hf; cases hf; done)
      all_goals ((repeat (first | ((first | refine AI_au ?_ | ((first | with_reducible apply callB_i | with_reducible apply callK_intro | with_reducible apply callQ_i); (focus (first | assumption | (with_reducible apply digI_ac <;> (first | assumption | rfl | (simp (disch := omega) only [go_sem]; first | done | rfl) | omega | decide | (simp; done))))); (try exact WP_au)) | refine WA_seq (WA_region ?_) | refine WA_region ?_ | refine WA_exit ?_); try simp (maxSteps := 1000000) (disch := first | omega | rfl | decide | (simp only [List.length_cons, List.length_nil, List.length_append, Bs_length, Is_length, Vs_length, Bl_length, Il_length] <;> omega)) only [go_sem, Nat.reduceAdd, Int.reduceAdd, Int.reduceSub, Int.reduceMul, Bool.not_true, Bool.not_false, ch_is, g0, g1, if_true, Bool.not_true, Bool.not_false, yieldA_at 2 38]) | refine WA_seq ?_ | refine WA_block ?_ | (refine WA_skip ?_; try simp only [go_sem]) | (refine WA_ret ?_; try simp only [go_sem]) | refine WA_ct rfl ?_ | refine WA_cf rfl ?_)))
      all_goals ((first | refine ret_none (by first | exact .inr rfl | exact .inl rfl) ?_ | refine ret_same (by first | exact .inr rfl | exact .inl rfl) ?_ (by first | rfl | exact plain_agg (by simp only [go_sem]) | exact plain_two (by first | exact plain_agg (by simp only [go_sem]) | rfl) (by first | exact plain_agg (by simp only [go_sem]) | rfl)) | refine ret_full (by first | exact .inr rfl | exact .inl rfl) (by simp) ?_); simp (maxSteps := 1000000) (disch := first | omega | rfl | decide | (simp only [List.length_cons, List.length_nil, List.length_append, Bs_length, Is_length, Vs_length, Bl_length, Il_length] <;> omega)) only [go_sem, Nat.reduceAdd, Int.reduceAdd, Int.reduceSub, Int.reduceMul, Bool.not_true, Bool.not_false]; try rfl)
  · have hb0 : (s.size % 2 == 1) = true := by rw [show s.size % 2 = 1 by omega]; rfl
    (refine AC_begin (fun _ _ => Tryd.call10 _ _) Tryd.func10 rfl Tryd.ntmps10 Tryd.results10 (fun hwf => ?_); simp only [List.length_cons, List.length_nil, Nat.reduceAdd, Nat.reduceSub, List.replicate, List.cons_append, List.nil_append])
    (repeat (first | ((first | refine AI_au ?_ | refine WA_seq (WA_region ?_) | refine WA_region ?_ | refine WA_exit ?_); try simp (maxSteps := 1000000) (disch := first | omega | rfl | decide | (simp only [List.length_cons, List.length_nil, List.length_append, Bs_length, Is_length, Vs_length, Bl_length, Il_length] <;> omega)) only [go_sem, Nat.reduceAdd, Int.reduceAdd, Int.reduceSub, Int.reduceMul, Bool.not_true, Bool.not_false, hb0, yieldA_at 2 38]) | refine WA_seq ?_ | refine WA_block ?_ | (refine WA_skip ?_; try simp only [go_sem]) | (refine WA_ret ?_; try simp only [go_sem]) | refine WA_ct rfl ?_ | refine WA_cf rfl ?_))
    ((first | refine ret_none (by first | exact .inr rfl | exact .inl rfl) ?_ | refine ret_same (by first | exact .inr rfl | exact .inl rfl) ?_ (by first | rfl | exact plain_agg (by simp only [go_sem]) | exact plain_two (by first | exact plain_agg (by simp only [go_sem]) | rfl) (by first | exact plain_agg (by simp only [go_sem]) | rfl)) | refine ret_full (by first | exact .inr rfl | exact .inl rfl) (by simp) ?_); simp (maxSteps := 1000000) (disch := first | omega | rfl | decide | (simp only [List.length_cons, List.length_nil, List.length_append, Bs_length, Is_length, Vs_length, Bl_length, Il_length] <;> omega)) only [go_sem, Nat.reduceAdd, Int.reduceAdd, Int.reduceSub, Int.reduceMul, Bool.not_true, Bool.not_false]; try rfl)

theorem digS_ac (c : UInt8) (h : List Blk) : AC Tryd.prog 12 [B c] h (.int .i64 (digI c)) h := by
  have l1 := u8_lt (c - 48)
  have l2 := u8_lt (c - 97)
  have w1 := wrap_N (n := (c - 48).toNat) (by omega)
  have w2 := wrap_N (n := (c - 97).toNat) (by omega)
  have w3 : IntKind.i64.wrap (((c - 97).toNat : Int) + 10) = (((c - 97).toNat + 10 : Nat) : Int) := wrap_N (n := (c - 97).toNat + 10) (by omega)
  (refine AC_begin (fun _ _ => Tryd.call12 _ _) Tryd.func12 rfl Tryd.ntmps12 Tryd.results12 (fun hwf => ?_); simp only [List.length_cons, List.length_nil, Nat.reduceAdd, Nat.reduceSub, List.replicate, List.cons_append, List.nil_append])
  cases e1 : decide (48 ≤ c) <;> cases e2 : decide (c ≤ 57) <;> cases e3 : decide (97 ≤ c) <;> cases e4 : decide (c ≤ 102)
  all_goals ((repeat (first | ((first | refine AI_au ?_ | refine WA_seq (WA_region ?_) | refine WA_region ?_ | refine WA_exit ?_); try simp (maxSteps := 1000000) (disch := first | omega | rfl | decide | (simp only [List.length_cons, List.length_nil, List.length_append, Bs_length, Is_length, Vs_length, Bl_length, Il_length] <;> omega)) only [go_sem, Nat.reduceAdd, Int.reduceAdd, Int.reduceSub, Int.reduceMul, Bool.not_true, Bool.not_false, e1, e2, e3, e4, w1, w2, w3, yieldA_at 2 6, yieldA_at 2 16]) | refine WA_seq ?_ | refine WA_block ?_ | (refine WA_skip ?_; try simp only [go_sem]) | (refine WA_ret ?_; try simp only [go_sem]) | refine WA_ct rfl ?_ | refine WA_cf rfl ?_)))
  all_goals (((first | refine ret_none (by first | exact .inr rfl | exact .inl rfl) ?_ | refine ret_same (by first | exact .inr rfl | exact .inl rfl) ?_ (by first | rfl | exact plain_agg (by simp only [go_sem]) | exact plain_two (by first | exact plain_agg (by simp only [go_sem]) | rfl) (by first | exact plain_agg (by simp only [go_sem]) | rfl)) | refine ret_full (by first | exact .inr rfl | exact .inl rfl) (by simp) ?_); simp (maxSteps := 1000000) (disch := first | omega | rfl | decide | (simp only [List.length_cons, List.length_nil, List.length_append, Bs_length, Is_length, Vs_length, Bl_length, Il_length] <;> omega)) only [go_sem, Nat.reduceAdd, Int.reduceAdd, Int.reduceSub, Int.reduceMul, Bool.not_true, Bool.not_false, dig_I, digI0, w1, w2, w3, e1, e2, e3, e4, Bool.and_true, Bool.and_false, Bool.or_true, Bool.or_false, if_true, if_false, Bool.false_eq_true]; try rfl))

theorem fromS_ok {s : ByteArray} (hs : s.size ≤ 1048576) (hx : hexOk s = true) (h : List Blk) : AC Tryd.prog 8 [.string s] h (.tuple #[sl h.length 0 (s.size / 2) 1, .bool true]) (h ++ [⟨Bs (s.size / 2) (unV s), true⟩]) := by
  unfold hexOk at hx
  rw [Bool.and_eq_true, beq_iff_eq] at hx
  obtain ⟨h0, h1⟩ := hx
  have hb0 : (s.size % 2 != 0) = false := by rw [h0]; rfl
  (refine AC_begin (fun _ _ => Tryd.call8 _ _) Tryd.func8 rfl Tryd.ntmps8 Tryd.results8 (fun hwf => ?_); simp only [List.length_cons, List.length_nil, Nat.reduceAdd, Nat.reduceSub, List.replicate, List.cons_append, List.nil_append])
  (repeat (first | ((first | refine AI_au ?_ | refine WA_seq (WA_region ?_) | refine WA_region ?_ | refine WA_exit ?_); try simp (maxSteps := 1000000) (disch := first | omega | rfl | decide | (simp only [List.length_cons, List.length_nil, List.length_append, Bs_length, Is_length, Vs_length, Bl_length, Il_length] <;> omega)) only [go_sem, Nat.reduceAdd, Int.reduceAdd, Int.reduceSub, Int.reduceMul, Bool.not_true, Bool.not_false, hb0, yieldA_at 2 31]) | refine WA_seq ?_ | refine WA_block ?_ | (refine WA_skip ?_; try simp only [go_sem]) | (refine WA_ret ?_; try simp only [go_sem]) | refine WA_ct rfl ?_ | refine WA_cf rfl ?_))
  refine WA_forP (fun k => [(2, J), (3, J), (4, sl h.length 0 k 1), (5, .int .i64 ((2 * k : Nat))), (6, J), (7, J), (8, J), (13, J), (14, J), (15, J), (16, J), (17, J), (18, J), (19, J), (20, J), (21, J), (22, J), (23, J), (24, J), (25, J), (26, J), (27, J), (28, J), (29, J), (30, J), (31, J), (32, J), (33, J), (34, J), (35, J), (36, J), (37, J), (38, J), (39, J), (40, J), (41, J), (42, J)]) (fun k => [(0, ⟨Bs k (unV s), true⟩)]) (s.size / 2) ?_ ?_ ?_ <;> (try simp only [patT_cons, patT_nil, patL_cons, patL_nil, list_set_zero, list_set_succ, blk_set_zero, blk_set_succ])
  · rw [Nat.mul_zero]
    (refine Drop_slots (by first | exact Nat.le_refl _ | simp) ?_; focus ((try simp only [JL_same, JL_J, JL_nil, Int.reduceAdd, Nat.sub_sub, Int.natCast_add, Int.natCast_one, Int.natCast_zero, Int.cast_ofNat_Int, Nat.add_zero, Bool.false_eq_true, if_false, if_true]); (try exact JL_refl _)))
  · intro k hk
    obtain ⟨g0, g1⟩ := gdP_t (allT_get h1 hk)
    have v0 := (hex_dig g0).2
    have v1 := (hex_dig g1).2
    (repeat (first | ((first | refine AI_au ?_ | ((first | with_reducible apply callB_i | with_reducible apply callK_intro | with_reducible apply callQ_i); (focus (first | assumption | (with_reducible apply digS_ac <;> (first | assumption | rfl | (simp (disch := omega) only [go_sem]; first | done | rfl) | omega | decide | (simp; done))))); (try exact WP_au)) | refine WA_seq (WA_region ?_) | refine WA_region ?_ | refine WA_exit ?_); try simp (maxSteps := 1000000) (disch := first | omega | rfl | decide | (simp only [List.length_cons, List.length_nil, List.length_append, Bs_length, Is_length, Vs_length, Bl_length, Il_length] <;> omega)) only [go_sem, Nat.reduceAdd, Int.reduceAdd, Int.reduceSub, Int.reduceMul, Bool.not_true, Bool.not_false, ch_is, digI_t g0, digI_t g1, Nat.not_lt_zero, decide_false, unV_is, sub1, Bs_snoc1, yieldA_at 2 31]) | (refine WA_seq (WA_draw (id := 7) mixedOk (by kernel_rfl) ?_); simp (maxSteps := 1000000) (disch := first | omega | rfl | decide | (simp only [List.length_cons, List.length_nil, List.length_append, Bs_length, Is_length, Vs_length, Bl_length, Il_length] <;> omega)) only [go_sem, Nat.reduceAdd, Int.reduceAdd, Int.reduceSub, Int.reduceMul, Bool.not_true, Bool.not_false, ch_is, digI_t g0, digI_t g1, Nat.not_lt_zero, decide_false, unV_is, sub1, Bs_snoc1, yieldA_at 2 31]) | (refine WA_draw (id := 7) mixedOk (by kernel_rfl) ?_; simp (maxSteps := 1000000) (disch := first | omega | rfl | decide | (simp only [List.length_cons, List.length_nil, List.length_append, Bs_length, Is_length, Vs_length, Bl_length, Il_length] <;> omega)) only [go_sem, Nat.reduceAdd, Int.reduceAdd, Int.reduceSub, Int.reduceMul, Bool.not_true, Bool.not_false, ch_is, digI_t g0, digI_t g1, Nat.not_lt_zero, decide_false, unV_is, sub1, Bs_snoc1, yieldA_at 2 31]) | refine WA_seq ?_ | refine WA_block ?_ | (refine WA_skip ?_; try simp only [go_sem]) | (refine WA_ret ?_; try simp only [go_sem]) | refine WA_ct rfl ?_ | refine WA_cf rfl ?_))
    rw [show 2 * (k + 1) = 2 * k + 2 by omega]
    (refine Drop_gc [2] (by first | exact Nat.le_refl _ | first | assumption | omega | (simp only [List.length_append, List.length_cons, List.length_nil, List.length_replicate]; omega)) (by assumption) (by decide) ?_ ?_; (focus (repeat (first | exact trivial | (refine And.intro ⟨_, rfl, ?_⟩ ?_; (focus first | (refine Fit_plain ?_; simp only [go_sem, List.all_append, List.all_cons, List.all_nil, Bool.and_self]; done) | exact Fit_nil rfl | exact Fit_dead | (refine Fit_eq ?_ ?_; (focus simp only [go_sem, List.all_append, List.all_cons, List.all_nil, Bool.and_self]); (focus (first | rfl | (simp only [Int.natCast_add, Int.natCast_one, Int.natCast_zero, Int.cast_ofNat_Int, Nat.add_zero]; done) | (simp only [Int.natCast_add, Int.natCast_one, Int.natCast_zero, Int.cast_ofNat_Int, Nat.add_zero]; rfl))))))))); (focus (repeat (first | exact JR_nil | refine JR_J ?_ | (refine JR_plain ?_ ?_; (focus first | rfl | (refine plain_agg ?_; simp only [go_sem, List.all_append, List.all_cons, List.all_nil, Bool.and_self]; done))) | ((first | refine JR_pt ?_ ?_ ?_ | refine JR_sl ?_ ?_ ?_); (focus first | (rw [rhoF_new0]; rfl) | (rw [rhoF_new]; rfl) | (rw [rhoF_old]; first | assumption | omega)); (focus first | assumption | omega | (simp only [List.length_append, List.length_cons, List.length_nil, List.length_replicate]; omega))) | (refine JR_plain' ?_ ?_ ?_; (focus first | rfl | (refine plain_agg ?_; simp only [go_sem, List.all_append, List.all_cons, List.all_nil, Bool.and_self]; done)); (focus (first | rfl | (simp only [Int.natCast_add, Int.natCast_one, Int.natCast_zero, Int.cast_ofNat_Int, Nat.add_zero]; done) | (simp only [Int.natCast_add, Int.natCast_one, Int.natCast_zero, Int.cast_ofNat_Int, Nat.add_zero]; rfl)))) | (refine JR_sl' ?_ ?_ ?_ ?_; (focus first | (rw [rhoF_new0]; rfl) | (rw [rhoF_new]; rfl) | (rw [rhoF_old]; first | assumption | omega)); (focus first | assumption | omega | (simp only [List.length_append, List.length_cons, List.length_nil, List.length_replicate]; omega)); (focus first | rfl | omega | (first | rfl | (simp only [Int.natCast_add, Int.natCast_one, Int.natCast_zero, Int.cast_ofNat_Int, Nat.add_zero]; done) | (simp only [Int.natCast_add, Int.natCast_one, Int.natCast_zero, Int.cast_ofNat_Int, Nat.add_zero]; rfl))))))))
  · (repeat (first | ((first | refine AI_au ?_ | refine WA_seq (WA_region ?_) | refine WA_region ?_ | refine WA_exit ?_); try simp (maxSteps := 1000000) (disch := first | omega | rfl | decide | (simp only [List.length_cons, List.length_nil, List.length_append, Bs_length, Is_length, Vs_length, Bl_length, Il_length] <;> omega)) only [go_sem, Nat.reduceAdd, Int.reduceAdd, Int.reduceSub, Int.reduceMul, Bool.not_true, Bool.not_false, yieldA_at 2 31]) | refine WA_seq ?_ | refine WA_block ?_ | (refine WA_skip ?_; try simp only [go_sem]) | (refine WA_ret ?_; try simp only [go_sem]) | refine WA_ct rfl ?_ | refine WA_cf rfl ?_))
    ((first | refine ret_none (by first | exact .inr rfl | exact .inl rfl) ?_ | refine ret_same (by first | exact .inr rfl | exact .inl rfl) ?_ (by first | rfl | exact plain_agg (by simp only [go_sem]) | exact plain_two (by first | exact plain_agg (by simp only [go_sem]) | rfl) (by first | exact plain_agg (by simp only [go_sem]) | rfl)) | refine ret_full (by first | exact .inr rfl | exact .inl rfl) (by simp) ?_); simp (maxSteps := 1000000) (disch := first | omega | rfl | decide | (simp only [List.length_cons, List.length_nil, List.length_append, Bs_length, Is_length, Vs_length, Bl_length, Il_length] <;> omega)) only [go_sem, Nat.reduceAdd, Int.reduceAdd, Int.reduceSub, Int.reduceMul, Bool.not_true, Bool.not_false]; try rfl)
theorem fromS_no {s : ByteArray} (hs : s.size ≤ 1048576) (hx : hexOk s = false) (h : List Blk) : AC Tryd.prog 8 [.string s] h (.tuple #[.slice none 0 0, .bool false]) h := by
  unfold hexOk at hx
  by_cases h0 : s.size % 2 = 0
  · have hb0 : (s.size % 2 != 0) = false := by rw [h0]; rfl
    rw [h0] at hx
    obtain ⟨i, hi, hf, hall⟩ := allT_first hx
    (refine AC_begin (fun _ _ => Tryd.call8 _ _) Tryd.func8 rfl Tryd.ntmps8 Tryd.results8 (fun hwf => ?_); simp only [List.length_cons, List.length_nil, Nat.reduceAdd, Nat.reduceSub, List.replicate, List.cons_append, List.nil_append])
    (repeat (first | ((first | refine AI_au ?_ | refine WA_seq (WA_region ?_) | refine WA_region ?_ | refine WA_exit ?_); try simp (maxSteps := 1000000) (disch := first | omega | rfl | decide | (simp only [List.length_cons, List.length_nil, List.length_append, Bs_length, Is_length, Vs_length, Bl_length, Il_length] <;> omega)) only [go_sem, Nat.reduceAdd, Int.reduceAdd, Int.reduceSub, Int.reduceMul, Bool.not_true, Bool.not_false, hb0, yieldA_at 2 31]) | refine WA_seq ?_ | refine WA_block ?_ | (refine WA_skip ?_; try simp only [go_sem]) | (refine WA_ret ?_; try simp only [go_sem]) | refine WA_ct rfl ?_ | refine WA_cf rfl ?_))
    refine WA_forP (fun k => [(2, J), (3, J), (4, sl h.length 0 k 1), (5, .int .i64 ((2 * k : Nat))), (6, J), (7, J), (8, J), (13, J), (14, J), (15, J), (16, J), (17, J), (18, J), (19, J), (20, J), (21, J), (22, J), (23, J), (24, J), (25, J), (26, J), (27, J), (28, J), (29, J), (30, J), (31, J), (32, J), (33, J), (34, J), (35, J), (36, J), (37, J), (38, J), (39, J), (40, J), (41, J), (42, J)]) (fun k => [(0, ⟨Bs k (unV s), true⟩)]) (i) ?_ ?_ ?_ <;> (try simp only [patT_cons, patT_nil, patL_cons, patL_nil, list_set_zero, list_set_succ, blk_set_zero, blk_set_succ])
    · rw [Nat.mul_zero]
      (refine Drop_slots (by first | exact Nat.le_refl _ | simp) ?_; focus ((try simp only [JL_same, JL_J, JL_nil, Int.reduceAdd, Nat.sub_sub, Int.natCast_add, Int.natCast_one, Int.natCast_zero, Int.cast_ofNat_Int, Nat.add_zero, Bool.false_eq_true, if_false, if_true]); (try exact JL_refl _)))
    · intro k hk
      obtain ⟨g0, g1⟩ := gdP_t (allT_get hall hk)
      have v0 := (hex_dig g0).2
      have v1 := (hex_dig g1).2
      (repeat (first | ((first | refine AI_au ?_ | ((first | with_reducible apply callB_i | with_reducible apply callK_intro | with_reducible apply callQ_i); (focus (first | assumption | (with_reducible apply digS_ac <;> (first | assumption | rfl | (simp (disch := omega) only [go_sem]; first | done | rfl) | omega | decide | (simp; done))))); (try exact WP_au)) | refine WA_seq (WA_region ?_) | refine WA_region ?_ | refine WA_exit ?_); try simp (maxSteps := 1000000) (disch := first | omega | rfl | decide | (simp only [List.length_cons, List.length_nil, List.length_append, Bs_length, Is_length, Vs_length, Bl_length, Il_length] <;> omega)) only [go_sem, Nat.reduceAdd, Int.reduceAdd, Int.reduceSub, Int.reduceMul, Bool.not_true, Bool.not_false, ch_is, digI_t g0, digI_t g1, Nat.not_lt_zero, decide_false, unV_is, sub1, Bs_snoc1, yieldA_at 2 31]) | (refine WA_seq (WA_draw (id := 7) mixedOk (by kernel_rfl) ?_); simp (maxSteps := 1000000) (disch := first | omega | rfl | decide | (simp only [List.length_cons, List.length_nil, List.length_append, Bs_length, Is_length, Vs_length, Bl_length, Il_length] <;> omega)) only [go_sem, Nat.reduceAdd, Int.reduceAdd, Int.reduceSub, Int.reduceMul, Bool.not_true, Bool.not_false, ch_is, digI_t g0, digI_t g1, Nat.not_lt_zero, decide_false, unV_is, sub1, Bs_snoc1, yieldA_at 2 31]) | (refine WA_draw (id := 7) mixedOk (by kernel_rfl) ?_; simp (maxSteps := 1000000) (disch := first | omega | rfl | decide | (simp only [List.length_cons, List.length_nil, List.length_append, Bs_length, Is_length, Vs_length, Bl_length, Il_length] <;> omega)) only [go_sem, Nat.reduceAdd, Int.reduceAdd, Int.reduceSub, Int.reduceMul, Bool.not_true, Bool.not_false, ch_is, digI_t g0, digI_t g1, Nat.not_lt_zero, decide_false, unV_is, sub1, Bs_snoc1, yieldA_at 2 31]) | refine WA_seq ?_ | refine WA_block ?_ | (refine WA_skip ?_; try simp only [go_sem]) | (refine WA_ret ?_; try simp only [go_sem]) | refine WA_ct rfl ?_ | refine WA_cf rfl ?_))
      rw [show 2 * (k + 1) = 2 * k + 2 by omega]
      (refine Drop_gc [2] (by first | exact Nat.le_refl _ | first | assumption | omega | (simp only [List.length_append, List.length_cons, List.length_nil, List.length_replicate]; omega)) (by assumption) (by decide) ?_ ?_; (focus (repeat (first | exact trivial | (refine And.intro ⟨_, rfl, ?_⟩ ?_; (focus first | (refine Fit_plain ?_; simp only [go_sem, List.all_append, List.all_cons, List.all_nil, Bool.and_self]; done) | exact Fit_nil rfl | exact Fit_dead | (refine Fit_eq ?_ ?_; (focus simp only [go_sem, List.all_append, List.all_cons, List.all_nil, Bool.and_self]); (focus (first | rfl | (simp only [Int.natCast_add, Int.natCast_one, Int.natCast_zero, Int.cast_ofNat_Int, Nat.add_zero]; done) | (simp only [Int.natCast_add, Int.natCast_one, Int.natCast_zero, Int.cast_ofNat_Int, Nat.add_zero]; rfl))))))))); (focus (repeat (first | exact JR_nil | refine JR_J ?_ | (refine JR_plain ?_ ?_; (focus first | rfl | (refine plain_agg ?_; simp only [go_sem, List.all_append, List.all_cons, List.all_nil, Bool.and_self]; done))) | ((first | refine JR_pt ?_ ?_ ?_ | refine JR_sl ?_ ?_ ?_); (focus first | (rw [rhoF_new0]; rfl) | (rw [rhoF_new]; rfl) | (rw [rhoF_old]; first | assumption | omega)); (focus first | assumption | omega | (simp only [List.length_append, List.length_cons, List.length_nil, List.length_replicate]; omega))) | (refine JR_plain' ?_ ?_ ?_; (focus first | rfl | (refine plain_agg ?_; simp only [go_sem, List.all_append, List.all_cons, List.all_nil, Bool.and_self]; done)); (focus (first | rfl | (simp only [Int.natCast_add, Int.natCast_one, Int.natCast_zero, Int.cast_ofNat_Int, Nat.add_zero]; done) | (simp only [Int.natCast_add, Int.natCast_one, Int.natCast_zero, Int.cast_ofNat_Int, Nat.add_zero]; rfl)))) | (refine JR_sl' ?_ ?_ ?_ ?_; (focus first | (rw [rhoF_new0]; rfl) | (rw [rhoF_new]; rfl) | (rw [rhoF_old]; first | assumption | omega)); (focus first | assumption | omega | (simp only [List.length_append, List.length_cons, List.length_nil, List.length_replicate]; omega)); (focus first | rfl | omega | (first | rfl | (simp only [Int.natCast_add, Int.natCast_one, Int.natCast_zero, Int.cast_ofNat_Int, Nat.add_zero]; done) | (simp only [Int.natCast_add, Int.natCast_one, Int.natCast_zero, Int.cast_ofNat_Int, Nat.add_zero]; rfl))))))))
    · unfold gdP at hf
      have dneg : decide ((-1 : Int) < 0) = true := by decide
      cases g0 : digOk (ch s (2 * i))
      · (repeat (first | ((first | refine AI_au ?_ | ((first | with_reducible apply callB_i | with_reducible apply callK_intro | with_reducible apply callQ_i); (focus (first | assumption | (with_reducible apply digS_ac <;> (first | assumption | rfl | (simp (disch := omega) only [go_sem]; first | done | rfl) | omega | decide | (simp; done))))); (try exact WP_au)) | refine WA_seq (WA_region ?_) | refine WA_region ?_ | refine WA_exit ?_); try simp (maxSteps := 1000000) (disch := first | omega | rfl | decide | (simp only [List.length_cons, List.length_nil, List.length_append, Bs_length, Is_length, Vs_length, Bl_length, Il_length] <;> omega)) only [go_sem, Nat.reduceAdd, Int.reduceAdd, Int.reduceSub, Int.reduceMul, Bool.not_true, Bool.not_false, ch_is, digI_f g0, dneg, yieldA_at 2 31]) | (refine WA_seq (WA_draw (id := 7) mixedOk (by kernel_rfl) ?_); simp (maxSteps := 1000000) (disch := first | omega | rfl | decide | (simp only [List.length_cons, List.length_nil, List.length_append, Bs_length, Is_length, Vs_length, Bl_length, Il_length] <;> omega)) only [go_sem, Nat.reduceAdd, Int.reduceAdd, Int.reduceSub, Int.reduceMul, Bool.not_true, Bool.not_false, ch_is, digI_f g0, dneg, yieldA_at 2 31]) | (refine WA_draw (id := 7) mixedOk (by kernel_rfl) ?_; simp (maxSteps := 1000000) (disch := first | omega | rfl | decide | (simp only [List.length_cons, List.length_nil, List.length_append, Bs_length, Is_length, Vs_length, Bl_length, Il_length] <;> omega)) only [go_sem, Nat.reduceAdd, Int.reduceAdd, Int.reduceSub, Int.reduceMul, Bool.not_true, Bool.not_false, ch_is, digI_f g0, dneg, yieldA_at 2 31]) | refine WA_seq ?_ | refine WA_block ?_ | (refine WA_skip ?_; try simp only [go_sem]) | (refine WA_ret ?_; try simp only [go_sem]) | refine WA_ct rfl ?_ | refine WA_cf rfl ?_))
        ((first | refine ret_none (by first | exact .inr rfl | exact .inl rfl) ?_ | refine ret_same (by first | exact .inr rfl | exact .inl rfl) ?_ (by first | rfl | exact plain_agg (by simp only [go_sem]) | exact plain_two (by first | exact plain_agg (by simp only [go_sem]) | rfl) (by first | exact plain_agg (by simp only [go_sem]) | rfl)) | refine ret_full (by first | exact .inr rfl | exact .inl rfl) (by simp) ?_); simp (maxSteps := 1000000) (disch := first | omega | rfl | decide | (simp only [List.length_cons, List.length_nil, List.length_append, Bs_length, Is_length, Vs_length, Bl_length, Il_length] <;> omega)) only [go_sem, Nat.reduceAdd, Int.reduceAdd, Int.reduceSub, Int.reduceMul, Bool.not_true, Bool.not_false]; try rfl)
      · rw [g0, Bool.true_and] at hf
        (repeat (first | ((first | refine AI_au ?_ | ((first | with_reducible apply callB_i | with_reducible apply callK_intro | with_reducible apply callQ_i); (focus (first | assumption | (with_reducible apply digS_ac <;> (first | assumption | rfl | (simp (disch := omega) only [go_sem]; first | done | rfl) | omega | decide | (simp; done))))); (try exact WP_au)) | refine WA_seq (WA_region ?_) | refine WA_region ?_ | refine WA_exit ?_); try simp (maxSteps := 1000000) (disch := first | omega | rfl | decide | (simp only [List.length_cons, List.length_nil, List.length_append, Bs_length, Is_length, Vs_length, Bl_length, Il_length] <;> omega)) only [go_sem, Nat.reduceAdd, Int.reduceAdd, Int.reduceSub, Int.reduceMul, Bool.not_true, Bool.not_false, ch_is, digI_t g0, digI_f hf, Nat.not_lt_zero, decide_false, dneg, yieldA_at 2 31]) | (refine WA_seq (WA_draw (id := 7) mixedOk (by kernel_rfl) ?_); simp (maxSteps := 1000000) (disch := first | omega | rfl | decide | (simp only [List.length_cons, List.length_nil, List.length_append, Bs_length, Is_length, Vs_length, Bl_length, Il_length] <;> omega)) only [go_sem, Nat.reduceAdd, Int.reduceAdd, Int.reduceSub, Int.reduceMul, Bool.not_true, Bool.not_false, ch_is, digI_t g0, digI_f hf, Nat.not_lt_zero, decide_false, dneg, yieldA_at 2 31]) | (refine WA_draw (id := 7) mixedOk (by kernel_rfl) ?_; simp (maxSteps := 1000000) (disch := first | omega | rfl | decide | (simp only [List.length_cons, List.length_nil, List.length_append, Bs_length, Is_length, Vs_length, Bl_length, Il_length] <;> omega)) only [go_sem, Nat.reduceAdd, Int.reduceAdd, Int.reduceSub, Int.reduceMul, Bool.not_true, Bool.not_false, ch_is, digI_t g0, digI_f hf, Nat.not_lt_zero, decide_false, dneg, yieldA_at 2 31]) | refine WA_seq ?_ | refine WA_block ?_ | (refine WA_skip ?_; try simp only [go_sem]) | (refine WA_ret ?_; try simp only [go_sem]) | refine WA_ct rfl ?_ | refine WA_cf rfl ?_))
        ((first | refine ret_none (by first | exact .inr rfl | exact .inl rfl) ?_ | refine ret_same (by first | exact .inr rfl | exact .inl rfl) ?_ (by first | rfl | exact plain_agg (by simp only [go_sem]) | exact plain_two (by first | exact plain_agg (by simp only [go_sem]) | rfl) (by first | exact plain_agg (by simp only [go_sem]) | rfl)) | refine ret_full (by first | exact .inr rfl | exact .inl rfl) (by simp) ?_); simp (maxSteps := 1000000) (disch := first | omega | rfl | decide | (simp only [List.length_cons, List.length_nil, List.length_append, Bs_length, Is_length, Vs_length, Bl_length, Il_length] <;> omega)) only [go_sem, Nat.reduceAdd, Int.reduceAdd, Int.reduceSub, Int.reduceMul, Bool.not_true, Bool.not_false]; try rfl)
  · have hb0 : (s.size % 2 != 0) = true := by rw [bne_iff_ne]; exact h0
    (refine AC_begin (fun _ _ => Tryd.call8 _ _) Tryd.func8 rfl Tryd.ntmps8 Tryd.results8 (fun hwf => ?_); simp only [List.length_cons, List.length_nil, Nat.reduceAdd, Nat.reduceSub, List.replicate, List.cons_append, List.nil_append])
    (repeat (first | ((first | refine AI_au ?_ | refine WA_seq (WA_region ?_) | refine WA_region ?_ | refine WA_exit ?_); try simp (maxSteps := 1000000) (disch := first | omega | rfl | decide | (simp only [List.length_cons, List.length_nil, List.length_append, Bs_length, Is_length, Vs_length, Bl_length, Il_length] <;> omega)) only [go_sem, Nat.reduceAdd, Int.reduceAdd, Int.reduceSub, Int.reduceMul, Bool.not_true, Bool.not_false, hb0, yieldA_at 2 31]) | refine WA_seq ?_ | refine WA_block ?_ | (refine WA_skip ?_; try simp only [go_sem]) | (refine WA_ret ?_; try simp only [go_sem]) | refine WA_ct rfl ?_ | refine WA_cf rfl ?_))
    ((first | refine ret_none (by first | exact .inr rfl | exact .inl rfl) ?_ | refine ret_same (by first | exact .inr rfl | exact .inl rfl) ?_ (by first | rfl | exact plain_agg (by simp only [go_sem]) | exact plain_two (by first | exact plain_agg (by simp only [go_sem]) | rfl) (by first | exact plain_agg (by simp only [go_sem]) | rfl)) | refine ret_full (by first | exact .inr rfl | exact .inl rfl) (by simp) ?_); simp (maxSteps := 1000000) (disch := first | omega | rfl | decide | (simp only [List.length_cons, List.length_nil, List.length_append, Bs_length, Is_length, Vs_length, Bl_length, Il_length] <;> omega)) only [go_sem, Nat.reduceAdd, Int.reduceAdd, Int.reduceSub, Int.reduceMul, Bool.not_true, Bool.not_false]; try rfl)

end Go.Proofs.YtdblbbedfoddiaaDoor
