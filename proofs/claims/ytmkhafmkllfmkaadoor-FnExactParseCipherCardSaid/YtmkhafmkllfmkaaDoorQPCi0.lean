/- A part of the proof of ParseCipher. -/
import Derived.Lib.SplitLaws
import Derived.Lib.Join
import Derived.Lib.Replace
import Derived.Lib.ItoaNum
import Derived.Lib.AppendIntMem
import Derived.Lib.ParseIntB
import Derived.Lib.ParseIntBCases
import Derived.Lib.ItoaMem
import Derived.Lib.AtoiErrMem
import Derived.Lib.ParseIntBTie
import Derived.WalkKit
import Derived.BigCall
import Derived.Test.YtmkhafmkllfmkaaDoorQPCiH
/- The parts of networks and of ciphers. -/
namespace Go.Proofs.YtmkhafmkllfmkaaDoor
set_option linter.unusedSimpArgs false
set_option linter.unusedVariables false
set_option maxRecDepth 20000
set_option maxHeartbeats 1000000
open Go.Abs

/-- Whether these are a cipher's parts. -/
def cipB (m : Int) (bx mx pl : Nat → UInt8) (r : Int) : Bool := fieldB m.toNat && (boxOk bx && (detF m.toNat mx != 0 && (plOk pl && inR r 1 20)))
end Go.Proofs.YtmkhafmkllfmkaaDoor
/- Texts of bytes, powers of boxes. Plain. -/
namespace Go.Proofs.YtmkhafmkllfmkaaDoor
set_option linter.unusedSimpArgs false
set_option linter.unusedVariables false
set_option maxRecDepth 20000
set_option maxHeartbeats 1000000
open Go.Abs

def hexA : Array UInt8 := #[48, 49, 50, 51, 52, 53, 54, 55, 56, 57, 97, 98, 99, 100, 101, 102]
def hexC (n : Nat) : UInt8 := hexA.getD n 0
/-- The text of the first n bytes. -/
def hx (f : Nat → UInt8) : Nat → List UInt8
  | 0 => []
  | k + 1 => hx f k ++ [hexC ((f k).toNat / 16), hexC ((f k).toNat % 16)]
def digOk (c : UInt8) : Bool := (decide (48 ≤ c) && decide (c ≤ 57)) || (decide (97 ≤ c) && decide (c ≤ 102))
def digV (c : UInt8) : UInt8 := if decide (48 ≤ c) && decide (c ≤ 57) then c - 48 else c - 97 + 10
theorem hex_dig0 : ∀ n, n < 256 → digOk (UInt8.ofNat n) = true → hexC (digV (UInt8.ofNat n)).toNat = UInt8.ofNat n ∧ (digV (UInt8.ofNat n)).toNat < 16 := by decide +kernel
theorem hex_dig {c : UInt8} (h : digOk c = true) : hexC (digV c).toNat = c ∧ (digV c).toNat < 16 := by
  have := hex_dig0 c.toNat (u8_lt c)
  rw [UInt8.ofNat_toNat] at this
  exact this h
/-- A sign of a text. -/
def ch (s : ByteArray) (i : Nat) : UInt8 := s.data.getD i 0
def gdP (s : ByteArray) (k : Nat) : Bool := digOk (ch s (2 * k)) && digOk (ch s (2 * k + 1))
def unV (s : ByteArray) (k : Nat) : UInt8 := UInt8.ofNat (16 * (digV (ch s (2 * k))).toNat + (digV (ch s (2 * k + 1))).toNat)
def hexOk (s : ByteArray) : Bool := s.size % 2 == 0 && allT (gdP s) (s.size / 2)
/-- A text that is a box. -/
def parOk (s : ByteArray) : Bool := hexOk s && s.size == 512
end Go.Proofs.YtmkhafmkllfmkaaDoor
/- Texts cut at a sign. Plain. -/
namespace Go.Proofs.YtmkhafmkllfmkaaDoor
set_option linter.unusedSimpArgs false
set_option linter.unusedVariables false
set_option maxRecDepth 20000
set_option maxHeartbeats 1000000
open Go.Abs

/-- A list cut at each c. -/
def cutL (c : UInt8) : List UInt8 → List (List UInt8)
  | [] => [[]]
  | b :: l => if b = c then [] :: cutL c l else match cutL c l with
    | [] => [[b]]
    | p :: ps => (b :: p) :: ps
def glue (x : List UInt8) : List (List UInt8) → List (List UInt8)
  | [] => [x]
  | p :: ps => (x ++ p) :: ps
theorem cutL_ne (c : UInt8) : ∀ l, ∃ p ps, cutL c l = p :: ps
  | [] => ⟨[], [], rfl⟩
  | b :: l => by
    obtain ⟨p, ps, e⟩ := cutL_ne c l
    unfold cutL
    split
    · exact ⟨_, _, rfl⟩
    · rw [e]; exact ⟨_, _, rfl⟩
theorem cutL_eq (c : UInt8) (l : List UInt8) : cutL c (c :: l) = [] :: cutL c l := by rw [cutL, if_pos rfl]
theorem cutL_other {b c : UInt8} (h : b ≠ c) (l : List UInt8) : cutL c (b :: l) = glue [b] (cutL c l) := by
  rw [cutL, if_neg h]
  cases cutL c l <;> rfl
theorem glue_nil {R : List (List UInt8)} (h : ∃ p ps, R = p :: ps) : glue [] R = R := by obtain ⟨p, ps, rfl⟩ := h; rfl
theorem glue_two (x y : List UInt8) {R : List (List UInt8)} (h : ∃ p ps, R = p :: ps) : glue x (glue y R) = glue (x ++ y) R := by obtain ⟨p, ps, rfl⟩ := h; simp [glue]
theorem index_other {b c : UInt8} (h : b ≠ c) (l : List UInt8) : Lib.index (b :: l) [c] = if Lib.index l [c] == -1 then -1 else Lib.index l [c] + 1 := by
  have hp : ([c] : List UInt8).isPrefixOf (b :: l) = false := by simp [List.isPrefixOf, Ne.symm h]
  rw [Lib.index, hp]; simp
theorem index_same (c : UInt8) (l : List UInt8) : Lib.index (c :: l) [c] = 0 := by rw [Lib.index]; simp [List.isPrefixOf]
/-- The library's cuts. -/
theorem splitK_cut (c : UInt8) : ∀ l : List UInt8, Lib.splitK [c] 0 (Lib.count l [c]) l = cutL c l
  | [] => by rw [Lib.count_one]; rfl
  | b :: l => by
    have ih := splitK_cut c l
    by_cases h : b = c
    · subst h
      rw [Lib.count_cons_eq, Nat.add_comm, Lib.splitK, index_same, if_neg (by decide), cutL_eq]
      show List.take 0 (b :: l) :: Lib.splitK [b] 0 (Lib.count l [b]) (List.drop 1 (b :: l)) = _
      rw [List.take_zero, List.drop_one, List.tail_cons, ih]
    · rw [Lib.count_cons_ne b c l h, cutL_other h, ← ih]
      by_cases hm : Lib.index l [c] = -1
      · rw [Lib.count_miss hm]; rfl
      · have hge := Lib.index_ge l [c]
        obtain ⟨j, hj⟩ : ∃ j : Nat, Lib.index l [c] = j := ⟨(Lib.index l [c]).toNat, by omega⟩
        have hc := Lib.count_hit (s := l) (sub := [c]) (by simp) hj
        obtain ⟨n, hn⟩ : ∃ n, Lib.count l [c] = n + 1 := ⟨_, by rw [hc, Nat.add_comm]⟩
        have hix : Lib.index (b :: l) [c] = ((j + 1 : Nat) : Int) := by
          rw [index_other h, if_neg (fun e => hm (beq_iff_eq.1 e)), hj]; omega
        have n1 : ¬ ((((j + 1 : Nat) : Int)) == -1) = true := fun e => by have := beq_iff_eq.1 e; omega
        have n2 : ¬ (((j : Nat) : Int) == -1) = true := fun e => by have := beq_iff_eq.1 e; omega
        rw [hn, Lib.splitK, Lib.splitK, hix, hj, if_neg n1, if_neg n2]
        show List.take (j + 1) (b :: l) :: Lib.splitK [c] 0 n (List.drop (j + 1 + 1) (b :: l)) = (b :: List.take j l) :: Lib.splitK [c] 0 n (List.drop (j + 1) l)
        rfl
/-- The pieces behind the first k signs, and where the next begins. -/
def spP (s : ByteArray) (c : UInt8) : Nat → List ByteArray × Nat
  | 0 => ([], 0)
  | k + 1 => if ch s k = c then ((spP s c k).1 ++ [s.extract (spP s c k).2 k], k + 1) else spP s c k
def spA (s : ByteArray) (c : UInt8) : List ByteArray := (spP s c s.size).1 ++ [s.extract (spP s c s.size).2 s.size]
theorem spP_t {s : ByteArray} {c : UInt8} {k : Nat} (h : ch s k = c) : spP s c (k + 1) = ((spP s c k).1 ++ [s.extract (spP s c k).2 k], k + 1) := by rw [spP, if_pos h]
theorem spP_f {s : ByteArray} {c : UInt8} {k : Nat} (h : ch s k ≠ c) : spP s c (k + 1) = spP s c k := by rw [spP, if_neg h]
theorem spP_le (s : ByteArray) (c : UInt8) : ∀ k, (spP s c k).2 ≤ k ∧ (spP s c k).1.length ≤ k
  | 0 => ⟨Nat.le_refl _, Nat.le_refl _⟩
  | k + 1 => by
    obtain ⟨h1, h2⟩ := spP_le s c k
    by_cases h : ch s k = c
    · rw [spP_t h]; simp; omega
    · rw [spP_f h]; omega
theorem ext_list (s : ByteArray) (a b : Nat) : (s.extract a b).data.toList = (s.data.toList.take b).drop a := by
  rw [Lib.extract_data, List.drop_take]
theorem sz_list (s : ByteArray) : s.size = s.data.toList.length := by rw [Array.length_toList]; rfl
theorem drop_ch {s : ByteArray} {k : Nat} (h : k < s.size) : s.data.toList.drop k = ch s k :: s.data.toList.drop (k + 1) := by
  have h' : k < s.data.toList.length := by rw [← sz_list]; exact h
  rw [List.drop_eq_getElem_cons h']
  congr 1
  unfold ch
  rw [Array.getD_eq_getD_getElem?, ← Array.getElem?_toList, List.getElem?_eq_getElem h']; rfl
theorem take_ch {s : ByteArray} {k a : Nat} (h : k < s.size) (ha : a ≤ k) : (s.data.toList.take (k + 1)).drop a = (s.data.toList.take k).drop a ++ [ch s k] := by
  have h' : k < s.data.toList.length := by rw [← sz_list]; exact h
  have e : s.data.toList[k] = ch s k := by
    unfold ch
    rw [Array.getD_eq_getD_getElem?, ← Array.getElem?_toList, List.getElem?_eq_getElem h']; rfl
  rw [List.take_succ_eq_append_getElem h', e, List.drop_append_of_le_length (by rw [List.length_take]; omega)]
theorem spP_cut (s : ByteArray) (c : UInt8) : ∀ k, k ≤ s.size → cutL c s.data.toList = (spP s c k).1.map (·.data.toList) ++ glue ((s.data.toList.take k).drop (spP s c k).2) (cutL c (s.data.toList.drop k))
  | 0, _ => by
    show _ = [] ++ glue ((s.data.toList.take 0).drop 0) (cutL c (s.data.toList.drop 0))
    rw [List.nil_append, List.take_zero, List.drop_nil, List.drop_zero, glue_nil (cutL_ne c _)]
  | k + 1, hk => by
    obtain ⟨h1, _⟩ := spP_le s c k
    rw [spP_cut s c k (by omega), drop_ch (show k < s.size by omega)]
    by_cases h : ch s k = c
    · rw [spP_t h, h, cutL_eq, List.map_append, List.append_assoc]
      congr 1
      show glue _ ([] :: _) = [(s.extract (spP s c k).2 k).data.toList] ++ glue ((s.data.toList.take (k + 1)).drop (k + 1)) _
      have d1 : (s.data.toList.take (k + 1)).drop (k + 1) = [] := List.drop_eq_nil_of_le (by rw [List.length_take]; omega)
      rw [d1, glue_nil (cutL_ne c _), ext_list]
      simp [glue]
    · rw [spP_f h, cutL_other h, glue_two _ _ (cutL_ne c _), take_ch (show k < s.size by omega) h1]
theorem spA_cut (s : ByteArray) (c : UInt8) : (spA s c).map (·.data.toList) = cutL c s.data.toList := by
  have d2 : s.data.toList.drop s.size = [] := List.drop_eq_nil_of_le (by rw [sz_list]; exact Nat.le_refl _)
  rw [spP_cut s c s.size (Nat.le_refl _), d2]
  unfold spA
  rw [List.map_append]
  show _ ++ [(s.extract _ _).data.toList] = _ ++ glue _ [[]]
  rw [ext_list]; simp [glue]
theorem ba_inj {x y : ByteArray} (h : x.data.toList = y.data.toList) : x = y := by
  cases x; cases y; congr 1; exact Array.ext' h
theorem map_ba : ∀ {xs ys : List ByteArray}, xs.map (·.data.toList) = ys.map (·.data.toList) → xs = ys
  | [], [], _ => rfl
  | [], _ :: _, h => by simp at h
  | _ :: _, [], h => by simp at h
  | x :: xs, y :: ys, h => by
    simp only [List.map_cons, List.cons.injEq] at h
    rw [ba_inj h.1, map_ba h.2]
/-- The pieces are the library's. -/
theorem spA_lib (s : ByteArray) (c : UInt8) : Lib.splitB ⟨#[c]⟩ 0 (Lib.countB s ⟨#[c]⟩) s = spA s c := map_ba (by
  rw [Lib.splitB_data, spA_cut]
  exact splitK_cut c s.data.toList)
theorem spA_len (s : ByteArray) (c : UInt8) : Lib.countB s ⟨#[c]⟩ + 1 = (spA s c).length := by
  rw [← spA_lib, Lib.splitB_all _ (show 1 ≤ (⟨#[c]⟩ : ByteArray).size from Nat.le_refl 1) 0 _ _ rfl]
theorem spA_le (s : ByteArray) (c : UInt8) : (spA s c).length ≤ s.size + 1 := by
  have := (spP_le s c s.size).2
  unfold spA; rw [List.length_append]; simp; omega
theorem spA_piece {s : ByteArray} {c : UInt8} {p : ByteArray} (h : p ∈ spA s c) : p.size ≤ s.size := by
  have key : ∀ k, k ≤ s.size → ∀ q ∈ (spP s c k).1, q.size ≤ s.size := fun k => by
    induction k with
    | zero => intro _ q hq; cases hq
    | succ k ih =>
      intro hk q hq
      by_cases h : ch s k = c
      · rw [spP_t h] at hq
        rcases List.mem_append.1 hq with hq | hq
        · exact ih (by omega) q hq
        · rw [List.mem_singleton.1 hq, ByteArray.size_extract]; omega
      · rw [spP_f h] at hq; exact ih (by omega) q hq
  unfold spA at h
  rcases List.mem_append.1 h with h | h
  · exact key _ (Nat.le_refl _) p h
  · rw [List.mem_singleton.1 h, ByteArray.size_extract]; omega
end Go.Proofs.YtmkhafmkllfmkaaDoor
/- Texts of bytes: signs and texts. -/
namespace Go.Proofs.YtmkhafmkllfmkaaDoor
set_option linter.unusedSimpArgs false
set_option linter.unusedVariables false
set_option maxRecDepth 20000
set_option maxHeartbeats 1000000
open Go.Abs

/-- What a digit is worth. -/
def digI (c : UInt8) : Int := if digOk c then ((digV c).toNat : Int) else -1
theorem digI_ac (c : UInt8) (h : List Blk) : AC Tryd.prog 23 [B c] h (.tuple #[B (if digOk c then digV c else 0), .bool (digOk c)]) h := by
  (refine AC_begin (fun _ _ => Tryd.call23 _ _) Tryd.func23 rfl Tryd.ntmps23 Tryd.results23 (fun hwf => ?_); simp only [List.length_cons, List.length_nil, Nat.reduceAdd, Nat.reduceSub, List.replicate, List.cons_append, List.nil_append])
  cases e1 : decide (48 ≤ c) <;> cases e2 : decide (c ≤ 57) <;> cases e3 : decide (97 ≤ c) <;> cases e4 : decide (c ≤ 102)
  all_goals ((repeat (first | ((first | (refine And.intro ?_ ?_; focus exact PLA) | refine WA_seq (WA_region ?_) | refine WA_region ?_ | refine WA_exit ?_); try simp (maxSteps := 1000000) (disch := first | omega | rfl | decide | (simp only [List.length_cons, List.length_nil, List.length_append, Bs_length, Is_length, Vs_length, Bl_length, Il_length] <;> omega)) only [go_sem, Nat.reduceAdd, Int.reduceAdd, Int.reduceSub, Int.reduceMul, Bool.not_true, Bool.not_false, e1, e2, e3, e4, yieldA_at 2 7, yieldA_at 2 16]) | refine WA_seq ?_ | refine WA_block ?_ | (refine WA_skip ?_; try simp only [go_sem]) | (refine WA_ret ?_; try simp only [go_sem]) | refine WA_ct rfl ?_ | refine WA_cf rfl ?_)))
  all_goals (((first | refine ret_nA ?_ | refine ret_sA ?_ | refine ret_fA ?_); simp (maxSteps := 1000000) (disch := first | omega | rfl | decide | (simp only [List.length_cons, List.length_nil, List.length_append, Bs_length, Is_length, Vs_length, Bl_length, Il_length] <;> omega)) only [go_sem, Nat.reduceAdd, Int.reduceAdd, Int.reduceSub, Int.reduceMul, Bool.not_true, Bool.not_false, digOk, digV, e1, e2, e3, e4, Bool.and_true, Bool.and_false, Bool.or_true, Bool.or_false, if_true, if_false, Bool.false_eq_true]; try rfl))

end Go.Proofs.YtmkhafmkllfmkaaDoor
/- Texts of bytes: bytes of texts, boxes of texts. -/
namespace Go.Proofs.YtmkhafmkllfmkaaDoor
set_option linter.unusedSimpArgs false
set_option linter.unusedVariables false
set_option maxRecDepth 20000
set_option maxHeartbeats 1000000
open Go.Abs

theorem Bs_snoc1 {n : Nat} (f : Nat → UInt8) : Bs n f ++ [B (f n)] = Bs (n + 1) f := by
  unfold Bs; rw [List.range_succ, List.map_append]; rfl
theorem nib_or0 : ∀ d, d < 16 → ∀ e, e < 16 → (UInt8.ofNat (d * 16) ||| UInt8.ofNat e) = UInt8.ofNat (16 * d + e) := by decide +kernel
theorem nib_or {d e : UInt8} (hd : d.toNat < 16) (he : e.toNat < 16) : (UInt8.ofNat (d.toNat * 16) ||| e) = UInt8.ofNat (16 * d.toNat + e.toNat) := by
  have := nib_or0 d.toNat hd e.toNat he
  rwa [UInt8.ofNat_toNat] at this
theorem shl4 {P : Program} {T : TypeId} (k : IntKind) (d : UInt8) : abin P .shl T (B d) (.int k 4) = some (B (UInt8.ofNat (d.toNat * 16))) := by
  have := abin_shl_I (P := P) (T := T) .u8 k (d.toNat : Int) 4 (by omega)
  show abin P .shl T (.int .u8 (d.toNat : Int)) (.int k 4) = _
  rw [this, wrap_B, show min (Int.toNat 4) IntKind.u8.bits = 4 from rfl, show ((d.toNat : Int) * 2 ^ 4) = ((d.toNat * 16 : Nat) : Int) by rw [Int.natCast_mul]; rfl, toB_nat]
theorem allT_first {f : Nat → Bool} : ∀ {n : Nat}, allT f n = false → ∃ i, i < n ∧ f i = false ∧ allT f i = true
  | 0, h => by cases h
  | n + 1, h => by
    cases hn : allT f n with
    | false => obtain ⟨i, h1, h2, h3⟩ := allT_first hn; exact ⟨i, by omega, h2, h3⟩
    | true =>
      cases hf : f n with
      | false => exact ⟨n, by omega, hf, hn⟩
      | true => rw [allT_s hn hf] at h; cases h
theorem allT_get {f : Nat → Bool} {n i : Nat} (h : allT f n = true) (hi : i < n) : f i = true := List.all_eq_true.1 h i (List.mem_range.2 hi)
theorem gdP_t {s : ByteArray} {k : Nat} (h : gdP s k = true) : digOk (ch s (2 * k)) = true ∧ digOk (ch s (2 * k + 1)) = true := by
  unfold gdP at h; rwa [Bool.and_eq_true] at h
theorem digI_t {c : UInt8} (h : digOk c = true) : digI c = (((digV c).toNat : Nat) : Int) := if_pos h
theorem digI_f {c : UInt8} (h : digOk c = false) : digI c = -1 := if_neg (by rw [h]; decide)
theorem ch_is (s : ByteArray) (i : Nat) : s.data.getD i 0 = ch s i := rfl
theorem unV_is (s : ByteArray) (k : Nat) : UInt8.ofNat (16 * (digV (ch s (2 * k))).toNat + (digV (ch s (2 * k + 1))).toNat) = unV s k := rfl
def digI0 (a b c d : Bool) (x : UInt8) : Int := if a && b then ((x - 48).toNat : Int) else if c && d then (((x - 97).toNat + 10 : Nat) : Int) else -1
theorem dig10 : ∀ n, n < 256 → 97 ≤ UInt8.ofNat n → UInt8.ofNat n ≤ 102 → (UInt8.ofNat n - 97 + 10).toNat = (UInt8.ofNat n - 97).toNat + 10 := by decide +kernel
theorem dig_I (c : UInt8) : digI c = digI0 (decide (48 ≤ c)) (decide (c ≤ 57)) (decide (97 ≤ c)) (decide (c ≤ 102)) c := by
  unfold digI digI0 digOk digV
  cases e : (decide (48 ≤ c) && decide (c ≤ 57))
  · cases e2 : (decide (97 ≤ c) && decide (c ≤ 102))
    · rfl
    · rw [Bool.and_eq_true, decide_eq_true_eq, decide_eq_true_eq] at e2
      have := dig10 c.toNat (u8_lt c)
      rw [UInt8.ofNat_toNat] at this
      show (((c - 97 + 10).toNat : Nat) : Int) = _
      rw [this e2.1 e2.2]; rfl
  · rfl
attribute [local irreducible] ch unV digV digOk
theorem fromI_ok {s : ByteArray} (hs : s.size ≤ 1048576) (hx : hexOk s = true) (h : List Blk) : AC Tryd.prog 11 [.string s] h (.tuple #[sl h.length 0 (s.size / 2) 1, .bool true]) (h ++ [⟨Bs (s.size / 2) (unV s), true⟩]) := by
  unfold hexOk at hx
  rw [Bool.and_eq_true, beq_iff_eq] at hx
  obtain ⟨h0, h1⟩ := hx
  have hb0 : (s.size % 2 == 1) = false := by rw [h0]; rfl
  (refine AC_begin (fun _ _ => Tryd.call11 _ _) Tryd.func11 rfl Tryd.ntmps11 Tryd.results11 (fun hwf => ?_); simp only [List.length_cons, List.length_nil, Nat.reduceAdd, Nat.reduceSub, List.replicate, List.cons_append, List.nil_append])
  (repeat (first | ((first | (refine And.intro ?_ ?_; focus exact PLA) | refine WA_seq (WA_region ?_) | refine WA_region ?_ | refine WA_exit ?_); try simp (maxSteps := 1000000) (disch := first | omega | rfl | decide | (simp only [List.length_cons, List.length_nil, List.length_append, Bs_length, Is_length, Vs_length, Bl_length, Il_length] <;> omega)) only [go_sem, Nat.reduceAdd, Int.reduceAdd, Int.reduceSub, Int.reduceMul, Bool.not_true, Bool.not_false, hb0, yieldA_at 2 38]) | refine WA_seq ?_ | refine WA_block ?_ | (refine WA_skip ?_; try simp only [go_sem]) | (refine WA_ret ?_; try simp only [go_sem]) | refine WA_ct rfl ?_ | refine WA_cf rfl ?_))
  refine WA_forP (fun k => [(2, J), (3, J), (4, sl h.length 0 k 1), (5, .int .i64 ((2 * k : Nat))), (6, J), (7, J), (8, J), (9, J), (10, J), (15, J), (16, J), (17, J), (18, J), (19, J), (20, J), (21, J), (22, J), (23, J), (24, J), (25, J), (26, J), (27, J), (28, J), (29, J), (30, J), (31, J), (32, J), (33, J), (34, J), (35, J), (36, J), (37, J), (38, J), (39, J), (40, J), (41, J), (42, J), (43, J), (44, J), (45, J), (46, J), (47, J), (48, J)]) (fun k => [(0, ⟨Bs k (unV s), true⟩)]) (s.size / 2) ?_ ?_ ?_ <;> (try simp only [patT_cons, patT_nil, patL_cons, patL_nil, list_set_zero, list_set_succ, blk_set_zero, blk_set_succ])
  · rw [Nat.mul_zero]
    (refine Drop_slots (by first | exact Nat.le_refl _ | simp) ?_; focus ((try simp only [JL_same, JL_J, JL_nil, Int.reduceAdd, Nat.sub_sub, Int.natCast_add, Int.natCast_one, Int.natCast_zero, Int.cast_ofNat_Int, Nat.add_zero, Bool.false_eq_true, if_false, if_true]); (try exact JL_refl _)))
  · intro k hk
    obtain ⟨g0, g1⟩ := gdP_t (allT_get h1 hk)
    have v0 := (hex_dig g0).2
    have v1 := (hex_dig g1).2
    have hor := nib_or v0 v1
    rw [unV_is] at hor
    (repeat (first | ((first | (refine And.intro ?_ ?_; focus exact PLA) | ((first | with_reducible apply callB_i | with_reducible apply callK_intro | with_reducible apply callQ_i); (focus (first | assumption | (with_reducible apply digI_ac <;> (first | assumption | rfl | (simp (disch := omega) only [go_sem]; first | done | rfl) | omega | decide | (simp; done))))); (try exact WP_au)) | refine WA_seq (WA_region ?_) | refine WA_region ?_ | refine WA_exit ?_); try simp (maxSteps := 1000000) (disch := first | omega | rfl | decide | (simp only [List.length_cons, List.length_nil, List.length_append, Bs_length, Is_length, Vs_length, Bl_length, Il_length] <;> omega)) only [go_sem, Nat.reduceAdd, Int.reduceAdd, Int.reduceSub, Int.reduceMul, Bool.not_true, Bool.not_false, ch_is, g0, g1, if_true, Bool.not_true, shl4, hor, sub1, Bs_snoc1, yieldA_at 2 38]) | refine WA_seq ?_ | refine WA_block ?_ | (refine WA_skip ?_; try simp only [go_sem]) | (refine WA_ret ?_; try simp only [go_sem]) | refine WA_ct rfl ?_ | refine WA_cf rfl ?_))
    rw [show 2 * (k + 1) = 2 * k + 2 by omega]
    (refine Drop_gc [2] (by first | exact Nat.le_refl _ | first | assumption | omega | (simp only [List.length_append, List.length_cons, List.length_nil, List.length_replicate]; omega)) (by assumption) (by decide) ?_ ?_; (focus (repeat (first | exact trivial | (refine And.intro ⟨_, rfl, ?_⟩ ?_; (focus first | (refine Fit_plain ?_; simp only [go_sem, List.all_append, List.all_cons, List.all_nil, Bool.and_self]; done) | exact Fit_nil rfl | exact Fit_dead | (refine Fit_eq ?_ ?_; (focus simp only [go_sem, List.all_append, List.all_cons, List.all_nil, Bool.and_self]); (focus (first | rfl | (simp only [Int.natCast_add, Int.natCast_one, Int.natCast_zero, Int.cast_ofNat_Int, Nat.add_zero]; done) | (simp only [Int.natCast_add, Int.natCast_one, Int.natCast_zero, Int.cast_ofNat_Int, Nat.add_zero]; rfl))))))))); (focus (repeat (first | exact JR_nil | refine JR_J ?_ | (refine JR_plain ?_ ?_; (focus first | rfl | (refine plain_agg ?_; simp only [go_sem, List.all_append, List.all_cons, List.all_nil, Bool.and_self]; done))) | ((first | refine JR_pt ?_ ?_ ?_ | refine JR_sl ?_ ?_ ?_); (focus first | (rw [rhoF_new0]; rfl) | (rw [rhoF_new]; rfl) | (rw [rhoF_old]; first | assumption | omega)); (focus first | assumption | omega | (simp only [List.length_append, List.length_cons, List.length_nil, List.length_replicate]; omega))) | (refine JR_plain' ?_ ?_ ?_; (focus first | rfl | (refine plain_agg ?_; simp only [go_sem, List.all_append, List.all_cons, List.all_nil, Bool.and_self]; done)); (focus (first | rfl | (simp only [Int.natCast_add, Int.natCast_one, Int.natCast_zero, Int.cast_ofNat_Int, Nat.add_zero]; done) | (simp only [Int.natCast_add, Int.natCast_one, Int.natCast_zero, Int.cast_ofNat_Int, Nat.add_zero]; rfl)))) | (refine JR_sl' ?_ ?_ ?_ ?_; (focus first | (rw [rhoF_new0]; rfl) | (rw [rhoF_new]; rfl) | (rw [rhoF_old]; first | assumption | omega)); (focus first | assumption | omega | (simp only [List.length_append, List.length_cons, List.length_nil, List.length_replicate]; omega)); (focus first | rfl | omega | (first | rfl | (simp only [Int.natCast_add, Int.natCast_one, Int.natCast_zero, Int.cast_ofNat_Int, Nat.add_zero]; done) | (simp only [Int.natCast_add, Int.natCast_one, Int.natCast_zero, Int.cast_ofNat_Int, Nat.add_zero]; rfl))))))))
  · (repeat (first | ((first | (refine And.intro ?_ ?_; focus exact PLA) | refine WA_seq (WA_region ?_) | refine WA_region ?_ | refine WA_exit ?_); try simp (maxSteps := 1000000) (disch := first | omega | rfl | decide | (simp only [List.length_cons, List.length_nil, List.length_append, Bs_length, Is_length, Vs_length, Bl_length, Il_length] <;> omega)) only [go_sem, Nat.reduceAdd, Int.reduceAdd, Int.reduceSub, Int.reduceMul, Bool.not_true, Bool.not_false, yieldA_at 2 38]) | refine WA_seq ?_ | refine WA_block ?_ | (refine WA_skip ?_; try simp only [go_sem]) | (refine WA_ret ?_; try simp only [go_sem]) | refine WA_ct rfl ?_ | refine WA_cf rfl ?_))
    ((first | refine ret_nA ?_ | refine ret_sA ?_ | refine ret_fA ?_); simp (maxSteps := 1000000) (disch := first | omega | rfl | decide | (simp only [List.length_cons, List.length_nil, List.length_append, Bs_length, Is_length, Vs_length, Bl_length, Il_length] <;> omega)) only [go_sem, Nat.reduceAdd, Int.reduceAdd, Int.reduceSub, Int.reduceMul, Bool.not_true, Bool.not_false]; try rfl)
theorem fromI_no {s : ByteArray} (hs : s.size ≤ 1048576) (hx : hexOk s = false) (h : List Blk) : AC Tryd.prog 11 [.string s] h (.tuple #[.slice none 0 0, .bool false]) h := by
  unfold hexOk at hx
  by_cases h0 : s.size % 2 = 0
  · have hb0 : (s.size % 2 == 1) = false := by rw [h0]; rfl
    rw [h0] at hx
    obtain ⟨i, hi, hf, hall⟩ := allT_first hx
    (refine AC_begin (fun _ _ => Tryd.call11 _ _) Tryd.func11 rfl Tryd.ntmps11 Tryd.results11 (fun hwf => ?_); simp only [List.length_cons, List.length_nil, Nat.reduceAdd, Nat.reduceSub, List.replicate, List.cons_append, List.nil_append])
    (repeat (first | ((first | (refine And.intro ?_ ?_; focus exact PLA) | refine WA_seq (WA_region ?_) | refine WA_region ?_ | refine WA_exit ?_); try simp (maxSteps := 1000000) (disch := first | omega | rfl | decide | (simp only [List.length_cons, List.length_nil, List.length_append, Bs_length, Is_length, Vs_length, Bl_length, Il_length] <;> omega)) only [go_sem, Nat.reduceAdd, Int.reduceAdd, Int.reduceSub, Int.reduceMul, Bool.not_true, Bool.not_false, hb0, yieldA_at 2 38]) | refine WA_seq ?_ | refine WA_block ?_ | (refine WA_skip ?_; try simp only [go_sem]) | (refine WA_ret ?_; try simp only [go_sem]) | refine WA_ct rfl ?_ | refine WA_cf rfl ?_))
    refine WA_forP (fun k => [(2, J), (3, J), (4, sl h.length 0 k 1), (5, .int .i64 ((2 * k : Nat))), (6, J), (7, J), (8, J), (9, J), (10, J), (15, J), (16, J), (17, J), (18, J), (19, J), (20, J), (21, J), (22, J), (23, J), (24, J), (25, J), (26, J), (27, J), (28, J), (29, J), (30, J), (31, J), (32, J), (33, J), (34, J), (35, J), (36, J), (37, J), (38, J), (39, J), (40, J), (41, J), (42, J), (43, J), (44, J), (45, J), (46, J), (47, J), (48, J)]) (fun k => [(0, ⟨Bs k (unV s), true⟩)]) (i) ?_ ?_ ?_ <;> (try simp only [patT_cons, patT_nil, patL_cons, patL_nil, list_set_zero, list_set_succ, blk_set_zero, blk_set_succ])
    · rw [Nat.mul_zero]
      (refine Drop_slots (by first | exact Nat.le_refl _ | simp) ?_; focus ((try simp only [JL_same, JL_J, JL_nil, Int.reduceAdd, Nat.sub_sub, Int.natCast_add, Int.natCast_one, Int.natCast_zero, Int.cast_ofNat_Int, Nat.add_zero, Bool.false_eq_true, if_false, if_true]); (try exact JL_refl _)))
    · intro k hk
      obtain ⟨g0, g1⟩ := gdP_t (allT_get hall hk)
      have v0 := (hex_dig g0).2
      have v1 := (hex_dig g1).2
      have hor := nib_or v0 v1
      rw [unV_is] at hor
      (repeat (first | ((first | (refine And.intro ?_ ?_; focus exact PLA) | ((first | with_reducible apply callB_i | with_reducible apply callK_intro | with_reducible apply callQ_i); (focus (first | assumption | (with_reducible apply digI_ac <;> (first | assumption | rfl | (simp (disch := omega) only [go_sem]; first | done | rfl) | omega | decide | (simp; done))))); (try exact WP_au)) | refine WA_seq (WA_region ?_) | refine WA_region ?_ | refine WA_exit ?_); try simp (maxSteps := 1000000) (disch := first | omega | rfl | decide | (simp only [List.length_cons, List.length_nil, List.length_append, Bs_length, Is_length, Vs_length, Bl_length, Il_length] <;> omega)) only [go_sem, Nat.reduceAdd, Int.reduceAdd, Int.reduceSub, Int.reduceMul, Bool.not_true, Bool.not_false, ch_is, g0, g1, if_true, Bool.not_true, shl4, hor, sub1, Bs_snoc1, yieldA_at 2 38]) | refine WA_seq ?_ | refine WA_block ?_ | (refine WA_skip ?_; try simp only [go_sem]) | (refine WA_ret ?_; try simp only [go_sem]) | refine WA_ct rfl ?_ | refine WA_cf rfl ?_))
      rw [show 2 * (k + 1) = 2 * k + 2 by omega]
      (refine Drop_gc [2] (by first | exact Nat.le_refl _ | first | assumption | omega | (simp only [List.length_append, List.length_cons, List.length_nil, List.length_replicate]; omega)) (by assumption) (by decide) ?_ ?_; (focus (repeat (first | exact trivial | (refine And.intro ⟨_, rfl, ?_⟩ ?_; (focus first | (refine Fit_plain ?_; simp only [go_sem, List.all_append, List.all_cons, List.all_nil, Bool.and_self]; done) | exact Fit_nil rfl | exact Fit_dead | (refine Fit_eq ?_ ?_; (focus simp only [go_sem, List.all_append, List.all_cons, List.all_nil, Bool.and_self]); (focus (first | rfl | (simp only [Int.natCast_add, Int.natCast_one, Int.natCast_zero, Int.cast_ofNat_Int, Nat.add_zero]; done) | (simp only [Int.natCast_add, Int.natCast_one, Int.natCast_zero, Int.cast_ofNat_Int, Nat.add_zero]; rfl))))))))); (focus (repeat (first | exact JR_nil | refine JR_J ?_ | (refine JR_plain ?_ ?_; (focus first | rfl | (refine plain_agg ?_; simp only [go_sem, List.all_append, List.all_cons, List.all_nil, Bool.and_self]; done))) | ((first | refine JR_pt ?_ ?_ ?_ | refine JR_sl ?_ ?_ ?_); (focus first | (rw [rhoF_new0]; rfl) | (rw [rhoF_new]; rfl) | (rw [rhoF_old]; first | assumption | omega)); (focus first | assumption | omega | (simp only [List.length_append, List.length_cons, List.length_nil, List.length_replicate]; omega))) | (refine JR_plain' ?_ ?_ ?_; (focus first | rfl | (refine plain_agg ?_; simp only [go_sem, List.all_append, List.all_cons, List.all_nil, Bool.and_self]; done)); (focus (first | rfl | (simp only [Int.natCast_add, Int.natCast_one, Int.natCast_zero, Int.cast_ofNat_Int, Nat.add_zero]; done) | (simp only [Int.natCast_add, Int.natCast_one, Int.natCast_zero, Int.cast_ofNat_Int, Nat.add_zero]; rfl)))) | (refine JR_sl' ?_ ?_ ?_ ?_; (focus first | (rw [rhoF_new0]; rfl) | (rw [rhoF_new]; rfl) | (rw [rhoF_old]; first | assumption | omega)); (focus first | assumption | omega | (simp only [List.length_append, List.length_cons, List.length_nil, List.length_replicate]; omega)); (focus first | rfl | omega | (first | rfl | (simp only [Int.natCast_add, Int.natCast_one, Int.natCast_zero, Int.cast_ofNat_Int, Nat.add_zero]; done) | (simp only [Int.natCast_add, Int.natCast_one, Int.natCast_zero, Int.cast_ofNat_Int, Nat.add_zero]; rfl))))))))
    · unfold gdP at hf
      cases g0 : digOk (ch s (2 * i)) <;> cases g1 : digOk (ch s (2 * i + 1))
      all_goals try (rw [g0, g1] at hf; cases hf; done)
      all_goals ((repeat (first | ((first | (refine And.intro ?_ ?_; focus exact PLA) | ((first | with_reducible apply callB_i | with_reducible apply callK_intro | with_reducible apply callQ_i); (focus (first | assumption | (with_reducible apply digI_ac <;> (first | assumption | rfl | (simp (disch := omega) only [go_sem]; first | done | rfl) | omega | decide | (simp; done))))); (try exact WP_au)) | refine WA_seq (WA_region ?_) | refine WA_region ?_ | refine WA_exit ?_); try simp (maxSteps := 1000000) (disch := first | omega | rfl | decide | (simp only [List.length_cons, List.length_nil, List.length_append, Bs_length, Is_length, Vs_length, Bl_length, Il_length] <;> omega)) only [go_sem, Nat.reduceAdd, Int.reduceAdd, Int.reduceSub, Int.reduceMul, Bool.not_true, Bool.not_false, ch_is, g0, g1, if_true, Bool.not_true, Bool.not_false, yieldA_at 2 38]) | refine WA_seq ?_ | refine WA_block ?_ | (refine WA_skip ?_; try simp only [go_sem]) | (refine WA_ret ?_; try simp only [go_sem]) | refine WA_ct rfl ?_ | refine WA_cf rfl ?_)))
      all_goals ((first | refine ret_nA ?_ | refine ret_sA ?_ | refine ret_fA ?_); simp (maxSteps := 1000000) (disch := first | omega | rfl | decide | (simp only [List.length_cons, List.length_nil, List.length_append, Bs_length, Is_length, Vs_length, Bl_length, Il_length] <;> omega)) only [go_sem, Nat.reduceAdd, Int.reduceAdd, Int.reduceSub, Int.reduceMul, Bool.not_true, Bool.not_false]; try rfl)
  · have hb0 : (s.size % 2 == 1) = true := by rw [show s.size % 2 = 1 by omega]; rfl
    (refine AC_begin (fun _ _ => Tryd.call11 _ _) Tryd.func11 rfl Tryd.ntmps11 Tryd.results11 (fun hwf => ?_); simp only [List.length_cons, List.length_nil, Nat.reduceAdd, Nat.reduceSub, List.replicate, List.cons_append, List.nil_append])
    (repeat (first | ((first | (refine And.intro ?_ ?_; focus exact PLA) | refine WA_seq (WA_region ?_) | refine WA_region ?_ | refine WA_exit ?_); try simp (maxSteps := 1000000) (disch := first | omega | rfl | decide | (simp only [List.length_cons, List.length_nil, List.length_append, Bs_length, Is_length, Vs_length, Bl_length, Il_length] <;> omega)) only [go_sem, Nat.reduceAdd, Int.reduceAdd, Int.reduceSub, Int.reduceMul, Bool.not_true, Bool.not_false, hb0, yieldA_at 2 38]) | refine WA_seq ?_ | refine WA_block ?_ | (refine WA_skip ?_; try simp only [go_sem]) | (refine WA_ret ?_; try simp only [go_sem]) | refine WA_ct rfl ?_ | refine WA_cf rfl ?_))
    ((first | refine ret_nA ?_ | refine ret_sA ?_ | refine ret_fA ?_); simp (maxSteps := 1000000) (disch := first | omega | rfl | decide | (simp only [List.length_cons, List.length_nil, List.length_append, Bs_length, Is_length, Vs_length, Bl_length, Il_length] <;> omega)) only [go_sem, Nat.reduceAdd, Int.reduceAdd, Int.reduceSub, Int.reduceMul, Bool.not_true, Bool.not_false]; try rfl)

theorem digS_ac (c : UInt8) (h : List Blk) : AC Tryd.prog 30 [B c] h (.int .i64 (digI c)) h := by
  have l1 := u8_lt (c - 48)
  have l2 := u8_lt (c - 97)
  have w1 := wrap_N (n := (c - 48).toNat) (by omega)
  have w2 := wrap_N (n := (c - 97).toNat) (by omega)
  have w3 : IntKind.i64.wrap (((c - 97).toNat : Int) + 10) = (((c - 97).toNat + 10 : Nat) : Int) := wrap_N (n := (c - 97).toNat + 10) (by omega)
  (refine AC_begin (fun _ _ => Tryd.call30 _ _) Tryd.func30 rfl Tryd.ntmps30 Tryd.results30 (fun hwf => ?_); simp only [List.length_cons, List.length_nil, Nat.reduceAdd, Nat.reduceSub, List.replicate, List.cons_append, List.nil_append])
  cases e1 : decide (48 ≤ c) <;> cases e2 : decide (c ≤ 57) <;> cases e3 : decide (97 ≤ c) <;> cases e4 : decide (c ≤ 102)
  all_goals ((repeat (first | ((first | (refine And.intro ?_ ?_; focus exact PLA) | refine WA_seq (WA_region ?_) | refine WA_region ?_ | refine WA_exit ?_); try simp (maxSteps := 1000000) (disch := first | omega | rfl | decide | (simp only [List.length_cons, List.length_nil, List.length_append, Bs_length, Is_length, Vs_length, Bl_length, Il_length] <;> omega)) only [go_sem, Nat.reduceAdd, Int.reduceAdd, Int.reduceSub, Int.reduceMul, Bool.not_true, Bool.not_false, e1, e2, e3, e4, w1, w2, w3, yieldA_at 2 6, yieldA_at 2 16]) | refine WA_seq ?_ | refine WA_block ?_ | (refine WA_skip ?_; try simp only [go_sem]) | (refine WA_ret ?_; try simp only [go_sem]) | refine WA_ct rfl ?_ | refine WA_cf rfl ?_)))
  all_goals (((first | refine ret_nA ?_ | refine ret_sA ?_ | refine ret_fA ?_); simp (maxSteps := 1000000) (disch := first | omega | rfl | decide | (simp only [List.length_cons, List.length_nil, List.length_append, Bs_length, Is_length, Vs_length, Bl_length, Il_length] <;> omega)) only [go_sem, Nat.reduceAdd, Int.reduceAdd, Int.reduceSub, Int.reduceMul, Bool.not_true, Bool.not_false, dig_I, digI0, w1, w2, w3, e1, e2, e3, e4, Bool.and_true, Bool.and_false, Bool.or_true, Bool.or_false, if_true, if_false, Bool.false_eq_true]; try rfl))

theorem fromS_ok {s : ByteArray} (hs : s.size ≤ 1048576) (hx : hexOk s = true) (h : List Blk) : AC Tryd.prog 17 [.string s] h (.tuple #[sl h.length 0 (s.size / 2) 1, .bool true]) (h ++ [⟨Bs (s.size / 2) (unV s), true⟩]) := by
  unfold hexOk at hx
  rw [Bool.and_eq_true, beq_iff_eq] at hx
  obtain ⟨h0, h1⟩ := hx
  have hb0 : (s.size % 2 != 0) = false := by rw [h0]; rfl
  (refine AC_begin (fun _ _ => Tryd.call17 _ _) Tryd.func17 rfl Tryd.ntmps17 Tryd.results17 (fun hwf => ?_); simp only [List.length_cons, List.length_nil, Nat.reduceAdd, Nat.reduceSub, List.replicate, List.cons_append, List.nil_append])
  (repeat (first | ((first | (refine And.intro ?_ ?_; focus exact PLA) | refine WA_seq (WA_region ?_) | refine WA_region ?_ | refine WA_exit ?_); try simp (maxSteps := 1000000) (disch := first | omega | rfl | decide | (simp only [List.length_cons, List.length_nil, List.length_append, Bs_length, Is_length, Vs_length, Bl_length, Il_length] <;> omega)) only [go_sem, Nat.reduceAdd, Int.reduceAdd, Int.reduceSub, Int.reduceMul, Bool.not_true, Bool.not_false, hb0, yieldA_at 2 31]) | refine WA_seq ?_ | refine WA_block ?_ | (refine WA_skip ?_; try simp only [go_sem]) | (refine WA_ret ?_; try simp only [go_sem]) | refine WA_ct rfl ?_ | refine WA_cf rfl ?_))
  refine WA_forP (fun k => [(2, J), (3, J), (4, sl h.length 0 k 1), (5, .int .i64 ((2 * k : Nat))), (6, J), (7, J), (8, J), (13, J), (14, J), (15, J), (16, J), (17, J), (18, J), (19, J), (20, J), (21, J), (22, J), (23, J), (24, J), (25, J), (26, J), (27, J), (28, J), (29, J), (30, J), (31, J), (32, J), (33, J), (34, J), (35, J), (36, J), (37, J), (38, J), (39, J), (40, J), (41, J), (42, J)]) (fun k => [(0, ⟨Bs k (unV s), true⟩)]) (s.size / 2) ?_ ?_ ?_ <;> (try simp only [patT_cons, patT_nil, patL_cons, patL_nil, list_set_zero, list_set_succ, blk_set_zero, blk_set_succ])
  · rw [Nat.mul_zero]
    (refine Drop_slots (by first | exact Nat.le_refl _ | simp) ?_; focus ((try simp only [JL_same, JL_J, JL_nil, Int.reduceAdd, Nat.sub_sub, Int.natCast_add, Int.natCast_one, Int.natCast_zero, Int.cast_ofNat_Int, Nat.add_zero, Bool.false_eq_true, if_false, if_true]); (try exact JL_refl _)))
  · intro k hk
    obtain ⟨g0, g1⟩ := gdP_t (allT_get h1 hk)
    have v0 := (hex_dig g0).2
    have v1 := (hex_dig g1).2
    (repeat (first | ((first | (refine And.intro ?_ ?_; focus exact PLA) | ((first | with_reducible apply callB_i | with_reducible apply callK_intro | with_reducible apply callQ_i); (focus (first | assumption | (with_reducible apply digS_ac <;> (first | assumption | rfl | (simp (disch := omega) only [go_sem]; first | done | rfl) | omega | decide | (simp; done))))); (try exact WP_au)) | refine WA_seq (WA_region ?_) | refine WA_region ?_ | refine WA_exit ?_); try simp (maxSteps := 1000000) (disch := first | omega | rfl | decide | (simp only [List.length_cons, List.length_nil, List.length_append, Bs_length, Is_length, Vs_length, Bl_length, Il_length] <;> omega)) only [go_sem, Nat.reduceAdd, Int.reduceAdd, Int.reduceSub, Int.reduceMul, Bool.not_true, Bool.not_false, ch_is, digI_t g0, digI_t g1, Nat.not_lt_zero, decide_false, unV_is, sub1, Bs_snoc1, yieldA_at 2 31]) | (refine WA_seq (WA_draw (id := 7) mixedOk (by kernel_rfl) ?_); simp (maxSteps := 1000000) (disch := first | omega | rfl | decide | (simp only [List.length_cons, List.length_nil, List.length_append, Bs_length, Is_length, Vs_length, Bl_length, Il_length] <;> omega)) only [go_sem, Nat.reduceAdd, Int.reduceAdd, Int.reduceSub, Int.reduceMul, Bool.not_true, Bool.not_false, ch_is, digI_t g0, digI_t g1, Nat.not_lt_zero, decide_false, unV_is, sub1, Bs_snoc1, yieldA_at 2 31]) | (refine WA_draw (id := 7) mixedOk (by kernel_rfl) ?_; simp (maxSteps := 1000000) (disch := first | omega | rfl | decide | (simp only [List.length_cons, List.length_nil, List.length_append, Bs_length, Is_length, Vs_length, Bl_length, Il_length] <;> omega)) only [go_sem, Nat.reduceAdd, Int.reduceAdd, Int.reduceSub, Int.reduceMul, Bool.not_true, Bool.not_false, ch_is, digI_t g0, digI_t g1, Nat.not_lt_zero, decide_false, unV_is, sub1, Bs_snoc1, yieldA_at 2 31]) | refine WA_seq ?_ | refine WA_block ?_ | (refine WA_skip ?_; try simp only [go_sem]) | (refine WA_ret ?_; try simp only [go_sem]) | refine WA_ct rfl ?_ | refine WA_cf rfl ?_))
    rw [show 2 * (k + 1) = 2 * k + 2 by omega]
    (refine Drop_gc [2] (by first | exact Nat.le_refl _ | first | assumption | omega | (simp only [List.length_append, List.length_cons, List.length_nil, List.length_replicate]; omega)) (by assumption) (by decide) ?_ ?_; (focus (repeat (first | exact trivial | (refine And.intro ⟨_, rfl, ?_⟩ ?_; (focus first | (refine Fit_plain ?_; simp only [go_sem, List.all_append, List.all_cons, List.all_nil, Bool.and_self]; done) | exact Fit_nil rfl | exact Fit_dead | (refine Fit_eq ?_ ?_; (focus simp only [go_sem, List.all_append, List.all_cons, List.all_nil, Bool.and_self]); (focus (first | rfl | (simp only [Int.natCast_add, Int.natCast_one, Int.natCast_zero, Int.cast_ofNat_Int, Nat.add_zero]; done) | (simp only [Int.natCast_add, Int.natCast_one, Int.natCast_zero, Int.cast_ofNat_Int, Nat.add_zero]; rfl))))))))); (focus (repeat (first | exact JR_nil | refine JR_J ?_ | (refine JR_plain ?_ ?_; (focus first | rfl | (refine plain_agg ?_; simp only [go_sem, List.all_append, List.all_cons, List.all_nil, Bool.and_self]; done))) | ((first | refine JR_pt ?_ ?_ ?_ | refine JR_sl ?_ ?_ ?_); (focus first | (rw [rhoF_new0]; rfl) | (rw [rhoF_new]; rfl) | (rw [rhoF_old]; first | assumption | omega)); (focus first | assumption | omega | (simp only [List.length_append, List.length_cons, List.length_nil, List.length_replicate]; omega))) | (refine JR_plain' ?_ ?_ ?_; (focus first | rfl | (refine plain_agg ?_; simp only [go_sem, List.all_append, List.all_cons, List.all_nil, Bool.and_self]; done)); (focus (first | rfl | (simp only [Int.natCast_add, Int.natCast_one, Int.natCast_zero, Int.cast_ofNat_Int, Nat.add_zero]; done) | (simp only [Int.natCast_add, Int.natCast_one, Int.natCast_zero, Int.cast_ofNat_Int, Nat.add_zero]; rfl)))) | (refine JR_sl' ?_ ?_ ?_ ?_; (focus first | (rw [rhoF_new0]; rfl) | (rw [rhoF_new]; rfl) | (rw [rhoF_old]; first | assumption | omega)); (focus first | assumption | omega | (simp only [List.length_append, List.length_cons, List.length_nil, List.length_replicate]; omega)); (focus first | rfl | omega | (first | rfl | (simp only [Int.natCast_add, Int.natCast_one, Int.natCast_zero, Int.cast_ofNat_Int, Nat.add_zero]; done) | (simp only [Int.natCast_add, Int.natCast_one, Int.natCast_zero, Int.cast_ofNat_Int, Nat.add_zero]; rfl))))))))
  · (repeat (first | ((first | (refine And.intro ?_ ?_; focus exact PLA) | refine WA_seq (WA_region ?_) | refine WA_region ?_ | refine WA_exit ?_); try simp (maxSteps := 1000000) (disch := first | omega | rfl | decide | (simp only [List.length_cons, List.length_nil, List.length_append, Bs_length, Is_length, Vs_length, Bl_length, Il_length] <;> omega)) only [go_sem, Nat.reduceAdd, Int.reduceAdd, Int.reduceSub, Int.reduceMul, Bool.not_true, Bool.not_false, yieldA_at 2 31]) | refine WA_seq ?_ | refine WA_block ?_ | (refine WA_skip ?_; try simp only [go_sem]) | (refine WA_ret ?_; try simp only [go_sem]) | refine WA_ct rfl ?_ | refine WA_cf rfl ?_))
    ((first | refine ret_nA ?_ | refine ret_sA ?_ | refine ret_fA ?_); simp (maxSteps := 1000000) (disch := first | omega | rfl | decide | (simp only [List.length_cons, List.length_nil, List.length_append, Bs_length, Is_length, Vs_length, Bl_length, Il_length] <;> omega)) only [go_sem, Nat.reduceAdd, Int.reduceAdd, Int.reduceSub, Int.reduceMul, Bool.not_true, Bool.not_false]; try rfl)
theorem fromS_no {s : ByteArray} (hs : s.size ≤ 1048576) (hx : hexOk s = false) (h : List Blk) : AC Tryd.prog 17 [.string s] h (.tuple #[.slice none 0 0, .bool false]) h := by
  unfold hexOk at hx
  by_cases h0 : s.size % 2 = 0
  · have hb0 : (s.size % 2 != 0) = false := by rw [h0]; rfl
    rw [h0] at hx
    obtain ⟨i, hi, hf, hall⟩ := allT_first hx
    (refine AC_begin (fun _ _ => Tryd.call17 _ _) Tryd.func17 rfl Tryd.ntmps17 Tryd.results17 (fun hwf => ?_); simp only [List.length_cons, List.length_nil, Nat.reduceAdd, Nat.reduceSub, List.replicate, List.cons_append, List.nil_append])
    (repeat (first | ((first | (refine And.intro ?_ ?_; focus exact PLA) | refine WA_seq (WA_region ?_) | refine WA_region ?_ | refine WA_exit ?_); try simp (maxSteps := 1000000) (disch := first | omega | rfl | decide | (simp only [List.length_cons, List.length_nil, List.length_append, Bs_length, Is_length, Vs_length, Bl_length, Il_length] <;> omega)) only [go_sem, Nat.reduceAdd, Int.reduceAdd, Int.reduceSub, Int.reduceMul, Bool.not_true, Bool.not_false, hb0, yieldA_at 2 31]) | refine WA_seq ?_ | refine WA_block ?_ | (refine WA_skip ?_; try simp only [go_sem]) | (refine WA_ret ?_; try simp only [go_sem]) | refine WA_ct rfl ?_ | refine WA_cf rfl ?_))
    refine WA_forP (fun k => [(2, J), (3, J), (4, sl h.length 0 k 1), (5, .int .i64 ((2 * k : Nat))), (6, J), (7, J), (8, J), (13, J), (14, J), (15, J), (16, J), (17, J), (18, J), (19, J), (20, J), (21, J), (22, J), (23, J), (24, J), (25, J), (26, J), (27, J), (28, J), (29, J), (30, J), (31, J), (32, J), (33, J), (34, J), (35, J), (36, J), (37, J), (38, J), (39, J), (40, J), (41, J), (42, J)]) (fun k => [(0, ⟨Bs k (unV s), true⟩)]) (i) ?_ ?_ ?_ <;> (try simp only [patT_cons, patT_nil, patL_cons, patL_nil, list_set_zero, list_set_succ, blk_set_zero, blk_set_succ])
    · rw [Nat.mul_zero]
      (refine Drop_slots (by first | exact Nat.le_refl _ | simp) ?_; focus ((try simp only [JL_same, JL_J, JL_nil, Int.reduceAdd, Nat.sub_sub, Int.natCast_add, Int.natCast_one, Int.natCast_zero, Int.cast_ofNat_Int, Nat.add_zero, Bool.false_eq_true, if_false, if_true]); (try exact JL_refl _)))
    · intro k hk
      obtain ⟨g0, g1⟩ := gdP_t (allT_get hall hk)
      have v0 := (hex_dig g0).2
      have v1 := (hex_dig g1).2
      (repeat (first | ((first | (refine And.intro ?_ ?_; focus exact PLA) | ((first | with_reducible apply callB_i | with_reducible apply callK_intro | with_reducible apply callQ_i); (focus (first | assumption | (with_reducible apply digS_ac <;> (first | assumption | rfl | (simp (disch := omega) only [go_sem]; first | done | rfl) | omega | decide | (simp; done))))); (try exact WP_au)) | refine WA_seq (WA_region ?_) | refine WA_region ?_ | refine WA_exit ?_); try simp (maxSteps := 1000000) (disch := first | omega | rfl | decide | (simp only [List.length_cons, List.length_nil, List.length_append, Bs_length, Is_length, Vs_length, Bl_length, Il_length] <;> omega)) only [go_sem, Nat.reduceAdd, Int.reduceAdd, Int.reduceSub, Int.reduceMul, Bool.not_true, Bool.not_false, ch_is, digI_t g0, digI_t g1, Nat.not_lt_zero, decide_false, unV_is, sub1, Bs_snoc1, yieldA_at 2 31]) | (refine WA_seq (WA_draw (id := 7) mixedOk (by kernel_rfl) ?_); simp (maxSteps := 1000000) (disch := first | omega | rfl | decide | (simp only [List.length_cons, List.length_nil, List.length_append, Bs_length, Is_length, Vs_length, Bl_length, Il_length] <;> omega)) only [go_sem, Nat.reduceAdd, Int.reduceAdd, Int.reduceSub, Int.reduceMul, Bool.not_true, Bool.not_false, ch_is, digI_t g0, digI_t g1, Nat.not_lt_zero, decide_false, unV_is, sub1, Bs_snoc1, yieldA_at 2 31]) | (refine WA_draw (id := 7) mixedOk (by kernel_rfl) ?_; simp (maxSteps := 1000000) (disch := first | omega | rfl | decide | (simp only [List.length_cons, List.length_nil, List.length_append, Bs_length, Is_length, Vs_length, Bl_length, Il_length] <;> omega)) only [go_sem, Nat.reduceAdd, Int.reduceAdd, Int.reduceSub, Int.reduceMul, Bool.not_true, Bool.not_false, ch_is, digI_t g0, digI_t g1, Nat.not_lt_zero, decide_false, unV_is, sub1, Bs_snoc1, yieldA_at 2 31]) | refine WA_seq ?_ | refine WA_block ?_ | (refine WA_skip ?_; try simp only [go_sem]) | (refine WA_ret ?_; try simp only [go_sem]) | refine WA_ct rfl ?_ | refine WA_cf rfl ?_))
      rw [show 2 * (k + 1) = 2 * k + 2 by omega]
      (refine Drop_gc [2] (by first | exact Nat.le_refl _ | first | assumption | omega | (simp only [List.length_append, List.length_cons, List.length_nil, List.length_replicate]; omega)) (by assumption) (by decide) ?_ ?_; (focus (repeat (first | exact trivial | (refine And.intro ⟨_, rfl, ?_⟩ ?_; (focus first | (refine Fit_plain ?_; simp only [go_sem, List.all_append, List.all_cons, List.all_nil, Bool.and_self]; done) | exact Fit_nil rfl | exact Fit_dead | (refine Fit_eq ?_ ?_; (focus simp only [go_sem, List.all_append, List.all_cons, List.all_nil, Bool.and_self]); (focus (first | rfl | (simp only [Int.natCast_add, Int.natCast_one, Int.natCast_zero, Int.cast_ofNat_Int, Nat.add_zero]; done) | (simp only [Int.natCast_add, Int.natCast_one, Int.natCast_zero, Int.cast_ofNat_Int, Nat.add_zero]; rfl))))))))); (focus (repeat (first | exact JR_nil | refine JR_J ?_ | (refine JR_plain ?_ ?_; (focus first | rfl | (refine plain_agg ?_; simp only [go_sem, List.all_append, List.all_cons, List.all_nil, Bool.and_self]; done))) | ((first | refine JR_pt ?_ ?_ ?_ | refine JR_sl ?_ ?_ ?_); (focus first | (rw [rhoF_new0]; rfl) | (rw [rhoF_new]; rfl) | (rw [rhoF_old]; first | assumption | omega)); (focus first | assumption | omega | (simp only [List.length_append, List.length_cons, List.length_nil, List.length_replicate]; omega))) | (refine JR_plain' ?_ ?_ ?_; (focus first | rfl | (refine plain_agg ?_; simp only [go_sem, List.all_append, List.all_cons, List.all_nil, Bool.and_self]; done)); (focus (first | rfl | (simp only [Int.natCast_add, Int.natCast_one, Int.natCast_zero, Int.cast_ofNat_Int, Nat.add_zero]; done) | (simp only [Int.natCast_add, Int.natCast_one, Int.natCast_zero, Int.cast_ofNat_Int, Nat.add_zero]; rfl)))) | (refine JR_sl' ?_ ?_ ?_ ?_; (focus first | (rw [rhoF_new0]; rfl) | (rw [rhoF_new]; rfl) | (rw [rhoF_old]; first | assumption | omega)); (focus first | assumption | omega | (simp only [List.length_append, List.length_cons, List.length_nil, List.length_replicate]; omega)); (focus first | rfl | omega | (first | rfl | (simp only [Int.natCast_add, Int.natCast_one, Int.natCast_zero, Int.cast_ofNat_Int, Nat.add_zero]; done) | (simp only [Int.natCast_add, Int.natCast_one, Int.natCast_zero, Int.cast_ofNat_Int, Nat.add_zero]; rfl))))))))
    · unfold gdP at hf
      have dneg : decide ((-1 : Int) < 0) = true := by decide
      cases g0 : digOk (ch s (2 * i))
      · (repeat (first | ((first | (refine And.intro ?_ ?_; focus exact PLA) | ((first | with_reducible apply callB_i | with_reducible apply callK_intro | with_reducible apply callQ_i); (focus (first | assumption | (with_reducible apply digS_ac <;> (first | assumption | rfl | (simp (disch := omega) only [go_sem]; first | done | rfl) | omega | decide | (simp; done))))); (try exact WP_au)) | refine WA_seq (WA_region ?_) | refine WA_region ?_ | refine WA_exit ?_); try simp (maxSteps := 1000000) (disch := first | omega | rfl | decide | (simp only [List.length_cons, List.length_nil, List.length_append, Bs_length, Is_length, Vs_length, Bl_length, Il_length] <;> omega)) only [go_sem, Nat.reduceAdd, Int.reduceAdd, Int.reduceSub, Int.reduceMul, Bool.not_true, Bool.not_false, ch_is, digI_f g0, dneg, yieldA_at 2 31]) | (refine WA_seq (WA_draw (id := 7) mixedOk (by kernel_rfl) ?_); simp (maxSteps := 1000000) (disch := first | omega | rfl | decide | (simp only [List.length_cons, List.length_nil, List.length_append, Bs_length, Is_length, Vs_length, Bl_length, Il_length] <;> omega)) only [go_sem, Nat.reduceAdd, Int.reduceAdd, Int.reduceSub, Int.reduceMul, Bool.not_true, Bool.not_false, ch_is, digI_f g0, dneg, yieldA_at 2 31]) | (refine WA_draw (id := 7) mixedOk (by kernel_rfl) ?_; simp (maxSteps := 1000000) (disch := first | omega | rfl | decide | (simp only [List.length_cons, List.length_nil, List.length_append, Bs_length, Is_length, Vs_length, Bl_length, Il_length] <;> omega)) only [go_sem, Nat.reduceAdd, Int.reduceAdd, Int.reduceSub, Int.reduceMul, Bool.not_true, Bool.not_false, ch_is, digI_f g0, dneg, yieldA_at 2 31]) | refine WA_seq ?_ | refine WA_block ?_ | (refine WA_skip ?_; try simp only [go_sem]) | (refine WA_ret ?_; try simp only [go_sem]) | refine WA_ct rfl ?_ | refine WA_cf rfl ?_))
        ((first | refine ret_nA ?_ | refine ret_sA ?_ | refine ret_fA ?_); simp (maxSteps := 1000000) (disch := first | omega | rfl | decide | (simp only [List.length_cons, List.length_nil, List.length_append, Bs_length, Is_length, Vs_length, Bl_length, Il_length] <;> omega)) only [go_sem, Nat.reduceAdd, Int.reduceAdd, Int.reduceSub, Int.reduceMul, Bool.not_true, Bool.not_false]; try rfl)
      · rw [g0, Bool.true_and] at hf
        (repeat (first | ((first | (refine And.intro ?_ ?_; focus exact PLA) | ((first | with_reducible apply callB_i | with_reducible apply callK_intro | with_reducible apply callQ_i); (focus (first | assumption | (with_reducible apply digS_ac <;> (first | assumption | rfl | (simp (disch := omega) only [go_sem]; first | done | rfl) | omega | decide | (simp; done))))); (try exact WP_au)) | refine WA_seq (WA_region ?_) | refine WA_region ?_ | refine WA_exit ?_); try simp (maxSteps := 1000000) (disch := first | omega | rfl | decide | (simp only [List.length_cons, List.length_nil, List.length_append, Bs_length, Is_length, Vs_length, Bl_length, Il_length] <;> omega)) only [go_sem, Nat.reduceAdd, Int.reduceAdd, Int.reduceSub, Int.reduceMul, Bool.not_true, Bool.not_false, ch_is, digI_t g0, digI_f hf, Nat.not_lt_zero, decide_false, dneg, yieldA_at 2 31]) | (refine WA_seq (WA_draw (id := 7) mixedOk (by kernel_rfl) ?_); simp (maxSteps := 1000000) (disch := first | omega | rfl | decide | (simp only [List.length_cons, List.length_nil, List.length_append, Bs_length, Is_length, Vs_length, Bl_length, Il_length] <;> omega)) only [go_sem, Nat.reduceAdd, Int.reduceAdd, Int.reduceSub, Int.reduceMul, Bool.not_true, Bool.not_false, ch_is, digI_t g0, digI_f hf, Nat.not_lt_zero, decide_false, dneg, yieldA_at 2 31]) | (refine WA_draw (id := 7) mixedOk (by kernel_rfl) ?_; simp (maxSteps := 1000000) (disch := first | omega | rfl | decide | (simp only [List.length_cons, List.length_nil, List.length_append, Bs_length, Is_length, Vs_length, Bl_length, Il_length] <;> omega)) only [go_sem, Nat.reduceAdd, Int.reduceAdd, Int.reduceSub, Int.reduceMul, Bool.not_true, Bool.not_false, ch_is, digI_t g0, digI_f hf, Nat.not_lt_zero, decide_false, dneg, yieldA_at 2 31]) | refine WA_seq ?_ | refine WA_block ?_ | (refine WA_skip ?_; try simp only [go_sem]) | (refine WA_ret ?_; try simp only [go_sem]) | refine WA_ct rfl ?_ | refine WA_cf rfl ?_))
        ((first | refine ret_nA ?_ | refine ret_sA ?_ | refine ret_fA ?_); simp (maxSteps := 1000000) (disch := first | omega | rfl | decide | (simp only [List.length_cons, List.length_nil, List.length_append, Bs_length, Is_length, Vs_length, Bl_length, Il_length] <;> omega)) only [go_sem, Nat.reduceAdd, Int.reduceAdd, Int.reduceSub, Int.reduceMul, Bool.not_true, Bool.not_false]; try rfl)
  · have hb0 : (s.size % 2 != 0) = true := by rw [bne_iff_ne]; exact h0
    (refine AC_begin (fun _ _ => Tryd.call17 _ _) Tryd.func17 rfl Tryd.ntmps17 Tryd.results17 (fun hwf => ?_); simp only [List.length_cons, List.length_nil, Nat.reduceAdd, Nat.reduceSub, List.replicate, List.cons_append, List.nil_append])
    (repeat (first | ((first | (refine And.intro ?_ ?_; focus exact PLA) | refine WA_seq (WA_region ?_) | refine WA_region ?_ | refine WA_exit ?_); try simp (maxSteps := 1000000) (disch := first | omega | rfl | decide | (simp only [List.length_cons, List.length_nil, List.length_append, Bs_length, Is_length, Vs_length, Bl_length, Il_length] <;> omega)) only [go_sem, Nat.reduceAdd, Int.reduceAdd, Int.reduceSub, Int.reduceMul, Bool.not_true, Bool.not_false, hb0, yieldA_at 2 31]) | refine WA_seq ?_ | refine WA_block ?_ | (refine WA_skip ?_; try simp only [go_sem]) | (refine WA_ret ?_; try simp only [go_sem]) | refine WA_ct rfl ?_ | refine WA_cf rfl ?_))
    ((first | refine ret_nA ?_ | refine ret_sA ?_ | refine ret_fA ?_); simp (maxSteps := 1000000) (disch := first | omega | rfl | decide | (simp only [List.length_cons, List.length_nil, List.length_append, Bs_length, Is_length, Vs_length, Bl_length, Il_length] <;> omega)) only [go_sem, Nat.reduceAdd, Int.reduceAdd, Int.reduceSub, Int.reduceMul, Bool.not_true, Bool.not_false]; try rfl)

def parF (s : ByteArray) : Nat → UInt8 := if parOk s then unV s else zeroF
def parC (s : ByteArray) : Int := if parOk s then 0 else 6
theorem parI_ac {s : ByteArray} (hs : s.size ≤ 1048576) (h : List Blk) : AC Tryd.prog 10 [.string s] h (.tuple #[.agg (Bs 256 (parF s)).toArray, .int .i64 (parC s)]) h := by
  cases hx : hexOk s
  · have hp : parOk s = false := by unfold parOk; rw [hx]; rfl
    unfold parF parC
    rw [hp]
    (refine AC_begin (fun _ _ => Tryd.call10 _ _) Tryd.func10 rfl Tryd.ntmps10 Tryd.results10 (fun hwf => ?_); simp only [List.length_cons, List.length_nil, Nat.reduceAdd, Nat.reduceSub, List.replicate, List.cons_append, List.nil_append])
    (repeat (first | ((first | (refine And.intro ?_ ?_; focus exact PLA) | ((first | with_reducible apply callB_i | with_reducible apply callK_intro | with_reducible apply callQ_i); (focus (first | assumption | (with_reducible apply fromI_no hs hx <;> (first | assumption | rfl | (simp (disch := omega) only [go_sem]; first | done | rfl) | omega | decide | (simp; done))))); (try exact WP_au)) | refine WA_seq (WA_region ?_) | refine WA_region ?_ | refine WA_exit ?_); try simp (maxSteps := 1000000) (disch := first | omega | rfl | decide | (simp only [List.length_cons, List.length_nil, List.length_append, Bs_length, Is_length, Vs_length, Bl_length, Il_length] <;> omega)) only [go_sem, Nat.reduceAdd, Int.reduceAdd, Int.reduceSub, Int.reduceMul, Bool.not_true, Bool.not_false, Bool.not_false, yieldA_at 2 13]) | refine WA_seq ?_ | refine WA_block ?_ | (refine WA_skip ?_; try simp only [go_sem]) | (refine WA_ret ?_; try simp only [go_sem]) | refine WA_ct rfl ?_ | refine WA_cf rfl ?_))
    ((first | refine ret_nA ?_ | refine ret_sA ?_ | refine ret_fA ?_); simp (maxSteps := 1000000) (disch := first | omega | rfl | decide | (simp only [List.length_cons, List.length_nil, List.length_append, Bs_length, Is_length, Vs_length, Bl_length, Il_length] <;> omega)) only [go_sem, Nat.reduceAdd, Int.reduceAdd, Int.reduceSub, Int.reduceMul, Bool.not_true, Bool.not_false, Bool.false_eq_true, if_false, zeroF]; try rfl)
  · by_cases h5 : s.size = 512
    · have hp : parOk s = true := by unfold parOk; rw [hx, h5]; rfl
      have h256 : s.size / 2 = 256 := by omega
      have ho := fromI_ok hs hx
      rw [h256] at ho
      unfold parF parC
      rw [hp]
      (refine AC_begin (fun _ _ => Tryd.call10 _ _) Tryd.func10 rfl Tryd.ntmps10 Tryd.results10 (fun hwf => ?_); simp only [List.length_cons, List.length_nil, Nat.reduceAdd, Nat.reduceSub, List.replicate, List.cons_append, List.nil_append])
      (repeat (first | ((first | (refine And.intro ?_ ?_; focus exact PLA) | ((first | with_reducible apply callB_i | with_reducible apply callK_intro | with_reducible apply callQ_i); (focus (first | assumption | (with_reducible apply ho <;> (first | assumption | rfl | (simp (disch := omega) only [go_sem]; first | done | rfl) | omega | decide | (simp; done))))); (try exact WP_au)) | refine WA_seq (WA_region ?_) | refine WA_region ?_ | refine WA_exit ?_); try simp (maxSteps := 1000000) (disch := first | omega | rfl | decide | (simp only [List.length_cons, List.length_nil, List.length_append, Bs_length, Is_length, Vs_length, Bl_length, Il_length] <;> omega)) only [go_sem, Nat.reduceAdd, Int.reduceAdd, Int.reduceSub, Int.reduceMul, Bool.not_true, Bool.not_false, Bool.not_true, bne_self_eq_false, yieldA_at 2 13]) | refine WA_seq ?_ | refine WA_block ?_ | (refine WA_skip ?_; try simp only [go_sem]) | (refine WA_ret ?_; try simp only [go_sem]) | refine WA_ct rfl ?_ | refine WA_cf rfl ?_))
      ((first | refine ret_nA ?_ | refine ret_sA ?_ | refine ret_fA ?_); simp (maxSteps := 1000000) (disch := first | omega | rfl | decide | (simp only [List.length_cons, List.length_nil, List.length_append, Bs_length, Is_length, Vs_length, Bl_length, Il_length] <;> omega)) only [go_sem, Nat.reduceAdd, Int.reduceAdd, Int.reduceSub, Int.reduceMul, Bool.not_true, Bool.not_false, if_true]; try rfl)
    · have hp : parOk s = false := by
        unfold parOk; rw [hx, Bool.true_and]; exact beq_eq_false_iff_ne.2 h5
      have hev : s.size % 2 = 0 := by
        unfold hexOk at hx
        rw [Bool.and_eq_true, beq_iff_eq] at hx; exact hx.1
      have hne : (s.size / 2 != 256) = true := by rw [bne_iff_ne]; omega
      unfold parF parC
      rw [hp]
      (refine AC_begin (fun _ _ => Tryd.call10 _ _) Tryd.func10 rfl Tryd.ntmps10 Tryd.results10 (fun hwf => ?_); simp only [List.length_cons, List.length_nil, Nat.reduceAdd, Nat.reduceSub, List.replicate, List.cons_append, List.nil_append])
      (repeat (first | ((first | (refine And.intro ?_ ?_; focus exact PLA) | ((first | with_reducible apply callB_i | with_reducible apply callK_intro | with_reducible apply callQ_i); (focus (first | assumption | (with_reducible apply fromI_ok hs hx <;> (first | assumption | rfl | (simp (disch := omega) only [go_sem]; first | done | rfl) | omega | decide | (simp; done))))); (try exact WP_au)) | refine WA_seq (WA_region ?_) | refine WA_region ?_ | refine WA_exit ?_); try simp (maxSteps := 1000000) (disch := first | omega | rfl | decide | (simp only [List.length_cons, List.length_nil, List.length_append, Bs_length, Is_length, Vs_length, Bl_length, Il_length] <;> omega)) only [go_sem, Nat.reduceAdd, Int.reduceAdd, Int.reduceSub, Int.reduceMul, Bool.not_true, Bool.not_false, Bool.not_true, hne, yieldA_at 2 13]) | refine WA_seq ?_ | refine WA_block ?_ | (refine WA_skip ?_; try simp only [go_sem]) | (refine WA_ret ?_; try simp only [go_sem]) | refine WA_ct rfl ?_ | refine WA_cf rfl ?_))
      ((first | refine ret_nA ?_ | refine ret_sA ?_ | refine ret_fA ?_); simp (maxSteps := 1000000) (disch := first | omega | rfl | decide | (simp only [List.length_cons, List.length_nil, List.length_append, Bs_length, Is_length, Vs_length, Bl_length, Il_length] <;> omega)) only [go_sem, Nat.reduceAdd, Int.reduceAdd, Int.reduceSub, Int.reduceMul, Bool.not_true, Bool.not_false, Bool.false_eq_true, if_false, zeroF]; try rfl)

end Go.Proofs.YtmkhafmkllfmkaaDoor
/- Texts cut at a sign: the reference and the library. -/
namespace Go.Proofs.YtmkhafmkllfmkaaDoor
set_option linter.unusedSimpArgs false
set_option linter.unusedVariables false
set_option maxRecDepth 20000
set_option maxHeartbeats 1000000
open Go.Abs

def Ss (L : List ByteArray) : List Value := L.map Value.string
@[go_sem] theorem Ss_length (L : List ByteArray) : (Ss L).length = L.length := by simp [Ss]
@[go_sem] theorem Ss_plain (L : List ByteArray) : (Ss L).all plainC = true := by
  unfold Ss; rw [List.all_map, List.all_eq_true]; intro x _; rfl
theorem Ss_snoc (L : List ByteArray) (x : ByteArray) : Ss L ++ [.string x] = Ss (L ++ [x]) := by unfold Ss; rw [List.map_append]; rfl
theorem spP_01 (s : ByteArray) (c : UInt8) : (spP s c 0).1 = [] := rfl
theorem spP_02 (s : ByteArray) (c : UInt8) : (spP s c 0).2 = 0 := rfl
theorem Ss_nil : Ss [] = [] := rfl
@[go_sem] theorem Ss_get {L : List ByteArray} {i : Nat} (h : i < L.length) : (Ss L)[i]? = some (.string (L.getD i ⟨#[]⟩)) := by simp [Ss, h, List.getD_eq_getElem?_getD]
theorem lit1S (z v : Value) : splice (repA [z] 1) (0 * 1) [v] = [v] := by rw [repA_one]; rfl
theorem len_snoc (L : List ByteArray) (x : ByteArray) : (L ++ [x]).length = L.length + 1 := by rw [List.length_append]; rfl
@[go_sem] theorem growR_Ss {h : List Blk} {b by' m : Nat} {L : List ByteArray} {news : List Value} (h2 : (L.length + m) * by' ≤ 140737488355328) : growR h b (some ⟨Ss L, true⟩) L.length 1 by' m news = some (sl h.length 0 (L.length + m) 1, h.set b dead ++ [⟨Ss L ++ news, true⟩]) := growR_some (by rw [Ss_length, Nat.mul_one]) h2
attribute [local irreducible] ch
theorem splitS0_ac {s : ByteArray} (c : UInt8) (hs : s.size ≤ 1048576) (h : List Blk) : AC Tryd.prog 16 [.string s, B c] h (sl (h.length + 2) 0 (spA s c).length 1) (h ++ [dead, ⟨[.string (s.extract (spP s c s.size).2 s.size)], true⟩, ⟨Ss (spA s c), true⟩]) := by
  (refine AC_begin (fun _ _ => Tryd.call16 _ _) Tryd.func16 rfl Tryd.ntmps16 Tryd.results16 (fun hwf => ?_); simp only [List.length_cons, List.length_nil, Nat.reduceAdd, Nat.reduceSub, List.replicate, List.cons_append, List.nil_append])
  (repeat (first | ((first | (refine And.intro ?_ ?_; focus exact PLA) | refine WA_seq (WA_region ?_) | refine WA_region ?_ | refine WA_exit ?_); try simp (maxSteps := 1000000) (disch := first | omega | rfl | decide | (simp only [List.length_cons, List.length_nil, List.length_append, Bs_length, Is_length, Vs_length, Bl_length, Il_length] <;> omega)) only [go_sem, Nat.reduceAdd, Int.reduceAdd, Int.reduceSub, Int.reduceMul, Bool.not_true, Bool.not_false]) | refine WA_seq ?_ | refine WA_block ?_ | (refine WA_skip ?_; try simp only [go_sem]) | (refine WA_ret ?_; try simp only [go_sem]) | refine WA_ct rfl ?_ | refine WA_cf rfl ?_))
  refine WA_forP (fun k => [(5, sl h.length 0 (spP s c k).1.length 1), (6, .int .i64 (((spP s c k).2 : Nat) : Int)), (7, .int .i64 k), (8, J), (9, J), (10, J), (11, J), (12, J), (13, J), (14, J), (15, J), (16, J), (17, J), (18, J), (19, J), (20, J), (21, J), (22, J), (23, J), (24, J), (25, J), (26, J), (27, J), (28, J)]) (fun k => [(0, ⟨Ss (spP s c k).1, true⟩)]) (s.size) ?_ ?_ ?_ <;> (try simp only [patT_cons, patT_nil, patL_cons, patL_nil, list_set_zero, list_set_succ, blk_set_zero, blk_set_succ])
  · (refine Drop_slots (by first | exact Nat.le_refl _ | simp) ?_; focus ((try simp only [JL_same, JL_J, JL_nil, Int.reduceAdd, Nat.sub_sub, Int.natCast_add, Int.natCast_one, Int.natCast_zero, Int.cast_ofNat_Int, Nat.add_zero, Bool.false_eq_true, if_false, if_true, spP_01, spP_02, Ss_nil, List.length_nil]); (try exact JL_refl _)))
  · intro k hk
    obtain ⟨h1, h2⟩ := spP_le s c k
    by_cases hc : ch s k = c
    · have hcb : (ch s k == c) = true := by rw [hc]; exact beq_self_eq_true c
      (repeat (first | ((first | (refine And.intro ?_ ?_; focus exact PLA) | refine WA_seq (WA_region ?_) | refine WA_region ?_ | refine WA_exit ?_); try simp (maxSteps := 1000000) (disch := first | omega | rfl | decide | (simp only [List.length_cons, List.length_nil, List.length_append, Bs_length, Is_length, Vs_length, Bl_length, Il_length] <;> omega)) only [go_sem, Nat.reduceAdd, Int.reduceAdd, Int.reduceSub, Int.reduceMul, Bool.not_true, Bool.not_false, ch_is, hcb, lit1S, sub1, Ss_snoc]) | refine WA_seq ?_ | refine WA_block ?_ | (refine WA_skip ?_; try simp only [go_sem]) | (refine WA_ret ?_; try simp only [go_sem]) | refine WA_ct rfl ?_ | refine WA_cf rfl ?_))
      rw [spP_t hc]
      simp only [len_snoc]
      (refine Drop_gc [2] (by first | exact Nat.le_refl _ | first | assumption | omega | (simp only [List.length_append, List.length_cons, List.length_nil, List.length_replicate]; omega)) (by assumption) (by decide) ?_ ?_; (focus (repeat (first | exact trivial | (refine And.intro ⟨_, rfl, ?_⟩ ?_; (focus first | (refine Fit_plain ?_; simp only [go_sem, List.all_append, List.all_cons, List.all_nil, Bool.and_self]; done) | exact Fit_nil rfl | exact Fit_dead | (refine Fit_eq ?_ ?_; (focus simp only [go_sem, List.all_append, List.all_cons, List.all_nil, Bool.and_self]); (focus (first | rfl | (simp only [Int.natCast_add, Int.natCast_one, Int.natCast_zero, Int.cast_ofNat_Int, Nat.add_zero]; done) | (simp only [Int.natCast_add, Int.natCast_one, Int.natCast_zero, Int.cast_ofNat_Int, Nat.add_zero]; rfl))))))))); (focus (repeat (first | exact JR_nil | refine JR_J ?_ | (refine JR_plain ?_ ?_; (focus first | rfl | (refine plain_agg ?_; simp only [go_sem, List.all_append, List.all_cons, List.all_nil, Bool.and_self]; done))) | ((first | refine JR_pt ?_ ?_ ?_ | refine JR_sl ?_ ?_ ?_); (focus first | (rw [rhoF_new0]; rfl) | (rw [rhoF_new]; rfl) | (rw [rhoF_old]; first | assumption | omega)); (focus first | assumption | omega | (simp only [List.length_append, List.length_cons, List.length_nil, List.length_replicate]; omega))) | (refine JR_plain' ?_ ?_ ?_; (focus first | rfl | (refine plain_agg ?_; simp only [go_sem, List.all_append, List.all_cons, List.all_nil, Bool.and_self]; done)); (focus (first | rfl | (simp only [Int.natCast_add, Int.natCast_one, Int.natCast_zero, Int.cast_ofNat_Int, Nat.add_zero]; done) | (simp only [Int.natCast_add, Int.natCast_one, Int.natCast_zero, Int.cast_ofNat_Int, Nat.add_zero]; rfl)))) | (refine JR_sl' ?_ ?_ ?_ ?_; (focus first | (rw [rhoF_new0]; rfl) | (rw [rhoF_new]; rfl) | (rw [rhoF_old]; first | assumption | omega)); (focus first | assumption | omega | (simp only [List.length_append, List.length_cons, List.length_nil, List.length_replicate]; omega)); (focus first | rfl | omega | (first | rfl | (simp only [Int.natCast_add, Int.natCast_one, Int.natCast_zero, Int.cast_ofNat_Int, Nat.add_zero]; done) | (simp only [Int.natCast_add, Int.natCast_one, Int.natCast_zero, Int.cast_ofNat_Int, Nat.add_zero]; rfl))))))))
    · have hcb : (ch s k == c) = false := by rw [beq_eq_false_iff_ne]; exact hc
      (repeat (first | ((first | (refine And.intro ?_ ?_; focus exact PLA) | refine WA_seq (WA_region ?_) | refine WA_region ?_ | refine WA_exit ?_); try simp (maxSteps := 1000000) (disch := first | omega | rfl | decide | (simp only [List.length_cons, List.length_nil, List.length_append, Bs_length, Is_length, Vs_length, Bl_length, Il_length] <;> omega)) only [go_sem, Nat.reduceAdd, Int.reduceAdd, Int.reduceSub, Int.reduceMul, Bool.not_true, Bool.not_false, ch_is, hcb]) | refine WA_seq ?_ | refine WA_block ?_ | (refine WA_skip ?_; try simp only [go_sem]) | (refine WA_ret ?_; try simp only [go_sem]) | refine WA_ct rfl ?_ | refine WA_cf rfl ?_))
      rw [spP_f hc]
      (refine Drop_slots (by first | exact Nat.le_refl _ | simp) ?_; focus ((try simp only [JL_same, JL_J, JL_nil, Int.reduceAdd, Nat.sub_sub, Int.natCast_add, Int.natCast_one, Int.natCast_zero, Int.cast_ofNat_Int, Nat.add_zero, Bool.false_eq_true, if_false, if_true]); (try exact JL_refl _)))
  · obtain ⟨h1, h2⟩ := spP_le s c s.size
    (repeat (first | ((first | (refine And.intro ?_ ?_; focus exact PLA) | refine WA_seq (WA_region ?_) | refine WA_region ?_ | refine WA_exit ?_); try simp (maxSteps := 1000000) (disch := first | omega | rfl | decide | (simp only [List.length_cons, List.length_nil, List.length_append, Bs_length, Is_length, Vs_length, Bl_length, Il_length] <;> omega)) only [go_sem, Nat.reduceAdd, Int.reduceAdd, Int.reduceSub, Int.reduceMul, Bool.not_true, Bool.not_false, lit1S, sub1, Ss_snoc]) | refine WA_seq ?_ | refine WA_block ?_ | (refine WA_skip ?_; try simp only [go_sem]) | (refine WA_ret ?_; try simp only [go_sem]) | refine WA_ct rfl ?_ | refine WA_cf rfl ?_))
    ((first | refine ret_nA ?_ | refine ret_sA ?_ | refine ret_fA ?_); simp (maxSteps := 1000000) (disch := first | omega | rfl | decide | (simp only [List.length_cons, List.length_nil, List.length_append, Bs_length, Is_length, Vs_length, Bl_length, Il_length] <;> omega)) only [go_sem, Nat.reduceAdd, Int.reduceAdd, Int.reduceSub, Int.reduceMul, Bool.not_true, Bool.not_false, spA, len_snoc]; try rfl)
theorem splitS_ac {s : ByteArray} (c : UInt8) (hs : s.size ≤ 1048576) (h : List Blk) : AC Tryd.prog 16 [.string s, B c] h (sl h.length 0 (spA s c).length 1) (h ++ [⟨Ss (spA s c), true⟩]) := by
  (refine AC_gc [2] (splitS0_ac c hs h) (by decide) ?_ ?_ ?_; (focus (repeat (first | exact trivial | (refine And.intro ⟨_, rfl, ?_⟩ ?_; (focus first | (refine Fit_plain ?_; simp only [go_sem, List.all_append, List.all_cons, List.all_nil, Bool.and_self]; done) | exact Fit_nil rfl | exact Fit_dead | (refine Fit_eq ?_ ?_; (focus simp only [go_sem, List.all_append, List.all_cons, List.all_nil, Bool.and_self]); (focus (first | rfl | (simp only [Int.natCast_add, Int.natCast_one, Int.natCast_zero, Int.cast_ofNat_Int, Nat.add_zero]; done) | (simp only [Int.natCast_add, Int.natCast_one, Int.natCast_zero, Int.cast_ofNat_Int, Nat.add_zero]; rfl))))))))); (focus first | (refine renV_sl ?_; first | (rw [rhoF_new0]; rfl) | (rw [rhoF_new]; rfl) | (rw [rhoF_old]; first | assumption | omega)) | (refine renV_pt ?_; first | (rw [rhoF_new0]; rfl) | (rw [rhoF_new]; rfl) | (rw [rhoF_old]; first | assumption | omega)) | (refine renV_two ?_ ?_; (focus first | (refine ren1_sl ?_; first | (rw [rhoF_new0]; rfl) | (rw [rhoF_new]; rfl) | (rw [rhoF_old]; first | assumption | omega)) | rfl); (focus rfl)) | rfl | (refine (renV_plain ?_).symm; first | rfl | (refine plain_agg ?_; simp only [go_sem, List.all_append, List.all_cons, List.all_nil, Bool.and_self]; done))); (focus first | (simp only [wfV, wf1, wfC, List.length_append, List.length_cons, List.length_nil]; omega) | (refine wfV_two ?_ ?_; (focus simp only [wf1, wfC, List.length_append, List.length_cons, List.length_nil]; omega); (focus trivial)) | (refine plainV_wf ?_; (focus first | rfl | (refine plain_agg ?_; simp only [go_sem, List.all_append, List.all_cons, List.all_nil, Bool.and_self]; done)); done)))

theorem splitI_ac {s : ByteArray} (hs : s.size ≤ 1048576) (h : List Blk) : AC Tryd.prog 8 [.string s, .string ⟨#[47]⟩] h (sl h.length 0 (spA s 47).length 1) (h ++ [⟨Ss (spA s 47), true⟩]) := by
  refine ⟨fun _ _ => Tryd.call8 _ _, fun E w args' hH hA => ?_⟩
  obtain ⟨hl, hg⟩ := hA
  obtain ⟨l⟩ := args'
  match l, hl, hg with
  | [u, v], _, hg =>
    have hu : u = .string s := hg 0 _ _ rfl rfl
    have hv : v = .string ⟨#[47]⟩ := hg 1 _ _ rfl rfl
    subst hu hv
    obtain ⟨m, hm⟩ := hH.door.maxLen
    refine Calls.mono (Tryd.strings_Split s ⟨#[47]⟩ m w (by omega) hm (by decide)) fun e w' ⟨he, hw⟩ => ?_
    subst hw
    rw [spA_len] at he
    rw [spA_lib]
    have hrow : Row E h.length (Ss (spA s 47)) ((spA s 47).map Value.string).toArray.toList := fun i x hx => ⟨x, hx, by
      have hp := List.all_eq_true.1 (Ss_plain (spA s 47)) x (List.mem_of_getElem? hx)
      exact CR.of_plain hp⟩
    have hr := hH.alloc (ty := 9) hrow
    refine ⟨_, _, he, ?_, hr.1, hr.2⟩
    refine ⟨rfl, by simp, _, _, rfl, Nat.le_refl _, .inr ⟨?_, ?_⟩⟩
    · simp [Emb.at, Emb.with]
    · simp [Emb.with]

end Go.Proofs.YtmkhafmkllfmkaaDoor
/- Texts of ciphers: pieces joined, signs taken away, numerals. Plain. -/
namespace Go.Proofs.YtmkhafmkllfmkaaDoor
set_option linter.unusedSimpArgs false
set_option linter.unusedVariables false
set_option maxRecDepth 20000
set_option maxHeartbeats 1000000
open Go.Abs

def dT (n : Int) : ByteArray := ⟨(Lib.itoa n).toArray⟩
end Go.Proofs.YtmkhafmkllfmkaaDoor
/- What the library's functions on texts return, as the abstract machine sees it. -/
namespace Go.Proofs.YtmkhafmkllfmkaaDoor
set_option linter.unusedSimpArgs false
set_option linter.unusedVariables false
set_option maxRecDepth 20000
set_option maxHeartbeats 1000000
open Go.Abs
/-- A call that returns a plain value and leaves what was there. -/
theorem AC_below {P : Program} {f : FuncId} {args : List Value} {h : List Blk} {v : Value} (hcall : CallOk P f) (hv : plainV v = true)
    (hc : ∀ (E : Emb) (w : World) (args' : Array Value), HR E h w → P2 (VR E h.length) args args'.toList → Calls P f args' w fun e w' => e = .returned v ∧ RowKit.Below w.heap.size w w') : AC P f args h v h :=
  ⟨hcall, fun E w args' hr ha => (hc E w args' hr ha).mono fun e w' ⟨he, hb⟩ =>
    ⟨E, v, he, VR.of_plain hv, hr.same (below_same hb) hb.size,
      ⟨Nat.le_refl _, fun _ _ => rfl, fun _ _ => ⟨rfl, rfl⟩, hb.size, hb.os, hb.tape, hb.output, fun i hi _ => below_same hb i hi, fun b k hk hrw => .inr ⟨b, k, hk, hrw, rfl⟩⟩⟩⟩

@[go_sem] theorem pres_convert {hS : List Blk} {d} {t : List Value} {T U : TypeId} {x : Operand} {ty pos af g} : presOk t hS ⟨d, .convert T U x, ty, pos, af, g⟩ = True := rfl
@[go_sem] theorem pres_load {hS : List Blk} {d} {t : List Value} {T : TypeId} {x : Operand} {ty pos af g} : presOk t hS ⟨d, .load T x, ty, pos, af, g⟩ = True := rfl
end Go.Proofs.YtmkhafmkllfmkaaDoor
/- Numerals: which texts decimal writes, and what strconv.ParseInt reads there. Plain. -/
namespace Go.Proofs.YtmkhafmkllfmkaaDoor
set_option linter.unusedSimpArgs false
set_option linter.unusedVariables false
set_option maxRecDepth 20000
set_option maxHeartbeats 1000000
open Go.Abs

theorem head_app {l m : List UInt8} (h : l ≠ []) : (l ++ m).head? = l.head? := by
  cases l with
  | nil => exact absurd rfl h
  | cons a l => rfl
def isDig (c : UInt8) : Bool := decide (48 ≤ c.toNat) && decide (c.toNat ≤ 57)
def valL (a : Nat) : List UInt8 → Nat
  | [] => a
  | c :: r => valL (a * 10 + (c.toNat - 48)) r
theorem valL_snoc (c : UInt8) : ∀ (l : List UInt8) (a : Nat), valL a (l ++ [c]) = valL a l * 10 + (c.toNat - 48)
  | [], _ => rfl
  | _ :: l, _ => valL_snoc c l _
theorem isDig_iff {c : UInt8} : isDig c = true ↔ 48 ≤ c.toNat ∧ c.toNat ≤ 57 := by unfold isDig; rw [Bool.and_eq_true, decide_eq_true_eq, decide_eq_true_eq]
theorem valL_lt : ∀ (l : List UInt8) (a k : Nat), l.all isDig = true → a < 10 ^ k → valL a l < 10 ^ (k + l.length)
  | [], _, _, _, h => h
  | c :: l, a, k, hd, h => by
    rw [List.all_cons, Bool.and_eq_true] at hd
    have hc := isDig_iff.1 hd.1
    have := valL_lt l (a * 10 + (c.toNat - 48)) (k + 1) hd.2 (by rw [Nat.pow_succ]; omega)
    rw [List.length_cons, show k + (l.length + 1) = k + 1 + l.length by omega]; exact this
theorem pow_le9 {k : Nat} (h : k ≤ 9) : 10 ^ k ≤ 1000000000 := Nat.pow_le_pow_right (n := 10) (by decide) h
theorem pu_ok : ∀ (l : List UInt8) (a k : Nat), l.all isDig = true → a < 10 ^ k → k + l.length ≤ 9 → Lib.parseUintM (2 ^ 64 - 1) a l = .ok (valL a l)
  | [], _, _, _, _, _ => rfl
  | c :: l, a, k, hd, h, hk => by
    rw [List.all_cons, Bool.and_eq_true] at hd
    have hc := isDig_iff.1 hd.1
    rw [List.length_cons] at hk
    have hp := pow_le9 (show k ≤ 9 by omega)
    rw [Lib.parseUintM, if_pos hc, if_neg (by omega), if_neg (by omega)]
    exact pu_ok l _ (k + 1) hd.2 (by rw [Nat.pow_succ]; omega) (by omega)
/-- Whether a text is a numeral as decimal writes it, of at most nine digits. -/
def numL (l : List UInt8) : Bool := !l.isEmpty && (decide (l.length ≤ 9) && ((decide (l.length ≤ 1) || l.head? != some 48) && l.all isDig))
theorem numL_iff {l : List UInt8} : numL l = true ↔ l ≠ [] ∧ l.length ≤ 9 ∧ (l.length ≤ 1 ∨ l.head? ≠ some 48) ∧ l.all isDig = true := by
  unfold numL
  simp only [Bool.and_eq_true, Bool.or_eq_true, decide_eq_true_eq, bne_iff_ne, Bool.not_eq_true', List.isEmpty_eq_false_iff]
theorem dec_step {u : Nat} (h : ¬ u < 10) : Lib.decDigits u = Lib.decDigits (u / 10) ++ [UInt8.ofNat (48 + u % 10)] := by
  conv => lhs; rw [Lib.decDigits, dif_neg h]
theorem dg_dig {i : Nat} (h : i < 10) : isDig (UInt8.ofNat (48 + i)) = true := isDig_iff.2 (by rw [UInt8.toNat_ofNat', Nat.mod_eq_of_lt (by omega)]; omega)
theorem dec_good (n : Nat) : ∀ u, u ≤ n → Lib.decDigits u ≠ [] ∧ (Lib.decDigits u).all isDig = true ∧ (1 ≤ u → (Lib.decDigits u).head? ≠ some 48) ∧ (10 ≤ u → 2 ≤ (Lib.decDigits u).length) := by
  induction n with
  | zero =>
    intro u hu
    obtain rfl : u = 0 := by omega
    rw [Lib.decDigits_one (by decide)]
    exact ⟨by simp, by decide, by omega, by omega⟩
  | succ n ih =>
    intro u hu
    by_cases h : u < 10
    · rw [Lib.decDigits_one h]
      refine ⟨by simp, ?_, fun h1 e => ?_, by omega⟩
      · rw [List.all_cons, dg_dig h]; rfl
      · have e2 : UInt8.ofNat (48 + u) = 48 := Option.some.inj e
        have := congrArg UInt8.toNat e2
        rw [UInt8.toNat_ofNat', Nat.mod_eq_of_lt (by omega), show (48 : UInt8).toNat = 48 from rfl] at this
        omega
    · obtain ⟨h1, h2, h3, _⟩ := ih (u / 10) (by omega)
      rw [dec_step h]
      have hl : 1 ≤ (Lib.decDigits (u / 10)).length := List.length_pos_iff.2 h1
      refine ⟨by simp, ?_, fun _ => ?_, fun _ => by rw [List.length_append]; exact Nat.succ_le_succ hl⟩
      · rw [List.all_append, h2, List.all_cons, dg_dig (Nat.mod_lt _ (by decide))]; rfl
      · rw [head_app h1]; exact h3 (by omega)
theorem val_pos : ∀ (l : List UInt8), l ≠ [] → l.head? ≠ some 48 → l.all isDig = true → 1 ≤ valL 0 l
  | [], h, _, _ => absurd rfl h
  | c :: l, _, h, hd => by
    rw [List.all_cons, Bool.and_eq_true] at hd
    have hc := isDig_iff.1 hd.1
    have hne : c.toNat ≠ 48 := fun e => h (by rw [List.head?_cons]; exact congrArg some (UInt8.toNat_inj.1 e))
    have mono : ∀ (l : List UInt8) (a : Nat), a ≤ valL a l := by
      intro l
      induction l with
      | nil => exact fun a => Nat.le_refl _
      | cons x l ih => exact fun a => Nat.le_trans (by omega) (ih (a * 10 + (x.toNat - 48)))
    exact Nat.le_trans (by omega) (mono l (0 * 10 + (c.toNat - 48)))
theorem dec_val (n : Nat) : ∀ l : List UInt8, l.length ≤ n → l ≠ [] → (l.length ≤ 1 ∨ l.head? ≠ some 48) → l.all isDig = true → Lib.decDigits (valL 0 l) = l := by
  induction n with
  | zero => exact fun l hl hn => absurd (List.length_eq_zero_iff.1 (by omega)) hn
  | succ n ih =>
    intro l hl hn h0 hd
    obtain ⟨l', c, rfl⟩ : ∃ l' c, l = l' ++ [c] := ⟨l.dropLast, l.getLast hn, (List.dropLast_concat_getLast hn).symm⟩
    rw [List.all_append, Bool.and_eq_true, List.all_cons, Bool.and_eq_true] at hd
    have hc := isDig_iff.1 hd.2.1
    have hcc : ∀ m, m % 10 = c.toNat - 48 → UInt8.ofNat (48 + m % 10) = c := fun m e => by rw [e, show 48 + (c.toNat - 48) = c.toNat by omega, UInt8.ofNat_toNat]
    rw [valL_snoc]
    by_cases hl' : l' = []
    · subst hl'
      rw [show valL 0 [] = 0 from rfl, Nat.zero_mul, Nat.zero_add, Lib.decDigits_one (by omega), show 48 + (c.toNat - 48) = c.toNat by omega, UInt8.ofNat_toNat]; rfl
    · have hp : 1 ≤ l'.length := List.length_pos_iff.2 hl'
      have hh : l'.head? ≠ some 48 := by
        rcases h0 with h0 | h0
        · rw [List.length_append] at h0
          have : ([c] : List UInt8).length = 1 := rfl
          omega
        · rwa [head_app hl'] at h0
      have hv := val_pos l' hl' hh hd.1
      rw [dec_step (by omega), hcc _ (by omega), show (valL 0 l' * 10 + (c.toNat - 48)) / 10 = valL 0 l' by omega, ih l' (by rw [List.length_append] at hl; exact Nat.le_of_succ_le_succ hl) hl' (.inr hh) hd.1]
theorem num_ok {l : List UInt8} (h : numL l = true) : Lib.parseIntB 64 l = .ok (valL 0 l) ∧ Lib.itoa (valL 0 l) = l := by
  obtain ⟨hn, h9, h0, hd⟩ := numL_iff.1 h
  have hlt := valL_lt l 0 0 hd (by decide)
  have hp := pow_le9 (show 0 + l.length ≤ 9 by omega)
  refine ⟨?_, by rw [Lib.itoa_nonneg, dec_val _ l (Nat.le_refl _) hn h0 hd]⟩
  cases l with
  | nil => exact absurd rfl hn
  | cons c r =>
    have hd' := hd
    rw [List.all_cons, Bool.and_eq_true] at hd'
    have hc := isDig_iff.1 hd'.1
    rw [Lib.parseIntB_plain 64 c r (by omega) (by omega)]
    unfold Lib.parseUintB
    rw [if_neg hn, pu_ok (c :: r) 0 0 hd (by decide) (by omega)]
    unfold Lib.signlessC
    simp only
    first | (rw [if_neg (by omega)]) | (rw [if_pos (by omega)])
theorem num_of {l : List UInt8} {v : Int} (h0 : 0 ≤ v) (h9 : l.length ≤ 9) (hi : Lib.itoa v = l) : numL l = true := by
  obtain ⟨u, rfl⟩ : ∃ u : Nat, v = u := ⟨v.toNat, by omega⟩
  rw [Lib.itoa_nonneg] at hi
  obtain ⟨g1, g2, g3, g4⟩ := dec_good u u (Nat.le_refl _)
  rw [hi] at g1 g2 g3 g4
  refine numL_iff.2 ⟨g1, h9, ?_, g2⟩
  by_cases h : u < 10
  · exact .inl (by rw [← hi, Lib.decDigits_one h]; exact Nat.le_refl _)
  · exact .inr (g3 (by omega))
end Go.Proofs.YtmkhafmkllfmkaaDoor
/- impl.readDecimal: what it returns, at every text: walked over the machine's own worlds, as strconv.ParseInt's contracts are said there. -/
namespace Go.Proofs.YtmkhafmkllfmkaaDoor
set_option linter.unusedSimpArgs false
set_option linter.unusedVariables false
set_option maxRecDepth 20000
set_option maxHeartbeats 1000000
open Go.Abs Go.RowKit

set_option maxRecDepth 100000 in
theorem decimal_calls {n : Int} (h0 : -9223372036854775808 ≤ n) (h1 : n ≤ 9223372036854775807) (w : World) (hd : doorOk w) : Calls Tryd.prog 22 #[.int .i64 n] w fun e w' => e = .returned (.string (dT n)) ∧ Below w.heap.size w w' := by
  go_enter Tryd.func22, Tryd.ntmps22
  go_wp2_with (go_at_call 41; refine (Tryd.strconv_FormatInt_10 n h0 h1 _ hd.pow10).mono ?_; rintro e w' ⟨rfl, k, os, rfl⟩)
  go_ret
  exact ⟨rfl, Lib.below_grow _ w (Nat.le_refl _) k os⟩

def numB (s : ByteArray) : Bool := numL s.data.toList
def numV (s : ByteArray) : Int := if numB s then ((valL 0 s.data.toList : Nat) : Int) else 0
theorem numB_no {s : ByteArray} (h : ∀ v, Lib.parseIntB 64 s.data.toList ≠ .ok v) : numB s = false := by
  unfold numB
  cases hb : numL s.data.toList with
  | false => rfl
  | true => exact absurd (num_ok hb).1 (h _)
theorem sz_l (s : ByteArray) : s.size = s.data.toList.length := by rw [Array.length_toList]; rfl
theorem dT_l (v : Int) : (dT v).data.toList = Lib.itoa v := rfl
theorem str_ne {a b : ByteArray} (h : (!(a.toList == b.toList)) = true) : a ≠ b := fun e => by
  subst e
  rw [beq_self_eq_true] at h
  cases h
theorem str_eq {a b : ByteArray} (h : (!(a.toList == b.toList)) = false) : a = b := by
  have h1 : (a.toList == b.toList) = true := by
    cases hb : (a.toList == b.toList) with
    | true => rfl
    | false => rw [hb] at h; cases h
  have h2 := eq_of_beq h1
  rw [ByteArray.toList_eq, ByteArray.toList_eq] at h2
  cases a; cases b
  exact congrArg ByteArray.mk (Array.ext' h2)
theorem rd_no {s : ByteArray} {v : Int} (h : Lib.parseIntB 64 s.data.toList = .ok v) (hc : v < 0 ∨ 9 < s.size ∨ dT v ≠ s) : numB s = false := by
  unfold numB
  cases hb : numL s.data.toList with
  | false => rfl
  | true =>
    obtain ⟨h1, h2⟩ := num_ok hb
    have e : v = ((valL 0 s.data.toList : Nat) : Int) := by rw [h] at h1; exact Lib.NumEnd.ok.inj h1
    have h9 := (numL_iff.1 hb).2.1
    rw [← sz_l] at h9
    rcases hc with hc | hc | hc
    · omega
    · omega
    · refine absurd ?_ hc
      rw [e]; unfold dT; rw [h2]
theorem rd_yes {s : ByteArray} {v : Int} (h : Lib.parseIntB 64 s.data.toList = .ok v) (h0 : 0 ≤ v) (h9 : s.size ≤ 9) (he : dT v = s) : numB s = true ∧ numV s = v := by
  have hb : numB s = true := num_of h0 (by rw [← sz_l]; exact h9) (by rw [← dT_l, he])
  refine ⟨hb, ?_⟩
  unfold numV
  rw [if_pos hb]
  have h1 := (num_ok hb).1
  rw [h] at h1
  exact (Lib.NumEnd.ok.inj h1).symm
set_option maxRecDepth 100000 in
theorem rd_calls {s : ByteArray} (hs : s.size ≤ 1048576) (w : World) (hd : doorOk w) : Calls Tryd.prog 9 #[.string s] w fun e w' => e = .returned (.tuple #[.int .i64 (numV s), .bool (numB s)]) ∧ Below w.heap.size w w' := by
  cases h : Lib.parseIntB 64 s.data.toList with
  | «syntax» =>
    have hb := numB_no (s := s) (fun v e => by rw [h] at e; cases e)
    unfold numV
    rw [hb, if_neg (by decide)]
    obtain ⟨t, p, hm⟩ := hd.errSyntax
    go_enter Tryd.func9, Tryd.ntmps9
    go_wp2_with (go_at_call 21; refine (Tryd.strconv_ParseInt_10_at64_syntax s (by omega) h _ _ hm (.inr ⟨_, _, rfl⟩)).mono ?_)
    rintro e W1 ⟨N, rfl, -, -, hb⟩
    go_wp2
    go_ret2
    exact ⟨rfl, hb⟩
  | range =>
    have hb := numB_no (s := s) (fun v e => by rw [h] at e; cases e)
    unfold numV
    rw [hb, if_neg (by decide)]
    obtain ⟨t, p, hm⟩ := hd.errRange
    go_enter Tryd.func9, Tryd.ntmps9
    go_wp2_with (go_at_call 21; refine (Tryd.strconv_ParseInt_10_at64_range s (by omega) h _ _ hm (.inr ⟨_, _, rfl⟩)).mono ?_)
    rintro e W1 ⟨N, rfl, -, -, hb⟩
    go_wp2
    go_ret2
    exact ⟨rfl, hb⟩
  | ok v =>
    have hr := Lib.parseIntB_bounds h
    have hw : ∀ W1, (W1 = w ∨ ∃ t, W1 = Lib.bytesWorld w 5 t) → Below w.heap.size w W1 := by
      rintro W1 (rfl | ⟨t, rfl⟩)
      · exact Below.refl _ _
      · exact Lib.bytesWorld_below _ _ _
    go_enter Tryd.func9, Tryd.ntmps9
    have hdoor : ∀ W1, (W1 = w ∨ ∃ t, W1 = Lib.bytesWorld w 5 t) → doorOk W1 := fun W1 h1 => hd.keep (hw W1 h1).size (fun i hi => (hw W1 h1).block i (Nat.lt_of_lt_of_le hi hd.lt))
    go_wp2_with (first | (go_at_call 21; refine (Tryd.strconv_ParseInt_10_at64_ok s (by omega) v h _).mono ?_; rintro e W1 ⟨rfl, hw1⟩) | (go_at_call 22; refine (decimal_calls (n := v) (by omega) (by omega) _ (hdoor _ (by assumption))).mono ?_; rintro e W2 ⟨rfl, hb2⟩))
    · rename_i h0 h9 _ hb2 hc
      have hb := rd_no h (by rcases hc with (hc | hc) | hc <;> first | omega | exact .inr (.inr (str_ne hc)))
      unfold numV
      rw [hb, if_neg (by decide)]
      go_ret2
      exact ⟨rfl, (hw _ (by assumption)).trans (hb2.mono (hw _ (by assumption)).size)⟩
    · rename_i hc
      obtain ⟨hb, hv⟩ := rd_yes h hc.1.1 (by omega) (str_eq hc.2)
      rw [hb, hv]
      go_wp2
      go_ret2
      exact ⟨rfl, (hw _ (by assumption)).trans (hb2.mono (hw _ (by assumption)).size)⟩
    · rename_i h9
      have hb := rd_no h (.inr (.inl (by omega)))
      unfold numV
      rw [hb, if_neg (by decide)]
      go_ret2
      exact ⟨rfl, hw _ (by assumption)⟩
    · rename_i h0
      have hb := rd_no h (.inl h0)
      unfold numV
      rw [hb, if_neg (by decide)]
      go_ret2
      exact ⟨rfl, hw _ (by assumption)⟩
theorem rd_ac {s : ByteArray} (hs : s.size ≤ 1048576) (h : List Blk) : AC Tryd.prog 9 [.string s] h (.tuple #[.int .i64 (numV s), .bool (numB s)]) h := by
  refine AC_below (fun _ _ => Tryd.call9 _ _) rfl fun E w args' hH hA => ?_
  obtain ⟨hl, hg⟩ := hA
  obtain ⟨l⟩ := args'
  match l, hl, hg with
  | [u], _, hg =>
    have hu : u = .string s := hg 0 _ _ rfl rfl
    subst hu
    exact rd_calls hs w hH.door

end Go.Proofs.YtmkhafmkllfmkaaDoor
/- Numerals: the reference's reading. -/
namespace Go.Proofs.YtmkhafmkllfmkaaDoor
set_option linter.unusedSimpArgs false
set_option linter.unusedVariables false
set_option maxRecDepth 20000
set_option maxHeartbeats 1000000
open Go.Abs

def vP (s : ByteArray) (k : Nat) : Nat := valL 0 (s.data.toList.take k)
theorem ch_list {s : ByteArray} {i : Nat} (h : i < s.size) : s.data.toList[i]? = some (ch s i) := by
  have h' : i < s.data.size := h
  unfold ch
  rw [Array.getElem?_toList, Array.getD_eq_getD_getElem?, Array.getElem?_eq_getElem h']; rfl
theorem take_s {s : ByteArray} {k : Nat} (h : k < s.size) : s.data.toList.take (k + 1) = s.data.toList.take k ++ [ch s k] := by
  rw [List.take_add_one, ch_list h]; rfl
theorem vP_s {s : ByteArray} {k : Nat} (h : k < s.size) : vP s (k + 1) = vP s k * 10 + ((ch s k).toNat - 48) := by
  unfold vP; rw [take_s h, valL_snoc]
theorem take_all {s : ByteArray} : ∀ k, k ≤ s.size → (s.data.toList.take k).all isDig = allT (fun i => isDig (ch s i)) k
  | 0, _ => rfl
  | k + 1, h => by
    have ih := take_all (s := s) k (by omega)
    unfold allT at ih ⊢
    rw [take_s (by omega), List.all_append, ih, List.range_succ, List.all_append]
    simp only [List.all_cons, List.all_nil]
theorem vP_lt {s : ByteArray} {k : Nat} (hk : k ≤ s.size) (h9 : s.size ≤ 9) (hd : allT (fun i => isDig (ch s i)) k = true) : vP s k < 1000000000 := by
  have h1 := valL_lt (s.data.toList.take k) 0 0 (by rw [take_all k hk]; exact hd) (by decide)
  have h2 : (s.data.toList.take k).length ≤ 9 := by rw [List.length_take]; omega
  exact Nat.lt_of_lt_of_le h1 (pow_le9 (by omega))
theorem list_all {s : ByteArray} : s.data.toList.all isDig = allT (fun i => isDig (ch s i)) s.size := by
  rw [← take_all s.size (Nat.le_refl _), List.take_of_length_le (by rw [← sz_l]; exact Nat.le_refl _)]
theorem head_ch {s : ByteArray} (h : 0 < s.size) : s.data.toList.head? = some (ch s 0) := by
  rw [List.head?_eq_getElem?, ch_list h]
theorem num_bad {s : ByteArray} (h : s.size = 0 ∨ 9 < s.size ∨ (1 < s.size ∧ ch s 0 = 48)) : numB s = false := by
  unfold numB
  cases hb : numL s.data.toList with
  | false => rfl
  | true =>
    obtain ⟨h1, h2, h3, _⟩ := numL_iff.1 hb
    have h4 := List.length_pos_iff.2 h1
    rw [← sz_l] at h2 h3 h4
    rcases h with h | h | ⟨h, hc⟩
    · omega
    · omega
    · rcases h3 with h3 | h3
      · omega
      · rw [head_ch h4, hc] at h3; exact absurd rfl h3
theorem num_bad2 {s : ByteArray} (h : allT (fun i => isDig (ch s i)) s.size = false) : numB s = false := by
  unfold numB
  cases hb : numL s.data.toList with
  | false => rfl
  | true =>
    have h4 := (numL_iff.1 hb).2.2.2
    rw [list_all, h] at h4; cases h4
theorem num_good {s : ByteArray} (h0 : s.size ≠ 0) (h9 : s.size ≤ 9) (h1 : s.size ≤ 1 ∨ ch s 0 ≠ 48) (h : allT (fun i => isDig (ch s i)) s.size = true) : numB s = true ∧ numV s = ((vP s s.size : Nat) : Int) := by
  have hb : numB s = true := by
    unfold numB
    refine numL_iff.2 ⟨fun e => h0 (by rw [sz_l, e]; rfl), by rw [← sz_l]; exact h9, ?_, by rw [list_all]; exact h⟩
    rw [← sz_l, head_ch (by omega)]
    exact h1.imp id (fun h e => h (Option.some.inj e))
  refine ⟨hb, ?_⟩
  unfold numV vP
  rw [if_pos hb, List.take_of_length_le (by rw [← sz_l]; exact Nat.le_refl _)]
/-- What the reference's reading returns. -/
def numN (s : ByteArray) : Int := if numB s then numV s else -1
attribute [local irreducible] ch vP
theorem lnA_ac {s : ByteArray} (hs : s.size = 0) (h : List Blk) : AC Tryd.prog 18 [.string s] h (.int .i64 (numN s)) h := by
  have e0 : (s.size == 0) = true := by rw [hs]; rfl
  unfold numN
  rw [num_bad (.inl hs), if_neg (by decide)]
  (refine AC_begin (fun _ _ => Tryd.call18 _ _) Tryd.func18 rfl Tryd.ntmps18 Tryd.results18 (fun hwf => ?_); simp only [List.length_cons, List.length_nil, Nat.reduceAdd, Nat.reduceSub, List.replicate, List.cons_append, List.nil_append])
  (repeat (first | ((first | (refine And.intro ?_ ?_; focus exact PLA) | refine WA_seq (WA_region ?_) | refine WA_region ?_ | refine WA_exit ?_); try simp (maxSteps := 1000000) (disch := first | omega | rfl | decide | (simp only [List.length_cons, List.length_nil, List.length_append, Bs_length, Is_length, Vs_length, Bl_length, Il_length] <;> omega)) only [go_sem, Nat.reduceAdd, Int.reduceAdd, Int.reduceSub, Int.reduceMul, Bool.not_true, Bool.not_false, e0, yieldA_at 3 8, yieldA_at 4 33, yieldA_at 8 13, yieldA_at 12 17]) | refine WA_seq ?_ | refine WA_block ?_ | (refine WA_skip ?_; try simp only [go_sem]) | (refine WA_ret ?_; try simp only [go_sem]) | refine WA_ct rfl ?_ | refine WA_cf rfl ?_))
  ((first | refine ret_nA ?_ | refine ret_sA ?_ | refine ret_fA ?_); simp (maxSteps := 1000000) (disch := first | omega | rfl | decide | (simp only [List.length_cons, List.length_nil, List.length_append, Bs_length, Is_length, Vs_length, Bl_length, Il_length] <;> omega)) only [go_sem, Nat.reduceAdd, Int.reduceAdd, Int.reduceSub, Int.reduceMul, Bool.not_true, Bool.not_false]; try rfl)
theorem lnB_ac {s : ByteArray} (hs : 9 < s.size) (hm : s.size ≤ 1048576) (h : List Blk) : AC Tryd.prog 18 [.string s] h (.int .i64 (numN s)) h := by
  have e0 : (s.size == 0) = false := by rw [beq_eq_false_iff_ne]; omega
  have e9 : decide ((9 : Int) < ((s.size : Nat) : Int)) = true := decide_eq_true (by omega)
  have e9' : decide (9 < s.size) = true := decide_eq_true hs
  unfold numN
  rw [num_bad (.inr (.inl hs)), if_neg (by decide)]
  (refine AC_begin (fun _ _ => Tryd.call18 _ _) Tryd.func18 rfl Tryd.ntmps18 Tryd.results18 (fun hwf => ?_); simp only [List.length_cons, List.length_nil, Nat.reduceAdd, Nat.reduceSub, List.replicate, List.cons_append, List.nil_append])
  (repeat (first | ((first | (refine And.intro ?_ ?_; focus exact PLA) | refine WA_seq (WA_region ?_) | refine WA_region ?_ | refine WA_exit ?_); try simp (maxSteps := 1000000) (disch := first | omega | rfl | decide | (simp only [List.length_cons, List.length_nil, List.length_append, Bs_length, Is_length, Vs_length, Bl_length, Il_length] <;> omega)) only [go_sem, Nat.reduceAdd, Int.reduceAdd, Int.reduceSub, Int.reduceMul, Bool.not_true, Bool.not_false, e0, e9, e9', yieldA_at 3 8, yieldA_at 4 33, yieldA_at 8 13, yieldA_at 12 17]) | refine WA_seq ?_ | refine WA_block ?_ | (refine WA_skip ?_; try simp only [go_sem]) | (refine WA_ret ?_; try simp only [go_sem]) | refine WA_ct rfl ?_ | refine WA_cf rfl ?_))
  ((first | refine ret_nA ?_ | refine ret_sA ?_ | refine ret_fA ?_); simp (maxSteps := 1000000) (disch := first | omega | rfl | decide | (simp only [List.length_cons, List.length_nil, List.length_append, Bs_length, Is_length, Vs_length, Bl_length, Il_length] <;> omega)) only [go_sem, Nat.reduceAdd, Int.reduceAdd, Int.reduceSub, Int.reduceMul, Bool.not_true, Bool.not_false]; try rfl)
theorem lnC_ac {s : ByteArray} (hs : 1 < s.size) (h9 : s.size ≤ 9) (hc : ch s 0 = 48) (h : List Blk) : AC Tryd.prog 18 [.string s] h (.int .i64 (numN s)) h := by
  have e0 : (s.size == 0) = false := by rw [beq_eq_false_iff_ne]; omega
  have e9 : decide ((9 : Int) < ((s.size : Nat) : Int)) = false := decide_eq_false (by omega)
  have e9' : decide (9 < s.size) = false := decide_eq_false (by omega)
  have e1 : decide ((1 : Int) < ((s.size : Nat) : Int)) = true := decide_eq_true (by omega)
  have e1' : decide (1 < s.size) = true := decide_eq_true hs
  have ec : (ch s 0 == 48) = true := by rw [hc]; rfl
  unfold numN
  rw [num_bad (.inr (.inr ⟨hs, hc⟩)), if_neg (by decide)]
  (refine AC_begin (fun _ _ => Tryd.call18 _ _) Tryd.func18 rfl Tryd.ntmps18 Tryd.results18 (fun hwf => ?_); simp only [List.length_cons, List.length_nil, Nat.reduceAdd, Nat.reduceSub, List.replicate, List.cons_append, List.nil_append])
  (repeat (first | ((first | (refine And.intro ?_ ?_; focus exact PLA) | refine WA_seq (WA_region ?_) | refine WA_region ?_ | refine WA_exit ?_); try simp (maxSteps := 1000000) (disch := first | omega | rfl | decide | (simp only [List.length_cons, List.length_nil, List.length_append, Bs_length, Is_length, Vs_length, Bl_length, Il_length] <;> omega)) only [go_sem, Nat.reduceAdd, Int.reduceAdd, Int.reduceSub, Int.reduceMul, Bool.not_true, Bool.not_false, e0, e9, e9', e1, e1', ch_is, ec, yieldA_at 3 8, yieldA_at 4 33, yieldA_at 8 13, yieldA_at 12 17]) | refine WA_seq ?_ | refine WA_block ?_ | (refine WA_skip ?_; try simp only [go_sem]) | (refine WA_ret ?_; try simp only [go_sem]) | refine WA_ct rfl ?_ | refine WA_cf rfl ?_))
  ((first | refine ret_nA ?_ | refine ret_sA ?_ | refine ret_fA ?_); simp (maxSteps := 1000000) (disch := first | omega | rfl | decide | (simp only [List.length_cons, List.length_nil, List.length_append, Bs_length, Is_length, Vs_length, Bl_length, Il_length] <;> omega)) only [go_sem, Nat.reduceAdd, Int.reduceAdd, Int.reduceSub, Int.reduceMul, Bool.not_true, Bool.not_false]; try rfl)
theorem vP_0 (s : ByteArray) : vP s 0 = 0 := by unfold vP; rfl
theorem allT_pre {f : Nat → Bool} {n k : Nat} (h : allT f n = true) (hk : k ≤ n) : allT f k = true := List.all_eq_true.2 fun i hi => allT_get h (Nat.lt_of_lt_of_le (List.mem_range.1 hi) hk)
theorem c48 {c : UInt8} (h : 48 ≤ c.toNat) : (c - 48).toNat = c.toNat - 48 := UInt8.toNat_sub_of_le _ _ (UInt8.le_iff_toNat_le.2 h)
theorem stepN {s : ByteArray} {k : Nat} (hk : k < s.size) (h : vP s k < 1000000000) : IntKind.i64.wrap (((vP s k : Nat) : Int) * 10) = ((vP s k * 10 : Nat) : Int) ∧ IntKind.i64.wrap (((vP s k * 10 : Nat) : Int) + (((ch s k).toNat - 48 : Nat) : Int)) = ((vP s (k + 1) : Nat) : Int) := by
  have hc := u8_lt (ch s k)
  refine ⟨by rw [show ((vP s k : Nat) : Int) * 10 = ((vP s k * 10 : Nat) : Int) by omega]; exact wrap_N (by omega), ?_⟩
  rw [vP_s hk, show ((vP s k * 10 : Nat) : Int) + (((ch s k).toNat - 48 : Nat) : Int) = ((vP s k * 10 + ((ch s k).toNat - 48) : Nat) : Int) by omega]
  exact wrap_N (by omega)
abbrev hdC (s : ByteArray) : UInt8 := ch s 0
abbrev zrC (_ : ByteArray) : UInt8 := 0
theorem stepM {s : ByteArray} {k : Nat} (hk : k < s.size) : ((vP s k * 10 : Nat) : Int) + (((ch s k).toNat - 48 : Nat) : Int) = ((vP s (k + 1) : Nat) : Int) := by rw [vP_s hk]; omega
theorem lnD_ok {s : ByteArray} (h0 : s.size ≠ 0) (h9 : s.size ≤ 9) (e1 : decide ((1 : Int) < ((s.size : Nat) : Int)) = false) (e1' : decide (1 < s.size) = false) (ec : (zrC s == 48) = false) (h1 : s.size ≤ 1 ∨ ch s 0 ≠ 48) (hall : allT (fun i => isDig (ch s i)) s.size = true) (h : List Blk) : AC Tryd.prog 18 [.string s] h (.int .i64 (numN s)) h := by
  have e0 : (s.size == 0) = false := by rw [beq_eq_false_iff_ne]; exact h0
  have e9 : decide ((9 : Int) < ((s.size : Nat) : Int)) = false := decide_eq_false (by omega)
  have e9' : decide (9 < s.size) = false := decide_eq_false (by omega)
  obtain ⟨hb, hv⟩ := num_good h0 h9 h1 hall
  unfold numN
  rw [hb, if_pos rfl, hv]
  (refine AC_begin (fun _ _ => Tryd.call18 _ _) Tryd.func18 rfl Tryd.ntmps18 Tryd.results18 (fun hwf => ?_); simp only [List.length_cons, List.length_nil, Nat.reduceAdd, Nat.reduceSub, List.replicate, List.cons_append, List.nil_append])
  (repeat (first | ((first | (refine And.intro ?_ ?_; focus exact PLA) | refine WA_seq (WA_region ?_) | refine WA_region ?_ | refine WA_exit ?_); try simp (maxSteps := 1000000) (disch := first | omega | rfl | decide | (simp only [List.length_cons, List.length_nil, List.length_append, Bs_length, Is_length, Vs_length, Bl_length, Il_length] <;> omega)) only [go_sem, Nat.reduceAdd, Int.reduceAdd, Int.reduceSub, Int.reduceMul, Bool.not_true, Bool.not_false, e0, e9, e9', e1, e1', ch_is, ec, yieldA_at 3 8, yieldA_at 4 33, yieldA_at 8 13, yieldA_at 12 17]) | refine WA_seq ?_ | refine WA_block ?_ | (refine WA_skip ?_; try simp only [go_sem]) | (refine WA_ret ?_; try simp only [go_sem]) | refine WA_ct rfl ?_ | refine WA_cf rfl ?_))
  refine WA_forH (fun k => [(2, J), (3, .int .i64 ((vP s k : Nat) : Int)), (4, .int .i64 k), (23, J), (24, J), (25, J), (26, J), (27, J), (28, J), (29, J), (30, J), (31, J), (32, J), (33, J), (34, J), (35, J), (36, J), (37, J), (38, J), (39, J), (40, J), (41, J), (42, J), (43, J), (44, J), (45, J), (46, J)]) (fun k => h) (s.size) ?_ ?_ ?_ <;> (try simp only [patT_cons, patT_nil, patL_cons, patL_nil, list_set_zero, list_set_succ, blk_set_zero, blk_set_succ])
  · (refine Drop_slots (by first | exact Nat.le_refl _ | simp) ?_; focus ((try simp only [JL_same, JL_J, JL_nil, Int.reduceAdd, Nat.sub_sub, Int.natCast_add, Int.natCast_one, Int.natCast_zero, Int.cast_ofNat_Int, Nat.add_zero, Bool.false_eq_true, if_false, if_true, vP_0]); (try exact JL_refl _)))
  · intro k hk
    have hd := isDig_iff.1 (allT_get hall hk)
    have a1 : decide (ch s k < 48) = false := decide_eq_false (fun h => by have := UInt8.lt_iff_toNat_lt.1 h; have e : (48 : UInt8).toNat = 48 := rfl; omega)
    have a2 : decide (57 < ch s k) = false := decide_eq_false (fun h => by have := UInt8.lt_iff_toNat_lt.1 h; have e : (57 : UInt8).toNat = 57 := rfl; omega)
    obtain ⟨m1, m3⟩ := stepN hk (vP_lt (by omega) h9 (allT_pre hall (by omega)))
    have m2 := c48 hd.1
    have m5 := stepM (s := s) (k := k) (by omega)
    have hlt := vP_lt (k := k) (by omega) h9 (allT_pre hall (by omega))
    have m1b : IntKind.i64.wrap ((vP s k * 10 : Nat) : Int) = ((vP s k * 10 : Nat) : Int) := wrap_N (by omega)
    have m4 : IntKind.i64.wrap (((ch s k).toNat - 48 : Nat) : Int) = (((ch s k).toNat - 48 : Nat) : Int) := wrap_N (by omega)
    (repeat (first | ((first | (refine And.intro ?_ ?_; focus exact PLA) | refine WA_seq (WA_region ?_) | refine WA_region ?_ | refine WA_exit ?_); try simp (maxSteps := 1000000) (disch := first | omega | rfl | decide | (simp only [List.length_cons, List.length_nil, List.length_append, Bs_length, Is_length, Vs_length, Bl_length, Il_length] <;> omega)) only [go_sem, Nat.reduceAdd, Int.reduceAdd, Int.reduceSub, Int.reduceMul, Bool.not_true, Bool.not_false, ch_is, a1, a2, m1, m1b, m2, m4, m3, m5, yieldA_at 3 8, yieldA_at 4 33, yieldA_at 8 13, yieldA_at 12 17]) | refine WA_seq ?_ | refine WA_block ?_ | (refine WA_skip ?_; try simp only [go_sem]) | (refine WA_ret ?_; try simp only [go_sem]) | refine WA_ct rfl ?_ | refine WA_cf rfl ?_))
    (refine Drop_slots (by first | exact Nat.le_refl _ | simp) ?_; focus ((try simp only [JL_same, JL_J, JL_nil, Int.reduceAdd, Nat.sub_sub, Int.natCast_add, Int.natCast_one, Int.natCast_zero, Int.cast_ofNat_Int, Nat.add_zero, Bool.false_eq_true, if_false, if_true]); (try exact JL_refl _)))
  · (repeat (first | ((first | (refine And.intro ?_ ?_; focus exact PLA) | refine WA_seq (WA_region ?_) | refine WA_region ?_ | refine WA_exit ?_); try simp (maxSteps := 1000000) (disch := first | omega | rfl | decide | (simp only [List.length_cons, List.length_nil, List.length_append, Bs_length, Is_length, Vs_length, Bl_length, Il_length] <;> omega)) only [go_sem, Nat.reduceAdd, Int.reduceAdd, Int.reduceSub, Int.reduceMul, Bool.not_true, Bool.not_false, yieldA_at 3 8, yieldA_at 4 33, yieldA_at 8 13, yieldA_at 12 17]) | refine WA_seq ?_ | refine WA_block ?_ | (refine WA_skip ?_; try simp only [go_sem]) | (refine WA_ret ?_; try simp only [go_sem]) | refine WA_ct rfl ?_ | refine WA_cf rfl ?_))
    ((first | refine ret_nA ?_ | refine ret_sA ?_ | refine ret_fA ?_); simp (maxSteps := 1000000) (disch := first | omega | rfl | decide | (simp only [List.length_cons, List.length_nil, List.length_append, Bs_length, Is_length, Vs_length, Bl_length, Il_length] <;> omega)) only [go_sem, Nat.reduceAdd, Int.reduceAdd, Int.reduceSub, Int.reduceMul, Bool.not_true, Bool.not_false]; try rfl)
theorem lnD_no {s : ByteArray} (h0 : s.size ≠ 0) (h9 : s.size ≤ 9) (e1 : decide ((1 : Int) < ((s.size : Nat) : Int)) = false) (e1' : decide (1 < s.size) = false) (ec : (zrC s == 48) = false) (hall : allT (fun i => isDig (ch s i)) s.size = false) (h : List Blk) : AC Tryd.prog 18 [.string s] h (.int .i64 (numN s)) h := by
  have e0 : (s.size == 0) = false := by rw [beq_eq_false_iff_ne]; exact h0
  have e9 : decide ((9 : Int) < ((s.size : Nat) : Int)) = false := decide_eq_false (by omega)
  have e9' : decide (9 < s.size) = false := decide_eq_false (by omega)
  unfold numN
  rw [num_bad2 hall, if_neg (by decide)]
  obtain ⟨m, hm, hf, hall⟩ := allT_first hall
  (refine AC_begin (fun _ _ => Tryd.call18 _ _) Tryd.func18 rfl Tryd.ntmps18 Tryd.results18 (fun hwf => ?_); simp only [List.length_cons, List.length_nil, Nat.reduceAdd, Nat.reduceSub, List.replicate, List.cons_append, List.nil_append])
  (repeat (first | ((first | (refine And.intro ?_ ?_; focus exact PLA) | refine WA_seq (WA_region ?_) | refine WA_region ?_ | refine WA_exit ?_); try simp (maxSteps := 1000000) (disch := first | omega | rfl | decide | (simp only [List.length_cons, List.length_nil, List.length_append, Bs_length, Is_length, Vs_length, Bl_length, Il_length] <;> omega)) only [go_sem, Nat.reduceAdd, Int.reduceAdd, Int.reduceSub, Int.reduceMul, Bool.not_true, Bool.not_false, e0, e9, e9', e1, e1', ch_is, ec, yieldA_at 3 8, yieldA_at 4 33, yieldA_at 8 13, yieldA_at 12 17]) | refine WA_seq ?_ | refine WA_block ?_ | (refine WA_skip ?_; try simp only [go_sem]) | (refine WA_ret ?_; try simp only [go_sem]) | refine WA_ct rfl ?_ | refine WA_cf rfl ?_))
  refine WA_forH (fun k => [(2, J), (3, .int .i64 ((vP s k : Nat) : Int)), (4, .int .i64 k), (23, J), (24, J), (25, J), (26, J), (27, J), (28, J), (29, J), (30, J), (31, J), (32, J), (33, J), (34, J), (35, J), (36, J), (37, J), (38, J), (39, J), (40, J), (41, J), (42, J), (43, J), (44, J), (45, J), (46, J)]) (fun k => h) (m) ?_ ?_ ?_ <;> (try simp only [patT_cons, patT_nil, patL_cons, patL_nil, list_set_zero, list_set_succ, blk_set_zero, blk_set_succ])
  · (refine Drop_slots (by first | exact Nat.le_refl _ | simp) ?_; focus ((try simp only [JL_same, JL_J, JL_nil, Int.reduceAdd, Nat.sub_sub, Int.natCast_add, Int.natCast_one, Int.natCast_zero, Int.cast_ofNat_Int, Nat.add_zero, Bool.false_eq_true, if_false, if_true, vP_0]); (try exact JL_refl _)))
  · intro k hk
    have hd := isDig_iff.1 (allT_get hall hk)
    have hk' : k < s.size := by omega
    have a1 : decide (ch s k < 48) = false := decide_eq_false (fun h => by have := UInt8.lt_iff_toNat_lt.1 h; have e : (48 : UInt8).toNat = 48 := rfl; omega)
    have a2 : decide (57 < ch s k) = false := decide_eq_false (fun h => by have := UInt8.lt_iff_toNat_lt.1 h; have e : (57 : UInt8).toNat = 57 := rfl; omega)
    obtain ⟨m1, m3⟩ := stepN hk' (vP_lt (by omega) h9 (allT_pre hall (by omega)))
    have m2 := c48 hd.1
    have m5 := stepM (s := s) (k := k) (by omega)
    have hlt := vP_lt (k := k) (by omega) h9 (allT_pre hall (by omega))
    have m1b : IntKind.i64.wrap ((vP s k * 10 : Nat) : Int) = ((vP s k * 10 : Nat) : Int) := wrap_N (by omega)
    have m4 : IntKind.i64.wrap (((ch s k).toNat - 48 : Nat) : Int) = (((ch s k).toNat - 48 : Nat) : Int) := wrap_N (by omega)
    (repeat (first | ((first | (refine And.intro ?_ ?_; focus exact PLA) | refine WA_seq (WA_region ?_) | refine WA_region ?_ | refine WA_exit ?_); try simp (maxSteps := 1000000) (disch := first | omega | rfl | decide | (simp only [List.length_cons, List.length_nil, List.length_append, Bs_length, Is_length, Vs_length, Bl_length, Il_length] <;> omega)) only [go_sem, Nat.reduceAdd, Int.reduceAdd, Int.reduceSub, Int.reduceMul, Bool.not_true, Bool.not_false, decide_true, ch_is, a1, a2, m1, m1b, m2, m4, m3, m5, yieldA_at 3 8, yieldA_at 4 33, yieldA_at 8 13, yieldA_at 12 17]) | refine WA_seq ?_ | refine WA_block ?_ | (refine WA_skip ?_; try simp only [go_sem]) | (refine WA_ret ?_; try simp only [go_sem]) | refine WA_ct rfl ?_ | refine WA_cf rfl ?_))
    (refine Drop_slots (by first | exact Nat.le_refl _ | simp) ?_; focus ((try simp only [JL_same, JL_J, JL_nil, Int.reduceAdd, Nat.sub_sub, Int.natCast_add, Int.natCast_one, Int.natCast_zero, Int.cast_ofNat_Int, Nat.add_zero, Bool.false_eq_true, if_false, if_true]); (try exact JL_refl _)))
  · by_cases hl : ch s m < 48
    · have a1 : decide (ch s m < 48) = true := decide_eq_true hl
      (repeat (first | ((first | (refine And.intro ?_ ?_; focus exact PLA) | refine WA_seq (WA_region ?_) | refine WA_region ?_ | refine WA_exit ?_); try simp (maxSteps := 1000000) (disch := first | omega | rfl | decide | (simp only [List.length_cons, List.length_nil, List.length_append, Bs_length, Is_length, Vs_length, Bl_length, Il_length] <;> omega)) only [go_sem, Nat.reduceAdd, Int.reduceAdd, Int.reduceSub, Int.reduceMul, Bool.not_true, Bool.not_false, decide_true, ch_is, a1, yieldA_at 3 8, yieldA_at 4 33, yieldA_at 8 13, yieldA_at 12 17]) | refine WA_seq ?_ | refine WA_block ?_ | (refine WA_skip ?_; try simp only [go_sem]) | (refine WA_ret ?_; try simp only [go_sem]) | refine WA_ct rfl ?_ | refine WA_cf rfl ?_))
      ((first | refine ret_nA ?_ | refine ret_sA ?_ | refine ret_fA ?_); simp (maxSteps := 1000000) (disch := first | omega | rfl | decide | (simp only [List.length_cons, List.length_nil, List.length_append, Bs_length, Is_length, Vs_length, Bl_length, Il_length] <;> omega)) only [go_sem, Nat.reduceAdd, Int.reduceAdd, Int.reduceSub, Int.reduceMul, Bool.not_true, Bool.not_false]; try rfl)
    · have a1 : decide (ch s m < 48) = false := decide_eq_false hl
      have a2 : decide (57 < ch s m) = true := decide_eq_true (UInt8.lt_iff_toNat_lt.2 (by
        have e : (57 : UInt8).toNat = 57 := rfl
        have h48 : 48 ≤ (ch s m).toNat := by
          rcases Nat.lt_or_ge (ch s m).toNat 48 with h | h
          · exact absurd (UInt8.lt_iff_toNat_lt.2 (show (ch s m).toNat < (48 : UInt8).toNat from h)) hl
          · exact h
        rcases Nat.lt_or_ge (57 : UInt8).toNat (ch s m).toNat with h | h
        · exact h
        · have := isDig_iff.2 ⟨h48, by omega⟩
          rw [hf] at this; cases this))
      (repeat (first | ((first | (refine And.intro ?_ ?_; focus exact PLA) | refine WA_seq (WA_region ?_) | refine WA_region ?_ | refine WA_exit ?_); try simp (maxSteps := 1000000) (disch := first | omega | rfl | decide | (simp only [List.length_cons, List.length_nil, List.length_append, Bs_length, Is_length, Vs_length, Bl_length, Il_length] <;> omega)) only [go_sem, Nat.reduceAdd, Int.reduceAdd, Int.reduceSub, Int.reduceMul, Bool.not_true, Bool.not_false, decide_true, ch_is, a1, a2, yieldA_at 3 8, yieldA_at 4 33, yieldA_at 8 13, yieldA_at 12 17]) | refine WA_seq ?_ | refine WA_block ?_ | (refine WA_skip ?_; try simp only [go_sem]) | (refine WA_ret ?_; try simp only [go_sem]) | refine WA_ct rfl ?_ | refine WA_cf rfl ?_))
      ((first | refine ret_nA ?_ | refine ret_sA ?_ | refine ret_fA ?_); simp (maxSteps := 1000000) (disch := first | omega | rfl | decide | (simp only [List.length_cons, List.length_nil, List.length_append, Bs_length, Is_length, Vs_length, Bl_length, Il_length] <;> omega)) only [go_sem, Nat.reduceAdd, Int.reduceAdd, Int.reduceSub, Int.reduceMul, Bool.not_true, Bool.not_false]; try rfl)
theorem lnE_ok {s : ByteArray} (h0 : s.size ≠ 0) (h9 : s.size ≤ 9) (e1 : decide ((1 : Int) < ((s.size : Nat) : Int)) = true) (e1' : decide (1 < s.size) = true) (ec : (hdC s == 48) = false) (h1 : s.size ≤ 1 ∨ ch s 0 ≠ 48) (hall : allT (fun i => isDig (ch s i)) s.size = true) (h : List Blk) : AC Tryd.prog 18 [.string s] h (.int .i64 (numN s)) h := by
  have e0 : (s.size == 0) = false := by rw [beq_eq_false_iff_ne]; exact h0
  have e9 : decide ((9 : Int) < ((s.size : Nat) : Int)) = false := decide_eq_false (by omega)
  have e9' : decide (9 < s.size) = false := decide_eq_false (by omega)
  obtain ⟨hb, hv⟩ := num_good h0 h9 h1 hall
  unfold numN
  rw [hb, if_pos rfl, hv]
  (refine AC_begin (fun _ _ => Tryd.call18 _ _) Tryd.func18 rfl Tryd.ntmps18 Tryd.results18 (fun hwf => ?_); simp only [List.length_cons, List.length_nil, Nat.reduceAdd, Nat.reduceSub, List.replicate, List.cons_append, List.nil_append])
  (repeat (first | ((first | (refine And.intro ?_ ?_; focus exact PLA) | refine WA_seq (WA_region ?_) | refine WA_region ?_ | refine WA_exit ?_); try simp (maxSteps := 1000000) (disch := first | omega | rfl | decide | (simp only [List.length_cons, List.length_nil, List.length_append, Bs_length, Is_length, Vs_length, Bl_length, Il_length] <;> omega)) only [go_sem, Nat.reduceAdd, Int.reduceAdd, Int.reduceSub, Int.reduceMul, Bool.not_true, Bool.not_false, e0, e9, e9', e1, e1', ch_is, ec, yieldA_at 3 8, yieldA_at 4 33, yieldA_at 8 13, yieldA_at 12 17]) | refine WA_seq ?_ | refine WA_block ?_ | (refine WA_skip ?_; try simp only [go_sem]) | (refine WA_ret ?_; try simp only [go_sem]) | refine WA_ct rfl ?_ | refine WA_cf rfl ?_))
  refine WA_forH (fun k => [(2, J), (3, .int .i64 ((vP s k : Nat) : Int)), (4, .int .i64 k), (23, J), (24, J), (25, J), (26, J), (27, J), (28, J), (29, J), (30, J), (31, J), (32, J), (33, J), (34, J), (35, J), (36, J), (37, J), (38, J), (39, J), (40, J), (41, J), (42, J), (43, J), (44, J), (45, J), (46, J)]) (fun k => h) (s.size) ?_ ?_ ?_ <;> (try simp only [patT_cons, patT_nil, patL_cons, patL_nil, list_set_zero, list_set_succ, blk_set_zero, blk_set_succ])
  · (refine Drop_slots (by first | exact Nat.le_refl _ | simp) ?_; focus ((try simp only [JL_same, JL_J, JL_nil, Int.reduceAdd, Nat.sub_sub, Int.natCast_add, Int.natCast_one, Int.natCast_zero, Int.cast_ofNat_Int, Nat.add_zero, Bool.false_eq_true, if_false, if_true, vP_0]); (try exact JL_refl _)))
  · intro k hk
    have hd := isDig_iff.1 (allT_get hall hk)
    have a1 : decide (ch s k < 48) = false := decide_eq_false (fun h => by have := UInt8.lt_iff_toNat_lt.1 h; have e : (48 : UInt8).toNat = 48 := rfl; omega)
    have a2 : decide (57 < ch s k) = false := decide_eq_false (fun h => by have := UInt8.lt_iff_toNat_lt.1 h; have e : (57 : UInt8).toNat = 57 := rfl; omega)
    obtain ⟨m1, m3⟩ := stepN hk (vP_lt (by omega) h9 (allT_pre hall (by omega)))
    have m2 := c48 hd.1
    have m5 := stepM (s := s) (k := k) (by omega)
    have hlt := vP_lt (k := k) (by omega) h9 (allT_pre hall (by omega))
    have m1b : IntKind.i64.wrap ((vP s k * 10 : Nat) : Int) = ((vP s k * 10 : Nat) : Int) := wrap_N (by omega)
    have m4 : IntKind.i64.wrap (((ch s k).toNat - 48 : Nat) : Int) = (((ch s k).toNat - 48 : Nat) : Int) := wrap_N (by omega)
    (repeat (first | ((first | (refine And.intro ?_ ?_; focus exact PLA) | refine WA_seq (WA_region ?_) | refine WA_region ?_ | refine WA_exit ?_); try simp (maxSteps := 1000000) (disch := first | omega | rfl | decide | (simp only [List.length_cons, List.length_nil, List.length_append, Bs_length, Is_length, Vs_length, Bl_length, Il_length] <;> omega)) only [go_sem, Nat.reduceAdd, Int.reduceAdd, Int.reduceSub, Int.reduceMul, Bool.not_true, Bool.not_false, ch_is, a1, a2, m1, m1b, m2, m4, m3, m5, yieldA_at 3 8, yieldA_at 4 33, yieldA_at 8 13, yieldA_at 12 17]) | refine WA_seq ?_ | refine WA_block ?_ | (refine WA_skip ?_; try simp only [go_sem]) | (refine WA_ret ?_; try simp only [go_sem]) | refine WA_ct rfl ?_ | refine WA_cf rfl ?_))
    (refine Drop_slots (by first | exact Nat.le_refl _ | simp) ?_; focus ((try simp only [JL_same, JL_J, JL_nil, Int.reduceAdd, Nat.sub_sub, Int.natCast_add, Int.natCast_one, Int.natCast_zero, Int.cast_ofNat_Int, Nat.add_zero, Bool.false_eq_true, if_false, if_true]); (try exact JL_refl _)))
  · (repeat (first | ((first | (refine And.intro ?_ ?_; focus exact PLA) | refine WA_seq (WA_region ?_) | refine WA_region ?_ | refine WA_exit ?_); try simp (maxSteps := 1000000) (disch := first | omega | rfl | decide | (simp only [List.length_cons, List.length_nil, List.length_append, Bs_length, Is_length, Vs_length, Bl_length, Il_length] <;> omega)) only [go_sem, Nat.reduceAdd, Int.reduceAdd, Int.reduceSub, Int.reduceMul, Bool.not_true, Bool.not_false, yieldA_at 3 8, yieldA_at 4 33, yieldA_at 8 13, yieldA_at 12 17]) | refine WA_seq ?_ | refine WA_block ?_ | (refine WA_skip ?_; try simp only [go_sem]) | (refine WA_ret ?_; try simp only [go_sem]) | refine WA_ct rfl ?_ | refine WA_cf rfl ?_))
    ((first | refine ret_nA ?_ | refine ret_sA ?_ | refine ret_fA ?_); simp (maxSteps := 1000000) (disch := first | omega | rfl | decide | (simp only [List.length_cons, List.length_nil, List.length_append, Bs_length, Is_length, Vs_length, Bl_length, Il_length] <;> omega)) only [go_sem, Nat.reduceAdd, Int.reduceAdd, Int.reduceSub, Int.reduceMul, Bool.not_true, Bool.not_false]; try rfl)
theorem lnE_no {s : ByteArray} (h0 : s.size ≠ 0) (h9 : s.size ≤ 9) (e1 : decide ((1 : Int) < ((s.size : Nat) : Int)) = true) (e1' : decide (1 < s.size) = true) (ec : (hdC s == 48) = false) (hall : allT (fun i => isDig (ch s i)) s.size = false) (h : List Blk) : AC Tryd.prog 18 [.string s] h (.int .i64 (numN s)) h := by
  have e0 : (s.size == 0) = false := by rw [beq_eq_false_iff_ne]; exact h0
  have e9 : decide ((9 : Int) < ((s.size : Nat) : Int)) = false := decide_eq_false (by omega)
  have e9' : decide (9 < s.size) = false := decide_eq_false (by omega)
  unfold numN
  rw [num_bad2 hall, if_neg (by decide)]
  obtain ⟨m, hm, hf, hall⟩ := allT_first hall
  (refine AC_begin (fun _ _ => Tryd.call18 _ _) Tryd.func18 rfl Tryd.ntmps18 Tryd.results18 (fun hwf => ?_); simp only [List.length_cons, List.length_nil, Nat.reduceAdd, Nat.reduceSub, List.replicate, List.cons_append, List.nil_append])
  (repeat (first | ((first | (refine And.intro ?_ ?_; focus exact PLA) | refine WA_seq (WA_region ?_) | refine WA_region ?_ | refine WA_exit ?_); try simp (maxSteps := 1000000) (disch := first | omega | rfl | decide | (simp only [List.length_cons, List.length_nil, List.length_append, Bs_length, Is_length, Vs_length, Bl_length, Il_length] <;> omega)) only [go_sem, Nat.reduceAdd, Int.reduceAdd, Int.reduceSub, Int.reduceMul, Bool.not_true, Bool.not_false, e0, e9, e9', e1, e1', ch_is, ec, yieldA_at 3 8, yieldA_at 4 33, yieldA_at 8 13, yieldA_at 12 17]) | refine WA_seq ?_ | refine WA_block ?_ | (refine WA_skip ?_; try simp only [go_sem]) | (refine WA_ret ?_; try simp only [go_sem]) | refine WA_ct rfl ?_ | refine WA_cf rfl ?_))
  refine WA_forH (fun k => [(2, J), (3, .int .i64 ((vP s k : Nat) : Int)), (4, .int .i64 k), (23, J), (24, J), (25, J), (26, J), (27, J), (28, J), (29, J), (30, J), (31, J), (32, J), (33, J), (34, J), (35, J), (36, J), (37, J), (38, J), (39, J), (40, J), (41, J), (42, J), (43, J), (44, J), (45, J), (46, J)]) (fun k => h) (m) ?_ ?_ ?_ <;> (try simp only [patT_cons, patT_nil, patL_cons, patL_nil, list_set_zero, list_set_succ, blk_set_zero, blk_set_succ])
  · (refine Drop_slots (by first | exact Nat.le_refl _ | simp) ?_; focus ((try simp only [JL_same, JL_J, JL_nil, Int.reduceAdd, Nat.sub_sub, Int.natCast_add, Int.natCast_one, Int.natCast_zero, Int.cast_ofNat_Int, Nat.add_zero, Bool.false_eq_true, if_false, if_true, vP_0]); (try exact JL_refl _)))
  · intro k hk
    have hd := isDig_iff.1 (allT_get hall hk)
    have hk' : k < s.size := by omega
    have a1 : decide (ch s k < 48) = false := decide_eq_false (fun h => by have := UInt8.lt_iff_toNat_lt.1 h; have e : (48 : UInt8).toNat = 48 := rfl; omega)
    have a2 : decide (57 < ch s k) = false := decide_eq_false (fun h => by have := UInt8.lt_iff_toNat_lt.1 h; have e : (57 : UInt8).toNat = 57 := rfl; omega)
    obtain ⟨m1, m3⟩ := stepN hk' (vP_lt (by omega) h9 (allT_pre hall (by omega)))
    have m2 := c48 hd.1
    have m5 := stepM (s := s) (k := k) (by omega)
    have hlt := vP_lt (k := k) (by omega) h9 (allT_pre hall (by omega))
    have m1b : IntKind.i64.wrap ((vP s k * 10 : Nat) : Int) = ((vP s k * 10 : Nat) : Int) := wrap_N (by omega)
    have m4 : IntKind.i64.wrap (((ch s k).toNat - 48 : Nat) : Int) = (((ch s k).toNat - 48 : Nat) : Int) := wrap_N (by omega)
    (repeat (first | ((first | (refine And.intro ?_ ?_; focus exact PLA) | refine WA_seq (WA_region ?_) | refine WA_region ?_ | refine WA_exit ?_); try simp (maxSteps := 1000000) (disch := first | omega | rfl | decide | (simp only [List.length_cons, List.length_nil, List.length_append, Bs_length, Is_length, Vs_length, Bl_length, Il_length] <;> omega)) only [go_sem, Nat.reduceAdd, Int.reduceAdd, Int.reduceSub, Int.reduceMul, Bool.not_true, Bool.not_false, decide_true, ch_is, a1, a2, m1, m1b, m2, m4, m3, m5, yieldA_at 3 8, yieldA_at 4 33, yieldA_at 8 13, yieldA_at 12 17]) | refine WA_seq ?_ | refine WA_block ?_ | (refine WA_skip ?_; try simp only [go_sem]) | (refine WA_ret ?_; try simp only [go_sem]) | refine WA_ct rfl ?_ | refine WA_cf rfl ?_))
    (refine Drop_slots (by first | exact Nat.le_refl _ | simp) ?_; focus ((try simp only [JL_same, JL_J, JL_nil, Int.reduceAdd, Nat.sub_sub, Int.natCast_add, Int.natCast_one, Int.natCast_zero, Int.cast_ofNat_Int, Nat.add_zero, Bool.false_eq_true, if_false, if_true]); (try exact JL_refl _)))
  · by_cases hl : ch s m < 48
    · have a1 : decide (ch s m < 48) = true := decide_eq_true hl
      (repeat (first | ((first | (refine And.intro ?_ ?_; focus exact PLA) | refine WA_seq (WA_region ?_) | refine WA_region ?_ | refine WA_exit ?_); try simp (maxSteps := 1000000) (disch := first | omega | rfl | decide | (simp only [List.length_cons, List.length_nil, List.length_append, Bs_length, Is_length, Vs_length, Bl_length, Il_length] <;> omega)) only [go_sem, Nat.reduceAdd, Int.reduceAdd, Int.reduceSub, Int.reduceMul, Bool.not_true, Bool.not_false, decide_true, ch_is, a1, yieldA_at 3 8, yieldA_at 4 33, yieldA_at 8 13, yieldA_at 12 17]) | refine WA_seq ?_ | refine WA_block ?_ | (refine WA_skip ?_; try simp only [go_sem]) | (refine WA_ret ?_; try simp only [go_sem]) | refine WA_ct rfl ?_ | refine WA_cf rfl ?_))
      ((first | refine ret_nA ?_ | refine ret_sA ?_ | refine ret_fA ?_); simp (maxSteps := 1000000) (disch := first | omega | rfl | decide | (simp only [List.length_cons, List.length_nil, List.length_append, Bs_length, Is_length, Vs_length, Bl_length, Il_length] <;> omega)) only [go_sem, Nat.reduceAdd, Int.reduceAdd, Int.reduceSub, Int.reduceMul, Bool.not_true, Bool.not_false]; try rfl)
    · have a1 : decide (ch s m < 48) = false := decide_eq_false hl
      have a2 : decide (57 < ch s m) = true := decide_eq_true (UInt8.lt_iff_toNat_lt.2 (by
        have e : (57 : UInt8).toNat = 57 := rfl
        have h48 : 48 ≤ (ch s m).toNat := by
          rcases Nat.lt_or_ge (ch s m).toNat 48 with h | h
          · exact absurd (UInt8.lt_iff_toNat_lt.2 (show (ch s m).toNat < (48 : UInt8).toNat from h)) hl
          · exact h
        rcases Nat.lt_or_ge (57 : UInt8).toNat (ch s m).toNat with h | h
        · exact h
        · have := isDig_iff.2 ⟨h48, by omega⟩
          rw [hf] at this; cases this))
      (repeat (first | ((first | (refine And.intro ?_ ?_; focus exact PLA) | refine WA_seq (WA_region ?_) | refine WA_region ?_ | refine WA_exit ?_); try simp (maxSteps := 1000000) (disch := first | omega | rfl | decide | (simp only [List.length_cons, List.length_nil, List.length_append, Bs_length, Is_length, Vs_length, Bl_length, Il_length] <;> omega)) only [go_sem, Nat.reduceAdd, Int.reduceAdd, Int.reduceSub, Int.reduceMul, Bool.not_true, Bool.not_false, decide_true, ch_is, a1, a2, yieldA_at 3 8, yieldA_at 4 33, yieldA_at 8 13, yieldA_at 12 17]) | refine WA_seq ?_ | refine WA_block ?_ | (refine WA_skip ?_; try simp only [go_sem]) | (refine WA_ret ?_; try simp only [go_sem]) | refine WA_ct rfl ?_ | refine WA_cf rfl ?_))
      ((first | refine ret_nA ?_ | refine ret_sA ?_ | refine ret_fA ?_); simp (maxSteps := 1000000) (disch := first | omega | rfl | decide | (simp only [List.length_cons, List.length_nil, List.length_append, Bs_length, Is_length, Vs_length, Bl_length, Il_length] <;> omega)) only [go_sem, Nat.reduceAdd, Int.reduceAdd, Int.reduceSub, Int.reduceMul, Bool.not_true, Bool.not_false]; try rfl)
theorem lnum_ac {s : ByteArray} (hm : s.size ≤ 1048576) (h : List Blk) : AC Tryd.prog 18 [.string s] h (.int .i64 (numN s)) h := by
  by_cases h0 : s.size = 0
  · exact lnA_ac h0 h
  by_cases h9 : 9 < s.size
  · exact lnB_ac h9 hm h
  by_cases h1 : 1 < s.size
  · by_cases hc : ch s 0 = 48
    · exact lnC_ac h1 (by omega) hc h
    · have ec : (ch s 0 == 48) = false := by rw [beq_eq_false_iff_ne]; exact hc
      cases hall : allT (fun i => isDig (ch s i)) s.size
      · exact lnE_no h0 (by omega) (decide_eq_true (by omega)) (decide_eq_true h1) ec hall h
      · exact lnE_ok h0 (by omega) (decide_eq_true (by omega)) (decide_eq_true h1) ec (.inr hc) hall h
  · cases hall : allT (fun i => isDig (ch s i)) s.size
    · exact lnD_no h0 (by omega) (decide_eq_false (by omega)) (decide_eq_false h1) rfl hall h
    · exact lnD_ok h0 (by omega) (decide_eq_false (by omega)) (decide_eq_false h1) rfl (.inl (by omega)) hall h

end Go.Proofs.YtmkhafmkllfmkaaDoor
/- Matrices of texts: both sides. -/
namespace Go.Proofs.YtmkhafmkllfmkaaDoor
set_option linter.unusedSimpArgs false
set_option linter.unusedVariables false
set_option maxRecDepth 20000
set_option maxHeartbeats 1000000
open Go.Abs

/-- The i-th piece of a text. -/
def pcF (s : ByteArray) (i : Nat) : ByteArray := (spA s 47).getD i ⟨#[]⟩
theorem pc_get {s : ByteArray} {q : Nat} (h : q < (spA s 47).length) : (Ss (spA s 47))[q]? = some (.string (pcF s q)) := Ss_get h
theorem pcF_le {s : ByteArray} {i : Nat} : (pcF s i).size ≤ s.size := by
  unfold pcF
  rw [List.getD_eq_getElem?_getD]
  cases h : (spA s 47)[i]? with
  | none => exact Nat.zero_le _
  | some p => exact spA_piece (List.mem_of_getElem? h)
attribute [local irreducible] ch unV pcF spA hexOk
end Go.Proofs.YtmkhafmkllfmkaaDoor
