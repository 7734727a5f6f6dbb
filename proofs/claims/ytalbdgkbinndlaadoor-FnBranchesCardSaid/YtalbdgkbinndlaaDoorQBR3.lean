/- A part of the proof of FnBranches. -/
import Derived.Test.YtalbdgkbinndlaaDoorQBRH
/- The generator: whatever the state, within some 2^33 steps two neighbouring even places both give no multiple of 3. Plain. -/
namespace Go.Proofs.YtalbdgkbinndlaaDoor
set_option linter.unusedSimpArgs false
set_option linter.unusedVariables false
set_option maxRecDepth 20000
set_option maxHeartbeats 1000000
open Go.Abs

/-- The generator's step. -/
def gS (s : Nat) : Nat := (s * 6364136223846793005 + 1442695040888963407) % 18446744073709551616
theorem gS_is (s : Nat) : gS s = (s * 6364136223846793005 + 1442695040888963407) % 18446744073709551616 := rfl
attribute [irreducible] gS
def gN (f : Nat → Nat) : Nat → Nat → Nat
  | 0, s => s
  | k + 1, s => gN f k (f s)
theorem gN_succ {f : Nat → Nat} (k s : Nat) : gN f (k + 1) s = gN f k (f s) := rfl
theorem gN_add {f : Nat → Nat} (i : Nat) : ∀ j s, gN f (j + i) s = gN f i (gN f j s)
  | 0, s => by rw [Nat.zero_add]; rfl
  | j + 1, s => by rw [show j + 1 + i = (j + i) + 1 by omega, gN_succ, gN_succ, gN_add i j (f s)]
theorem gN_congF {f : Nat → Nat} {M : Nat} (hf : ∀ {a b : Nat}, a % M = b % M → f a % M = f b % M) : ∀ k {a b : Nat}, a % M = b % M → gN f k a % M = gN f k b % M
  | 0, _, _, h => h
  | k + 1, a, b, h => by rw [gN_succ, gN_succ]; exact gN_congF hf k (hf h)
theorem gN_one {f : Nat → Nat} (s : Nat) : gN f 1 s = f s := rfl
theorem gN_three {f : Nat → Nat} (s : Nat) : gN f 3 s = f (f (f s)) := rfl
theorem gS_cong {M a b : Nat} (hM : 18446744073709551616 % M = 0) (h : a % M = b % M) : gS a % M = gS b % M := by
  have hd : M ∣ 18446744073709551616 := Nat.dvd_of_mod_eq_zero hM
  rw [gS_is, gS_is, Nat.mod_mod_of_dvd _ hd, Nat.mod_mod_of_dvd _ hd, Nat.add_mod, Nat.mul_mod, h, ← Nat.mul_mod, ← Nat.add_mod]
theorem gN_cong {M : Nat} (hM : 18446744073709551616 % M = 0) (k : Nat) {a b : Nat} (h : a % M = b % M) : gN gS k a % M = gN gS k b % M := gN_congF (gS_cong hM) k h
/-- 2^k steps, as one multiplication and one addition. -/
def gA : Nat → Nat
  | 0 => 6364136223846793005
  | k + 1 => gA k * gA k % 18446744073709551616
def gC : Nat → Nat
  | 0 => 1442695040888963407
  | k + 1 => (gC k * gA k + gC k) % 18446744073709551616
theorem gN_pow : ∀ k s, gN gS (2 ^ k) s % 18446744073709551616 = (s * gA k + gC k) % 18446744073709551616
  | 0, s => by
    show gN gS 1 s % 18446744073709551616 = (s * 6364136223846793005 + 1442695040888963407) % 18446744073709551616
    rw [gN_one, gS_is, Nat.mod_mod]
  | k + 1, s => by
    rw [Nat.pow_succ, Nat.mul_two, gN_add, gN_pow k, Nat.add_mod, Nat.mul_mod, gN_pow k s, ← Nat.mul_mod, ← Nat.add_mod]
    show ((s * gA k + gC k) * gA k + gC k) % _ = (s * (gA k * gA k % 18446744073709551616) + (gC k * gA k + gC k) % 18446744073709551616) % 18446744073709551616
    rw [Nat.add_mod (s * _), Nat.mul_mod s, Nat.mod_mod, Nat.mod_mod, ← Nat.mul_mod, ← Nat.add_mod, Nat.add_mul, Nat.mul_assoc, Nat.add_assoc]
theorem gA_succ (k : Nat) : gA (k + 1) = gA k * gA k % 18446744073709551616 := rfl
theorem gC_succ (k : Nat) : gC (k + 1) = (gC k * gA k + gC k) % 18446744073709551616 := rfl
theorem gv0 : gA 0 = 6364136223846793005 ∧ gC 0 = 1442695040888963407 := ⟨rfl, rfl⟩
theorem gv1 : gA 1 = 7520897724310334953 ∧ gC 1 = 1876011003808476466 := by
  have e1 := gA_succ 0
  have e2 := gC_succ 0
  rw [gv0.1] at e1
  rw [gv0.1, gv0.2] at e2
  exact ⟨e1.trans (by decide +kernel), e2.trans (by decide +kernel)⟩
theorem gv2 : gA 2 = 18108194425815612945 ∧ gC 2 = 7401132627792533940 := by
  have e1 := gA_succ 1
  have e2 := gC_succ 1
  rw [gv1.1] at e1
  rw [gv1.1, gv1.2] at e2
  exact ⟨e1.trans (by decide +kernel), e2.trans (by decide +kernel)⟩
theorem gv3 : gA 3 = 13086856194709077281 ∧ gC 3 = 6566661184467396264 := by
  have e1 := gA_succ 2
  have e2 := gC_succ 2
  rw [gv2.1] at e1
  rw [gv2.1, gv2.2] at e2
  exact ⟨e1.trans (by decide +kernel), e2.trans (by decide +kernel)⟩
theorem gv4 : gA 4 = 10186629832379121217 ∧ gC 4 = 3646985772805368400 := by
  have e1 := gA_succ 3
  have e2 := gC_succ 3
  rw [gv3.1] at e1
  rw [gv3.1, gv3.2] at e2
  exact ⟨e1.trans (by decide +kernel), e2.trans (by decide +kernel)⟩
theorem gv5 : gA 5 = 10828933358287359105 ∧ gC 5 = 982119659650238624 := by
  have e1 := gA_succ 4
  have e2 := gC_succ 4
  rw [gv4.1] at e1
  rw [gv4.1, gv4.2] at e2
  exact ⟨e1.trans (by decide +kernel), e2.trans (by decide +kernel)⟩
theorem gv6 : gA 6 = 4910590176156014849 ∧ gC 6 = 10607473198416945472 := by
  have e1 := gA_succ 5
  have e2 := gC_succ 5
  rw [gv5.1] at e1
  rw [gv5.1, gv5.2] at e2
  exact ⟨e1.trans (by decide +kernel), e2.trans (by decide +kernel)⟩
theorem gv7 : gA 7 = 9908147928152388097 ∧ gC 7 = 6914523672464851584 := by
  have e1 := gA_succ 6
  have e2 := gC_succ 6
  rw [gv6.1] at e1
  rw [gv6.1, gv6.2] at e2
  exact ⟨e1.trans (by decide +kernel), e2.trans (by decide +kernel)⟩
theorem gv8 : gA 8 = 146241703003251713 ∧ gC 8 = 4689171378020353280 := by
  have e1 := gA_succ 7
  have e2 := gC_succ 7
  rw [gv7.1] at e1
  rw [gv7.1, gv7.2] at e2
  exact ⟨e1.trans (by decide +kernel), e2.trans (by decide +kernel)⟩
theorem gv9 : gA 9 = 7321387688379467777 ∧ gC 9 = 8103286608563669504 := by
  have e1 := gA_succ 8
  have e2 := gC_succ 8
  rw [gv8.1] at e1
  rw [gv8.1, gv8.2] at e2
  exact ⟨e1.trans (by decide +kernel), e2.trans (by decide +kernel)⟩
theorem gv10 : gA 10 = 12255457568021647361 ∧ gC 10 = 7710372194127975424 := by
  have e1 := gA_succ 9
  have e2 := gC_succ 9
  rw [gv9.1] at e1
  rw [gv9.1, gv9.2] at e2
  exact ⟨e1.trans (by decide +kernel), e2.trans (by decide +kernel)⟩
theorem gv11 : gA 11 = 9867978473775767553 ∧ gC 11 = 16043993925053589504 := by
  have e1 := gA_succ 10
  have e2 := gC_succ 10
  rw [gv10.1] at e1
  rw [gv10.1, gv10.2] at e2
  exact ⟨e1.trans (by decide +kernel), e2.trans (by decide +kernel)⟩
theorem gv12 : gA 12 = 5088048636545613825 ∧ gC 12 = 1993901509916512256 := by
  have e1 := gA_succ 11
  have e2 := gC_succ 11
  rw [gv11.1] at e1
  rw [gv11.1, gv11.2] at e2
  exact ⟨e1.trans (by decide +kernel), e2.trans (by decide +kernel)⟩
theorem gv13 : gA 13 = 2150478223927705601 ∧ gC 13 = 13175896319671181312 := by
  have e1 := gA_succ 12
  have e2 := gC_succ 12
  rw [gv12.1] at e1
  rw [gv12.1, gv12.2] at e2
  exact ⟨e1.trans (by decide +kernel), e2.trans (by decide +kernel)⟩
theorem gv14 : gA 14 = 9196835419631190017 ∧ gC 14 = 1993366741509554176 := by
  have e1 := gA_succ 13
  have e2 := gC_succ 13
  rw [gv13.1] at e1
  rw [gv13.1, gv13.2] at e2
  exact ⟨e1.trans (by decide +kernel), e2.trans (by decide +kernel)⟩
theorem gv15 : gA 15 = 5957860013156466689 ∧ gC 15 = 7241871532530761728 := by
  have e1 := gA_succ 14
  have e2 := gC_succ 14
  rw [gv14.1] at e1
  rw [gv14.1, gv14.2] at e2
  exact ⟨e1.trans (by decide +kernel), e2.trans (by decide +kernel)⟩
theorem gv16 : gA 16 = 10389140232424652801 ∧ gC 16 = 9829074100562493440 := by
  have e1 := gA_succ 15
  have e2 := gC_succ 15
  rw [gv15.1] at e1
  rw [gv15.1, gv15.2] at e2
  exact ⟨e1.trans (by decide +kernel), e2.trans (by decide +kernel)⟩
theorem gv17 : gA 17 = 13023643825678581761 ∧ gC 17 = 7211655632440131584 := by
  have e1 := gA_succ 16
  have e2 := gC_succ 16
  rw [gv16.1] at e1
  rw [gv16.1, gv16.2] at e2
  exact ⟨e1.trans (by decide +kernel), e2.trans (by decide +kernel)⟩
theorem gv18 : gA 18 = 288945459443007489 ∧ gC 18 = 14014807304630960128 := by
  have e1 := gA_succ 17
  have e2 := gC_succ 17
  rw [gv17.1] at e1
  rw [gv17.1, gv17.2] at e2
  exact ⟨e1.trans (by decide +kernel), e2.trans (by decide +kernel)⟩
theorem gv19 : gA 19 = 13413133364217511937 ∧ gC 19 = 15586959662575517696 := by
  have e1 := gA_succ 18
  have e2 := gC_succ 18
  rw [gv18.1] at e1
  rw [gv18.1, gv18.2] at e2
  exact ⟨e1.trans (by decide +kernel), e2.trans (by decide +kernel)⟩
theorem gv20 : gA 20 = 8991946233350193153 ∧ gC 20 = 5614651135149211648 := by
  have e1 := gA_succ 19
  have e2 := gC_succ 19
  rw [gv19.1] at e1
  rw [gv19.1, gv19.2] at e2
  exact ⟨e1.trans (by decide +kernel), e2.trans (by decide +kernel)⟩
theorem gv21 : gA 21 = 1986842707489718273 ∧ gC 21 = 10449321915693662208 := by
  have e1 := gA_succ 20
  have e2 := gC_succ 20
  rw [gv20.1] at e1
  rw [gv20.1, gv20.2] at e2
  exact ⟨e1.trans (by decide +kernel), e2.trans (by decide +kernel)⟩
theorem gv22 : gA 22 = 13772462672974970881 ∧ gC 22 = 17778722412968280064 := by
  have e1 := gA_succ 21
  have e2 := gC_succ 21
  rw [gv21.1] at e1
  rw [gv21.1, gv21.2] at e2
  exact ⟨e1.trans (by decide +kernel), e2.trans (by decide +kernel)⟩
theorem gv23 : gA 23 = 11399802156803424257 ∧ gC 23 = 4631015078550831104 := by
  have e1 := gA_succ 22
  have e2 := gC_succ 22
  rw [gv22.1] at e1
  rw [gv22.1, gv22.2] at e2
  exact ⟨e1.trans (by decide +kernel), e2.trans (by decide +kernel)⟩
theorem gv24 : gA 24 = 13559343778149433345 ∧ gC 24 = 14683519683525607424 := by
  have e1 := gA_succ 23
  have e2 := gC_succ 23
  rw [gv23.1] at e1
  rw [gv23.1, gv23.2] at e2
  exact ⟨e1.trans (by decide +kernel), e2.trans (by decide +kernel)⟩
theorem gv25 : gA 25 = 8604389488178757633 ∧ gC 25 = 14159509325327892480 := by
  have e1 := gA_succ 24
  have e2 := gC_succ 24
  rw [gv24.1] at e1
  rw [gv24.1, gv24.2] at e2
  exact ⟨e1.trans (by decide +kernel), e2.trans (by decide +kernel)⟩
theorem gv26 : gA 26 = 16938562998715285505 ∧ gC 26 = 4382386631181598720 := by
  have e1 := gA_succ 25
  have e2 := gC_succ 25
  rw [gv25.1] at e1
  rw [gv25.1, gv25.2] at e2
  exact ⟨e1.trans (by decide +kernel), e2.trans (by decide +kernel)⟩
theorem gv27 : gA 27 = 14349518013152100353 ∧ gC 27 = 5251965553014210560 := by
  have e1 := gA_succ 26
  have e2 := gC_succ 26
  rw [gv26.1] at e1
  rw [gv26.1, gv26.2] at e2
  exact ⟨e1.trans (by decide +kernel), e2.trans (by decide +kernel)⟩
theorem gv28 : gA 28 = 5928836310318972929 ∧ gC 28 = 14899444342342025216 := by
  have e1 := gA_succ 27
  have e2 := gC_succ 27
  rw [gv27.1] at e1
  rw [gv27.1, gv27.2] at e2
  exact ⟨e1.trans (by decide +kernel), e2.trans (by decide +kernel)⟩
/-- 2^k steps change nothing below bit k, and bit k itself. -/
def okK (k : Nat) : Bool := gA k % 2 ^ (k + 1) == 1 && gC k % 2 ^ (k + 1) == 2 ^ k
theorem okK_all : ∀ k, 1 ≤ k → k < 28 → okK k = true
  | 0, h, _ => absurd h (by decide)
  | 1, _, _ => by unfold okK; rw [gv1.1, gv1.2]; decide +kernel
  | 2, _, _ => by unfold okK; rw [gv2.1, gv2.2]; decide +kernel
  | 3, _, _ => by unfold okK; rw [gv3.1, gv3.2]; decide +kernel
  | 4, _, _ => by unfold okK; rw [gv4.1, gv4.2]; decide +kernel
  | 5, _, _ => by unfold okK; rw [gv5.1, gv5.2]; decide +kernel
  | 6, _, _ => by unfold okK; rw [gv6.1, gv6.2]; decide +kernel
  | 7, _, _ => by unfold okK; rw [gv7.1, gv7.2]; decide +kernel
  | 8, _, _ => by unfold okK; rw [gv8.1, gv8.2]; decide +kernel
  | 9, _, _ => by unfold okK; rw [gv9.1, gv9.2]; decide +kernel
  | 10, _, _ => by unfold okK; rw [gv10.1, gv10.2]; decide +kernel
  | 11, _, _ => by unfold okK; rw [gv11.1, gv11.2]; decide +kernel
  | 12, _, _ => by unfold okK; rw [gv12.1, gv12.2]; decide +kernel
  | 13, _, _ => by unfold okK; rw [gv13.1, gv13.2]; decide +kernel
  | 14, _, _ => by unfold okK; rw [gv14.1, gv14.2]; decide +kernel
  | 15, _, _ => by unfold okK; rw [gv15.1, gv15.2]; decide +kernel
  | 16, _, _ => by unfold okK; rw [gv16.1, gv16.2]; decide +kernel
  | 17, _, _ => by unfold okK; rw [gv17.1, gv17.2]; decide +kernel
  | 18, _, _ => by unfold okK; rw [gv18.1, gv18.2]; decide +kernel
  | 19, _, _ => by unfold okK; rw [gv19.1, gv19.2]; decide +kernel
  | 20, _, _ => by unfold okK; rw [gv20.1, gv20.2]; decide +kernel
  | 21, _, _ => by unfold okK; rw [gv21.1, gv21.2]; decide +kernel
  | 22, _, _ => by unfold okK; rw [gv22.1, gv22.2]; decide +kernel
  | 23, _, _ => by unfold okK; rw [gv23.1, gv23.2]; decide +kernel
  | 24, _, _ => by unfold okK; rw [gv24.1, gv24.2]; decide +kernel
  | 25, _, _ => by unfold okK; rw [gv25.1, gv25.2]; decide +kernel
  | 26, _, _ => by unfold okK; rw [gv26.1, gv26.2]; decide +kernel
  | 27, _, _ => by unfold okK; rw [gv27.1, gv27.2]; decide +kernel
  | n + 28, _, h => absurd h (by omega)
theorem jump {k : Nat} (h1 : 1 ≤ k) (h2 : k < 28) (s : Nat) : gN gS (2 ^ k) s % 2 ^ (k + 1) = (s + 2 ^ k) % 2 ^ (k + 1) := by
  have hk := okK_all k h1 h2
  unfold okK at hk
  rw [Bool.and_eq_true] at hk
  have hA := eq_of_beq hk.1
  have hC := eq_of_beq hk.2
  have hd : 2 ^ (k + 1) ∣ 18446744073709551616 := by
    rw [show (18446744073709551616 : Nat) = 2 ^ 64 from rfl]
    exact Nat.pow_dvd_pow 2 (by omega)
  have h := congrArg (· % 2 ^ (k + 1)) (gN_pow k s)
  simp only [Nat.mod_mod_of_dvd _ hd] at h
  rw [h, Nat.add_mod, Nat.mul_mod, hA, hC, Nat.mul_one, Nat.mod_mod, Nat.add_mod s, Nat.mod_eq_of_lt (show 2 ^ k < 2 ^ (k + 1) from Nat.pow_lt_pow_right (by decide) (by omega))]
/-- From an even distance, each residue modulo 2^k is reached. -/
theorem steer (r : Nat) : ∀ k, 1 ≤ k → k ≤ 28 → ∀ s, s % 2 = r % 2 → ∃ n, n % 2 = 0 ∧ n < 2 ^ k ∧ gN gS n s % 2 ^ k = r % 2 ^ k
  | 0, h, _, _, _ => absurd h (by omega)
  | 1, _, _, s, hs => ⟨0, rfl, by decide, hs⟩
  | k + 2, _, h2, s, hs => by
    obtain ⟨n, h3, h4, h5⟩ := steer r (k + 1) (by omega) (by omega) s hs
    have hp : 2 ^ (k + 2) = 2 * 2 ^ (k + 1) := by rw [Nat.pow_succ, Nat.mul_comm]
    by_cases he : gN gS n s % 2 ^ (k + 2) = r % 2 ^ (k + 2)
    · exact ⟨n, h3, by omega, he⟩
    · refine ⟨n + 2 ^ (k + 1), ?_, by omega, ?_⟩
      · rw [Nat.pow_succ]; omega
      · rw [gN_add, jump (by omega) (by omega)]
        obtain ⟨a, ha⟩ : ∃ a, a = gN gS n s := ⟨_, rfl⟩
        rw [← ha] at h5 he ⊢
        obtain ⟨M, hM⟩ : ∃ M, M = 2 ^ (k + 1) := ⟨_, rfl⟩
        have hM0 : 0 < M := by rw [hM]; exact Nat.two_pow_pos _
        rw [show k + 1 + 1 = k + 2 from rfl, hp, ← hM] at he ⊢
        rw [← hM] at h5
        have e1 : a % (2 * M) = a % M + M * (a / M % 2) := by rw [Nat.mul_comm 2 M]; exact Nat.mod_mul
        have e2 : r % (2 * M) = r % M + M * (r / M % 2) := by rw [Nat.mul_comm 2 M]; exact Nat.mod_mul
        have e3 : (a + M) % (2 * M) = (a + M) % M + M * ((a + M) / M % 2) := by rw [Nat.mul_comm 2 M]; exact Nat.mod_mul
        rw [Nat.add_mod_right, Nat.add_div_right _ hM0] at e3
        rw [e1, e2, h5] at he
        rw [e3, e2, h5]
        congr 2
        rcases Nat.mod_two_eq_zero_or_one (a / M) with g1 | g1 <;> rcases Nat.mod_two_eq_zero_or_one (r / M) with g2 | g2
        · exact absurd (by rw [g1, g2]) he
        · omega
        · omega
        · exact absurd (by rw [g1, g2]) he
/-- What a state gives, less the code's byte. -/
def gX (s : Nat) : Nat := s / 8589934592 % 16777216
theorem gX_is (v : Nat) : gX v = v / 268435456 % 536870912 / 32 := by
  unfold gX
  rw [show (536870912 : Nat) = 32 * 16777216 from rfl, Nat.mod_mul_right_div_self, Nat.div_div_eq_div_mul]
theorem gX_cong {a b : Nat} (h : a % 144115188075855872 = b % 144115188075855872) : gX a = gX b := by
  unfold gX
  have e : ∀ v : Nat, v / 8589934592 % 16777216 = v % 144115188075855872 / 8589934592 := fun v => by
    rw [show (144115188075855872 : Nat) = 8589934592 * 16777216 from rfl, Nat.mod_mul_right_div_self]
  rw [e, e, h]
theorem gA28 : gA 28 = 5928836310318972929 := gv28.1
theorem gC28 : gC 28 = 14899444342342025216 := gv28.2
theorem g28 (s : Nat) : gN gS 268435456 s % 144115188075855872 = (s * 5928836310318972929 + 14899444342342025216) % 144115188075855872 := by
  have h := gN_pow 28 s
  rw [gA28, gC28, show (2 : Nat) ^ 28 = 268435456 from rfl] at h
  omega
/-- Where the low part is known, 2^28 steps add a number that hangs on it alone. -/
theorem strides {r D : Nat} (hD : D % 268435456 = 0) (hr : r < 134217728) (hk : (r * 5928836310318972928 + 14899444342342025216) % 144115188075855872 = D) {s : Nat} (hs : s % 134217728 = r) : ∀ j, gN gS (j * 268435456) s % 144115188075855872 = (s + j * D) % 144115188075855872
  | 0 => by rw [Nat.zero_mul, Nat.zero_mul, Nat.add_zero]; rfl
  | j + 1 => by
    have ih := strides hD hr hk hs j
    obtain ⟨e, rfl⟩ : ∃ e, D = 268435456 * e := ⟨D / 268435456, by omega⟩
    rw [Nat.succ_mul, gN_add]
    obtain ⟨u, hu⟩ : ∃ u, u = gN gS (j * 268435456) s := ⟨_, rfl⟩
    rw [← hu] at ih ⊢
    obtain ⟨x, hx⟩ : ∃ x, x = j * (268435456 * e) := ⟨_, rfl⟩
    have hx2 : x % 268435456 = 0 := by rw [hx, Nat.mul_comm, Nat.mul_assoc, Nat.mul_mod_right]
    rw [← hx] at ih
    rw [Nat.succ_mul, ← hx, g28]
    have hu2 : u % 134217728 = r := by
      have h1 : u % 144115188075855872 % 134217728 = (s + x) % 144115188075855872 % 134217728 := by rw [ih]
      rw [Nat.mod_mod_of_dvd _ (by decide), Nat.mod_mod_of_dvd _ (by decide), Nat.add_mod, hs, show x % 134217728 = 0 by omega, Nat.add_zero, Nat.mod_eq_of_lt hr] at h1
      exact h1
    obtain ⟨q, hq⟩ : ∃ q, u = r + 134217728 * q := ⟨u / 134217728, by rw [← hu2]; exact (Nat.mod_add_div u 134217728).symm⟩
    have e1 : u * 5928836310318972929 + 14899444342342025216 = (u + (r * 5928836310318972928 + 14899444342342025216)) + 144115188075855872 * (q * 5521659097) := by
      rw [show (5928836310318972929 : Nat) = 5928836310318972928 + 1 from rfl, Nat.mul_succ, hq, Nat.add_mul]
      have e2 : 134217728 * q * 5928836310318972928 = 144115188075855872 * (q * 5521659097) := by
        rw [Nat.mul_right_comm, show 134217728 * 5928836310318972928 = 144115188075855872 * 5521659097 from by decide, Nat.mul_right_comm, Nat.mul_assoc, Nat.mul_comm q]
      rw [e2]
      generalize 144115188075855872 * (q * 5521659097) = w
      generalize r * 5928836310318972928 = y
      generalize 134217728 * q = z
      omega
    rw [e1, Nat.add_mul_mod_self_left, Nat.add_mod, ih, hk, Nat.mod_add_mod]
    rw [Nat.add_assoc]
/-- Slow: places that move by less than 32. -/
def slowA (q rho l : Nat) : Bool := (List.range 17).any fun j => (List.range 4).all fun i => (rho + (l + (j + i) * q) / 32) % 3 != 0
def slowB (q k : Nat) : Bool := (List.range 17).any fun j => (List.range 4).all fun i => (536870911 - k + (j + i) * q) % 536870912 / 32 % 3 != 0
def slowC (q : Nat) : Bool := ((List.range 3).all fun rho => (List.range 32).all fun l => slowA q rho l) && (List.range 180).all fun k => slowB q k
theorem slow5 : slowC 5 = true := by decide +kernel
theorem slow9 : slowC 9 = true := by decide +kernel
theorem slow {q : Nat} (hq : q ≤ 9) (h : slowC q = true) {y : Nat} (hy : y < 536870912) : ∃ j, j ≤ 16 ∧ ∀ i, i < 4 → (y + (j + i) * q) % 536870912 / 32 % 3 ≠ 0 := by
  unfold slowC at h
  rw [Bool.and_eq_true] at h
  by_cases hw : y + 180 < 536870912
  · have h1 := List.all_eq_true.1 (List.all_eq_true.1 h.1 (y / 32 % 3) (List.mem_range.2 (Nat.mod_lt _ (by decide)))) (y % 32) (List.mem_range.2 (Nat.mod_lt _ (by decide)))
    obtain ⟨j, hj, h2⟩ := List.any_eq_true.1 h1
    have hj' := List.mem_range.1 hj
    refine ⟨j, by omega, fun i hi => ?_⟩
    have h3 := List.all_eq_true.1 h2 i (List.mem_range.2 hi)
    have h4 : (y / 32 % 3 + (y % 32 + (j + i) * q) / 32) % 3 ≠ 0 := by simpa using h3
    have hb : (j + i) * q ≤ 19 * 9 := Nat.mul_le_mul (by omega) hq
    obtain ⟨p, hp⟩ : ∃ p, p = (j + i) * q := ⟨_, rfl⟩
    rw [← hp] at h4 hb ⊢
    omega
  · have h1 := List.all_eq_true.1 h.2 (536870911 - y) (List.mem_range.2 (by omega))
    obtain ⟨j, hj, h2⟩ := List.any_eq_true.1 h1
    have hj' := List.mem_range.1 hj
    refine ⟨j, by omega, fun i hi => ?_⟩
    have h3 := List.all_eq_true.1 h2 i (List.mem_range.2 hi)
    rw [show 536870911 - (536870911 - y) = y by omega] at h3
    simpa using h3
theorem dec3 {v : Nat} (h : v / 32 % 3 = 0) : ∃ m l, l < 32 ∧ v = 96 * m + l ∧ v % 32 = l := ⟨v / 96, v % 32, Nat.mod_lt _ (by decide), by omega, rfl⟩
theorem wrapA {N z c : Nat} (hN : 0 < N) (hc : c < N) : (z + c) % N = z % N + c ∨ (z + c) % N + N = z % N + c := by
  have h := Nat.mod_lt z hN
  rw [← Nat.mod_add_mod]
  rcases Nat.lt_or_ge (z % N + c) N with h2 | h2
  · exact .inl (Nat.mod_eq_of_lt h2)
  · refine .inr ?_
    rw [Nat.mod_eq_sub_mod h2, Nat.mod_eq_of_lt (by omega)]
    omega
theorem fastV {c : Nat} (hc : c < 536870912) {z : Nat} (h0 : z % 536870912 / 32 % 3 = 0) (h1 : (z + c) % 536870912 / 32 % 3 = 0) : ∃ m l m' l', l < 32 ∧ l' < 32 ∧ z % 32 = l ∧ (z + c) % 32 = l' ∧ (96 * m' + l' = 96 * m + l + c ∨ 96 * m' + l' + 536870912 = 96 * m + l + c) := by
  obtain ⟨m, l, a1, a2, a3⟩ := dec3 h0
  obtain ⟨m', l', b1, b2, b3⟩ := dec3 h1
  rw [Nat.mod_mod_of_dvd _ (by decide)] at a3 b3
  have w := wrapA (N := 536870912) (z := z) (by decide) hc
  rw [a2, b2] at w
  exact ⟨m, l, m', l', a1, b1, a3, b3, w⟩
theorem fast5 {z : Nat} (h0 : z % 536870912 / 32 % 3 = 0) (h1 : (z + 130966925) % 536870912 / 32 % 3 = 0) : 19 ≤ z % 32 ∧ (z + 130966925) % 32 = z % 32 - 19 := by
  obtain ⟨m, l, m', l', h2, h3, h4, h5, h6⟩ := fastV (by decide) h0 h1
  rw [h4, h5]
  clear h0 h1 h4 h5
  omega
theorem fast9 {z : Nat} (h0 : z % 536870912 / 32 % 3 = 0) (h1 : (z + 235740465) % 536870912 / 32 % 3 = 0) : 15 ≤ z % 32 ∧ (z + 235740465) % 32 = z % 32 - 15 := by
  obtain ⟨m, l, m', l', h2, h3, h4, h5, h6⟩ := fastV (by decide) h0 h1
  rw [h4, h5]
  clear h0 h1 h4 h5
  omega
theorem fast {c d : Nat} (hd : 15 ≤ d) (hf : ∀ {z : Nat}, z % 536870912 / 32 % 3 = 0 → (z + c) % 536870912 / 32 % 3 = 0 → d ≤ z % 32 ∧ (z + c) % 32 = z % 32 - d) (z j : Nat) : ∃ i, i < 4 ∧ (z + (j + i) * c) % 536870912 / 32 % 3 ≠ 0 := Classical.byContradiction fun hn => by
  have h : ∀ i, i < 4 → (z + (j + i) * c) % 536870912 / 32 % 3 = 0 := fun i hi => Classical.byContradiction fun h => hn ⟨i, hi, h⟩
  have e : ∀ i, z + (j + (i + 1)) * c = z + (j + i) * c + c := fun i => by rw [← Nat.add_assoc j, Nat.succ_mul, Nat.add_assoc]
  have h0 := h 0 (by omega)
  have h1 := h 1 (by omega)
  have h2 := h 2 (by omega)
  have h3 := h 3 (by omega)
  rw [e 0] at h1
  rw [e 1, e 0] at h2
  rw [e 2, e 1, e 0] at h3
  obtain ⟨a1, a2⟩ := hf h0 h1
  obtain ⟨b1, b2⟩ := hf h1 h2
  obtain ⟨c1, _⟩ := hf h2 h3
  omega
/-- Two progressions, one slow: soon both give no multiple of 3. -/
theorem both {q c d : Nat} (hq : q ≤ 9) (hs : slowC q = true) (hd : 15 ≤ d) (hf : ∀ {z : Nat}, z % 536870912 / 32 % 3 = 0 → (z + c) % 536870912 / 32 % 3 = 0 → d ≤ z % 32 ∧ (z + c) % 32 = z % 32 - d) (v w : Nat) :
    ∃ j, j ≤ 19 ∧ gX (v + j * (268435456 * q)) % 3 ≠ 0 ∧ gX (w + j * (268435456 * c)) % 3 ≠ 0 := by
  have hx : ∀ v j q, gX (v + j * (268435456 * q)) = (v / 268435456 + j * q) % 536870912 / 32 := fun v j q => by
    rw [gX_is, show v + j * (268435456 * q) = v + 268435456 * (j * q) by rw [Nat.mul_left_comm], Nat.add_mul_div_left _ _ (by decide)]
  obtain ⟨j, hj, h1⟩ := slow hq hs (Nat.mod_lt (v / 268435456) (show 0 < 536870912 by decide))
  obtain ⟨i, hi, h2⟩ := fast hd hf (w / 268435456) j
  refine ⟨j + i, by omega, ?_, ?_⟩
  · rw [hx]
    have h3 := h1 i hi
    rw [Nat.mod_add_mod] at h3
    exact h3
  · rw [hx]; exact h2
theorem gen_at {r D q t D' c d : Nat} (hr : r < 134217728) (ht : t < 134217728) (hk : (r * 5928836310318972928 + 14899444342342025216) % 144115188075855872 = D) (hk' : (t * 5928836310318972928 + 14899444342342025216) % 144115188075855872 = D') (hD : D = 268435456 * q) (hD' : D' = 268435456 * c) (h2 : gN gS 2 r % 134217728 = t)
    (hq : q ≤ 9) (hs : slowC q = true) (hd : 15 ≤ d) (hf : ∀ {z : Nat}, z % 536870912 / 32 % 3 = 0 → (z + c) % 536870912 / 32 % 3 = 0 → d ≤ z % 32 ∧ (z + c) % 32 = z % 32 - d) {u : Nat} (hu : u % 134217728 = r) :
    ∃ j, j ≤ 19 ∧ gX (gN gS (j * 268435456) u) % 3 ≠ 0 ∧ gX (gN gS (j * 268435456 + 2) u) % 3 ≠ 0 := by
  have hu2 : gN gS 2 u % 134217728 = t := by
    rw [gN_cong (M := 134217728) (by decide) 2 (a := u) (b := r) (by rw [hu, Nat.mod_eq_of_lt hr])]; exact h2
  obtain ⟨j, hj, h3, h4⟩ := both hq hs hd hf u (gN gS 2 u)
  refine ⟨j, hj, ?_, ?_⟩
  · rw [gX_cong (strides (by rw [hD, Nat.mul_mod_right]) hr hk hu j), hD]; exact h3
  · rw [Nat.add_comm, gN_add, gX_cong (strides (by rw [hD', Nat.mul_mod_right]) ht hk' hu2 j), hD']; exact h4
/-- From each state the draws stop soon: at this place or the next even one. -/
theorem gen_stop (s : Nat) : ∃ n, n % 2 = 0 ∧ n < 5368709120 ∧ gX (gN gS n s) % 3 ≠ 0 ∧ gX (gN gS (n + 2) s) % 3 ≠ 0 := by
  have fin : ∀ r : Nat, r < 134217728 → s % 2 = r % 2 → (∀ u, u % 134217728 = r → ∃ j, j ≤ 19 ∧ gX (gN gS (j * 268435456) u) % 3 ≠ 0 ∧ gX (gN gS (j * 268435456 + 2) u) % 3 ≠ 0) → ∃ n, n % 2 = 0 ∧ n < 5368709120 ∧ gX (gN gS n s) % 3 ≠ 0 ∧ gX (gN gS (n + 2) s) % 3 ≠ 0 := fun r hr hp hg => by
    obtain ⟨n, h1, h2, h3⟩ := steer r 27 (by omega) (by omega) s hp
    rw [show (2 : Nat) ^ 27 = 134217728 from rfl] at h2 h3
    rw [Nat.mod_eq_of_lt hr] at h3
    obtain ⟨j, g1, g2, g3⟩ := hg _ h3
    refine ⟨n + j * 268435456, by omega, by omega, ?_, ?_⟩
    · rw [gN_add]; exact g2
    · rw [Nat.add_assoc, gN_add]; exact g3
  rcases Nat.mod_two_eq_zero_or_one s with h | h
  · exact fin 92842816 (by decide) h fun u hu => gen_at (t := 43551346) (D := 1342177280) (D' := 35156166233292800) (by decide) (by decide) (by decide) (by decide) (q := 5) (by decide) (c := 130966925) (by decide) (by decide +kernel) (by decide) slow5 (d := 19) (by decide) fast5 hu
  · exact fin 43914921 (by decide) h fun u hu => gen_at (t := 89408003) (D := 2415919104) (D' := 63281099219927040) (by decide) (by decide) (by decide) (by decide) (q := 9) (by decide) (c := 235740465) (by decide) (by decide +kernel) (by decide) slow9 (d := 15) (by decide) fast9 hu
end Go.Proofs.YtalbdgkbinndlaaDoor
