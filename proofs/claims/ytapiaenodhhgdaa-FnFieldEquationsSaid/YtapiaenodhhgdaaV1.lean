/- A range over slices.Backward, walked over the machine's own worlds. -/
import Derived.Test.YtapiaenodhhgdaaProg
import Derived.RangeFuncBox
import Derived.RangeFuncNested
import Derived.RangeFuncBound
import Derived.RangeFuncCalls
import Derived.RangeFuncLeaves
import Derived.Shelf.Abstract
import Derived.WalkKit
import Derived.OwnWalkIn
import Derived.TacticsInMore
import Derived.LoopNIn
import Derived.LoopIn
namespace Go.Proofs.Ytapiaenodhhgdaa
set_option linter.unusedSimpArgs false
set_option linter.unusedVariables false
set_option maxRecDepth 20000
set_option maxHeartbeats 1000000
open Go.RowKit Go.Shelf

attribute [local go_sem] Oper.semAt_some
/-- What comes of a list of n bytes walked from behind, k of them. -/
def bwL (g : Nat → UInt8) (n : Nat) : Nat → List (Int × UInt8)
  | 0 => []
  | k + 1 => bwL g n k ++ [(((n - 1 - k : Nat) : Int), g (n - 1 - k))]
theorem bwL_len (g : Nat → UInt8) (n : Nat) : ∀ k, (bwL g n k).length = k
  | 0 => rfl
  | k + 1 => by show (bwL g n k ++ _).length = _; rw [List.length_append, bwL_len g n k]; rfl
def foldB (T : UInt8 → UInt8) (pre : List (Int × UInt8)) : UInt8 := pre.foldl (fun s p => T s ^^^ p.2) 0
theorem foldB_snoc (T : UInt8 → UInt8) (pre : List (Int × UInt8)) (p : Int × UInt8) : foldB T (pre ++ [p]) = T (foldB T pre) ^^^ p.2 := by unfold foldB; rw [List.foldl_append]; rfl
/-- What a round keeps: what lay below n₀, and the block Bx. -/
def KpB (n₀ Bx : Nat) (W W' : World) : Prop := ∀ k, (k < n₀ ∨ k = Bx) → W'.heap[k]? = W.heap[k]?
theorem KpB.refl (n₀ Bx : Nat) (W : World) : KpB n₀ Bx W W := fun _ _ => rfl
theorem KpB.trans {n₀ Bx : Nat} {A B C : World} (h : KpB n₀ Bx A B) (k : KpB n₀ Bx B C) : KpB n₀ Bx A C := fun i hi => (k i hi).trans (h i hi)
theorem KpB.put {n₀ Bx D : Nat} (h1 : n₀ ≤ D) (h2 : Bx < D) (W : World) (l : Nat) (o' : Obj) (hl : D ≤ l) : KpB n₀ Bx W (W.putObj l o') := fun k hk => World.putObj_heap_other (by omega)
theorem KpB.of_below {n₀ Bx B : Nat} {W W' : World} (h : Below B W W') (h1 : n₀ ≤ B) (h2 : Bx < B) : KpB n₀ Bx W W' := fun k hk => h.block k (by omega)
theorem KpB.set {n₀ Bx b : Nat} (W : World) (v : Value) (h1 : n₀ ≤ b) (h2 : Bx ≠ b) : KpB n₀ Bx W (W.setCell ⟨b, 0, none⟩ v) := fun k hk => Below.heap_setCell W ⟨b, 0, none⟩ v k (fun (e : k = b) => by omega)
theorem keeps_below {W W' : World} (h : Below W.heap.size W W') : KeepsOthers W W' :=
  ⟨h.size, fun k o hk _ => (h.block k (Array.getElem?_eq_some_iff.1 hk).1).trans hk⟩
set_option maxRecDepth 100000 in
set_option maxHeartbeats 2000000 in
theorem back1_in (F : Fence) (n : Nat) (h7 : F.fn 55) (hro : F.round = none) (hn : 1 ≤ n) (l Bx n₀ : Nat) (a : Option Addr) (len cap : Nat) (g : Nat → UInt8) (hreach : len ≤ 1048576)
    (J Jx : List (Int × UInt8) → World → Prop)
    (hY : ∀ pre x W, J pre W → pre.length < len → YieldAt F (n - 1) Try.prog l #[.int .i64 x.1, .int .u8 x.2.toNat] W fun e W' =>
      (e = .returned (.bool true) ∧ J (pre ++ [x]) W' ∧ KpB n₀ Bx W W') ∨ (e = .returned (.bool false) ∧ Jx (pre ++ [x]) W'))
    (W : World) (hBs : W.cell? ⟨Bx, 0, none⟩ = some (.slice a len cap)) (hc : ∀ j, j < len → ∃ b off, a = some ⟨b, off, none⟩ ∧ b < n₀ ∧ W.cell? ⟨b, off + j, none⟩ = some (.int .u8 (g j).toNat)) (h0 : J [] W) :
    CallsIn F n Try.prog 55 #[.func (.yield l) #[] #[], .pointer (some ⟨Bx, 0, none⟩)] W fun e W' => (∃ v, e = .returned v) ∧
      ((∃ ys, ys = bwL g len len ∧ J ys W') ∨ (∃ pre, (∃ k, k ≤ len ∧ pre = bwL g len k) ∧ Jx pre W')) := by
  refine callsIn_of_wp Try.func55 rfl h7 ?_ hro
  simp only [Try.ntmps55, List.size_toArray, List.length_cons, List.length_nil, Nat.reduceAdd, Nat.reduceSub, Array.replicate_succ, Array.replicate_zero, List.push_toArray, List.append_toArray, List.nil_append, List.cons_append]
  gi_wp2
  gi_loopw [3] (fun i wr => ∃ k : Nat, k ≤ len ∧ i = .int .i64 ((len : Int) - 1 - k) ∧ J (bwL g len k) wr ∧ KpB n₀ Bx W wr)
    (fun i _ => (intOf i + 1).toNat)
  case atStart => exact ⟨0, Nat.zero_le _, by simp, h0, KpB.refl _ _ _⟩
  case round =>
    obtain ⟨k, hk, rfl, hJs, hnx⟩ := hrel
    have hcs : wr.cell? ⟨Bx, 0, none⟩ = some (.slice a len cap) := (World.cell?_of_block (a := ⟨Bx, 0, none⟩) (hnx Bx (.inr rfl))).trans hBs
    by_cases hlt : k < len
    · obtain ⟨b, off, rfl, hb, hcx⟩ := hc (len - 1 - k) (by omega)
      have hcx' := (World.cell?_of_block (a := ⟨b, off + (len - 1 - k), none⟩) (hnx b (.inl hb))).trans hcx
      have hidx : (len : Int) - 1 - k = ((len - 1 - k : Nat) : Int) := by omega
      rw [hidx]
      obtain ⟨fn, tmps, assign, body, hy, hR⟩ := hY _ (((len - 1 - k : Nat) : Int), g (len - 1 - k)) wr hJs (by rw [bwL_len]; exact hlt)
      dsimp only at hy
      gi_wp2
      refine hR.mono ?_
      rintro e W3 (⟨rfl, hJ3, hk3⟩ | ⟨rfl, hJx3⟩)
      · gi_wp2
        go_roundw
        case rel => exact ⟨k + 1, by omega, by first | (simp; done) | (simp; omega), hJ3, hnx.trans hk3⟩
        case measure => first | (simp [intOf]; done) | (simp [intOf]; omega)
      · gi_wp2
        refine bodyPost_ret (results_none rfl _ _ _) rfl ?_
        exact ⟨⟨_, rfl⟩, .inr ⟨_, ⟨k + 1, by omega, rfl⟩, hJx3⟩⟩
    · obtain rfl : k = len := by omega
      have hidx : ((k : Nat) : Int) - 1 - k = -1 := by omega
      rw [hidx]
      gi_wp2
      go_end0
      exact ⟨⟨_, rfl⟩, .inl ⟨_, rfl, hJs⟩⟩

set_option maxHeartbeats 1000000 in
theorem back_in (F : Fence) (n : Nat) (h5 : F.fn 51) (hro : F.round = none) (a : Option Addr) (len cap : Nat) (w : World) :
    CallsIn F n Try.prog 51 #[.slice a len cap] w fun e w' => e = .returned (.func (.func 55) #[] #[.pointer (some ⟨w.heap.size, 0, none⟩)]) ∧ w' = w.alloc (.cells #[.slice a len cap] 22) := by
  refine callsIn_of_wp Try.func51 rfl h5 ?_ hro
  simp only [Try.ntmps51, List.size_toArray, List.length_cons, List.length_nil, Nat.reduceAdd, Nat.reduceSub, Array.replicate_succ, Array.replicate_zero, List.push_toArray, List.append_toArray, List.nil_append, List.cons_append]
  gi_wp2
  go_ret
  exact ⟨rfl, rfl⟩
theorem back_stops (F : Fence) (n : Nat) (h7 : F.fn 55) (hro : F.round = none) (hn : 1 ≤ n) (Bx n₀ : Nat) (a : Option Addr) (len cap : Nat) (g : Nat → UInt8) (hreach : len ≤ 1048576) (w : World) (hBs : Bx < w.heap.size) (hn₀ : n₀ ≤ w.heap.size)
    (hc : w.cell? ⟨Bx, 0, none⟩ = some (.slice a len cap)) (hI : ∀ j, j < len → ∃ b off, a = some ⟨b, off, none⟩ ∧ b < n₀ ∧ w.cell? ⟨b, off + j, none⟩ = some (.int .u8 (g j).toNat)) :
    SeqStopsK F n Try.prog 55 #[.pointer (some ⟨Bx, 0, none⟩)] (fun x : Int × UInt8 => #[Value.int .i64 x.1, Value.int .u8 x.2.toNat]) (KpB n₀ Bx) (fun ys => ys = bwL g len len) (fun pre => ∃ k, k ≤ len ∧ pre = bwL g len k) len w := fun l J Jx W hW _ _ hY h0 =>
  back1_in F n h7 hro hn l Bx n₀ a len cap g hreach J Jx hY W ((hW.cell (p := ⟨Bx, 0, none⟩) hBs).trans hc) (fun j hj => by
    obtain ⟨b, off, e, hb, hx⟩ := hI j hj
    exact ⟨b, off, e, hb, (hW.cell (p := ⟨b, off + j, none⟩) (Nat.lt_of_lt_of_le hb hn₀)).trans hx⟩) h0
set_option maxRecDepth 100000 in
set_option maxHeartbeats 2000000 in
theorem val_calls (m : Int) (x : UInt8) (T : UInt8 → UInt8) (hX : ∀ a b : UInt8, bits BinOp.xor IntKind.u8 a.toNat b.toNat = (a ^^^ b).toNat) (w : World) (hT : ∀ (a : UInt8) (W : World), Below w.heap.size w W → Calls Try.prog 24 #[.int .i64 m, .int .u8 a.toNat, .int .u8 x.toNat] W fun e w' => e = .returned (.int .u8 (T a).toNat) ∧ Below W.heap.size W w') (a : Option Addr) (len cap : Nat) (g : Nat → UInt8) (hreach : len ≤ 1048576)
    (hI : ∀ j, j < len → ∃ b off, a = some ⟨b, off, none⟩ ∧ b < w.heap.size ∧ w.cell? ⟨b, off + j, none⟩ = some (.int .u8 (g j).toNat)) :
    Calls Try.prog 41 #[.int .i64 m, .slice a len cap, .int .u8 x.toNat] w fun e w' => e = .returned (.int .u8 (foldB T (bwL g len len)).toNat) ∧ Below w.heap.size w w' := by
  refine (callsIn_wide (n := 5)).1 ?_
  have hro : Fence.wide.round = none := rfl
  refine callsIn_of_wp_marks Try.func41 rfl trivial ?_ hro
  simp only [Try.ntmps41, List.size_toArray, List.length_cons, List.length_nil, Nat.reduceAdd, Nat.reduceSub, Array.replicate_succ, Array.replicate_zero, List.push_toArray, List.append_toArray, List.nil_append, List.cons_append]
  gi_wp2_with (refine ⟨trivial, ?_⟩; gi_at_call 51; refine (back_in Fence.wide 4 trivial hro _ _ _ _).mono ?_; rintro e w' ⟨rfl, rfl⟩)
  obtain ⟨W0, hW0⟩ : ∃ W0, ((((w.alloc (.cells #[.int .i64 m] 44)).alloc (.cells #[.int .u8 x.toNat] 5)).alloc (.cells #[.int .u8 0] 5)).alloc (.cells #[.slice a len cap] 22)) = W0 := ⟨_, rfl⟩
  have bm : Boxed W0 w.heap.size 44 (.int .i64 m) := by rw [← hW0]; exact (((Boxed.new w _ _).alloc _).alloc _).alloc _
  have bx : Boxed W0 (w.heap.size + 1) 5 (.int .u8 x.toNat) := by
    rw [← hW0]
    have := Boxed.new (w.alloc (.cells #[.int .i64 m] 44)) 5 (.int .u8 x.toNat)
    rw [World.size_alloc] at this
    exact (this.alloc _).alloc _
  have bo : Boxed W0 (w.heap.size + 1 + 1) 5 (.int .u8 0) := by
    rw [← hW0]
    have := Boxed.new ((w.alloc (.cells #[.int .i64 m] 44)).alloc (.cells #[.int .u8 x.toNat] 5)) 5 (.int .u8 0)
    rw [World.size_alloc, World.size_alloc] at this
    exact this.alloc _
  have bs : Boxed W0 (w.heap.size + 1 + 1 + 1) 22 (.slice a len cap) := by
    rw [← hW0]
    have := Boxed.new (((w.alloc (.cells #[.int .i64 m] 44)).alloc (.cells #[.int .u8 x.toNat] 5)).alloc (.cells #[.int .u8 0] 5)) 22 (.slice a len cap)
    rw [World.size_alloc, World.size_alloc, World.size_alloc] at this
    exact this
  have hB0 : Below w.heap.size w W0 := by
    rw [← hW0]
    exact ((((Below.refl _ w).alloc (Nat.le_refl _) _).alloc (by simp) _).alloc (by simp; omega) _).alloc (by simp; omega) _
  have hsz : W0.heap.size = w.heap.size + 4 := by rw [← hW0]; simp
  rw [hW0]
  refine wpIn_rangeFunc_ownG hro (by omega) (gf := 55) (lb := #[.pointer (some ⟨w.heap.size + 1 + 1 + 1, 0, none⟩)]) rfl trivial (enters_of Try.func55 (by kernel_rfl) rfl)
    (back_stops Fence.wide 4 trivial hro (by omega) (w.heap.size + 1 + 1 + 1) w.heap.size a len cap g hreach W0 (by omega) (by omega) bs.cell (fun j hj => by
      obtain ⟨b, off, e, hb, hx⟩ := hI j hj
      exact ⟨b, off, e, hb, (hB0.cell (p := ⟨b, off + j, none⟩) hb).trans hx⟩)) (fun h k => KpB.trans h k) (fun W l o o' hl _ _ _ => KpB.put (D := W0.heap.size) (by omega) (by omega) W l o' hl) (Below.refl _ _) (fun _ => rfl)
    (fun pre W => ((W.cell? ⟨w.heap.size + 1 + 1, 0, none⟩ = some (.int .u8 (foldB T pre).toNat) ∧ W.frozen? ⟨w.heap.size + 1 + 1, 0, none⟩ = false) ∧ (W.cell? ⟨w.heap.size, 0, none⟩ = some (.int .i64 m) ∧ W.cell? ⟨w.heap.size + 1, 0, none⟩ = some (.int .u8 x.toNat) ∧ W.cell? ⟨w.heap.size + 1 + 1 + 1, 0, none⟩ = some (.slice a len cap))) ∧ Below w.heap.size w W)
    (fun _ _ _ => False)
    (OwnFrom.and (Own.from (fun s A B row hs hg hr => ⟨⟨cell_kept hs.1.1 hg hr, (frozen_kept hs.1.1 hg hr).trans hs.1.2⟩, cell_kept hs.2.1 hg hr, cell_kept hs.2.2.1 hg hr, cell_kept hs.2.2.2 hg hr⟩) _) (ownFrom_below (Nat.le_refl _) (by omega)))
    (fun _ _ _ _ _ hs _ _ => hs)
    ⟨⟨⟨bo.cell, bo.frozen⟩, bm.cell, bx.cell, bs.cell⟩, hB0⟩
    (fun p => { tmps := #[.int .i64 m, .slice a len cap, .int .u8 x.toNat, .pointer (some ⟨w.heap.size, 0, none⟩), undef, .pointer (some ⟨w.heap.size + 1, 0, none⟩), .int .u8 0, .pointer (some ⟨w.heap.size + 1 + 1, 0, none⟩), undef, .int .u8 p.2.toNat, .slice a len cap, .func (.func 55) #[] #[.pointer (some ⟨w.heap.size + 1 + 1 + 1, 0, none⟩)], .int .i64 p.1, .int .u8 p.2.toNat, undef, undef, undef, undef, undef, undef, undef], defers := [] }) ?assign ?body ?done ?stop
  case assign =>
    intro l p W K hK
    gi_wp2
    exact hK
  case body =>
    rintro l pre p W ⟨⟨⟨hc, hf⟩, hm, hx, hs⟩, hB⟩ _
    have hlo := World.block_lt_of_cell? W _ hc
    have hlo' : w.heap.size + 1 + 1 < W.heap.size := hlo
    have hls : w.heap.size + 1 + 1 + 1 < W.heap.size := World.block_lt_of_cell? W _ hs
    gi_wp2_with (refine ⟨trivial, ?_⟩; gi_at_call 24; refine (CallsIn.inRound l (callsIn_wide.2 (hT _ _ hB))).mono ?_; rintro e W' ⟨rfl, hb'⟩; have hc' := (hb'.cell (p := ⟨w.heap.size + 1 + 1, 0, none⟩) hlo).trans hc; have hf' := (hb'.frozen (p := ⟨w.heap.size + 1 + 1, 0, none⟩) hlo).trans hf; have hm' := (hb'.cell (p := ⟨w.heap.size, 0, none⟩) (show w.heap.size < _ by omega)).trans hm; have hx' := (hb'.cell (p := ⟨w.heap.size + 1, 0, none⟩) (show w.heap.size + 1 < _ by omega)).trans hx; have hs' := (hb'.cell (p := ⟨w.heap.size + 1 + 1 + 1, 0, none⟩) hls).trans hs)
    have hk : ∀ (k : Nat), k ≠ w.heap.size + 1 + 1 → ∀ v, (W'.setCell ⟨w.heap.size + 1 + 1, 0, none⟩ v).cell? ⟨k, 0, none⟩ = W'.cell? ⟨k, 0, none⟩ := fun k hk v => World.cell?_of_block (Below.heap_setCell W' ⟨w.heap.size + 1 + 1, 0, none⟩ v k hk)
    refine ⟨((keeps_below hb').trans (KeepsOthers.setCell _ _ _)).from _, (KpB.of_below hb' (by omega) (by omega)).trans (KpB.set _ _ (by omega) (by omega)), ⟨⟨⟨?_, ?_⟩, ?_, ?_, ?_⟩, ?_⟩⟩
    · rw [foldB_snoc, UInt8.toNat_xor]
      exact World.cell?_setCell_same' _ _ _ (by rw [hc']; rfl)
    · rw [World.frozen?_setCell]; exact hf'
    · exact (hk _ (by omega) _).trans hm'
    · exact (hk _ (by omega) _).trans hx'
    · exact (hk _ (by omega) _).trans hs'
    · exact hB.trans ((hb'.mono hB.size).setCell (p := ⟨w.heap.size + 1 + 1, 0, none⟩) (show w.heap.size ≤ w.heap.size + 1 + 1 by omega) _)
  case done =>
    rintro D ys W hD rfl ⟨⟨⟨hc, _⟩, _⟩, hB⟩ hK
    gi_wp2
    refine ⟨by simp, .inl ⟨_, _, rfl, run_takeDeferred hK, ?_⟩⟩
    exact ⟨_, results_tmp rfl _ _ _, rfl, hB.trans (belowK_b (w := w) (Nat.le_refl _) W D _ _ (by omega) hK rfl rfl)⟩
  case stop =>
    rintro D c pre W _ _ h _
    exact h.elim

end Go.Proofs.Ytapiaenodhhgdaa
