/- A part of the proof of FnTrails. -/
import Derived.Shelf.Bytes.SlIndexAt
import Derived.Test.YtenkjbkcdcionaaGreatQTLH
/- Lists of bytes: copies and comparisons. -/
namespace Go.Proofs.YtenkjbkcdcionaaGreat
set_option linter.unusedSimpArgs false
set_option linter.unusedVariables false
set_option maxRecDepth 20000
set_option maxHeartbeats 1000000
open Go.Abs

def twiceAt (f : Nat → UInt8) (i k : Nat) : Bool := (List.range k).any fun j => f i == f j
def twiceP (f : Nat → UInt8) (n : Nat) : Bool := (List.range n).any fun i => twiceAt f i i
theorem twiceP_s {f : Nat → UInt8} {k : Nat} (h : twiceP f k = false) (h2 : twiceAt f k k = false) : twiceP f (k + 1) = false := by
  unfold twiceP at *; rw [List.range_succ, List.any_append, h]; simpa using h2
theorem twiceP_t {f : Nat → UInt8} {k n : Nat} (hk : k < n) (h2 : twiceAt f k k = true) : twiceP f n = true := by
  unfold twiceP; rw [List.any_eq_true]; exact ⟨k, List.mem_range.2 hk, h2⟩
end Go.Proofs.YtenkjbkcdcionaaGreat
/- Lists of halves and of blocks: the converters, comparers and markers of the laws' package. -/
namespace Go.Proofs.YtenkjbkcdcionaaGreat
set_option linter.unusedSimpArgs false
set_option linter.unusedVariables false
set_option maxRecDepth 20000
set_option maxHeartbeats 1000000
open Go.Abs

theorem lit1 (n : Nat) (f g : Nat → UInt8) : splice (repA (Bs n f) 1) (0 * n) (Bs n g) = Bs n g := by
  rw [Nat.zero_mul]
  exact Abs.splice_all (by simp [repA, Bs_length])
end Go.Proofs.YtenkjbkcdcionaaGreat
/- Lists of numbers: the comparers and markers of the laws' package. -/
namespace Go.Proofs.YtenkjbkcdcionaaGreat
set_option linter.unusedSimpArgs false
set_option linter.unusedVariables false
set_option maxRecDepth 20000
set_option maxHeartbeats 1000000
open Go.Abs

theorem Is_congr {n : Nat} {f g : Nat → Int} (h : ∀ i, i < n → f i = g i) : Is n f = Is n g := by
  unfold Is
  exact List.map_congr_left fun i hi => by rw [h i (List.mem_range.1 hi)]
theorem Is_pre (n : Nat) (f g : Nat → Int) : Is n (pre n f g) = Is n f := Is_congr fun i hi => if_pos hi
theorem Is_snoc {n : Nat} (f : Nat → Int) : Is n f ++ [.int .i64 (f n)] = Is (n + 1) f := by
  unfold Is; rw [List.range_succ, List.map_append]; rfl

theorem sub1 (v : Value) : sub [v] 0 1 = [v] := rfl
theorem lit1I (v : Value) : splice (repA [Value.int .i64 0] 1) (0 * 1) [v] = [v] := by rw [repA_one]; rfl

end Go.Proofs.YtenkjbkcdcionaaGreat
/- bytes.IndexByte. -/
namespace Go.Proofs.YtenkjbkcdcionaaGreat
set_option linter.unusedSimpArgs false
set_option linter.unusedVariables false
set_option maxRecDepth 20000
set_option maxHeartbeats 1000000
open Go.Abs Go.Shelf Go.Lib

def ibRen : Ren := ⟨fun x => if x = 187 then 114 else 125, fun x => if x = 3 then 3 else if x = 5 then 5 else 22, fun _ => 0⟩
theorem ibLay : Lays.n187 Tryz.prog ibRen where
  mixed := mixedOk
  f187 := by kernel_rfl
  f255 := by kernel_rfl
  t3 := by kernel_rfl
  a3 := fun w => by kernel_rfl
  z3 := fun w => by kernel_rfl
  v3 := fun w => by kernel_rfl
  t5 := by kernel_rfl
  a5 := fun w => by kernel_rfl
  z5 := fun w => by kernel_rfl
  v5 := fun w => by kernel_rfl
  t37 := by kernel_rfl
  a37 := fun w => by kernel_rfl
  z37 := fun w => by kernel_rfl
  v37 := fun w => by kernel_rfl

theorem add_at (E : Emb) (b o i : Nat) : (E.at b o).add i = E.at b (o + i) := by
  unfold Addr.add
  split
  · rename_i h; rw [h]; rfl
  · simp [Emb.at, Nat.add_assoc]

theorem indexByte_ac {h : List Blk} {b o n m : Nat} {f : Nat → UInt8} {r : Bool} (hb : h[b]? = some ⟨Bs m f, r⟩) (ho : o + n ≤ m) (x : UInt8) :
    AC Tryz.prog 114 [sl b o n 1, B x] h (.int .i64 (Lib.indexByte ((List.range n).map fun i => f (o + i)) x)) h := by
  refine ⟨fun _ _ => Tryz.call114 _ _, fun E w args' hH hA => ?_⟩
  obtain ⟨hl, hg⟩ := hA
  obtain ⟨l⟩ := args'
  match l, hl, hg with
  | [u, v], _, hg =>
    have h0 := hg 0 _ _ rfl rfl
    have h1 := hg 1 _ _ rfl rfl
    obtain ⟨_, hlt, a', cap, rfl, hle, hc⟩ := (show CR E h.length (sl b o n 1) u from h0)
    have hv : v = B x := h1
    subst hv
    have hcell : ∀ i, i < n → w.cell? (a'.add i) = some (.int .u8 (((List.range n).map fun i => ((f (o + i)).toNat : Int)).getD i 0)) := fun i hi => by
      rcases hc with hc | ⟨rfl, _⟩
      · omega
      · rw [add_at]
        obtain ⟨y, hy, hr⟩ := hH.cell b _ (o + i) _ hb (Bs_get (by omega))
        have : y = B (f (o + i)) := hr
        rw [hy, this]
        simp [List.getD_eq_getElem?_getD, hi, B]
    refine Calls.mono (Any.bytes_IndexByte_at ibLay a' n cap _ (x.toNat : Int) w (by simp) hcell) fun e w' ⟨he, hw⟩ => ?_
    subst hw
    refine ⟨E, _, he, ?_, hH, Link.refl E h w'⟩
    have e1 : Lib.bytesOf ((List.range n).map fun i => ((f (o + i)).toNat : Int)) = (List.range n).map fun i => f (o + i) := by
      unfold Lib.bytesOf; rw [List.map_map]; congr 1; funext i; simp
    have e2 : ((x.toNat : Int)).toNat.toUInt8 = x := by simp
    rw [e1, e2]
    rfl

end Go.Proofs.YtenkjbkcdcionaaGreat
