/- bytes.IndexByte. -/
import Derived.Test.YtalbdgkbinndlaaDoorW14
import Derived.Shelf.Bytes.SlIndexAt
namespace Go.Proofs.YtalbdgkbinndlaaDoor
set_option linter.unusedSimpArgs false
set_option linter.unusedVariables false
set_option maxRecDepth 20000
set_option maxHeartbeats 1000000
open Go.Abs Go.Shelf Go.Lib

def ibRen : Ren := ⟨fun x => if x = 187 then 61 else 76, fun x => if x = 3 then 3 else if x = 5 then 5 else 22, fun _ => 0⟩
theorem ibLay : Lays.n187 Tryd.prog ibRen where
  mixed := mixedOk
  f187 := by kernel_rfl
  f255 := by kernel_rfl
  t3 := by kernel_rfl
  a3 := fun w => by kernel_rfl
  z3 := fun w => by kernel_rfl
  v3 := fun w => by kernel_rfl
  t5 := by kernel_rfl
  a5 := fun w => by kernel_rfl
  z5 := fun w => by kernel_rfl
  v5 := fun w => by kernel_rfl
  t37 := by kernel_rfl
  a37 := fun w => by kernel_rfl
  z37 := fun w => by kernel_rfl
  v37 := fun w => by kernel_rfl

theorem add_at (E : Emb) (b o i : Nat) : (E.at b o).add i = E.at b (o + i) := by
  unfold Addr.add
  split
  · rename_i h; rw [h]; rfl
  · simp [Emb.at, Nat.add_assoc]

theorem indexByte_ac {h : List Blk} {b o n m : Nat} {f : Nat → UInt8} {r : Bool} (hb : h[b]? = some ⟨Bs m f, r⟩) (ho : o + n ≤ m) (x : UInt8) :
    AC Tryd.prog 61 [sl b o n 1, B x] h (.int .i64 (Lib.indexByte ((List.range n).map fun i => f (o + i)) x)) h := by
  refine ⟨fun _ _ => Tryd.call61 _ _, fun E w args' hH hA => ?_⟩
  obtain ⟨hl, hg⟩ := hA
  obtain ⟨l⟩ := args'
  match l, hl, hg with
  | [u, v], _, hg =>
    have h0 := hg 0 _ _ rfl rfl
    have h1 := hg 1 _ _ rfl rfl
    obtain ⟨_, hlt, a', cap, rfl, hle, hc⟩ := (show CR E h.length (sl b o n 1) u from h0)
    have hv : v = B x := h1
    subst hv
    have hcell : ∀ i, i < n → w.cell? (a'.add i) = some (.int .u8 (((List.range n).map fun i => ((f (o + i)).toNat : Int)).getD i 0)) := fun i hi => by
      rcases hc with hc | ⟨rfl, _⟩
      · omega
      · rw [add_at]
        obtain ⟨y, hy, hr⟩ := hH.cell b _ (o + i) _ hb (Bs_get (by omega))
        have : y = B (f (o + i)) := hr
        rw [hy, this]
        simp [List.getD_eq_getElem?_getD, hi, B]
    refine Calls.mono (Any.bytes_IndexByte_at ibLay a' n cap _ (x.toNat : Int) w (by simp) hcell) fun e w' ⟨he, hw⟩ => ?_
    subst hw
    refine ⟨E, _, he, ?_, hH, Link.refl E h w'⟩
    have e1 : Lib.bytesOf ((List.range n).map fun i => ((f (o + i)).toNat : Int)) = (List.range n).map fun i => f (o + i) := by
      unfold Lib.bytesOf; rw [List.map_map]; congr 1; funext i; simp
    have e2 : ((x.toNat : Int)).toNat.toUInt8 = x := by simp
    rw [e1, e2]
    rfl

end Go.Proofs.YtalbdgkbinndlaaDoor
