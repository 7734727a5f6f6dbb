/- The operations at the types of this seat, as a walk reckons them; written by a program of the prover's. -/
import Derived.Test.YtapiaenodhhgdaaRows
import Derived.Test.YtapiaenodhhgdaaAbsI
import Derived.Test.YtapiaenodhhgdaaAbsN
namespace Go.Proofs.Ytapiaenodhhgdaa
set_option linter.unusedSimpArgs false
set_option linter.unusedVariables false
open Go.Abs
set_option maxRecDepth 100000

theorem T4.isb : isBoolT Try.prog 4 = true := by kernel_rfl
@[go_sem] theorem T4.eql (a b : Bool) : abin Try.prog .eql 4 (.bool a) (.bool b) = some (.bool (a == b)) := eql_bool T4.isb a b
@[go_sem] theorem T4.neq (a b : Bool) : abin Try.prog .neq 4 (.bool a) (.bool b) = some (.bool (!(a == b))) := neq_bool T4.isb a b
@[go_sem] theorem T2.conv5 (h : List Blk) (k : IntKind) (n : Int) : convS Try.prog h 2 5 (.int k n) = some (.int .u8 (IntKind.u8.wrap n)) := conv_int Try.underlying2 Try.underlying5 h k n
@[go_sem] theorem T22.len (b o n es : Nat) : alen Try.prog 22 (sl b o n es) = some (.int .i64 n) := len_sl Try.underlying22 b o n es
@[go_sem] theorem T22.lenN (n c : Nat) : alen Try.prog 22 (.slice none n c) = some (.int .i64 n) := len_nilS Try.underlying22 n c
theorem T5.sz : tsz Try.prog 5 = some 1 := by kernel_rfl
@[go_sem] theorem T22.ixa (b o len : Nat) (k : IntKind) (n : Int) : idxAddrA Try.prog 22 (sl b o len 1) (.int k n) = ixR (aidx n len) b o 1 := ixa_sl Try.underlying22 T5.sz b o len k n
@[go_sem] theorem T22.ixaB (b o len : Nat) (x : UInt8) : idxAddrA Try.prog 22 (sl b o len 1) (B x) = ixR (aidx x.toNat len) b o 1 := ixa_sl_B Try.underlying22 T5.sz b o len x
theorem T5.ag : tagg Try.prog 5 = some false := by kernel_rfl
@[go_sem] theorem T5.load (h : List Blk) (b o : Nat) : loadP Try.prog h 5 (pt b o) = loadCell (h[b]?) o := loadP_cell T5.ag h b o
@[go_sem] theorem T3.conv5 (h : List Blk) (k : IntKind) (n : Int) : convS Try.prog h 3 5 (.int k n) = some (.int .u8 (IntKind.u8.wrap n)) := conv_int Try.underlying3 Try.underlying5 h k n
@[go_sem] theorem T3.conv31 (h : List Blk) (k : IntKind) (n : Int) : convS Try.prog h 3 31 (.int k n) = some (.int .u64 (IntKind.u64.wrap n)) := conv_int Try.underlying3 Try.underlying31 h k n
theorem T51.ze : tzero Try.prog 51 = some (.agg (Sr (.slice none 0 0) 0 0).toArray) := by kernel_rfl
theorem T51.pl : (Sr (.slice none 0 0) 0 0).all plainC = true := by kernel_rfl
theorem T51.places : placesA Try.prog 51 = some [(0, 1), (1, 1), (2, 1)] := by kernel_rfl
@[go_sem] theorem T51.bld (p : Nat × Value) (ps : List (Nat × Value)) : buildA Try.prog 51 (p :: ps) = bldR (fillK (fun i => [(0, 1), (1, 1), (2, 1)][i]?) (some (Sr (.slice none 0 0) 0 0)) (p :: ps)) := build_parts_struct T51.ze T51.pl Try.underlying51 T51.places _
theorem T31.sz : tsz Try.prog 31 = some 1 := by kernel_rfl
@[go_sem] theorem T51.fla2 (b o : Nat) : fieldAddrA Try.prog 51 2 (pt b o) = some (pt b (o + 2)) := fla (f := 2) (o' := 2) (ft := 31) (z := 1) Try.underlying51 rfl rfl rfl T31.sz (by decide) b o
theorem T31.ag : tagg Try.prog 31 = some false := by kernel_rfl
@[go_sem] theorem T31.load (h : List Blk) (b o : Nat) : loadP Try.prog h 31 (pt b o) = loadCell (h[b]?) o := loadP_cell T31.ag h b o
@[go_sem] theorem T5.conv31 (h : List Blk) (x : UInt8) : convS Try.prog h 5 31 (B x) = some (.int .u64 (IntKind.u64.wrap x.toNat)) := conv_B Try.underlying5 Try.underlying31 h x
@[go_sem] theorem T31.store_int (h : List Blk) (b o : Nat) (n : Int) : storeP Try.prog h 31 (.int .u64 n) (pt b o) = storeCell h b (h[b]?) o (.int .u64 n) := storeP_int T31.sz .u64 n h b o
@[go_sem] theorem T31.conv2 (h : List Blk) (k : IntKind) (n : Int) : convS Try.prog h 31 2 (.int k n) = some (.int .i64 (IntKind.i64.wrap n)) := conv_int Try.underlying31 Try.underlying2 h k n
theorem T3.sz : tsz Try.prog 3 = some 1 := by kernel_rfl
@[go_sem] theorem T51.fla1 (b o : Nat) : fieldAddrA Try.prog 51 1 (pt b o) = some (pt b (o + 1)) := fla (f := 1) (o' := 1) (ft := 3) (z := 1) Try.underlying51 rfl rfl rfl T3.sz (by decide) b o
theorem T3.ag : tagg Try.prog 3 = some false := by kernel_rfl
@[go_sem] theorem T3.load (h : List Blk) (b o : Nat) : loadP Try.prog h 3 (pt b o) = loadCell (h[b]?) o := loadP_cell T3.ag h b o
theorem T22.sz : tsz Try.prog 22 = some 1 := by kernel_rfl
@[go_sem] theorem T51.fla0 (b o : Nat) : fieldAddrA Try.prog 51 0 (pt b o) = some (pt b (o + 0)) := fla (f := 0) (o' := 0) (ft := 22) (z := 1) Try.underlying51 rfl rfl rfl T22.sz (by decide) b o
theorem T22.ag : tagg Try.prog 22 = some false := by kernel_rfl
@[go_sem] theorem T22.load (h : List Blk) (b o : Nat) : loadP Try.prog h 22 (pt b o) = loadCell (h[b]?) o := loadP_cell T22.ag h b o
@[go_sem] theorem T5.conv2 (h : List Blk) (x : UInt8) : convS Try.prog h 5 2 (B x) = some (.int .i64 (IntKind.i64.wrap x.toNat)) := conv_B Try.underlying5 Try.underlying2 h x
@[go_sem] theorem T3.store_int (h : List Blk) (b o : Nat) (n : Int) : storeP Try.prog h 3 (.int .i64 n) (pt b o) = storeCell h b (h[b]?) o (.int .i64 n) := storeP_int T3.sz .i64 n h b o
theorem T2.sz : tsz Try.prog 2 = some 1 := by kernel_rfl
theorem T2.ze : tzero Try.prog 2 = some (.int .i64 0) := by kernel_rfl
@[go_sem] theorem T70.bs5 (h : List Blk) (ps : List (Nat × Value)) : buildSliceA Try.prog h 70 5 ps = litR h 5 1 (fillK (fun i => some (i * 1, 1)) (some [.int .i64 0, .int .i64 0, .int .i64 0, .int .i64 0, .int .i64 0]) ps) := bs_cells Try.underlying70 T2.sz T2.ze rfl rfl h (by decide) ps
theorem T5.ze : tzero Try.prog 5 = some (B 0) := by kernel_rfl
@[go_sem] theorem T22.bs0 (h : List Blk) : buildSliceA Try.prog h 22 0 [] = some (sl h.length 0 0 1, h ++ [⟨[], true⟩]) := bs_nil Try.underlying22 T5.sz T5.ze rfl (by kernel_rfl) (by kernel_rfl) h
@[go_sem] theorem T22.bs1 (h : List Blk) (ps : List (Nat × Value)) : buildSliceA Try.prog h 22 1 ps = litR h 1 1 (fillK (fun i => some (i * 1, 1)) (some [B 0]) ps) := bs_cells Try.underlying22 T5.sz T5.ze rfl rfl h (by decide) ps
theorem T22.ei : elemInfo Try.prog 22 = some (5, 1, 1) := by kernel_rfl
@[go_sem] theorem T22.app (h : List Blk) (s : Value) (b o m : Nat) : appendA Try.prog h 22 22 s (sl b o m 1) = appR h 1 1 s (srcR (h[b]?) o m 1) := by rw [append_of T22.ei]; simp only [srcA_sl]
@[go_sem] theorem T5.store_B (h : List Blk) (b o : Nat) (x : UInt8) : storeP Try.prog h 5 (B x) (pt b o) = storeCell h b (h[b]?) o (B x) := storeP_B T5.sz x h b o
@[go_sem] theorem T70.bs3 (h : List Blk) (ps : List (Nat × Value)) : buildSliceA Try.prog h 70 3 ps = litR h 3 1 (fillK (fun i => some (i * 1, 1)) (some [.int .i64 0, .int .i64 0, .int .i64 0]) ps) := bs_cells Try.underlying70 T2.sz T2.ze rfl rfl h (by decide) ps
theorem T69.ze : tzero Try.prog 69 = some (.agg (Sr (.slice none 0 0) 0 0).toArray) := by kernel_rfl
theorem T69.pl : (Sr (.slice none 0 0) 0 0).all plainC = true := by kernel_rfl
theorem T69.places : placesA Try.prog 69 = some [(0, 1), (1, 1), (2, 1)] := by kernel_rfl
@[go_sem] theorem T69.bld (p : Nat × Value) (ps : List (Nat × Value)) : buildA Try.prog 69 (p :: ps) = bldR (fillK (fun i => [(0, 1), (1, 1), (2, 1)][i]?) (some (Sr (.slice none 0 0) 0 0)) (p :: ps)) := build_parts_struct T69.ze T69.pl Try.underlying69 T69.places _
@[go_sem] theorem T69.fla2 (b o : Nat) : fieldAddrA Try.prog 69 2 (pt b o) = some (pt b (o + 2)) := fla (f := 2) (o' := 2) (ft := 31) (z := 1) Try.underlying69 rfl rfl rfl T31.sz (by decide) b o
@[go_sem] theorem T70.bs8 (h : List Blk) (ps : List (Nat × Value)) : buildSliceA Try.prog h 70 8 ps = litR h 8 1 (fillK (fun i => some (i * 1, 1)) (some [.int .i64 0, .int .i64 0, .int .i64 0, .int .i64 0, .int .i64 0, .int .i64 0, .int .i64 0, .int .i64 0]) ps) := bs_cells Try.underlying70 T2.sz T2.ze rfl rfl h (by decide) ps
@[go_sem] theorem T70.len (b o n es : Nat) : alen Try.prog 70 (sl b o n es) = some (.int .i64 n) := len_sl Try.underlying70 b o n es
@[go_sem] theorem T70.lenN (n c : Nat) : alen Try.prog 70 (.slice none n c) = some (.int .i64 n) := len_nilS Try.underlying70 n c
@[go_sem] theorem T70.ixa (b o len : Nat) (k : IntKind) (n : Int) : idxAddrA Try.prog 70 (sl b o len 1) (.int k n) = ixR (aidx n len) b o 1 := ixa_sl Try.underlying70 T2.sz b o len k n
@[go_sem] theorem T70.ixaB (b o len : Nat) (x : UInt8) : idxAddrA Try.prog 70 (sl b o len 1) (B x) = ixR (aidx x.toNat len) b o 1 := ixa_sl_B Try.underlying70 T2.sz b o len x
theorem T2.ag : tagg Try.prog 2 = some false := by kernel_rfl
@[go_sem] theorem T2.load (h : List Blk) (b o : Nat) : loadP Try.prog h 2 (pt b o) = loadCell (h[b]?) o := loadP_cell T2.ag h b o
@[go_sem] theorem T69.fla1 (b o : Nat) : fieldAddrA Try.prog 69 1 (pt b o) = some (pt b (o + 1)) := fla (f := 1) (o' := 1) (ft := 3) (z := 1) Try.underlying69 rfl rfl rfl T3.sz (by decide) b o
@[go_sem] theorem T69.fla0 (b o : Nat) : fieldAddrA Try.prog 69 0 (pt b o) = some (pt b (o + 0)) := fla (f := 0) (o' := 0) (ft := 22) (z := 1) Try.underlying69 rfl rfl rfl T22.sz (by decide) b o
@[go_sem] theorem T70.bs4 (h : List Blk) (ps : List (Nat × Value)) : buildSliceA Try.prog h 70 4 ps = litR h 4 1 (fillK (fun i => some (i * 1, 1)) (some [.int .i64 0, .int .i64 0, .int .i64 0, .int .i64 0]) ps) := bs_cells Try.underlying70 T2.sz T2.ze rfl rfl h (by decide) ps
@[go_sem] theorem T22.slaN (h : List Blk) (lo hi : Option Value) : aslice Try.prog h 22 (.slice none 0 0) lo hi = slcNil (lowA lo) (highA 0 hi) := sla_nil Try.underlying22 T5.sz h lo hi
@[go_sem] theorem T22.sla (h : List Blk) (b o len : Nat) (lo hi : Option Value) : aslice Try.prog h 22 (sl b o len 1) lo hi = slcSl b o 1 (lowA lo) (highA len hi) := sla_sl Try.underlying22 T5.sz h b o len lo hi
theorem T5.by' : tbytes Try.prog 5 = some 1 := by kernel_rfl
@[go_sem] theorem T22.ms (h : List Blk) (k k' : IntKind) {n : Int} (h0 : 0 ≤ n) (hr : n * 1 ≤ 140737488355328) : makeSliceA Try.prog h 22 (.int k n) (.int k' n) = some (sl h.length 0 n.toNat 1, h ++ [⟨Bs n.toNat (fun _ => 0), true⟩]) := by rw [← repA_B]; exact ms_of Try.underlying22 T5.sz T5.by' (by decide) T5.ze rfl (by kernel_rfl) (by kernel_rfl) h k k' h0 hr
@[go_sem] theorem T5.alloc (h : List Blk) : allocA Try.prog h 5 = some (pt h.length 0, h ++ [⟨[B 0], true⟩]) := alloc_of T5.ze rfl (by kernel_rfl) h
theorem T44.ag : tagg Try.prog 44 = some false := by kernel_rfl
@[go_sem] theorem T44.load (h : List Blk) (b o : Nat) : loadP Try.prog h 44 (pt b o) = loadCell (h[b]?) o := loadP_cell T44.ag h b o
@[go_sem] theorem T2.conv31 (h : List Blk) (k : IntKind) (n : Int) : convS Try.prog h 2 31 (.int k n) = some (.int .u64 (IntKind.u64.wrap n)) := conv_int Try.underlying2 Try.underlying31 h k n
@[go_sem] theorem T70.bs0 (h : List Blk) : buildSliceA Try.prog h 70 0 [] = some (sl h.length 0 0 1, h ++ [⟨[], true⟩]) := bs_nil Try.underlying70 T2.sz T2.ze rfl (by kernel_rfl) (by kernel_rfl) h
@[go_sem] theorem T70.bs1 (h : List Blk) (ps : List (Nat × Value)) : buildSliceA Try.prog h 70 1 ps = litR h 1 1 (fillK (fun i => some (i * 1, 1)) (some [.int .i64 0]) ps) := bs_cells Try.underlying70 T2.sz T2.ze rfl rfl h (by decide) ps
theorem T70.ei : elemInfo Try.prog 70 = some (2, 1, 8) := by kernel_rfl
@[go_sem] theorem T70.app (h : List Blk) (s : Value) (b o m : Nat) : appendA Try.prog h 70 70 s (sl b o m 1) = appR h 1 8 s (srcR (h[b]?) o m 1) := by rw [append_of T70.ei]; simp only [srcA_sl]
theorem mixedOk : Try.prog.follows .mixedOrders = true := by kernel_rfl

end Go.Proofs.Ytapiaenodhhgdaa
