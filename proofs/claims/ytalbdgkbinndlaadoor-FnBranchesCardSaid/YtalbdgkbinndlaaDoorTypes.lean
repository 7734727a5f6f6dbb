/- The operations at the types of this seat, as a walk reckons them; written by a program of the prover's. -/
import Derived.Test.YtalbdgkbinndlaaDoorRows
import Derived.Test.YtalbdgkbinndlaaDoorAbsI
import Derived.Test.YtalbdgkbinndlaaDoorAbsN
namespace Go.Proofs.YtalbdgkbinndlaaDoor
set_option linter.unusedSimpArgs false
set_option linter.unusedVariables false
open Go.Abs
set_option maxRecDepth 100000

theorem T26.ze : tzero Tryd.prog 26 = some (.agg (Bs 16 (fun _ => 0)).toArray) := by kernel_rfl
@[go_sem] theorem T26.alloc (h : List Blk) : allocA Tryd.prog h 26 = some (pt h.length 0, h ++ [⟨Bs 16 (fun _ => 0), true⟩]) := alloc_of T26.ze rfl (by kernel_rfl) h
theorem T26.sz : tsz Tryd.prog 26 = some 16 := by kernel_rfl
@[go_sem] theorem T26.store (h : List Blk) (b o : Nat) (cs : Array Value) : storeP Tryd.prog h 26 (.agg cs) (pt b o) = storeRow h b (h[b]?) o 16 cs.toList := storeP_row T26.sz cs h b o
theorem T26.ag : tagg Tryd.prog 26 = some true := by kernel_rfl
@[go_sem] theorem T26.load (h : List Blk) (b o : Nat) : loadP Tryd.prog h 26 (pt b o) = loadRow (h[b]?) o 16 := loadP_row T26.ag T26.sz h b o
theorem T35.ze : tzero Tryd.prog 35 = some (.agg (Bs 16 (fun _ => 0)).toArray) := by kernel_rfl
theorem T35.pl : (Bs 16 (fun _ => 0)).all plainC = true := by kernel_rfl
theorem T5.sz : tsz Tryd.prog 5 = some 1 := by kernel_rfl
@[go_sem] theorem T35.bld0 : buildA Tryd.prog 35 [] = some (.agg (Bs 16 (fun _ => 0)).toArray) := build_nil T35.ze T35.pl Tryd.underlying35 T5.sz
@[go_sem] theorem T35.alloc (h : List Blk) : allocA Tryd.prog h 35 = some (pt h.length 0, h ++ [⟨Bs 16 (fun _ => 0), true⟩]) := alloc_of T35.ze rfl (by kernel_rfl) h
theorem T35.sz : tsz Tryd.prog 35 = some 16 := by kernel_rfl
@[go_sem] theorem T35.store (h : List Blk) (b o : Nat) (cs : Array Value) : storeP Tryd.prog h 35 (.agg cs) (pt b o) = storeRow h b (h[b]?) o 16 cs.toList := storeP_row T35.sz cs h b o
@[go_sem] theorem T2.conv5 (h : List Blk) (k : IntKind) (n : Int) : convS Tryd.prog h 2 5 (.int k n) = some (.int .u8 (IntKind.u8.wrap n)) := conv_int Tryd.underlying2 Tryd.underlying5 h k n
@[go_sem] theorem T35.ixa (b o : Nat) (k : IntKind) (n : Int) : idxAddrA Tryd.prog 35 (pt b o) (.int k n) = ixR (aidx n 16) b o 1 := ixa_arr Tryd.underlying35 T5.sz b o k n
@[go_sem] theorem T35.ixaB (b o : Nat) (x : UInt8) : idxAddrA Tryd.prog 35 (pt b o) (B x) = ixR (aidx x.toNat 16) b o 1 := ixa_arr_B Tryd.underlying35 T5.sz b o x
@[go_sem] theorem T5.store_B (h : List Blk) (b o : Nat) (x : UInt8) : storeP Tryd.prog h 5 (B x) (pt b o) = storeCell h b (h[b]?) o (B x) := storeP_B T5.sz x h b o
theorem T35.ag : tagg Tryd.prog 35 = some true := by kernel_rfl
@[go_sem] theorem T35.load (h : List Blk) (b o : Nat) : loadP Tryd.prog h 35 (pt b o) = loadRow (h[b]?) o 16 := loadP_row T35.ag T35.sz h b o
theorem T5.ag : tagg Tryd.prog 5 = some false := by kernel_rfl
@[go_sem] theorem T5.load (h : List Blk) (b o : Nat) : loadP Tryd.prog h 5 (pt b o) = loadCell (h[b]?) o := loadP_cell T5.ag h b o
theorem T26.aeq (f g : Nat → UInt8) : aeq Tryd.prog 26 (Bs 16 f) (Bs 16 g) = some (eqB 16 f g) := aeq_bytes (by kernel_rfl) (by kernel_rfl) (by kernel_rfl) (by kernel_rfl) (by kernel_rfl) f g
@[go_sem] theorem T26.eqa (f g : Nat → UInt8) : abin Tryd.prog .eql 26 (.agg (Bs 16 f).toArray) (.agg (Bs 16 g).toArray) = some (.bool (eqB 16 f g)) := eql_bytes (T26.aeq f g)
@[go_sem] theorem T26.nea (f g : Nat → UInt8) : abin Tryd.prog .neq 26 (.agg (Bs 16 f).toArray) (.agg (Bs 16 g).toArray) = some (.bool (!eqB 16 f g)) := neq_bytes (T26.aeq f g)
@[go_sem] theorem T22.len (b o n es : Nat) : alen Tryd.prog 22 (sl b o n es) = some (.int .i64 n) := len_sl Tryd.underlying22 b o n es
@[go_sem] theorem T22.lenN (n c : Nat) : alen Tryd.prog 22 (.slice none n c) = some (.int .i64 n) := len_nilS Tryd.underlying22 n c
@[go_sem] theorem T3.conv51 (h : List Blk) (k : IntKind) (n : Int) : convS Tryd.prog h 3 51 (.int k n) = some (.int .u64 (IntKind.u64.wrap n)) := conv_int Tryd.underlying3 Tryd.underlying51 h k n
@[go_sem] theorem T3.conv33 (h : List Blk) (k : IntKind) (n : Int) : convS Tryd.prog h 3 33 (.int k n) = some (.int .u64 (IntKind.u64.wrap n)) := conv_int Tryd.underlying3 Tryd.underlying33 h k n
theorem T56.ze : tzero Tryd.prog 56 = some (.agg (Sr (.slice none 0 0) 0 0).toArray) := by kernel_rfl
theorem T56.pl : (Sr (.slice none 0 0) 0 0).all plainC = true := by kernel_rfl
theorem T56.places : placesA Tryd.prog 56 = some [(0, 1), (1, 1), (2, 1)] := by kernel_rfl
@[go_sem] theorem T56.bld (p : Nat × Value) (ps : List (Nat × Value)) : buildA Tryd.prog 56 (p :: ps) = bldR (fillK (fun i => [(0, 1), (1, 1), (2, 1)][i]?) (some (Sr (.slice none 0 0) 0 0)) (p :: ps)) := build_parts_struct T56.ze T56.pl Tryd.underlying56 T56.places _
theorem T33.sz : tsz Tryd.prog 33 = some 1 := by kernel_rfl
@[go_sem] theorem T56.fla2 (b o : Nat) : fieldAddrA Tryd.prog 56 2 (pt b o) = some (pt b (o + 2)) := fla (f := 2) (o' := 2) (ft := 33) (z := 1) Tryd.underlying56 rfl rfl rfl T33.sz (by decide) b o
theorem T33.ag : tagg Tryd.prog 33 = some false := by kernel_rfl
@[go_sem] theorem T33.load (h : List Blk) (b o : Nat) : loadP Tryd.prog h 33 (pt b o) = loadCell (h[b]?) o := loadP_cell T33.ag h b o
@[go_sem] theorem T22.ixa (b o len : Nat) (k : IntKind) (n : Int) : idxAddrA Tryd.prog 22 (sl b o len 1) (.int k n) = ixR (aidx n len) b o 1 := ixa_sl Tryd.underlying22 T5.sz b o len k n
@[go_sem] theorem T22.ixaB (b o len : Nat) (x : UInt8) : idxAddrA Tryd.prog 22 (sl b o len 1) (B x) = ixR (aidx x.toNat len) b o 1 := ixa_sl_B Tryd.underlying22 T5.sz b o len x
@[go_sem] theorem T5.conv33 (h : List Blk) (x : UInt8) : convS Tryd.prog h 5 33 (B x) = some (.int .u64 (IntKind.u64.wrap x.toNat)) := conv_B Tryd.underlying5 Tryd.underlying33 h x
@[go_sem] theorem T33.store_int (h : List Blk) (b o : Nat) (n : Int) : storeP Tryd.prog h 33 (.int .u64 n) (pt b o) = storeCell h b (h[b]?) o (.int .u64 n) := storeP_int T33.sz .u64 n h b o
@[go_sem] theorem T33.conv2 (h : List Blk) (k : IntKind) (n : Int) : convS Tryd.prog h 33 2 (.int k n) = some (.int .i64 (IntKind.i64.wrap n)) := conv_int Tryd.underlying33 Tryd.underlying2 h k n
theorem T3.sz : tsz Tryd.prog 3 = some 1 := by kernel_rfl
@[go_sem] theorem T56.fla1 (b o : Nat) : fieldAddrA Tryd.prog 56 1 (pt b o) = some (pt b (o + 1)) := fla (f := 1) (o' := 1) (ft := 3) (z := 1) Tryd.underlying56 rfl rfl rfl T3.sz (by decide) b o
theorem T3.ag : tagg Tryd.prog 3 = some false := by kernel_rfl
@[go_sem] theorem T3.load (h : List Blk) (b o : Nat) : loadP Tryd.prog h 3 (pt b o) = loadCell (h[b]?) o := loadP_cell T3.ag h b o
theorem T22.sz : tsz Tryd.prog 22 = some 1 := by kernel_rfl
@[go_sem] theorem T56.fla0 (b o : Nat) : fieldAddrA Tryd.prog 56 0 (pt b o) = some (pt b (o + 0)) := fla (f := 0) (o' := 0) (ft := 22) (z := 1) Tryd.underlying56 rfl rfl rfl T22.sz (by decide) b o
theorem T22.ag : tagg Tryd.prog 22 = some false := by kernel_rfl
@[go_sem] theorem T22.load (h : List Blk) (b o : Nat) : loadP Tryd.prog h 22 (pt b o) = loadCell (h[b]?) o := loadP_cell T22.ag h b o
@[go_sem] theorem T5.conv2 (h : List Blk) (x : UInt8) : convS Tryd.prog h 5 2 (B x) = some (.int .i64 (IntKind.i64.wrap x.toNat)) := conv_B Tryd.underlying5 Tryd.underlying2 h x
@[go_sem] theorem T3.store_int (h : List Blk) (b o : Nat) (n : Int) : storeP Tryd.prog h 3 (.int .i64 n) (pt b o) = storeCell h b (h[b]?) o (.int .i64 n) := storeP_int T3.sz .i64 n h b o
theorem T5.ze : tzero Tryd.prog 5 = some (B 0) := by kernel_rfl
@[go_sem] theorem T22.bs0 (h : List Blk) : buildSliceA Tryd.prog h 22 0 [] = some (sl h.length 0 0 1, h ++ [⟨[], true⟩]) := bs_nil Tryd.underlying22 T5.sz T5.ze rfl (by kernel_rfl) (by kernel_rfl) h
@[go_sem] theorem T22.bs1 (h : List Blk) (ps : List (Nat × Value)) : buildSliceA Tryd.prog h 22 1 ps = litR h 1 1 (fillK (fun i => some (i * 1, 1)) (some [B 0]) ps) := bs_cells Tryd.underlying22 T5.sz T5.ze rfl rfl h (by decide) ps
theorem T22.ei : elemInfo Tryd.prog 22 = some (5, 1, 1) := by kernel_rfl
@[go_sem] theorem T22.app (h : List Blk) (s : Value) (b o m : Nat) : appendA Tryd.prog h 22 22 s (sl b o m 1) = appR h 1 1 s (srcR (h[b]?) o m 1) := by rw [append_of T22.ei]; simp only [srcA_sl]
theorem T26.pl : (Bs 16 (fun _ => 0)).all plainC = true := by kernel_rfl
theorem T24.sz : tsz Tryd.prog 24 = some 4 := by kernel_rfl
@[go_sem] theorem T26.bld0 : buildA Tryd.prog 26 [] = some (.agg (Bs 16 (fun _ => 0)).toArray) := build_nil T26.ze T26.pl Tryd.underlying26 T24.sz
theorem T22.ze : tzero Tryd.prog 22 = some (.slice none 0 0) := by kernel_rfl
@[go_sem] theorem T80.bs2 (h : List Blk) (ps : List (Nat × Value)) : buildSliceA Tryd.prog h 80 2 ps = litR h 2 1 (fillK (fun i => some (i * 1, 1)) (some [.slice none 0 0, .slice none 0 0]) ps) := bs_cells Tryd.underlying80 T22.sz T22.ze rfl rfl h (by decide) ps
@[go_sem] theorem T26.ixa (b o : Nat) (k : IntKind) (n : Int) : idxAddrA Tryd.prog 26 (pt b o) (.int k n) = ixR (aidx n 4) b o 4 := ixa_arr Tryd.underlying26 T24.sz b o k n
@[go_sem] theorem T26.ixaB (b o : Nat) (x : UInt8) : idxAddrA Tryd.prog 26 (pt b o) (B x) = ixR (aidx x.toNat 4) b o 4 := ixa_arr_B Tryd.underlying26 T24.sz b o x
@[go_sem] theorem T24.ixa (b o : Nat) (k : IntKind) (n : Int) : idxAddrA Tryd.prog 24 (pt b o) (.int k n) = ixR (aidx n 4) b o 1 := ixa_arr Tryd.underlying24 T5.sz b o k n
@[go_sem] theorem T24.ixaB (b o : Nat) (x : UInt8) : idxAddrA Tryd.prog 24 (pt b o) (B x) = ixR (aidx x.toNat 4) b o 1 := ixa_arr_B Tryd.underlying24 T5.sz b o x
theorem T2.sz : tsz Tryd.prog 2 = some 1 := by kernel_rfl
theorem T2.ze : tzero Tryd.prog 2 = some (.int .i64 0) := by kernel_rfl
@[go_sem] theorem T90.bs8 (h : List Blk) (ps : List (Nat × Value)) : buildSliceA Tryd.prog h 90 8 ps = litR h 8 1 (fillK (fun i => some (i * 1, 1)) (some [.int .i64 0, .int .i64 0, .int .i64 0, .int .i64 0, .int .i64 0, .int .i64 0, .int .i64 0, .int .i64 0]) ps) := bs_cells Tryd.underlying90 T2.sz T2.ze rfl rfl h (by decide) ps
theorem T9.sz : tsz Tryd.prog 9 = some 1 := by kernel_rfl
theorem T9.ze : tzero Tryd.prog 9 = some (.string .empty) := by kernel_rfl
@[go_sem] theorem T67.bs0 (h : List Blk) : buildSliceA Tryd.prog h 67 0 [] = some (sl h.length 0 0 1, h ++ [⟨[], true⟩]) := bs_nil Tryd.underlying67 T9.sz T9.ze rfl (by kernel_rfl) (by kernel_rfl) h
theorem T24.ag : tagg Tryd.prog 24 = some true := by kernel_rfl
@[go_sem] theorem T26.ix (l : List Value) (k : IntKind) (n : Int) : indexA Tryd.prog 26 (.agg l.toArray) (.int k n) = ixW (aidx n 4) l 4 := ix_arr_row Tryd.underlying26 T24.sz T24.ag l k n
theorem T24.ze : tzero Tryd.prog 24 = some (.agg (Bs 4 (fun _ => 0)).toArray) := by kernel_rfl
@[go_sem] theorem T24.alloc (h : List Blk) : allocA Tryd.prog h 24 = some (pt h.length 0, h ++ [⟨Bs 4 (fun _ => 0), true⟩]) := alloc_of T24.ze rfl (by kernel_rfl) h
@[go_sem] theorem T24.store (h : List Blk) (b o : Nat) (cs : Array Value) : storeP Tryd.prog h 24 (.agg cs) (pt b o) = storeRow h b (h[b]?) o 4 cs.toList := storeP_row T24.sz cs h b o
@[go_sem] theorem T24.sla (h : List Blk) (b o : Nat) (lo hi : Option Value) : aslice Tryd.prog h 24 (pt b o) lo hi = slcArr (h[b]?) b o 4 1 (lowA lo) (highA 4 hi) := sla_arr Tryd.underlying24 T5.sz h b o lo hi
@[go_sem] theorem T67.bs1 (h : List Blk) (ps : List (Nat × Value)) : buildSliceA Tryd.prog h 67 1 ps = litR h 1 1 (fillK (fun i => some (i * 1, 1)) (some [.string .empty]) ps) := bs_cells Tryd.underlying67 T9.sz T9.ze rfl rfl h (by decide) ps
theorem T67.ei : elemInfo Tryd.prog 67 = some (9, 1, 16) := by kernel_rfl
@[go_sem] theorem T67.app (h : List Blk) (s : Value) (b o m : Nat) : appendA Tryd.prog h 67 67 s (sl b o m 1) = appR h 1 16 s (srcR (h[b]?) o m 1) := by rw [append_of T67.ei]; simp only [srcA_sl]
@[go_sem] theorem T67.len (b o n es : Nat) : alen Tryd.prog 67 (sl b o n es) = some (.int .i64 n) := len_sl Tryd.underlying67 b o n es
@[go_sem] theorem T67.lenN (n c : Nat) : alen Tryd.prog 67 (.slice none n c) = some (.int .i64 n) := len_nilS Tryd.underlying67 n c
@[go_sem] theorem T67.ixa (b o len : Nat) (k : IntKind) (n : Int) : idxAddrA Tryd.prog 67 (sl b o len 1) (.int k n) = ixR (aidx n len) b o 1 := ixa_sl Tryd.underlying67 T9.sz b o len k n
@[go_sem] theorem T67.ixaB (b o len : Nat) (x : UInt8) : idxAddrA Tryd.prog 67 (sl b o len 1) (B x) = ixR (aidx x.toNat len) b o 1 := ixa_sl_B Tryd.underlying67 T9.sz b o len x
theorem T9.ag : tagg Tryd.prog 9 = some false := by kernel_rfl
@[go_sem] theorem T9.load (h : List Blk) (b o : Nat) : loadP Tryd.prog h 9 (pt b o) = loadCell (h[b]?) o := loadP_cell T9.ag h b o
@[go_sem] theorem T24.tap {b o len es : Nat} (hl : 4 ≤ len) : toArrPtrA Tryd.prog 24 (sl b o len es) = some (pt b o) := tapG Tryd.underlying24 (by decide) hl
@[go_sem] theorem T24.load (h : List Blk) (b o : Nat) : loadP Tryd.prog h 24 (pt b o) = loadRow (h[b]?) o 4 := loadP_row T24.ag T24.sz h b o
@[go_sem] theorem T51.conv78 (h : List Blk) (k : IntKind) (n : Int) : convS Tryd.prog h 51 78 (.int k n) = some (.int .u32 (IntKind.u32.wrap n)) := conv_int Tryd.underlying51 Tryd.underlying78 h k n
@[go_sem] theorem T80.bs0 (h : List Blk) : buildSliceA Tryd.prog h 80 0 [] = some (sl h.length 0 0 1, h ++ [⟨[], true⟩]) := bs_nil Tryd.underlying80 T22.sz T22.ze rfl (by kernel_rfl) (by kernel_rfl) h
@[go_sem] theorem T80.bs1 (h : List Blk) (ps : List (Nat × Value)) : buildSliceA Tryd.prog h 80 1 ps = litR h 1 1 (fillK (fun i => some (i * 1, 1)) (some [.slice none 0 0]) ps) := bs_cells Tryd.underlying80 T22.sz T22.ze rfl rfl h (by decide) ps
theorem T80.ei : elemInfo Tryd.prog 80 = some (22, 1, 24) := by kernel_rfl
@[go_sem] theorem T80.app (h : List Blk) (s : Value) (b o m : Nat) : appendA Tryd.prog h 80 80 s (sl b o m 1) = appR h 1 24 s (srcR (h[b]?) o m 1) := by rw [append_of T80.ei]; simp only [srcA_sl]
@[go_sem] theorem T80.len (b o n es : Nat) : alen Tryd.prog 80 (sl b o n es) = some (.int .i64 n) := len_sl Tryd.underlying80 b o n es
@[go_sem] theorem T80.lenN (n c : Nat) : alen Tryd.prog 80 (.slice none n c) = some (.int .i64 n) := len_nilS Tryd.underlying80 n c
@[go_sem] theorem T80.ixa (b o len : Nat) (k : IntKind) (n : Int) : idxAddrA Tryd.prog 80 (sl b o len 1) (.int k n) = ixR (aidx n len) b o 1 := ixa_sl Tryd.underlying80 T22.sz b o len k n
@[go_sem] theorem T80.ixaB (b o len : Nat) (x : UInt8) : idxAddrA Tryd.prog 80 (sl b o len 1) (B x) = ixR (aidx x.toNat len) b o 1 := ixa_sl_B Tryd.underlying80 T22.sz b o len x
@[go_sem] theorem T22.store_sl (h : List Blk) (b o : Nat) (c q n es : Nat) : storeP Tryd.prog h 22 (sl c q n es) (pt b o) = storeCell h b (h[b]?) o (sl c q n es) := storeP_sl T22.sz c q n es h b o
@[go_sem] theorem T22.store_nil (h : List Blk) (b o : Nat) (n c : Nat) : storeP Tryd.prog h 22 (.slice none n c) (pt b o) = storeCell h b (h[b]?) o (.slice none n c) := storeP_nil T22.sz n c h b o
@[go_sem] theorem T24.ix (l : List Value) (k : IntKind) (n : Int) : indexA Tryd.prog 24 (.agg l.toArray) (.int k n) = ixC (aidx n 4) l := ix_arr_cell Tryd.underlying24 T5.sz T5.ag l k n
@[go_sem] theorem T24.ixB (l : List Value) (x : UInt8) : indexA Tryd.prog 24 (.agg l.toArray) (B x) = ixC (aidx x.toNat 4) l := ix_arr_cell_B Tryd.underlying24 T5.sz T5.ag l x
theorem T85.ze : tzero Tryd.prog 85 = some (.agg (Sr (.slice none 0 0) 0 0).toArray) := by kernel_rfl
theorem T85.pl : (Sr (.slice none 0 0) 0 0).all plainC = true := by kernel_rfl
theorem T85.places : placesA Tryd.prog 85 = some [(0, 1), (1, 1), (2, 1)] := by kernel_rfl
@[go_sem] theorem T85.bld (p : Nat × Value) (ps : List (Nat × Value)) : buildA Tryd.prog 85 (p :: ps) = bldR (fillK (fun i => [(0, 1), (1, 1), (2, 1)][i]?) (some (Sr (.slice none 0 0) 0 0)) (p :: ps)) := build_parts_struct T85.ze T85.pl Tryd.underlying85 T85.places _
@[go_sem] theorem T85.fla2 (b o : Nat) : fieldAddrA Tryd.prog 85 2 (pt b o) = some (pt b (o + 2)) := fla (f := 2) (o' := 2) (ft := 33) (z := 1) Tryd.underlying85 rfl rfl rfl T33.sz (by decide) b o
@[go_sem] theorem T85.fla1 (b o : Nat) : fieldAddrA Tryd.prog 85 1 (pt b o) = some (pt b (o + 1)) := fla (f := 1) (o' := 1) (ft := 3) (z := 1) Tryd.underlying85 rfl rfl rfl T3.sz (by decide) b o
@[go_sem] theorem T85.fla0 (b o : Nat) : fieldAddrA Tryd.prog 85 0 (pt b o) = some (pt b (o + 0)) := fla (f := 0) (o' := 0) (ft := 22) (z := 1) Tryd.underlying85 rfl rfl rfl T22.sz (by decide) b o
@[go_sem] theorem T22.slaN (h : List Blk) (lo hi : Option Value) : aslice Tryd.prog h 22 (.slice none 0 0) lo hi = slcNil (lowA lo) (highA 0 hi) := sla_nil Tryd.underlying22 T5.sz h lo hi
@[go_sem] theorem T22.sla (h : List Blk) (b o len : Nat) (lo hi : Option Value) : aslice Tryd.prog h 22 (sl b o len 1) lo hi = slcSl b o 1 (lowA lo) (highA len hi) := sla_sl Tryd.underlying22 T5.sz h b o len lo hi
@[go_sem] theorem T90.len (b o n es : Nat) : alen Tryd.prog 90 (sl b o n es) = some (.int .i64 n) := len_sl Tryd.underlying90 b o n es
@[go_sem] theorem T90.lenN (n c : Nat) : alen Tryd.prog 90 (.slice none n c) = some (.int .i64 n) := len_nilS Tryd.underlying90 n c
@[go_sem] theorem T90.ixa (b o len : Nat) (k : IntKind) (n : Int) : idxAddrA Tryd.prog 90 (sl b o len 1) (.int k n) = ixR (aidx n len) b o 1 := ixa_sl Tryd.underlying90 T2.sz b o len k n
@[go_sem] theorem T90.ixaB (b o len : Nat) (x : UInt8) : idxAddrA Tryd.prog 90 (sl b o len 1) (B x) = ixR (aidx x.toNat len) b o 1 := ixa_sl_B Tryd.underlying90 T2.sz b o len x
theorem T2.ag : tagg Tryd.prog 2 = some false := by kernel_rfl
@[go_sem] theorem T2.load (h : List Blk) (b o : Nat) : loadP Tryd.prog h 2 (pt b o) = loadCell (h[b]?) o := loadP_cell T2.ag h b o
@[go_sem] theorem T90.bs4 (h : List Blk) (ps : List (Nat × Value)) : buildSliceA Tryd.prog h 90 4 ps = litR h 4 1 (fillK (fun i => some (i * 1, 1)) (some [.int .i64 0, .int .i64 0, .int .i64 0, .int .i64 0]) ps) := bs_cells Tryd.underlying90 T2.sz T2.ze rfl rfl h (by decide) ps
@[go_sem] theorem T9.ix (s : ByteArray) (k : IntKind) (n : Int) : indexA Tryd.prog 9 (.string s) (.int k n) = chrC (aidx n s.size) s := ix_str Tryd.underlying9 s k n
@[go_sem] theorem T22.bs2 (h : List Blk) (ps : List (Nat × Value)) : buildSliceA Tryd.prog h 22 2 ps = litR h 2 1 (fillK (fun i => some (i * 1, 1)) (some [B 0, B 0]) ps) := bs_cells Tryd.underlying22 T5.sz T5.ze rfl rfl h (by decide) ps
@[go_sem] theorem T22.conv9 (h : List Blk) (b o n es : Nat) : convS Tryd.prog h 22 9 (sl b o n es) = strR (h[b]?) o n := conv_str Tryd.underlying22 Tryd.underlying5 Tryd.underlying9 h b o n es
@[go_sem] theorem T9.len (s : ByteArray) : alen Tryd.prog 9 (.string s) = some (.int .i64 s.size) := len_str Tryd.underlying9 s
theorem T93.ze : tzero Tryd.prog 93 = some (.agg ([Value.pointer none] ++ [Value.slice none 0 0]).toArray) := by kernel_rfl
@[go_sem] theorem T93.alloc (h : List Blk) : allocA Tryd.prog h 93 = some (pt h.length 0, h ++ [⟨[.pointer none] ++ [Value.slice none 0 0], true⟩]) := alloc_of T93.ze rfl (by kernel_rfl) h
@[go_sem] theorem T67.slaN (h : List Blk) (lo hi : Option Value) : aslice Tryd.prog h 67 (.slice none 0 0) lo hi = slcNil (lowA lo) (highA 0 hi) := sla_nil Tryd.underlying67 T9.sz h lo hi
@[go_sem] theorem T67.sla (h : List Blk) (b o len : Nat) (lo hi : Option Value) : aslice Tryd.prog h 67 (sl b o len 1) lo hi = slcSl b o 1 (lowA lo) (highA len hi) := sla_sl Tryd.underlying67 T9.sz h b o len lo hi
@[go_sem] theorem T22.bs4 (h : List Blk) (ps : List (Nat × Value)) : buildSliceA Tryd.prog h 22 4 ps = litR h 4 1 (fillK (fun i => some (i * 1, 1)) (some [B 0, B 0, B 0, B 0]) ps) := bs_cells Tryd.underlying22 T5.sz T5.ze rfl rfl h (by decide) ps
@[go_sem] theorem T67.bs16 (h : List Blk) (ps : List (Nat × Value)) : buildSliceA Tryd.prog h 67 16 ps = litR h 16 1 (fillK (fun i => some (i * 1, 1)) (some [.string .empty, .string .empty, .string .empty, .string .empty, .string .empty, .string .empty, .string .empty, .string .empty, .string .empty, .string .empty, .string .empty, .string .empty, .string .empty, .string .empty, .string .empty, .string .empty]) ps) := bs_cells Tryd.underlying67 T9.sz T9.ze rfl rfl h (by decide) ps
@[go_sem] theorem T9.sla (h : List Blk) (s : ByteArray) (lo hi : Option Value) : aslice Tryd.prog h 9 (.string s) lo hi = slcStr s (lowA lo) (highA s.size hi) := sla_str Tryd.underlying9 h s lo hi
@[go_sem] theorem T5.conv3 (h : List Blk) (x : UInt8) : convS Tryd.prog h 5 3 (B x) = some (.int .i64 (IntKind.i64.wrap x.toNat)) := conv_B Tryd.underlying5 Tryd.underlying3 h x
@[go_sem] theorem T33.conv3 (h : List Blk) (k : IntKind) (n : Int) : convS Tryd.prog h 33 3 (.int k n) = some (.int .i64 (IntKind.i64.wrap n)) := conv_int Tryd.underlying33 Tryd.underlying3 h k n
@[go_sem] theorem T2.conv33 (h : List Blk) (k : IntKind) (n : Int) : convS Tryd.prog h 2 33 (.int k n) = some (.int .u64 (IntKind.u64.wrap n)) := conv_int Tryd.underlying2 Tryd.underlying33 h k n
@[go_sem] theorem T90.bs0 (h : List Blk) : buildSliceA Tryd.prog h 90 0 [] = some (sl h.length 0 0 1, h ++ [⟨[], true⟩]) := bs_nil Tryd.underlying90 T2.sz T2.ze rfl (by kernel_rfl) (by kernel_rfl) h
@[go_sem] theorem T90.bs1 (h : List Blk) (ps : List (Nat × Value)) : buildSliceA Tryd.prog h 90 1 ps = litR h 1 1 (fillK (fun i => some (i * 1, 1)) (some [.int .i64 0]) ps) := bs_cells Tryd.underlying90 T2.sz T2.ze rfl rfl h (by decide) ps
theorem T90.ei : elemInfo Tryd.prog 90 = some (2, 1, 8) := by kernel_rfl
@[go_sem] theorem T90.app (h : List Blk) (s : Value) (b o m : Nat) : appendA Tryd.prog h 90 90 s (sl b o m 1) = appR h 1 8 s (srcR (h[b]?) o m 1) := by rw [append_of T90.ei]; simp only [srcA_sl]
@[go_sem] theorem T2.store_int (h : List Blk) (b o : Nat) (n : Int) : storeP Tryd.prog h 2 (.int .i64 n) (pt b o) = storeCell h b (h[b]?) o (.int .i64 n) := storeP_int T2.sz .i64 n h b o
@[go_sem] theorem T90.bs3 (h : List Blk) (ps : List (Nat × Value)) : buildSliceA Tryd.prog h 90 3 ps = litR h 3 1 (fillK (fun i => some (i * 1, 1)) (some [.int .i64 0, .int .i64 0, .int .i64 0]) ps) := bs_cells Tryd.underlying90 T2.sz T2.ze rfl rfl h (by decide) ps
@[go_sem] theorem T22.cap (c : Nat) : acap Tryd.prog 22 (.slice none 0 c) = some (.int .i64 c) := cap_nil Tryd.underlying22 c
@[go_sem] theorem T22.appz3 (h : List Blk) {n : Int} (h0 : 0 < n) (hr : n * 1 ≤ 140737488355328) : appendA Tryd.prog h 22 3 (.slice none 0 0) (.int .i64 n) = some (sl h.length 0 n.toNat 1, h ++ [⟨Bs n.toNat (fun _ => 0), true⟩]) := by rw [← repA_B]; exact append_zeros T22.ei (by decide) Tryd.underlying3 T5.sz T5.ze rfl (by kernel_rfl) (by kernel_rfl) h h0 hr
@[go_sem] theorem T93.fla1 (b o : Nat) : fieldAddrA Tryd.prog 93 1 (pt b o) = some (pt b (o + 1)) := fla (f := 1) (o' := 1) (ft := 22) (z := 1) Tryd.underlying93 rfl rfl rfl T22.sz (by decide) b o
theorem T9.by' : tbytes Tryd.prog 9 = some 16 := by kernel_rfl
@[go_sem] theorem T67.ms (h : List Blk) (k k' : IntKind) {n : Int} (h0 : 0 ≤ n) (hr : n * 16 ≤ 140737488355328) : makeSliceA Tryd.prog h 67 (.int k n) (.int k' n) = some (sl h.length 0 n.toNat 1, h ++ [⟨repA [.string .empty] n.toNat, true⟩]) := ms_of Tryd.underlying67 T9.sz T9.by' (by decide) T9.ze rfl (by kernel_rfl) (by kernel_rfl) h k k' h0 hr
@[go_sem] theorem T9.store_string (h : List Blk) (b o : Nat) (x : ByteArray) : storeP Tryd.prog h 9 (.string x) (pt b o) = storeCell h b (h[b]?) o (.string x) := storeP_string T9.sz x h b o
theorem T91.sz : tsz Tryd.prog 91 = some 1 := by kernel_rfl
@[go_sem] theorem T93.fla0 (b o : Nat) : fieldAddrA Tryd.prog 93 0 (pt b o) = some (pt b (o + 0)) := fla (f := 0) (o' := 0) (ft := 91) (z := 1) Tryd.underlying93 rfl rfl rfl T91.sz (by decide) b o
theorem T91.ag : tagg Tryd.prog 91 = some false := by kernel_rfl
@[go_sem] theorem T91.load (h : List Blk) (b o : Nat) : loadP Tryd.prog h 91 (pt b o) = loadCell (h[b]?) o := loadP_cell T91.ag h b o
@[go_sem] theorem T91.store_pt (h : List Blk) (b o : Nat) (c q : Nat) : storeP Tryd.prog h 91 (pt c q) (pt b o) = storeCell h b (h[b]?) o (pt c q) := storeP_pt T91.sz c q h b o
@[go_sem] theorem T5.conv21 (h : List Blk) (x : UInt8) : convS Tryd.prog h 5 21 (B x) = some (.int .i32 (IntKind.i32.wrap x.toNat)) := conv_B Tryd.underlying5 Tryd.underlying21 h x
@[go_sem] theorem T119.ixa (b o : Nat) (k : IntKind) (n : Int) : idxAddrA Tryd.prog 119 (pt b o) (.int k n) = ixR (aidx n 256) b o 1 := ixa_arr Tryd.underlying119 T5.sz b o k n
@[go_sem] theorem T119.ixaB (b o : Nat) (x : UInt8) : idxAddrA Tryd.prog 119 (pt b o) (B x) = ixR (aidx x.toNat 256) b o 1 := ixa_arr_B Tryd.underlying119 T5.sz b o x
theorem T121.sz : tsz Tryd.prog 121 = some 2 := by kernel_rfl
@[go_sem] theorem T122.ixa (b o : Nat) (k : IntKind) (n : Int) : idxAddrA Tryd.prog 122 (pt b o) (.int k n) = ixR (aidx n 16) b o 2 := ixa_arr Tryd.underlying122 T121.sz b o k n
@[go_sem] theorem T122.ixaB (b o : Nat) (x : UInt8) : idxAddrA Tryd.prog 122 (pt b o) (B x) = ixR (aidx x.toNat 16) b o 2 := ixa_arr_B Tryd.underlying122 T121.sz b o x
theorem T121.ag : tagg Tryd.prog 121 = some true := by kernel_rfl
@[go_sem] theorem T121.load (h : List Blk) (b o : Nat) : loadP Tryd.prog h 121 (pt b o) = loadRow (h[b]?) o 2 := loadP_row T121.ag T121.sz h b o
theorem T121.ze : tzero Tryd.prog 121 = some (.agg ([B 0] ++ [B 0]).toArray) := by kernel_rfl
@[go_sem] theorem T121.alloc (h : List Blk) : allocA Tryd.prog h 121 = some (pt h.length 0, h ++ [⟨[B 0] ++ [B 0], true⟩]) := alloc_of T121.ze rfl (by kernel_rfl) h
@[go_sem] theorem T121.store (h : List Blk) (b o : Nat) (cs : Array Value) : storeP Tryd.prog h 121 (.agg cs) (pt b o) = storeRow h b (h[b]?) o 2 cs.toList := storeP_row T121.sz cs h b o
@[go_sem] theorem T121.fla0 (b o : Nat) : fieldAddrA Tryd.prog 121 0 (pt b o) = some (pt b (o + 0)) := fla (f := 0) (o' := 0) (ft := 5) (z := 1) Tryd.underlying121 rfl rfl rfl T5.sz (by decide) b o
@[go_sem] theorem T121.fla1 (b o : Nat) : fieldAddrA Tryd.prog 121 1 (pt b o) = some (pt b (o + 1)) := fla (f := 1) (o' := 1) (ft := 5) (z := 1) Tryd.underlying121 rfl rfl rfl T5.sz (by decide) b o
theorem T121.pl : ([B 0] ++ [B 0]).all plainC = true := by kernel_rfl
theorem T121.places : placesA Tryd.prog 121 = some [(0, 1), (1, 1)] := by kernel_rfl
@[go_sem] theorem T121.bld (p : Nat × Value) (ps : List (Nat × Value)) : buildA Tryd.prog 121 (p :: ps) = bldR (fillK (fun i => [(0, 1), (1, 1)][i]?) (some ([B 0] ++ [B 0])) (p :: ps)) := build_parts_struct T121.ze T121.pl Tryd.underlying121 T121.places _
theorem T122.ze : tzero Tryd.prog 122 = some (.agg ([B 0] ++ [B 0] ++ [B 0] ++ [B 0] ++ [B 0] ++ [B 0] ++ [B 0] ++ [B 0] ++ [B 0] ++ [B 0] ++ [B 0] ++ [B 0] ++ [B 0] ++ [B 0] ++ [B 0] ++ [B 0] ++ [B 0] ++ [B 0] ++ [B 0] ++ [B 0] ++ [B 0] ++ [B 0] ++ [B 0] ++ [B 0] ++ [B 0] ++ [B 0] ++ [B 0] ++ [B 0] ++ [B 0] ++ [B 0] ++ [B 0] ++ [B 0]).toArray) := by kernel_rfl
theorem T122.pl : ([B 0] ++ [B 0] ++ [B 0] ++ [B 0] ++ [B 0] ++ [B 0] ++ [B 0] ++ [B 0] ++ [B 0] ++ [B 0] ++ [B 0] ++ [B 0] ++ [B 0] ++ [B 0] ++ [B 0] ++ [B 0] ++ [B 0] ++ [B 0] ++ [B 0] ++ [B 0] ++ [B 0] ++ [B 0] ++ [B 0] ++ [B 0] ++ [B 0] ++ [B 0] ++ [B 0] ++ [B 0] ++ [B 0] ++ [B 0] ++ [B 0] ++ [B 0]).all plainC = true := by kernel_rfl
@[go_sem] theorem T122.bld (p : Nat × Value) (ps : List (Nat × Value)) : buildA Tryd.prog 122 (p :: ps) = bldR (fillK (fun i => some (i * 2, 2)) (some ([B 0] ++ [B 0] ++ [B 0] ++ [B 0] ++ [B 0] ++ [B 0] ++ [B 0] ++ [B 0] ++ [B 0] ++ [B 0] ++ [B 0] ++ [B 0] ++ [B 0] ++ [B 0] ++ [B 0] ++ [B 0] ++ [B 0] ++ [B 0] ++ [B 0] ++ [B 0] ++ [B 0] ++ [B 0] ++ [B 0] ++ [B 0] ++ [B 0] ++ [B 0] ++ [B 0] ++ [B 0] ++ [B 0] ++ [B 0] ++ [B 0] ++ [B 0])) (p :: ps)) := build_parts T122.ze T122.pl Tryd.underlying122 T121.sz _
theorem T122.sz : tsz Tryd.prog 122 = some 32 := by kernel_rfl
@[go_sem] theorem T122.store (h : List Blk) (b o : Nat) (cs : Array Value) : storeP Tryd.prog h 122 (.agg cs) (pt b o) = storeRow h b (h[b]?) o 32 cs.toList := storeP_row T122.sz cs h b o
theorem mixedOk : Tryd.prog.follows .mixedOrders = true := by kernel_rfl

end Go.Proofs.YtalbdgkbinndlaaDoor
