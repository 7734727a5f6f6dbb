/- The operations at the types of this seat, as a walk reckons them; written by a program of the prover's. -/
import Derived.Test.YtkdpjkpedklbpaaGreatDoorRows
import Derived.Test.YtkdpjkpedklbpaaGreatDoorAbsI
import Derived.Test.YtkdpjkpedklbpaaGreatDoorAbsN
namespace Go.Proofs.YtkdpjkpedklbpaaGreatDoor
set_option linter.unusedSimpArgs false
set_option linter.unusedVariables false
open Go.Abs
set_option maxRecDepth 100000

theorem T32.ze : tzero Tryz.prog 32 = some (.agg (Ci 0 (fun _ => 0) (fun _ => 0) (fun _ => 0) 0).toArray) := by kernel_rfl
@[go_sem] theorem T32.alloc (h : List Blk) : allocA Tryz.prog h 32 = some (pt h.length 0, h ++ [⟨Ci 0 (fun _ => 0) (fun _ => 0) (fun _ => 0) 0, true⟩]) := alloc_of T32.ze rfl (by kernel_rfl) h
theorem T33.ze : tzero Tryz.prog 33 = some (.agg (Bs 16 (fun _ => 0)).toArray) := by kernel_rfl
@[go_sem] theorem T33.alloc (h : List Blk) : allocA Tryz.prog h 33 = some (pt h.length 0, h ++ [⟨Bs 16 (fun _ => 0), true⟩]) := alloc_of T33.ze rfl (by kernel_rfl) h
theorem T32.sz : tsz Tryz.prog 32 = some 290 := by kernel_rfl
@[go_sem] theorem T32.store (h : List Blk) (b o : Nat) (cs : Array Value) : storeP Tryz.prog h 32 (.agg cs) (pt b o) = storeRow h b (h[b]?) o 290 cs.toList := storeP_row T32.sz cs h b o
theorem T33.sz : tsz Tryz.prog 33 = some 16 := by kernel_rfl
@[go_sem] theorem T33.store (h : List Blk) (b o : Nat) (cs : Array Value) : storeP Tryz.prog h 33 (.agg cs) (pt b o) = storeRow h b (h[b]?) o 16 cs.toList := storeP_row T33.sz cs h b o
theorem T32.ag : tagg Tryz.prog 32 = some true := by kernel_rfl
@[go_sem] theorem T32.load (h : List Blk) (b o : Nat) : loadP Tryz.prog h 32 (pt b o) = loadRow (h[b]?) o 290 := loadP_row T32.ag T32.sz h b o
theorem T33.ag : tagg Tryz.prog 33 = some true := by kernel_rfl
@[go_sem] theorem T33.load (h : List Blk) (b o : Nat) : loadP Tryz.prog h 33 (pt b o) = loadRow (h[b]?) o 16 := loadP_row T33.ag T33.sz h b o
@[go_sem] theorem T36.len (b o n es : Nat) : alen Tryz.prog 36 (sl b o n es) = some (.int .i64 n) := len_sl Tryz.underlying36 b o n es
@[go_sem] theorem T36.lenN (n c : Nat) : alen Tryz.prog 36 (.slice none n c) = some (.int .i64 n) := len_nilS Tryz.underlying36 n c
theorem T2.sz : tsz Tryz.prog 2 = some 1 := by kernel_rfl
@[go_sem] theorem T32.fla4 (b o : Nat) : fieldAddrA Tryz.prog 32 4 (pt b o) = some (pt b (o + 289)) := fla (f := 4) (o' := 289) (ft := 2) (z := 1) Tryz.underlying32 rfl rfl rfl T2.sz (by decide) b o
theorem T2.ag : tagg Tryz.prog 2 = some false := by kernel_rfl
@[go_sem] theorem T2.load (h : List Blk) (b o : Nat) : loadP Tryz.prog h 2 (pt b o) = loadCell (h[b]?) o := loadP_cell T2.ag h b o
@[go_sem] theorem T36.ixa (b o len : Nat) (k : IntKind) (n : Int) : idxAddrA Tryz.prog 36 (sl b o len 16) (.int k n) = ixR (aidx n len) b o 16 := ixa_sl Tryz.underlying36 T33.sz b o len k n
@[go_sem] theorem T36.ixaB (b o len : Nat) (x : UInt8) : idxAddrA Tryz.prog 36 (sl b o len 16) (B x) = ixR (aidx x.toNat len) b o 16 := ixa_sl_B Tryz.underlying36 T33.sz b o len x
theorem T33.aeq (f g : Nat → UInt8) : aeq Tryz.prog 33 (Bs 16 f) (Bs 16 g) = some (eqB 16 f g) := aeq_bytes (by kernel_rfl) (by kernel_rfl) (by kernel_rfl) (by kernel_rfl) (by kernel_rfl) f g
@[go_sem] theorem T33.eqa (f g : Nat → UInt8) : abin Tryz.prog .eql 33 (.agg (Bs 16 f).toArray) (.agg (Bs 16 g).toArray) = some (.bool (eqB 16 f g)) := eql_bytes (T33.aeq f g)
@[go_sem] theorem T33.nea (f g : Nat → UInt8) : abin Tryz.prog .neq 33 (.agg (Bs 16 f).toArray) (.agg (Bs 16 g).toArray) = some (.bool (!eqB 16 f g)) := neq_bytes (T33.aeq f g)
@[go_sem] theorem T49.len (b o n es : Nat) : alen Tryz.prog 49 (sl b o n es) = some (.int .i64 n) := len_sl Tryz.underlying49 b o n es
@[go_sem] theorem T49.lenN (n c : Nat) : alen Tryz.prog 49 (.slice none n c) = some (.int .i64 n) := len_nilS Tryz.underlying49 n c
@[go_sem] theorem T49.ixa (b o len : Nat) (k : IntKind) (n : Int) : idxAddrA Tryz.prog 49 (sl b o len 1) (.int k n) = ixR (aidx n len) b o 1 := ixa_sl Tryz.underlying49 T2.sz b o len k n
@[go_sem] theorem T49.ixaB (b o len : Nat) (x : UInt8) : idxAddrA Tryz.prog 49 (sl b o len 1) (B x) = ixR (aidx x.toNat len) b o 1 := ixa_sl_B Tryz.underlying49 T2.sz b o len x
-- equality at impl.Cipher is not served
-- equality at impl.Cipher is not served
@[go_sem] theorem T22.len (b o n es : Nat) : alen Tryz.prog 22 (sl b o n es) = some (.int .i64 n) := len_sl Tryz.underlying22 b o n es
@[go_sem] theorem T22.lenN (n c : Nat) : alen Tryz.prog 22 (.slice none n c) = some (.int .i64 n) := len_nilS Tryz.underlying22 n c
theorem T33.pl : (Bs 16 (fun _ => 0)).all plainC = true := by kernel_rfl
theorem T5.sz : tsz Tryz.prog 5 = some 1 := by kernel_rfl
@[go_sem] theorem T33.bld0 : buildA Tryz.prog 33 [] = some (.agg (Bs 16 (fun _ => 0)).toArray) := build_nil T33.ze T33.pl Tryz.underlying33 T5.sz
theorem T25.sz : tsz Tryz.prog 25 = some 256 := by kernel_rfl
@[go_sem] theorem T32.fla1 (b o : Nat) : fieldAddrA Tryz.prog 32 1 (pt b o) = some (pt b (o + 1)) := fla (f := 1) (o' := 1) (ft := 25) (z := 256) Tryz.underlying32 rfl rfl rfl T25.sz (by decide) b o
theorem T25.ag : tagg Tryz.prog 25 = some true := by kernel_rfl
@[go_sem] theorem T25.load (h : List Blk) (b o : Nat) : loadP Tryz.prog h 25 (pt b o) = loadRow (h[b]?) o 256 := loadP_row T25.ag T25.sz h b o
@[go_sem] theorem T36.bs0 (h : List Blk) : buildSliceA Tryz.prog h 36 0 [] = some (sl h.length 0 0 16, h ++ [⟨[], true⟩]) := bs_nil Tryz.underlying36 T33.sz T33.ze rfl (by kernel_rfl) (by kernel_rfl) h
theorem T2.ze : tzero Tryz.prog 2 = some (.int .i64 0) := by kernel_rfl
@[go_sem] theorem T49.bs5 (h : List Blk) (ps : List (Nat × Value)) : buildSliceA Tryz.prog h 49 5 ps = litR h 5 1 (fillK (fun i => some (i * 1, 1)) (some [.int .i64 0, .int .i64 0, .int .i64 0, .int .i64 0, .int .i64 0]) ps) := bs_cells Tryz.underlying49 T2.sz T2.ze rfl rfl h (by decide) ps
@[go_sem] theorem T36.bs1 (h : List Blk) (ps : List (Nat × Value)) : buildSliceA Tryz.prog h 36 1 ps = litR h 1 16 (fillK (fun i => some (i * 16, 16)) (some (repA (Bs 16 (fun _ => 0)) 1)) ps) := bs_parts Tryz.underlying36 T33.sz T33.ze rfl (by kernel_rfl) (by kernel_rfl) h (by decide) ps
theorem T36.ei : elemInfo Tryz.prog 36 = some (33, 16, 16) := by kernel_rfl
@[go_sem] theorem T36.app (h : List Blk) (s : Value) (b o m : Nat) : appendA Tryz.prog h 36 36 s (sl b o m 16) = appR h 16 16 s (srcR (h[b]?) o m 16) := by rw [append_of T36.ei]; simp only [srcA_sl]
@[go_sem] theorem T33.ixa (b o : Nat) (k : IntKind) (n : Int) : idxAddrA Tryz.prog 33 (pt b o) (.int k n) = ixR (aidx n 16) b o 1 := ixa_arr Tryz.underlying33 T5.sz b o k n
@[go_sem] theorem T33.ixaB (b o : Nat) (x : UInt8) : idxAddrA Tryz.prog 33 (pt b o) (B x) = ixR (aidx x.toNat 16) b o 1 := ixa_arr_B Tryz.underlying33 T5.sz b o x
theorem T5.ag : tagg Tryz.prog 5 = some false := by kernel_rfl
@[go_sem] theorem T5.load (h : List Blk) (b o : Nat) : loadP Tryz.prog h 5 (pt b o) = loadCell (h[b]?) o := loadP_cell T5.ag h b o
@[go_sem] theorem T5.store_B (h : List Blk) (b o : Nat) (x : UInt8) : storeP Tryz.prog h 5 (B x) (pt b o) = storeCell h b (h[b]?) o (B x) := storeP_B T5.sz x h b o
@[go_sem] theorem T49.bs0 (h : List Blk) : buildSliceA Tryz.prog h 49 0 [] = some (sl h.length 0 0 1, h ++ [⟨[], true⟩]) := bs_nil Tryz.underlying49 T2.sz T2.ze rfl (by kernel_rfl) (by kernel_rfl) h
@[go_sem] theorem T49.bs1 (h : List Blk) (ps : List (Nat × Value)) : buildSliceA Tryz.prog h 49 1 ps = litR h 1 1 (fillK (fun i => some (i * 1, 1)) (some [.int .i64 0]) ps) := bs_cells Tryz.underlying49 T2.sz T2.ze rfl rfl h (by decide) ps
theorem T49.ei : elemInfo Tryz.prog 49 = some (2, 1, 8) := by kernel_rfl
@[go_sem] theorem T49.app (h : List Blk) (s : Value) (b o m : Nat) : appendA Tryz.prog h 49 49 s (sl b o m 1) = appR h 1 8 s (srcR (h[b]?) o m 1) := by rw [append_of T49.ei]; simp only [srcA_sl]
@[go_sem] theorem T3.conv77 (h : List Blk) (k : IntKind) (n : Int) : convS Tryz.prog h 3 77 (.int k n) = some (.int .u64 (IntKind.u64.wrap n)) := conv_int Tryz.underlying3 Tryz.underlying77 h k n
@[go_sem] theorem T81.len (b o n es : Nat) : alen Tryz.prog 81 (sl b o n es) = some (.int .i64 n) := len_sl Tryz.underlying81 b o n es
@[go_sem] theorem T81.lenN (n c : Nat) : alen Tryz.prog 81 (.slice none n c) = some (.int .i64 n) := len_nilS Tryz.underlying81 n c
theorem T32.pl : (Ci 0 (fun _ => 0) (fun _ => 0) (fun _ => 0) 0).all plainC = true := by kernel_rfl
theorem T32.places : placesA Tryz.prog 32 = some [(0, 1), (1, 256), (257, 16), (273, 16), (289, 1)] := by kernel_rfl
@[go_sem] theorem T32.bld0 : buildA Tryz.prog 32 [] = some (.agg (Ci 0 (fun _ => 0) (fun _ => 0) (fun _ => 0) 0).toArray) := build_nil_struct T32.ze T32.pl Tryz.underlying32 T32.places
theorem T9.sz : tsz Tryz.prog 9 = some 1 := by kernel_rfl
@[go_sem] theorem T81.ixa (b o len : Nat) (k : IntKind) (n : Int) : idxAddrA Tryz.prog 81 (sl b o len 1) (.int k n) = ixR (aidx n len) b o 1 := ixa_sl Tryz.underlying81 T9.sz b o len k n
@[go_sem] theorem T81.ixaB (b o len : Nat) (x : UInt8) : idxAddrA Tryz.prog 81 (sl b o len 1) (B x) = ixR (aidx x.toNat len) b o 1 := ixa_sl_B Tryz.underlying81 T9.sz b o len x
theorem T9.ag : tagg Tryz.prog 9 = some false := by kernel_rfl
@[go_sem] theorem T9.load (h : List Blk) (b o : Nat) : loadP Tryz.prog h 9 (pt b o) = loadCell (h[b]?) o := loadP_cell T9.ag h b o
theorem T25.ze : tzero Tryz.prog 25 = some (.agg (Bs 256 (fun _ => 0)).toArray) := by kernel_rfl
@[go_sem] theorem T25.alloc (h : List Blk) : allocA Tryz.prog h 25 = some (pt h.length 0, h ++ [⟨Bs 256 (fun _ => 0), true⟩]) := alloc_of T25.ze rfl (by kernel_rfl) h
@[go_sem] theorem T25.store (h : List Blk) (b o : Nat) (cs : Array Value) : storeP Tryz.prog h 25 (.agg cs) (pt b o) = storeRow h b (h[b]?) o 256 cs.toList := storeP_row T25.sz cs h b o
@[go_sem] theorem T30.tap {b o len es : Nat} (hl : 16 ≤ len) : toArrPtrA Tryz.prog 30 (sl b o len es) = some (pt b o) := tapG Tryz.underlying30 (by decide) hl
theorem T30.ag : tagg Tryz.prog 30 = some true := by kernel_rfl
theorem T30.sz : tsz Tryz.prog 30 = some 16 := by kernel_rfl
@[go_sem] theorem T30.load (h : List Blk) (b o : Nat) : loadP Tryz.prog h 30 (pt b o) = loadRow (h[b]?) o 16 := loadP_row T30.ag T30.sz h b o
@[go_sem] theorem T32.fla0 (b o : Nat) : fieldAddrA Tryz.prog 32 0 (pt b o) = some (pt b (o + 0)) := fla (f := 0) (o' := 0) (ft := 2) (z := 1) Tryz.underlying32 rfl rfl rfl T2.sz (by decide) b o
@[go_sem] theorem T2.store_int (h : List Blk) (b o : Nat) (n : Int) : storeP Tryz.prog h 2 (.int .i64 n) (pt b o) = storeCell h b (h[b]?) o (.int .i64 n) := storeP_int T2.sz .i64 n h b o
@[go_sem] theorem T32.fla3 (b o : Nat) : fieldAddrA Tryz.prog 32 3 (pt b o) = some (pt b (o + 273)) := fla (f := 3) (o' := 273) (ft := 30) (z := 16) Tryz.underlying32 rfl rfl rfl T30.sz (by decide) b o
@[go_sem] theorem T30.store (h : List Blk) (b o : Nat) (cs : Array Value) : storeP Tryz.prog h 30 (.agg cs) (pt b o) = storeRow h b (h[b]?) o 16 cs.toList := storeP_row T30.sz cs h b o
@[go_sem] theorem T22.slaN (h : List Blk) (lo hi : Option Value) : aslice Tryz.prog h 22 (.slice none 0 0) lo hi = slcNil (lowA lo) (highA 0 hi) := sla_nil Tryz.underlying22 T5.sz h lo hi
@[go_sem] theorem T22.sla (h : List Blk) (b o len : Nat) (lo hi : Option Value) : aslice Tryz.prog h 22 (sl b o len 1) lo hi = slcSl b o 1 (lowA lo) (highA len hi) := sla_sl Tryz.underlying22 T5.sz h b o len lo hi
@[go_sem] theorem T26.tap {b o len es : Nat} (hl : 4 ≤ len) : toArrPtrA Tryz.prog 26 (sl b o len es) = some (pt b o) := tapG Tryz.underlying26 (by decide) hl
theorem T26.ag : tagg Tryz.prog 26 = some true := by kernel_rfl
theorem T26.sz : tsz Tryz.prog 26 = some 4 := by kernel_rfl
@[go_sem] theorem T26.load (h : List Blk) (b o : Nat) : loadP Tryz.prog h 26 (pt b o) = loadRow (h[b]?) o 4 := loadP_row T26.ag T26.sz h b o
theorem T28.sz : tsz Tryz.prog 28 = some 16 := by kernel_rfl
@[go_sem] theorem T32.fla2 (b o : Nat) : fieldAddrA Tryz.prog 32 2 (pt b o) = some (pt b (o + 257)) := fla (f := 2) (o' := 257) (ft := 28) (z := 16) Tryz.underlying32 rfl rfl rfl T28.sz (by decide) b o
@[go_sem] theorem T28.ixa (b o : Nat) (k : IntKind) (n : Int) : idxAddrA Tryz.prog 28 (pt b o) (.int k n) = ixR (aidx n 4) b o 4 := ixa_arr Tryz.underlying28 T26.sz b o k n
@[go_sem] theorem T28.ixaB (b o : Nat) (x : UInt8) : idxAddrA Tryz.prog 28 (pt b o) (B x) = ixR (aidx x.toNat 4) b o 4 := ixa_arr_B Tryz.underlying28 T26.sz b o x
@[go_sem] theorem T26.store (h : List Blk) (b o : Nat) (cs : Array Value) : storeP Tryz.prog h 26 (.agg cs) (pt b o) = storeRow h b (h[b]?) o 4 cs.toList := storeP_row T26.sz cs h b o
theorem T28.ag : tagg Tryz.prog 28 = some true := by kernel_rfl
@[go_sem] theorem T28.load (h : List Blk) (b o : Nat) : loadP Tryz.prog h 28 (pt b o) = loadRow (h[b]?) o 16 := loadP_row T28.ag T28.sz h b o
@[go_sem] theorem T30.sla (h : List Blk) (b o : Nat) (lo hi : Option Value) : aslice Tryz.prog h 30 (pt b o) lo hi = slcArr (h[b]?) b o 16 1 (lowA lo) (highA 16 hi) := sla_arr Tryz.underlying30 T5.sz h b o lo hi
theorem T9.ze : tzero Tryz.prog 9 = some (.string .empty) := by kernel_rfl
@[go_sem] theorem T81.bs5 (h : List Blk) (ps : List (Nat × Value)) : buildSliceA Tryz.prog h 81 5 ps = litR h 5 1 (fillK (fun i => some (i * 1, 1)) (some [.string .empty, .string .empty, .string .empty, .string .empty, .string .empty]) ps) := bs_cells Tryz.underlying81 T9.sz T9.ze rfl rfl h (by decide) ps
theorem T28.ze : tzero Tryz.prog 28 = some (.agg (Bs 16 (fun _ => 0)).toArray) := by kernel_rfl
@[go_sem] theorem T28.alloc (h : List Blk) : allocA Tryz.prog h 28 = some (pt h.length 0, h ++ [⟨Bs 16 (fun _ => 0), true⟩]) := alloc_of T28.ze rfl (by kernel_rfl) h
@[go_sem] theorem T28.store (h : List Blk) (b o : Nat) (cs : Array Value) : storeP Tryz.prog h 28 (.agg cs) (pt b o) = storeRow h b (h[b]?) o 16 cs.toList := storeP_row T28.sz cs h b o
theorem T109.ze : tzero Tryz.prog 109 = some (.agg (En (fun _ => 0) (fun _ => 0) (fun _ => 0) (fun _ => 0) (.pointer none) (.pointer none) 0).toArray) := by kernel_rfl
theorem T109.pl : (En (fun _ => 0) (fun _ => 0) (fun _ => 0) (fun _ => 0) (.pointer none) (.pointer none) 0).all plainC = true := by kernel_rfl
theorem T109.places : placesA Tryz.prog 109 = some [(0, 256), (256, 256), (512, 16), (528, 16), (544, 1), (545, 1), (546, 1)] := by kernel_rfl
@[go_sem] theorem T109.bld (p : Nat × Value) (ps : List (Nat × Value)) : buildA Tryz.prog 109 (p :: ps) = bldR (fillK (fun i => [(0, 256), (256, 256), (512, 16), (528, 16), (544, 1), (545, 1), (546, 1)][i]?) (some (En (fun _ => 0) (fun _ => 0) (fun _ => 0) (fun _ => 0) (.pointer none) (.pointer none) 0)) (p :: ps)) := build_parts_struct T109.ze T109.pl Tryz.underlying109 T109.places _
@[go_sem] theorem T109.fla0 (b o : Nat) : fieldAddrA Tryz.prog 109 0 (pt b o) = some (pt b (o + 0)) := fla (f := 0) (o' := 0) (ft := 25) (z := 256) Tryz.underlying109 rfl rfl rfl T25.sz (by decide) b o
@[go_sem] theorem T25.ixa (b o : Nat) (k : IntKind) (n : Int) : idxAddrA Tryz.prog 25 (pt b o) (.int k n) = ixR (aidx n 256) b o 1 := ixa_arr Tryz.underlying25 T5.sz b o k n
@[go_sem] theorem T25.ixaB (b o : Nat) (x : UInt8) : idxAddrA Tryz.prog 25 (pt b o) (B x) = ixR (aidx x.toNat 256) b o 1 := ixa_arr_B Tryz.underlying25 T5.sz b o x
@[go_sem] theorem T2.conv5 (h : List Blk) (k : IntKind) (n : Int) : convS Tryz.prog h 2 5 (.int k n) = some (.int .u8 (IntKind.u8.wrap n)) := conv_int Tryz.underlying2 Tryz.underlying5 h k n
@[go_sem] theorem T3.conv112 (h : List Blk) (k : IntKind) (n : Int) : convS Tryz.prog h 3 112 (.int k n) = some (.int .u64 (IntKind.u64.wrap n)) := conv_int Tryz.underlying3 Tryz.underlying112 h k n
theorem T114.ze : tzero Tryz.prog 114 = some (.agg (Sr (.slice none 0 0) 0 0).toArray) := by kernel_rfl
theorem T114.pl : (Sr (.slice none 0 0) 0 0).all plainC = true := by kernel_rfl
theorem T114.places : placesA Tryz.prog 114 = some [(0, 1), (1, 1), (2, 1)] := by kernel_rfl
@[go_sem] theorem T114.bld (p : Nat × Value) (ps : List (Nat × Value)) : buildA Tryz.prog 114 (p :: ps) = bldR (fillK (fun i => [(0, 1), (1, 1), (2, 1)][i]?) (some (Sr (.slice none 0 0) 0 0)) (p :: ps)) := build_parts_struct T114.ze T114.pl Tryz.underlying114 T114.places _
theorem T112.sz : tsz Tryz.prog 112 = some 1 := by kernel_rfl
@[go_sem] theorem T114.fla2 (b o : Nat) : fieldAddrA Tryz.prog 114 2 (pt b o) = some (pt b (o + 2)) := fla (f := 2) (o' := 2) (ft := 112) (z := 1) Tryz.underlying114 rfl rfl rfl T112.sz (by decide) b o
theorem T112.ag : tagg Tryz.prog 112 = some false := by kernel_rfl
@[go_sem] theorem T112.load (h : List Blk) (b o : Nat) : loadP Tryz.prog h 112 (pt b o) = loadCell (h[b]?) o := loadP_cell T112.ag h b o
@[go_sem] theorem T22.ixa (b o len : Nat) (k : IntKind) (n : Int) : idxAddrA Tryz.prog 22 (sl b o len 1) (.int k n) = ixR (aidx n len) b o 1 := ixa_sl Tryz.underlying22 T5.sz b o len k n
@[go_sem] theorem T22.ixaB (b o len : Nat) (x : UInt8) : idxAddrA Tryz.prog 22 (sl b o len 1) (B x) = ixR (aidx x.toNat len) b o 1 := ixa_sl_B Tryz.underlying22 T5.sz b o len x
@[go_sem] theorem T5.conv112 (h : List Blk) (x : UInt8) : convS Tryz.prog h 5 112 (B x) = some (.int .u64 (IntKind.u64.wrap x.toNat)) := conv_B Tryz.underlying5 Tryz.underlying112 h x
@[go_sem] theorem T112.store_int (h : List Blk) (b o : Nat) (n : Int) : storeP Tryz.prog h 112 (.int .u64 n) (pt b o) = storeCell h b (h[b]?) o (.int .u64 n) := storeP_int T112.sz .u64 n h b o
@[go_sem] theorem T112.conv2 (h : List Blk) (k : IntKind) (n : Int) : convS Tryz.prog h 112 2 (.int k n) = some (.int .i64 (IntKind.i64.wrap n)) := conv_int Tryz.underlying112 Tryz.underlying2 h k n
theorem T3.sz : tsz Tryz.prog 3 = some 1 := by kernel_rfl
@[go_sem] theorem T114.fla1 (b o : Nat) : fieldAddrA Tryz.prog 114 1 (pt b o) = some (pt b (o + 1)) := fla (f := 1) (o' := 1) (ft := 3) (z := 1) Tryz.underlying114 rfl rfl rfl T3.sz (by decide) b o
theorem T3.ag : tagg Tryz.prog 3 = some false := by kernel_rfl
@[go_sem] theorem T3.load (h : List Blk) (b o : Nat) : loadP Tryz.prog h 3 (pt b o) = loadCell (h[b]?) o := loadP_cell T3.ag h b o
theorem T22.sz : tsz Tryz.prog 22 = some 1 := by kernel_rfl
@[go_sem] theorem T114.fla0 (b o : Nat) : fieldAddrA Tryz.prog 114 0 (pt b o) = some (pt b (o + 0)) := fla (f := 0) (o' := 0) (ft := 22) (z := 1) Tryz.underlying114 rfl rfl rfl T22.sz (by decide) b o
theorem T22.ag : tagg Tryz.prog 22 = some false := by kernel_rfl
@[go_sem] theorem T22.load (h : List Blk) (b o : Nat) : loadP Tryz.prog h 22 (pt b o) = loadCell (h[b]?) o := loadP_cell T22.ag h b o
@[go_sem] theorem T5.conv2 (h : List Blk) (x : UInt8) : convS Tryz.prog h 5 2 (B x) = some (.int .i64 (IntKind.i64.wrap x.toNat)) := conv_B Tryz.underlying5 Tryz.underlying2 h x
@[go_sem] theorem T3.store_int (h : List Blk) (b o : Nat) (n : Int) : storeP Tryz.prog h 3 (.int .i64 n) (pt b o) = storeCell h b (h[b]?) o (.int .i64 n) := storeP_int T3.sz .i64 n h b o
@[go_sem] theorem T33.ix (l : List Value) (k : IntKind) (n : Int) : indexA Tryz.prog 33 (.agg l.toArray) (.int k n) = ixC (aidx n 16) l := ix_arr_cell Tryz.underlying33 T5.sz T5.ag l k n
@[go_sem] theorem T33.ixB (l : List Value) (x : UInt8) : indexA Tryz.prog 33 (.agg l.toArray) (B x) = ixC (aidx x.toNat 16) l := ix_arr_cell_B Tryz.underlying33 T5.sz T5.ag l x
@[go_sem] theorem T109.fla2 (b o : Nat) : fieldAddrA Tryz.prog 109 2 (pt b o) = some (pt b (o + 512)) := fla (f := 2) (o' := 512) (ft := 30) (z := 16) Tryz.underlying109 rfl rfl rfl T30.sz (by decide) b o
theorem T106.sz : tsz Tryz.prog 106 = some 1 := by kernel_rfl
@[go_sem] theorem T109.fla4 (b o : Nat) : fieldAddrA Tryz.prog 109 4 (pt b o) = some (pt b (o + 544)) := fla (f := 4) (o' := 544) (ft := 106) (z := 1) Tryz.underlying109 rfl rfl rfl T106.sz (by decide) b o
theorem T106.ag : tagg Tryz.prog 106 = some false := by kernel_rfl
@[go_sem] theorem T106.load (h : List Blk) (b o : Nat) : loadP Tryz.prog h 106 (pt b o) = loadCell (h[b]?) o := loadP_cell T106.ag h b o
@[go_sem] theorem T33.sla (h : List Blk) (b o : Nat) (lo hi : Option Value) : aslice Tryz.prog h 33 (pt b o) lo hi = slcArr (h[b]?) b o 16 1 (lowA lo) (highA 16 hi) := sla_arr Tryz.underlying33 T5.sz h b o lo hi
@[go_sem] theorem T25.sla (h : List Blk) (b o : Nat) (lo hi : Option Value) : aslice Tryz.prog h 25 (pt b o) lo hi = slcArr (h[b]?) b o 256 1 (lowA lo) (highA 256 hi) := sla_arr Tryz.underlying25 T5.sz h b o lo hi
@[go_sem] theorem T49.bs7 (h : List Blk) (ps : List (Nat × Value)) : buildSliceA Tryz.prog h 49 7 ps = litR h 7 1 (fillK (fun i => some (i * 1, 1)) (some [.int .i64 0, .int .i64 0, .int .i64 0, .int .i64 0, .int .i64 0, .int .i64 0, .int .i64 0]) ps) := bs_cells Tryz.underlying49 T2.sz T2.ze rfl rfl h (by decide) ps
@[go_sem] theorem T26.ixa (b o : Nat) (k : IntKind) (n : Int) : idxAddrA Tryz.prog 26 (pt b o) (.int k n) = ixR (aidx n 4) b o 1 := ixa_arr Tryz.underlying26 T5.sz b o k n
@[go_sem] theorem T26.ixaB (b o : Nat) (x : UInt8) : idxAddrA Tryz.prog 26 (pt b o) (B x) = ixR (aidx x.toNat 4) b o 1 := ixa_arr_B Tryz.underlying26 T5.sz b o x
theorem T26.ze : tzero Tryz.prog 26 = some (.agg (Bs 4 (fun _ => 0)).toArray) := by kernel_rfl
theorem T26.pl : (Bs 4 (fun _ => 0)).all plainC = true := by kernel_rfl
@[go_sem] theorem T26.bld (p : Nat × Value) (ps : List (Nat × Value)) : buildA Tryz.prog 26 (p :: ps) = bldR (fillK (fun i => some (i * 1, 1)) (some (Bs 4 (fun _ => 0))) (p :: ps)) := build_parts T26.ze T26.pl Tryz.underlying26 T5.sz _
theorem T28.pl : (Bs 16 (fun _ => 0)).all plainC = true := by kernel_rfl
@[go_sem] theorem T28.bld (p : Nat × Value) (ps : List (Nat × Value)) : buildA Tryz.prog 28 (p :: ps) = bldR (fillK (fun i => some (i * 4, 4)) (some (Bs 16 (fun _ => 0))) (p :: ps)) := build_parts T28.ze T28.pl Tryz.underlying28 T26.sz _
@[go_sem] theorem T30.ixa (b o : Nat) (k : IntKind) (n : Int) : idxAddrA Tryz.prog 30 (pt b o) (.int k n) = ixR (aidx n 16) b o 1 := ixa_arr Tryz.underlying30 T5.sz b o k n
@[go_sem] theorem T30.ixaB (b o : Nat) (x : UInt8) : idxAddrA Tryz.prog 30 (pt b o) (B x) = ixR (aidx x.toNat 16) b o 1 := ixa_arr_B Tryz.underlying30 T5.sz b o x
@[go_sem] theorem T81.bs16 (h : List Blk) (ps : List (Nat × Value)) : buildSliceA Tryz.prog h 81 16 ps = litR h 16 1 (fillK (fun i => some (i * 1, 1)) (some [.string .empty, .string .empty, .string .empty, .string .empty, .string .empty, .string .empty, .string .empty, .string .empty, .string .empty, .string .empty, .string .empty, .string .empty, .string .empty, .string .empty, .string .empty, .string .empty]) ps) := bs_cells Tryz.underlying81 T9.sz T9.ze rfl rfl h (by decide) ps
@[go_sem] theorem T9.len (s : ByteArray) : alen Tryz.prog 9 (.string s) = some (.int .i64 s.size) := len_str Tryz.underlying9 s
@[go_sem] theorem T9.sla (h : List Blk) (s : ByteArray) (lo hi : Option Value) : aslice Tryz.prog h 9 (.string s) lo hi = slcStr s (lowA lo) (highA s.size hi) := sla_str Tryz.underlying9 h s lo hi
theorem T25.pl : (Bs 256 (fun _ => 0)).all plainC = true := by kernel_rfl
@[go_sem] theorem T25.bld0 : buildA Tryz.prog 25 [] = some (.agg (Bs 256 (fun _ => 0)).toArray) := build_nil T25.ze T25.pl Tryz.underlying25 T5.sz
@[go_sem] theorem T25.tap {b o len es : Nat} (hl : 256 ≤ len) : toArrPtrA Tryz.prog 25 (sl b o len es) = some (pt b o) := tapG Tryz.underlying25 (by decide) hl
theorem T5.ze : tzero Tryz.prog 5 = some (B 0) := by kernel_rfl
@[go_sem] theorem T22.bs0 (h : List Blk) : buildSliceA Tryz.prog h 22 0 [] = some (sl h.length 0 0 1, h ++ [⟨[], true⟩]) := bs_nil Tryz.underlying22 T5.sz T5.ze rfl (by kernel_rfl) (by kernel_rfl) h
@[go_sem] theorem T9.ix (s : ByteArray) (k : IntKind) (n : Int) : indexA Tryz.prog 9 (.string s) (.int k n) = chrC (aidx n s.size) s := ix_str Tryz.underlying9 s k n
@[go_sem] theorem T22.bs1 (h : List Blk) (ps : List (Nat × Value)) : buildSliceA Tryz.prog h 22 1 ps = litR h 1 1 (fillK (fun i => some (i * 1, 1)) (some [B 0]) ps) := bs_cells Tryz.underlying22 T5.sz T5.ze rfl rfl h (by decide) ps
theorem T22.ei : elemInfo Tryz.prog 22 = some (5, 1, 1) := by kernel_rfl
@[go_sem] theorem T22.app (h : List Blk) (s : Value) (b o m : Nat) : appendA Tryz.prog h 22 22 s (sl b o m 1) = appR h 1 1 s (srcR (h[b]?) o m 1) := by rw [append_of T22.ei]; simp only [srcA_sl]
@[go_sem] theorem T32.bld (p : Nat × Value) (ps : List (Nat × Value)) : buildA Tryz.prog 32 (p :: ps) = bldR (fillK (fun i => [(0, 1), (1, 256), (257, 16), (273, 16), (289, 1)][i]?) (some (Ci 0 (fun _ => 0) (fun _ => 0) (fun _ => 0) 0)) (p :: ps)) := build_parts_struct T32.ze T32.pl Tryz.underlying32 T32.places _
@[go_sem] theorem T81.bs0 (h : List Blk) : buildSliceA Tryz.prog h 81 0 [] = some (sl h.length 0 0 1, h ++ [⟨[], true⟩]) := bs_nil Tryz.underlying81 T9.sz T9.ze rfl (by kernel_rfl) (by kernel_rfl) h
@[go_sem] theorem T28.ix (l : List Value) (k : IntKind) (n : Int) : indexA Tryz.prog 28 (.agg l.toArray) (.int k n) = ixW (aidx n 4) l 4 := ix_arr_row Tryz.underlying28 T26.sz T26.ag l k n
@[go_sem] theorem T26.alloc (h : List Blk) : allocA Tryz.prog h 26 = some (pt h.length 0, h ++ [⟨Bs 4 (fun _ => 0), true⟩]) := alloc_of T26.ze rfl (by kernel_rfl) h
@[go_sem] theorem T26.sla (h : List Blk) (b o : Nat) (lo hi : Option Value) : aslice Tryz.prog h 26 (pt b o) lo hi = slcArr (h[b]?) b o 4 1 (lowA lo) (highA 4 hi) := sla_arr Tryz.underlying26 T5.sz h b o lo hi
@[go_sem] theorem T81.bs1 (h : List Blk) (ps : List (Nat × Value)) : buildSliceA Tryz.prog h 81 1 ps = litR h 1 1 (fillK (fun i => some (i * 1, 1)) (some [.string .empty]) ps) := bs_cells Tryz.underlying81 T9.sz T9.ze rfl rfl h (by decide) ps
theorem T81.ei : elemInfo Tryz.prog 81 = some (9, 1, 16) := by kernel_rfl
@[go_sem] theorem T81.app (h : List Blk) (s : Value) (b o m : Nat) : appendA Tryz.prog h 81 81 s (sl b o m 1) = appR h 1 16 s (srcR (h[b]?) o m 1) := by rw [append_of T81.ei]; simp only [srcA_sl]
theorem T137.ze : tzero Tryz.prog 137 = some (.agg ([Value.pointer none] ++ [Value.slice none 0 0]).toArray) := by kernel_rfl
@[go_sem] theorem T137.alloc (h : List Blk) : allocA Tryz.prog h 137 = some (pt h.length 0, h ++ [⟨[.pointer none] ++ [Value.slice none 0 0], true⟩]) := alloc_of T137.ze rfl (by kernel_rfl) h
@[go_sem] theorem T81.slaN (h : List Blk) (lo hi : Option Value) : aslice Tryz.prog h 81 (.slice none 0 0) lo hi = slcNil (lowA lo) (highA 0 hi) := sla_nil Tryz.underlying81 T9.sz h lo hi
@[go_sem] theorem T81.sla (h : List Blk) (b o len : Nat) (lo hi : Option Value) : aslice Tryz.prog h 81 (sl b o len 1) lo hi = slcSl b o 1 (lowA lo) (highA len hi) := sla_sl Tryz.underlying81 T9.sz h b o len lo hi
@[go_sem] theorem T22.bs2 (h : List Blk) (ps : List (Nat × Value)) : buildSliceA Tryz.prog h 22 2 ps = litR h 2 1 (fillK (fun i => some (i * 1, 1)) (some [B 0, B 0]) ps) := bs_cells Tryz.underlying22 T5.sz T5.ze rfl rfl h (by decide) ps
@[go_sem] theorem T22.conv9 (h : List Blk) (b o n es : Nat) : convS Tryz.prog h 22 9 (sl b o n es) = strR (h[b]?) o n := conv_str Tryz.underlying22 Tryz.underlying5 Tryz.underlying9 h b o n es
@[go_sem] theorem T49.bs4 (h : List Blk) (ps : List (Nat × Value)) : buildSliceA Tryz.prog h 49 4 ps = litR h 4 1 (fillK (fun i => some (i * 1, 1)) (some [.int .i64 0, .int .i64 0, .int .i64 0, .int .i64 0]) ps) := bs_cells Tryz.underlying49 T2.sz T2.ze rfl rfl h (by decide) ps
@[go_sem] theorem T22.bs3 (h : List Blk) (ps : List (Nat × Value)) : buildSliceA Tryz.prog h 22 3 ps = litR h 3 1 (fillK (fun i => some (i * 1, 1)) (some [B 0, B 0, B 0]) ps) := bs_cells Tryz.underlying22 T5.sz T5.ze rfl rfl h (by decide) ps
@[go_sem] theorem T49.bs3 (h : List Blk) (ps : List (Nat × Value)) : buildSliceA Tryz.prog h 49 3 ps = litR h 3 1 (fillK (fun i => some (i * 1, 1)) (some [.int .i64 0, .int .i64 0, .int .i64 0]) ps) := bs_cells Tryz.underlying49 T2.sz T2.ze rfl rfl h (by decide) ps
theorem T146.ze : tzero Tryz.prog 146 = some (.agg (Vs 256 (fun _ => .bool false)).toArray) := by kernel_rfl
theorem T146.pl : (Vs 256 (fun _ => .bool false)).all plainC = true := by kernel_rfl
theorem T4.sz : tsz Tryz.prog 4 = some 1 := by kernel_rfl
@[go_sem] theorem T146.bld0 : buildA Tryz.prog 146 [] = some (.agg (Vs 256 (fun _ => .bool false)).toArray) := build_nil T146.ze T146.pl Tryz.underlying146 T4.sz
@[go_sem] theorem T146.alloc (h : List Blk) : allocA Tryz.prog h 146 = some (pt h.length 0, h ++ [⟨Vs 256 (fun _ => .bool false), true⟩]) := alloc_of T146.ze rfl (by kernel_rfl) h
theorem T146.sz : tsz Tryz.prog 146 = some 256 := by kernel_rfl
@[go_sem] theorem T146.store (h : List Blk) (b o : Nat) (cs : Array Value) : storeP Tryz.prog h 146 (.agg cs) (pt b o) = storeRow h b (h[b]?) o 256 cs.toList := storeP_row T146.sz cs h b o
@[go_sem] theorem T25.ix (l : List Value) (k : IntKind) (n : Int) : indexA Tryz.prog 25 (.agg l.toArray) (.int k n) = ixC (aidx n 256) l := ix_arr_cell Tryz.underlying25 T5.sz T5.ag l k n
@[go_sem] theorem T25.ixB (l : List Value) (x : UInt8) : indexA Tryz.prog 25 (.agg l.toArray) (B x) = ixC (aidx x.toNat 256) l := ix_arr_cell_B Tryz.underlying25 T5.sz T5.ag l x
@[go_sem] theorem T146.ixa (b o : Nat) (k : IntKind) (n : Int) : idxAddrA Tryz.prog 146 (pt b o) (.int k n) = ixR (aidx n 256) b o 1 := ixa_arr Tryz.underlying146 T4.sz b o k n
@[go_sem] theorem T146.ixaB (b o : Nat) (x : UInt8) : idxAddrA Tryz.prog 146 (pt b o) (B x) = ixR (aidx x.toNat 256) b o 1 := ixa_arr_B Tryz.underlying146 T4.sz b o x
@[go_sem] theorem T4.store_bool (h : List Blk) (b o : Nat) (x : Bool) : storeP Tryz.prog h 4 (.bool x) (pt b o) = storeCell h b (h[b]?) o (.bool x) := storeP_bool T4.sz x h b o
@[go_sem] theorem T146.sla (h : List Blk) (b o : Nat) (lo hi : Option Value) : aslice Tryz.prog h 146 (pt b o) lo hi = slcArr (h[b]?) b o 256 1 (lowA lo) (highA 256 hi) := sla_arr Tryz.underlying146 T4.sz h b o lo hi
@[go_sem] theorem T30.ix (l : List Value) (k : IntKind) (n : Int) : indexA Tryz.prog 30 (.agg l.toArray) (.int k n) = ixC (aidx n 16) l := ix_arr_cell Tryz.underlying30 T5.sz T5.ag l k n
@[go_sem] theorem T30.ixB (l : List Value) (x : UInt8) : indexA Tryz.prog 30 (.agg l.toArray) (B x) = ixC (aidx x.toNat 16) l := ix_arr_cell_B Tryz.underlying30 T5.sz T5.ag l x
@[go_sem] theorem T28.bld0 : buildA Tryz.prog 28 [] = some (.agg (Bs 16 (fun _ => 0)).toArray) := build_nil T28.ze T28.pl Tryz.underlying28 T26.sz
@[go_sem] theorem T3.conv5 (h : List Blk) (k : IntKind) (n : Int) : convS Tryz.prog h 3 5 (.int k n) = some (.int .u8 (IntKind.u8.wrap n)) := conv_int Tryz.underlying3 Tryz.underlying5 h k n
theorem T30.ze : tzero Tryz.prog 30 = some (.agg (Bs 16 (fun _ => 0)).toArray) := by kernel_rfl
@[go_sem] theorem T30.alloc (h : List Blk) : allocA Tryz.prog h 30 = some (pt h.length 0, h ++ [⟨Bs 16 (fun _ => 0), true⟩]) := alloc_of T30.ze rfl (by kernel_rfl) h
theorem T30.pl : (Bs 16 (fun _ => 0)).all plainC = true := by kernel_rfl
@[go_sem] theorem T30.bld0 : buildA Tryz.prog 30 [] = some (.agg (Bs 16 (fun _ => 0)).toArray) := build_nil T30.ze T30.pl Tryz.underlying30 T5.sz
theorem T154.ze : tzero Tryz.prog 154 = some (.agg (Bs 4096 (fun _ => 0)).toArray) := by kernel_rfl
theorem T154.pl : (Bs 4096 (fun _ => 0)).all plainC = true := by kernel_rfl
theorem T152.sz : tsz Tryz.prog 152 = some 1024 := by kernel_rfl
@[go_sem] theorem T154.bld0 : buildA Tryz.prog 154 [] = some (.agg (Bs 4096 (fun _ => 0)).toArray) := build_nil T154.ze T154.pl Tryz.underlying154 T152.sz
@[go_sem] theorem T26.ix (l : List Value) (k : IntKind) (n : Int) : indexA Tryz.prog 26 (.agg l.toArray) (.int k n) = ixC (aidx n 4) l := ix_arr_cell Tryz.underlying26 T5.sz T5.ag l k n
@[go_sem] theorem T26.ixB (l : List Value) (x : UInt8) : indexA Tryz.prog 26 (.agg l.toArray) (B x) = ixC (aidx x.toNat 4) l := ix_arr_cell_B Tryz.underlying26 T5.sz T5.ag l x
@[go_sem] theorem T154.ixa (b o : Nat) (k : IntKind) (n : Int) : idxAddrA Tryz.prog 154 (pt b o) (.int k n) = ixR (aidx n 4) b o 1024 := ixa_arr Tryz.underlying154 T152.sz b o k n
@[go_sem] theorem T154.ixaB (b o : Nat) (x : UInt8) : idxAddrA Tryz.prog 154 (pt b o) (B x) = ixR (aidx x.toNat 4) b o 1024 := ixa_arr_B Tryz.underlying154 T152.sz b o x
theorem T24.sz : tsz Tryz.prog 24 = some 256 := by kernel_rfl
@[go_sem] theorem T152.ixa (b o : Nat) (k : IntKind) (n : Int) : idxAddrA Tryz.prog 152 (pt b o) (.int k n) = ixR (aidx n 4) b o 256 := ixa_arr Tryz.underlying152 T24.sz b o k n
@[go_sem] theorem T152.ixaB (b o : Nat) (x : UInt8) : idxAddrA Tryz.prog 152 (pt b o) (B x) = ixR (aidx x.toNat 4) b o 256 := ixa_arr_B Tryz.underlying152 T24.sz b o x
@[go_sem] theorem T24.ixa (b o : Nat) (k : IntKind) (n : Int) : idxAddrA Tryz.prog 24 (pt b o) (.int k n) = ixR (aidx n 256) b o 1 := ixa_arr Tryz.underlying24 T5.sz b o k n
@[go_sem] theorem T24.ixaB (b o : Nat) (x : UInt8) : idxAddrA Tryz.prog 24 (pt b o) (B x) = ixR (aidx x.toNat 256) b o 1 := ixa_arr_B Tryz.underlying24 T5.sz b o x
theorem T4.ag : tagg Tryz.prog 4 = some false := by kernel_rfl
@[go_sem] theorem T4.load (h : List Blk) (b o : Nat) : loadP Tryz.prog h 4 (pt b o) = loadCell (h[b]?) o := loadP_cell T4.ag h b o
theorem T156.ze : tzero Tryz.prog 156 = some (.agg (Vs 16 (fun _ => .bool false)).toArray) := by kernel_rfl
theorem T156.pl : (Vs 16 (fun _ => .bool false)).all plainC = true := by kernel_rfl
@[go_sem] theorem T156.bld0 : buildA Tryz.prog 156 [] = some (.agg (Vs 16 (fun _ => .bool false)).toArray) := build_nil T156.ze T156.pl Tryz.underlying156 T4.sz
@[go_sem] theorem T156.alloc (h : List Blk) : allocA Tryz.prog h 156 = some (pt h.length 0, h ++ [⟨Vs 16 (fun _ => .bool false), true⟩]) := alloc_of T156.ze rfl (by kernel_rfl) h
theorem T156.sz : tsz Tryz.prog 156 = some 16 := by kernel_rfl
@[go_sem] theorem T156.store (h : List Blk) (b o : Nat) (cs : Array Value) : storeP Tryz.prog h 156 (.agg cs) (pt b o) = storeRow h b (h[b]?) o 16 cs.toList := storeP_row T156.sz cs h b o
@[go_sem] theorem T156.ixa (b o : Nat) (k : IntKind) (n : Int) : idxAddrA Tryz.prog 156 (pt b o) (.int k n) = ixR (aidx n 16) b o 1 := ixa_arr Tryz.underlying156 T4.sz b o k n
@[go_sem] theorem T156.ixaB (b o : Nat) (x : UInt8) : idxAddrA Tryz.prog 156 (pt b o) (B x) = ixR (aidx x.toNat 16) b o 1 := ixa_arr_B Tryz.underlying156 T4.sz b o x
@[go_sem] theorem T5.conv3 (h : List Blk) (x : UInt8) : convS Tryz.prog h 5 3 (B x) = some (.int .i64 (IntKind.i64.wrap x.toNat)) := conv_B Tryz.underlying5 Tryz.underlying3 h x
theorem T9.by' : tbytes Tryz.prog 9 = some 16 := by kernel_rfl
@[go_sem] theorem T81.ms (h : List Blk) (k k' : IntKind) {n : Int} (h0 : 0 ≤ n) (hr : n * 16 ≤ 140737488355328) : makeSliceA Tryz.prog h 81 (.int k n) (.int k' n) = some (sl h.length 0 n.toNat 1, h ++ [⟨repA [.string .empty] n.toNat, true⟩]) := ms_of Tryz.underlying81 T9.sz T9.by' (by decide) T9.ze rfl (by kernel_rfl) (by kernel_rfl) h k k' h0 hr
@[go_sem] theorem T9.store_string (h : List Blk) (b o : Nat) (x : ByteArray) : storeP Tryz.prog h 9 (.string x) (pt b o) = storeCell h b (h[b]?) o (.string x) := storeP_string T9.sz x h b o
@[go_sem] theorem T137.fla1 (b o : Nat) : fieldAddrA Tryz.prog 137 1 (pt b o) = some (pt b (o + 1)) := fla (f := 1) (o' := 1) (ft := 22) (z := 1) Tryz.underlying137 rfl rfl rfl T22.sz (by decide) b o
@[go_sem] theorem T22.cap (c : Nat) : acap Tryz.prog 22 (.slice none 0 c) = some (.int .i64 c) := cap_nil Tryz.underlying22 c
@[go_sem] theorem T22.store_sl (h : List Blk) (b o : Nat) (c q n es : Nat) : storeP Tryz.prog h 22 (sl c q n es) (pt b o) = storeCell h b (h[b]?) o (sl c q n es) := storeP_sl T22.sz c q n es h b o
@[go_sem] theorem T22.store_nil (h : List Blk) (b o : Nat) (n c : Nat) : storeP Tryz.prog h 22 (.slice none n c) (pt b o) = storeCell h b (h[b]?) o (.slice none n c) := storeP_nil T22.sz n c h b o
@[go_sem] theorem T2.conv112 (h : List Blk) (k : IntKind) (n : Int) : convS Tryz.prog h 2 112 (.int k n) = some (.int .u64 (IntKind.u64.wrap n)) := conv_int Tryz.underlying2 Tryz.underlying112 h k n
@[go_sem] theorem T5.conv21 (h : List Blk) (x : UInt8) : convS Tryz.prog h 5 21 (B x) = some (.int .i32 (IntKind.i32.wrap x.toNat)) := conv_B Tryz.underlying5 Tryz.underlying21 h x
theorem T135.sz : tsz Tryz.prog 135 = some 1 := by kernel_rfl
@[go_sem] theorem T137.fla0 (b o : Nat) : fieldAddrA Tryz.prog 137 0 (pt b o) = some (pt b (o + 0)) := fla (f := 0) (o' := 0) (ft := 135) (z := 1) Tryz.underlying137 rfl rfl rfl T135.sz (by decide) b o
theorem T135.ag : tagg Tryz.prog 135 = some false := by kernel_rfl
@[go_sem] theorem T135.load (h : List Blk) (b o : Nat) : loadP Tryz.prog h 135 (pt b o) = loadCell (h[b]?) o := loadP_cell T135.ag h b o
@[go_sem] theorem T135.store_pt (h : List Blk) (b o : Nat) (c q : Nat) : storeP Tryz.prog h 135 (pt c q) (pt b o) = storeCell h b (h[b]?) o (pt c q) := storeP_pt T135.sz c q h b o
@[go_sem] theorem T148.len (b o n es : Nat) : alen Tryz.prog 148 (sl b o n es) = some (.int .i64 n) := len_sl Tryz.underlying148 b o n es
@[go_sem] theorem T148.lenN (n c : Nat) : alen Tryz.prog 148 (.slice none n c) = some (.int .i64 n) := len_nilS Tryz.underlying148 n c
@[go_sem] theorem T148.ixa (b o len : Nat) (k : IntKind) (n : Int) : idxAddrA Tryz.prog 148 (sl b o len 1) (.int k n) = ixR (aidx n len) b o 1 := ixa_sl Tryz.underlying148 T4.sz b o len k n
@[go_sem] theorem T148.ixaB (b o len : Nat) (x : UInt8) : idxAddrA Tryz.prog 148 (sl b o len 1) (B x) = ixR (aidx x.toNat len) b o 1 := ixa_sl_B Tryz.underlying148 T4.sz b o len x
theorem T4.isb : isBoolT Tryz.prog 4 = true := by kernel_rfl
@[go_sem] theorem T4.eql (a b : Bool) : abin Tryz.prog .eql 4 (.bool a) (.bool b) = some (.bool (a == b)) := eql_bool T4.isb a b
@[go_sem] theorem T4.neq (a b : Bool) : abin Tryz.prog .neq 4 (.bool a) (.bool b) = some (.bool (!(a == b))) := neq_bool T4.isb a b
-- not served: Op.build [197, ['list', ['tuple', 0, ['app', ['c', 'Operand.tmp'], 5]], ['tuple', 1, ['ap (no plain zero: interface)
-- not served: Op.build [197, ['list', ['tuple', 0, ['app', ['c', 'Operand.tmp'], 5]], ['tuple', 1, ['ap (no plain zero: interface)
-- not served: Op.build [197, ['list', ['tuple', 0, ['app', ['c', 'Operand.tmp'], 7]], ['tuple', 1, ['ap (no plain zero: interface)
-- not served: Op.build [197, ['list', ['tuple', 0, ['app', ['c', 'Operand.tmp'], 7]], ['tuple', 1, ['ap (no plain zero: interface)
theorem T200.sz : tsz Tryz.prog 200 = some 2 := by kernel_rfl
@[go_sem] theorem T201.ixa (b o : Nat) (k : IntKind) (n : Int) : idxAddrA Tryz.prog 201 (pt b o) (.int k n) = ixR (aidx n 16) b o 2 := ixa_arr Tryz.underlying201 T200.sz b o k n
@[go_sem] theorem T201.ixaB (b o : Nat) (x : UInt8) : idxAddrA Tryz.prog 201 (pt b o) (B x) = ixR (aidx x.toNat 16) b o 2 := ixa_arr_B Tryz.underlying201 T200.sz b o x
theorem T200.ag : tagg Tryz.prog 200 = some true := by kernel_rfl
@[go_sem] theorem T200.load (h : List Blk) (b o : Nat) : loadP Tryz.prog h 200 (pt b o) = loadRow (h[b]?) o 2 := loadP_row T200.ag T200.sz h b o
theorem T200.ze : tzero Tryz.prog 200 = some (.agg ([B 0] ++ [B 0]).toArray) := by kernel_rfl
@[go_sem] theorem T200.alloc (h : List Blk) : allocA Tryz.prog h 200 = some (pt h.length 0, h ++ [⟨[B 0] ++ [B 0], true⟩]) := alloc_of T200.ze rfl (by kernel_rfl) h
@[go_sem] theorem T200.store (h : List Blk) (b o : Nat) (cs : Array Value) : storeP Tryz.prog h 200 (.agg cs) (pt b o) = storeRow h b (h[b]?) o 2 cs.toList := storeP_row T200.sz cs h b o
@[go_sem] theorem T200.fla0 (b o : Nat) : fieldAddrA Tryz.prog 200 0 (pt b o) = some (pt b (o + 0)) := fla (f := 0) (o' := 0) (ft := 5) (z := 1) Tryz.underlying200 rfl rfl rfl T5.sz (by decide) b o
@[go_sem] theorem T200.fla1 (b o : Nat) : fieldAddrA Tryz.prog 200 1 (pt b o) = some (pt b (o + 1)) := fla (f := 1) (o' := 1) (ft := 5) (z := 1) Tryz.underlying200 rfl rfl rfl T5.sz (by decide) b o
theorem T212.ze : tzero Tryz.prog 212 = some (.agg ([.string .empty]).toArray) := by kernel_rfl
theorem T212.pl : ([.string .empty]).all plainC = true := by kernel_rfl
theorem T212.places : placesA Tryz.prog 212 = some [(0, 1)] := by kernel_rfl
@[go_sem] theorem T212.bld (p : Nat × Value) (ps : List (Nat × Value)) : buildA Tryz.prog 212 (p :: ps) = bldR (fillK (fun i => [(0, 1)][i]?) (some ([.string .empty])) (p :: ps)) := build_parts_struct T212.ze T212.pl Tryz.underlying212 T212.places _
@[go_sem] theorem T112.conv5 (h : List Blk) (k : IntKind) (n : Int) : convS Tryz.prog h 112 5 (.int k n) = some (.int .u8 (IntKind.u8.wrap n)) := conv_int Tryz.underlying112 Tryz.underlying5 h k n
@[go_sem] theorem T77.conv204 (h : List Blk) (k : IntKind) (n : Int) : convS Tryz.prog h 77 204 (.int k n) = some (.int .u32 (IntKind.u32.wrap n)) := conv_int Tryz.underlying77 Tryz.underlying204 h k n
@[go_sem] theorem T214.ixa (b o : Nat) (k : IntKind) (n : Int) : idxAddrA Tryz.prog 214 (pt b o) (.int k n) = ixR (aidx n 32) b o 1 := ixa_arr Tryz.underlying214 T5.sz b o k n
@[go_sem] theorem T214.ixaB (b o : Nat) (x : UInt8) : idxAddrA Tryz.prog 214 (pt b o) (B x) = ixR (aidx x.toNat 32) b o 1 := ixa_arr_B Tryz.underlying214 T5.sz b o x
@[go_sem] theorem T215.ixa (b o : Nat) (k : IntKind) (n : Int) : idxAddrA Tryz.prog 215 (pt b o) (.int k n) = ixR (aidx n 64) b o 1 := ixa_arr Tryz.underlying215 T5.sz b o k n
@[go_sem] theorem T215.ixaB (b o : Nat) (x : UInt8) : idxAddrA Tryz.prog 215 (pt b o) (B x) = ixR (aidx x.toNat 64) b o 1 := ixa_arr_B Tryz.underlying215 T5.sz b o x
theorem T214.ze : tzero Tryz.prog 214 = some (.agg (Bs 32 (fun _ => 0)).toArray) := by kernel_rfl
theorem T214.pl : (Bs 32 (fun _ => 0)).all plainC = true := by kernel_rfl
@[go_sem] theorem T214.bld (p : Nat × Value) (ps : List (Nat × Value)) : buildA Tryz.prog 214 (p :: ps) = bldR (fillK (fun i => some (i * 1, 1)) (some (Bs 32 (fun _ => 0))) (p :: ps)) := build_parts T214.ze T214.pl Tryz.underlying214 T5.sz _
theorem T214.sz : tsz Tryz.prog 214 = some 32 := by kernel_rfl
@[go_sem] theorem T214.store (h : List Blk) (b o : Nat) (cs : Array Value) : storeP Tryz.prog h 214 (.agg cs) (pt b o) = storeRow h b (h[b]?) o 32 cs.toList := storeP_row T214.sz cs h b o
theorem T215.ze : tzero Tryz.prog 215 = some (.agg (Bs 64 (fun _ => 0)).toArray) := by kernel_rfl
theorem T215.pl : (Bs 64 (fun _ => 0)).all plainC = true := by kernel_rfl
@[go_sem] theorem T215.bld (p : Nat × Value) (ps : List (Nat × Value)) : buildA Tryz.prog 215 (p :: ps) = bldR (fillK (fun i => some (i * 1, 1)) (some (Bs 64 (fun _ => 0))) (p :: ps)) := build_parts T215.ze T215.pl Tryz.underlying215 T5.sz _
theorem T215.sz : tsz Tryz.prog 215 = some 64 := by kernel_rfl
@[go_sem] theorem T215.store (h : List Blk) (b o : Nat) (cs : Array Value) : storeP Tryz.prog h 215 (.agg cs) (pt b o) = storeRow h b (h[b]?) o 64 cs.toList := storeP_row T215.sz cs h b o
theorem T203.ze : tzero Tryz.prog 203 = some (.agg (Vs 20 (fun _ => .int .u64 0)).toArray) := by kernel_rfl
theorem T203.pl : (Vs 20 (fun _ => .int .u64 0)).all plainC = true := by kernel_rfl
@[go_sem] theorem T203.bld (p : Nat × Value) (ps : List (Nat × Value)) : buildA Tryz.prog 203 (p :: ps) = bldR (fillK (fun i => some (i * 1, 1)) (some (Vs 20 (fun _ => .int .u64 0))) (p :: ps)) := build_parts T203.ze T203.pl Tryz.underlying203 T112.sz _
theorem T203.sz : tsz Tryz.prog 203 = some 20 := by kernel_rfl
@[go_sem] theorem T203.store (h : List Blk) (b o : Nat) (cs : Array Value) : storeP Tryz.prog h 203 (.agg cs) (pt b o) = storeRow h b (h[b]?) o 20 cs.toList := storeP_row T203.sz cs h b o
theorem T200.pl : ([B 0] ++ [B 0]).all plainC = true := by kernel_rfl
theorem T200.places : placesA Tryz.prog 200 = some [(0, 1), (1, 1)] := by kernel_rfl
@[go_sem] theorem T200.bld (p : Nat × Value) (ps : List (Nat × Value)) : buildA Tryz.prog 200 (p :: ps) = bldR (fillK (fun i => [(0, 1), (1, 1)][i]?) (some ([B 0] ++ [B 0])) (p :: ps)) := build_parts_struct T200.ze T200.pl Tryz.underlying200 T200.places _
theorem T201.ze : tzero Tryz.prog 201 = some (.agg ([B 0] ++ [B 0] ++ [B 0] ++ [B 0] ++ [B 0] ++ [B 0] ++ [B 0] ++ [B 0] ++ [B 0] ++ [B 0] ++ [B 0] ++ [B 0] ++ [B 0] ++ [B 0] ++ [B 0] ++ [B 0] ++ [B 0] ++ [B 0] ++ [B 0] ++ [B 0] ++ [B 0] ++ [B 0] ++ [B 0] ++ [B 0] ++ [B 0] ++ [B 0] ++ [B 0] ++ [B 0] ++ [B 0] ++ [B 0] ++ [B 0] ++ [B 0]).toArray) := by kernel_rfl
theorem T201.pl : ([B 0] ++ [B 0] ++ [B 0] ++ [B 0] ++ [B 0] ++ [B 0] ++ [B 0] ++ [B 0] ++ [B 0] ++ [B 0] ++ [B 0] ++ [B 0] ++ [B 0] ++ [B 0] ++ [B 0] ++ [B 0] ++ [B 0] ++ [B 0] ++ [B 0] ++ [B 0] ++ [B 0] ++ [B 0] ++ [B 0] ++ [B 0] ++ [B 0] ++ [B 0] ++ [B 0] ++ [B 0] ++ [B 0] ++ [B 0] ++ [B 0] ++ [B 0]).all plainC = true := by kernel_rfl
@[go_sem] theorem T201.bld (p : Nat × Value) (ps : List (Nat × Value)) : buildA Tryz.prog 201 (p :: ps) = bldR (fillK (fun i => some (i * 2, 2)) (some ([B 0] ++ [B 0] ++ [B 0] ++ [B 0] ++ [B 0] ++ [B 0] ++ [B 0] ++ [B 0] ++ [B 0] ++ [B 0] ++ [B 0] ++ [B 0] ++ [B 0] ++ [B 0] ++ [B 0] ++ [B 0] ++ [B 0] ++ [B 0] ++ [B 0] ++ [B 0] ++ [B 0] ++ [B 0] ++ [B 0] ++ [B 0] ++ [B 0] ++ [B 0] ++ [B 0] ++ [B 0] ++ [B 0] ++ [B 0] ++ [B 0] ++ [B 0])) (p :: ps)) := build_parts T201.ze T201.pl Tryz.underlying201 T200.sz _
theorem T201.sz : tsz Tryz.prog 201 = some 32 := by kernel_rfl
@[go_sem] theorem T201.store (h : List Blk) (b o : Nat) (cs : Array Value) : storeP Tryz.prog h 201 (.agg cs) (pt b o) = storeRow h b (h[b]?) o 32 cs.toList := storeP_row T201.sz cs h b o
theorem mixedOk : Tryz.prog.follows .mixedOrders = true := by kernel_rfl

end Go.Proofs.YtkdpjkpedklbpaaGreatDoor
