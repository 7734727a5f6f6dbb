/- The operations at the types of this seat, as a walk reckons them; written by a program of the prover's. -/
import Derived.Test.YtpomeeakmpbocaaDoorRows
import Derived.Test.YtpomeeakmpbocaaDoorAbsI
import Derived.Test.YtpomeeakmpbocaaDoorAbsN
namespace Go.Proofs.YtpomeeakmpbocaaDoor
set_option linter.unusedSimpArgs false
set_option linter.unusedVariables false
open Go.Abs
set_option maxRecDepth 100000

theorem T27.ag : tagg Tryd.prog 27 = some true := by kernel_rfl
theorem T27.sz : tsz Tryd.prog 27 = some 290 := by kernel_rfl
@[go_sem] theorem T27.load (h : List Blk) (b o : Nat) : loadP Tryd.prog h 27 (pt b o) = loadRow (h[b]?) o 290 := loadP_row T27.ag T27.sz h b o
theorem T34.ag : tagg Tryd.prog 34 = some true := by kernel_rfl
theorem T34.sz : tsz Tryd.prog 34 = some 290 := by kernel_rfl
@[go_sem] theorem T34.load (h : List Blk) (b o : Nat) : loadP Tryd.prog h 34 (pt b o) = loadRow (h[b]?) o 290 := loadP_row T34.ag T34.sz h b o
theorem T34.ze : tzero Tryd.prog 34 = some (.agg (Ci 0 (fun _ => 0) (fun _ => 0) (fun _ => 0) 0).toArray) := by kernel_rfl
@[go_sem] theorem T34.alloc (h : List Blk) : allocA Tryd.prog h 34 = some (pt h.length 0, h ++ [⟨Ci 0 (fun _ => 0) (fun _ => 0) (fun _ => 0) 0, true⟩]) := alloc_of T34.ze rfl (by kernel_rfl) h
theorem T2.sz : tsz Tryd.prog 2 = some 1 := by kernel_rfl
@[go_sem] theorem T27.fla0 (b o : Nat) : fieldAddrA Tryd.prog 27 0 (pt b o) = some (pt b (o + 0)) := fla (f := 0) (o' := 0) (ft := 2) (z := 1) Tryd.underlying27 rfl rfl rfl T2.sz (by decide) b o
theorem T2.ag : tagg Tryd.prog 2 = some false := by kernel_rfl
@[go_sem] theorem T2.load (h : List Blk) (b o : Nat) : loadP Tryd.prog h 2 (pt b o) = loadCell (h[b]?) o := loadP_cell T2.ag h b o
@[go_sem] theorem T34.fla0 (b o : Nat) : fieldAddrA Tryd.prog 34 0 (pt b o) = some (pt b (o + 0)) := fla (f := 0) (o' := 0) (ft := 2) (z := 1) Tryd.underlying34 rfl rfl rfl T2.sz (by decide) b o
@[go_sem] theorem T2.store_int (h : List Blk) (b o : Nat) (n : Int) : storeP Tryd.prog h 2 (.int .i64 n) (pt b o) = storeCell h b (h[b]?) o (.int .i64 n) := storeP_int T2.sz .i64 n h b o
theorem T22.sz : tsz Tryd.prog 22 = some 256 := by kernel_rfl
@[go_sem] theorem T27.fla1 (b o : Nat) : fieldAddrA Tryd.prog 27 1 (pt b o) = some (pt b (o + 1)) := fla (f := 1) (o' := 1) (ft := 22) (z := 256) Tryd.underlying27 rfl rfl rfl T22.sz (by decide) b o
theorem T22.ag : tagg Tryd.prog 22 = some true := by kernel_rfl
@[go_sem] theorem T22.load (h : List Blk) (b o : Nat) : loadP Tryd.prog h 22 (pt b o) = loadRow (h[b]?) o 256 := loadP_row T22.ag T22.sz h b o
theorem T30.sz : tsz Tryd.prog 30 = some 256 := by kernel_rfl
@[go_sem] theorem T34.fla1 (b o : Nat) : fieldAddrA Tryd.prog 34 1 (pt b o) = some (pt b (o + 1)) := fla (f := 1) (o' := 1) (ft := 30) (z := 256) Tryd.underlying34 rfl rfl rfl T30.sz (by decide) b o
@[go_sem] theorem T30.store (h : List Blk) (b o : Nat) (cs : Array Value) : storeP Tryd.prog h 30 (.agg cs) (pt b o) = storeRow h b (h[b]?) o 256 cs.toList := storeP_row T30.sz cs h b o
theorem T24.sz : tsz Tryd.prog 24 = some 16 := by kernel_rfl
@[go_sem] theorem T27.fla2 (b o : Nat) : fieldAddrA Tryd.prog 27 2 (pt b o) = some (pt b (o + 257)) := fla (f := 2) (o' := 257) (ft := 24) (z := 16) Tryd.underlying27 rfl rfl rfl T24.sz (by decide) b o
theorem T24.ag : tagg Tryd.prog 24 = some true := by kernel_rfl
@[go_sem] theorem T24.load (h : List Blk) (b o : Nat) : loadP Tryd.prog h 24 (pt b o) = loadRow (h[b]?) o 16 := loadP_row T24.ag T24.sz h b o
theorem T31.sz : tsz Tryd.prog 31 = some 16 := by kernel_rfl
@[go_sem] theorem T34.fla2 (b o : Nat) : fieldAddrA Tryd.prog 34 2 (pt b o) = some (pt b (o + 257)) := fla (f := 2) (o' := 257) (ft := 31) (z := 16) Tryd.underlying34 rfl rfl rfl T31.sz (by decide) b o
@[go_sem] theorem T31.store (h : List Blk) (b o : Nat) (cs : Array Value) : storeP Tryd.prog h 31 (.agg cs) (pt b o) = storeRow h b (h[b]?) o 16 cs.toList := storeP_row T31.sz cs h b o
theorem T25.sz : tsz Tryd.prog 25 = some 16 := by kernel_rfl
@[go_sem] theorem T27.fla3 (b o : Nat) : fieldAddrA Tryd.prog 27 3 (pt b o) = some (pt b (o + 273)) := fla (f := 3) (o' := 273) (ft := 25) (z := 16) Tryd.underlying27 rfl rfl rfl T25.sz (by decide) b o
theorem T25.ag : tagg Tryd.prog 25 = some true := by kernel_rfl
@[go_sem] theorem T25.load (h : List Blk) (b o : Nat) : loadP Tryd.prog h 25 (pt b o) = loadRow (h[b]?) o 16 := loadP_row T25.ag T25.sz h b o
theorem T32.sz : tsz Tryd.prog 32 = some 16 := by kernel_rfl
@[go_sem] theorem T34.fla3 (b o : Nat) : fieldAddrA Tryd.prog 34 3 (pt b o) = some (pt b (o + 273)) := fla (f := 3) (o' := 273) (ft := 32) (z := 16) Tryd.underlying34 rfl rfl rfl T32.sz (by decide) b o
@[go_sem] theorem T32.store (h : List Blk) (b o : Nat) (cs : Array Value) : storeP Tryd.prog h 32 (.agg cs) (pt b o) = storeRow h b (h[b]?) o 16 cs.toList := storeP_row T32.sz cs h b o
@[go_sem] theorem T27.fla4 (b o : Nat) : fieldAddrA Tryd.prog 27 4 (pt b o) = some (pt b (o + 289)) := fla (f := 4) (o' := 289) (ft := 2) (z := 1) Tryd.underlying27 rfl rfl rfl T2.sz (by decide) b o
@[go_sem] theorem T34.fla4 (b o : Nat) : fieldAddrA Tryd.prog 34 4 (pt b o) = some (pt b (o + 289)) := fla (f := 4) (o' := 289) (ft := 2) (z := 1) Tryd.underlying34 rfl rfl rfl T2.sz (by decide) b o
@[go_sem] theorem T34.store (h : List Blk) (b o : Nat) (cs : Array Value) : storeP Tryd.prog h 34 (.agg cs) (pt b o) = storeRow h b (h[b]?) o 290 cs.toList := storeP_row T34.sz cs h b o
theorem T31.ag : tagg Tryd.prog 31 = some true := by kernel_rfl
@[go_sem] theorem T31.load (h : List Blk) (b o : Nat) : loadP Tryd.prog h 31 (pt b o) = loadRow (h[b]?) o 16 := loadP_row T31.ag T31.sz h b o
theorem T30.ag : tagg Tryd.prog 30 = some true := by kernel_rfl
@[go_sem] theorem T30.load (h : List Blk) (b o : Nat) : loadP Tryd.prog h 30 (pt b o) = loadRow (h[b]?) o 256 := loadP_row T30.ag T30.sz h b o
theorem T5.sz : tsz Tryd.prog 5 = some 1 := by kernel_rfl
@[go_sem] theorem T32.sla (h : List Blk) (b o : Nat) (lo hi : Option Value) : aslice Tryd.prog h 32 (pt b o) lo hi = slcArr (h[b]?) b o 16 1 (lowA lo) (highA 16 hi) := sla_arr Tryd.underlying32 T5.sz h b o lo hi
theorem T9.sz : tsz Tryd.prog 9 = some 1 := by kernel_rfl
theorem T9.ze : tzero Tryd.prog 9 = some (.string .empty) := by kernel_rfl
@[go_sem] theorem T49.bs5 (h : List Blk) (ps : List (Nat × Value)) : buildSliceA Tryd.prog h 49 5 ps = litR h 5 1 (fillK (fun i => some (i * 1, 1)) (some [.string .empty, .string .empty, .string .empty, .string .empty, .string .empty]) ps) := bs_cells Tryd.underlying49 T9.sz T9.ze rfl rfl h (by decide) ps
theorem T32.ag : tagg Tryd.prog 32 = some true := by kernel_rfl
@[go_sem] theorem T32.load (h : List Blk) (b o : Nat) : loadP Tryd.prog h 32 (pt b o) = loadRow (h[b]?) o 16 := loadP_row T32.ag T32.sz h b o
theorem T31.ze : tzero Tryd.prog 31 = some (.agg (Bs 16 (fun _ => 0)).toArray) := by kernel_rfl
@[go_sem] theorem T31.alloc (h : List Blk) : allocA Tryd.prog h 31 = some (pt h.length 0, h ++ [⟨Bs 16 (fun _ => 0), true⟩]) := alloc_of T31.ze rfl (by kernel_rfl) h
@[go_sem] theorem T30.sla (h : List Blk) (b o : Nat) (lo hi : Option Value) : aslice Tryd.prog h 30 (pt b o) lo hi = slcArr (h[b]?) b o 256 1 (lowA lo) (highA 256 hi) := sla_arr Tryd.underlying30 T5.sz h b o lo hi
theorem T30.ze : tzero Tryd.prog 30 = some (.agg (Bs 256 (fun _ => 0)).toArray) := by kernel_rfl
@[go_sem] theorem T30.alloc (h : List Blk) : allocA Tryd.prog h 30 = some (pt h.length 0, h ++ [⟨Bs 256 (fun _ => 0), true⟩]) := alloc_of T30.ze rfl (by kernel_rfl) h
@[go_sem] theorem T22.ixa (b o : Nat) (k : IntKind) (n : Int) : idxAddrA Tryd.prog 22 (pt b o) (.int k n) = ixR (aidx n 256) b o 1 := ixa_arr Tryd.underlying22 T5.sz b o k n
@[go_sem] theorem T22.ixaB (b o : Nat) (x : UInt8) : idxAddrA Tryd.prog 22 (pt b o) (B x) = ixR (aidx x.toNat 256) b o 1 := ixa_arr_B Tryd.underlying22 T5.sz b o x
theorem T5.ag : tagg Tryd.prog 5 = some false := by kernel_rfl
@[go_sem] theorem T5.load (h : List Blk) (b o : Nat) : loadP Tryd.prog h 5 (pt b o) = loadCell (h[b]?) o := loadP_cell T5.ag h b o
@[go_sem] theorem T30.ixa (b o : Nat) (k : IntKind) (n : Int) : idxAddrA Tryd.prog 30 (pt b o) (.int k n) = ixR (aidx n 256) b o 1 := ixa_arr Tryd.underlying30 T5.sz b o k n
@[go_sem] theorem T30.ixaB (b o : Nat) (x : UInt8) : idxAddrA Tryd.prog 30 (pt b o) (B x) = ixR (aidx x.toNat 256) b o 1 := ixa_arr_B Tryd.underlying30 T5.sz b o x
@[go_sem] theorem T5.store_B (h : List Blk) (b o : Nat) (x : UInt8) : storeP Tryd.prog h 5 (B x) (pt b o) = storeCell h b (h[b]?) o (B x) := storeP_B T5.sz x h b o
theorem T23.sz : tsz Tryd.prog 23 = some 4 := by kernel_rfl
@[go_sem] theorem T24.ixa (b o : Nat) (k : IntKind) (n : Int) : idxAddrA Tryd.prog 24 (pt b o) (.int k n) = ixR (aidx n 4) b o 4 := ixa_arr Tryd.underlying24 T23.sz b o k n
@[go_sem] theorem T24.ixaB (b o : Nat) (x : UInt8) : idxAddrA Tryd.prog 24 (pt b o) (B x) = ixR (aidx x.toNat 4) b o 4 := ixa_arr_B Tryd.underlying24 T23.sz b o x
theorem T23.ag : tagg Tryd.prog 23 = some true := by kernel_rfl
@[go_sem] theorem T23.load (h : List Blk) (b o : Nat) : loadP Tryd.prog h 23 (pt b o) = loadRow (h[b]?) o 4 := loadP_row T23.ag T23.sz h b o
@[go_sem] theorem T31.ixa (b o : Nat) (k : IntKind) (n : Int) : idxAddrA Tryd.prog 31 (pt b o) (.int k n) = ixR (aidx n 4) b o 4 := ixa_arr Tryd.underlying31 T23.sz b o k n
@[go_sem] theorem T31.ixaB (b o : Nat) (x : UInt8) : idxAddrA Tryd.prog 31 (pt b o) (B x) = ixR (aidx x.toNat 4) b o 4 := ixa_arr_B Tryd.underlying31 T23.sz b o x
@[go_sem] theorem T23.store (h : List Blk) (b o : Nat) (cs : Array Value) : storeP Tryd.prog h 23 (.agg cs) (pt b o) = storeRow h b (h[b]?) o 4 cs.toList := storeP_row T23.sz cs h b o
theorem T32.ze : tzero Tryd.prog 32 = some (.agg (Bs 16 (fun _ => 0)).toArray) := by kernel_rfl
@[go_sem] theorem T32.alloc (h : List Blk) : allocA Tryd.prog h 32 = some (pt h.length 0, h ++ [⟨Bs 16 (fun _ => 0), true⟩]) := alloc_of T32.ze rfl (by kernel_rfl) h
@[go_sem] theorem T25.ixa (b o : Nat) (k : IntKind) (n : Int) : idxAddrA Tryd.prog 25 (pt b o) (.int k n) = ixR (aidx n 16) b o 1 := ixa_arr Tryd.underlying25 T5.sz b o k n
@[go_sem] theorem T25.ixaB (b o : Nat) (x : UInt8) : idxAddrA Tryd.prog 25 (pt b o) (B x) = ixR (aidx x.toNat 16) b o 1 := ixa_arr_B Tryd.underlying25 T5.sz b o x
@[go_sem] theorem T32.ixa (b o : Nat) (k : IntKind) (n : Int) : idxAddrA Tryd.prog 32 (pt b o) (.int k n) = ixR (aidx n 16) b o 1 := ixa_arr Tryd.underlying32 T5.sz b o k n
@[go_sem] theorem T32.ixaB (b o : Nat) (x : UInt8) : idxAddrA Tryd.prog 32 (pt b o) (B x) = ixR (aidx x.toNat 16) b o 1 := ixa_arr_B Tryd.underlying32 T5.sz b o x
@[go_sem] theorem T49.bs0 (h : List Blk) : buildSliceA Tryd.prog h 49 0 [] = some (sl h.length 0 0 1, h ++ [⟨[], true⟩]) := bs_nil Tryd.underlying49 T9.sz T9.ze rfl (by kernel_rfl) (by kernel_rfl) h
@[go_sem] theorem T31.ix (l : List Value) (k : IntKind) (n : Int) : indexA Tryd.prog 31 (.agg l.toArray) (.int k n) = ixW (aidx n 4) l 4 := ix_arr_row Tryd.underlying31 T23.sz T23.ag l k n
theorem T23.ze : tzero Tryd.prog 23 = some (.agg (Bs 4 (fun _ => 0)).toArray) := by kernel_rfl
@[go_sem] theorem T23.alloc (h : List Blk) : allocA Tryd.prog h 23 = some (pt h.length 0, h ++ [⟨Bs 4 (fun _ => 0), true⟩]) := alloc_of T23.ze rfl (by kernel_rfl) h
@[go_sem] theorem T23.sla (h : List Blk) (b o : Nat) (lo hi : Option Value) : aslice Tryd.prog h 23 (pt b o) lo hi = slcArr (h[b]?) b o 4 1 (lowA lo) (highA 4 hi) := sla_arr Tryd.underlying23 T5.sz h b o lo hi
@[go_sem] theorem T49.bs1 (h : List Blk) (ps : List (Nat × Value)) : buildSliceA Tryd.prog h 49 1 ps = litR h 1 1 (fillK (fun i => some (i * 1, 1)) (some [.string .empty]) ps) := bs_cells Tryd.underlying49 T9.sz T9.ze rfl rfl h (by decide) ps
theorem T49.ei : elemInfo Tryd.prog 49 = some (9, 1, 16) := by kernel_rfl
@[go_sem] theorem T49.app (h : List Blk) (s : Value) (b o m : Nat) : appendA Tryd.prog h 49 49 s (sl b o m 1) = appR h 1 16 s (srcR (h[b]?) o m 1) := by rw [append_of T49.ei]; simp only [srcA_sl]
@[go_sem] theorem T49.len (b o n es : Nat) : alen Tryd.prog 49 (sl b o n es) = some (.int .i64 n) := len_sl Tryd.underlying49 b o n es
@[go_sem] theorem T49.lenN (n c : Nat) : alen Tryd.prog 49 (.slice none n c) = some (.int .i64 n) := len_nilS Tryd.underlying49 n c
@[go_sem] theorem T49.ixa (b o len : Nat) (k : IntKind) (n : Int) : idxAddrA Tryd.prog 49 (sl b o len 1) (.int k n) = ixR (aidx n len) b o 1 := ixa_sl Tryd.underlying49 T9.sz b o len k n
@[go_sem] theorem T49.ixaB (b o len : Nat) (x : UInt8) : idxAddrA Tryd.prog 49 (sl b o len 1) (B x) = ixR (aidx x.toNat len) b o 1 := ixa_sl_B Tryd.underlying49 T9.sz b o len x
theorem T9.ag : tagg Tryd.prog 9 = some false := by kernel_rfl
@[go_sem] theorem T9.load (h : List Blk) (b o : Nat) : loadP Tryd.prog h 9 (pt b o) = loadCell (h[b]?) o := loadP_cell T9.ag h b o
@[go_sem] theorem T9.len (s : ByteArray) : alen Tryd.prog 9 (.string s) = some (.int .i64 s.size) := len_str Tryd.underlying9 s
theorem T62.ze : tzero Tryd.prog 62 = some (.agg ([Value.pointer none] ++ [Value.slice none 0 0]).toArray) := by kernel_rfl
@[go_sem] theorem T62.alloc (h : List Blk) : allocA Tryd.prog h 62 = some (pt h.length 0, h ++ [⟨[.pointer none] ++ [Value.slice none 0 0], true⟩]) := alloc_of T62.ze rfl (by kernel_rfl) h
@[go_sem] theorem T49.slaN (h : List Blk) (lo hi : Option Value) : aslice Tryd.prog h 49 (.slice none 0 0) lo hi = slcNil (lowA lo) (highA 0 hi) := sla_nil Tryd.underlying49 T9.sz h lo hi
@[go_sem] theorem T49.sla (h : List Blk) (b o len : Nat) (lo hi : Option Value) : aslice Tryd.prog h 49 (sl b o len 1) lo hi = slcSl b o 1 (lowA lo) (highA len hi) := sla_sl Tryd.underlying49 T9.sz h b o len lo hi
theorem T5.ze : tzero Tryd.prog 5 = some (B 0) := by kernel_rfl
@[go_sem] theorem T48.bs0 (h : List Blk) : buildSliceA Tryd.prog h 48 0 [] = some (sl h.length 0 0 1, h ++ [⟨[], true⟩]) := bs_nil Tryd.underlying48 T5.sz T5.ze rfl (by kernel_rfl) (by kernel_rfl) h
@[go_sem] theorem T48.len (b o n es : Nat) : alen Tryd.prog 48 (sl b o n es) = some (.int .i64 n) := len_sl Tryd.underlying48 b o n es
@[go_sem] theorem T48.lenN (n c : Nat) : alen Tryd.prog 48 (.slice none n c) = some (.int .i64 n) := len_nilS Tryd.underlying48 n c
@[go_sem] theorem T48.ixa (b o len : Nat) (k : IntKind) (n : Int) : idxAddrA Tryd.prog 48 (sl b o len 1) (.int k n) = ixR (aidx n len) b o 1 := ixa_sl Tryd.underlying48 T5.sz b o len k n
@[go_sem] theorem T48.ixaB (b o len : Nat) (x : UInt8) : idxAddrA Tryd.prog 48 (sl b o len 1) (B x) = ixR (aidx x.toNat len) b o 1 := ixa_sl_B Tryd.underlying48 T5.sz b o len x
@[go_sem] theorem T9.ix (s : ByteArray) (k : IntKind) (n : Int) : indexA Tryd.prog 9 (.string s) (.int k n) = chrC (aidx n s.size) s := ix_str Tryd.underlying9 s k n
@[go_sem] theorem T48.bs2 (h : List Blk) (ps : List (Nat × Value)) : buildSliceA Tryd.prog h 48 2 ps = litR h 2 1 (fillK (fun i => some (i * 1, 1)) (some [B 0, B 0]) ps) := bs_cells Tryd.underlying48 T5.sz T5.ze rfl rfl h (by decide) ps
theorem T48.ei : elemInfo Tryd.prog 48 = some (5, 1, 1) := by kernel_rfl
@[go_sem] theorem T48.app (h : List Blk) (s : Value) (b o m : Nat) : appendA Tryd.prog h 48 48 s (sl b o m 1) = appR h 1 1 s (srcR (h[b]?) o m 1) := by rw [append_of T48.ei]; simp only [srcA_sl]
@[go_sem] theorem T48.conv9 (h : List Blk) (b o n es : Nat) : convS Tryd.prog h 48 9 (sl b o n es) = strR (h[b]?) o n := conv_str Tryd.underlying48 Tryd.underlying5 Tryd.underlying9 h b o n es
theorem T72.ze : tzero Tryd.prog 72 = some (.agg (Vs 256 (fun _ => .bool false)).toArray) := by kernel_rfl
theorem T72.pl : (Vs 256 (fun _ => .bool false)).all plainC = true := by kernel_rfl
theorem T4.sz : tsz Tryd.prog 4 = some 1 := by kernel_rfl
@[go_sem] theorem T72.bld0 : buildA Tryd.prog 72 [] = some (.agg (Vs 256 (fun _ => .bool false)).toArray) := build_nil T72.ze T72.pl Tryd.underlying72 T4.sz
@[go_sem] theorem T72.alloc (h : List Blk) : allocA Tryd.prog h 72 = some (pt h.length 0, h ++ [⟨Vs 256 (fun _ => .bool false), true⟩]) := alloc_of T72.ze rfl (by kernel_rfl) h
theorem T72.sz : tsz Tryd.prog 72 = some 256 := by kernel_rfl
@[go_sem] theorem T72.store (h : List Blk) (b o : Nat) (cs : Array Value) : storeP Tryd.prog h 72 (.agg cs) (pt b o) = storeRow h b (h[b]?) o 256 cs.toList := storeP_row T72.sz cs h b o
@[go_sem] theorem T72.ixa (b o : Nat) (k : IntKind) (n : Int) : idxAddrA Tryd.prog 72 (pt b o) (.int k n) = ixR (aidx n 256) b o 1 := ixa_arr Tryd.underlying72 T4.sz b o k n
@[go_sem] theorem T72.ixaB (b o : Nat) (x : UInt8) : idxAddrA Tryd.prog 72 (pt b o) (B x) = ixR (aidx x.toNat 256) b o 1 := ixa_arr_B Tryd.underlying72 T4.sz b o x
theorem T4.ag : tagg Tryd.prog 4 = some false := by kernel_rfl
@[go_sem] theorem T4.load (h : List Blk) (b o : Nat) : loadP Tryd.prog h 4 (pt b o) = loadCell (h[b]?) o := loadP_cell T4.ag h b o
@[go_sem] theorem T4.store_bool (h : List Blk) (b o : Nat) (x : Bool) : storeP Tryd.prog h 4 (.bool x) (pt b o) = storeCell h b (h[b]?) o (.bool x) := storeP_bool T4.sz x h b o
theorem T73.ze : tzero Tryd.prog 73 = some (.agg (Vs 16 (fun _ => .bool false)).toArray) := by kernel_rfl
theorem T73.pl : (Vs 16 (fun _ => .bool false)).all plainC = true := by kernel_rfl
@[go_sem] theorem T73.bld0 : buildA Tryd.prog 73 [] = some (.agg (Vs 16 (fun _ => .bool false)).toArray) := build_nil T73.ze T73.pl Tryd.underlying73 T4.sz
@[go_sem] theorem T73.alloc (h : List Blk) : allocA Tryd.prog h 73 = some (pt h.length 0, h ++ [⟨Vs 16 (fun _ => .bool false), true⟩]) := alloc_of T73.ze rfl (by kernel_rfl) h
theorem T73.sz : tsz Tryd.prog 73 = some 16 := by kernel_rfl
@[go_sem] theorem T73.store (h : List Blk) (b o : Nat) (cs : Array Value) : storeP Tryd.prog h 73 (.agg cs) (pt b o) = storeRow h b (h[b]?) o 16 cs.toList := storeP_row T73.sz cs h b o
@[go_sem] theorem T73.ixa (b o : Nat) (k : IntKind) (n : Int) : idxAddrA Tryd.prog 73 (pt b o) (.int k n) = ixR (aidx n 16) b o 1 := ixa_arr Tryd.underlying73 T4.sz b o k n
@[go_sem] theorem T73.ixaB (b o : Nat) (x : UInt8) : idxAddrA Tryd.prog 73 (pt b o) (B x) = ixR (aidx x.toNat 16) b o 1 := ixa_arr_B Tryd.underlying73 T4.sz b o x
@[go_sem] theorem T2.conv5 (h : List Blk) (k : IntKind) (n : Int) : convS Tryd.prog h 2 5 (.int k n) = some (.int .u8 (IntKind.u8.wrap n)) := conv_int Tryd.underlying2 Tryd.underlying5 h k n
@[go_sem] theorem T48.bs1 (h : List Blk) (ps : List (Nat × Value)) : buildSliceA Tryd.prog h 48 1 ps = litR h 1 1 (fillK (fun i => some (i * 1, 1)) (some [B 0]) ps) := bs_cells Tryd.underlying48 T5.sz T5.ze rfl rfl h (by decide) ps
@[go_sem] theorem T23.ixa (b o : Nat) (k : IntKind) (n : Int) : idxAddrA Tryd.prog 23 (pt b o) (.int k n) = ixR (aidx n 4) b o 1 := ixa_arr Tryd.underlying23 T5.sz b o k n
@[go_sem] theorem T23.ixaB (b o : Nat) (x : UInt8) : idxAddrA Tryd.prog 23 (pt b o) (B x) = ixR (aidx x.toNat 4) b o 1 := ixa_arr_B Tryd.underlying23 T5.sz b o x
@[go_sem] theorem T30.ix (l : List Value) (k : IntKind) (n : Int) : indexA Tryd.prog 30 (.agg l.toArray) (.int k n) = ixC (aidx n 256) l := ix_arr_cell Tryd.underlying30 T5.sz T5.ag l k n
@[go_sem] theorem T30.ixB (l : List Value) (x : UInt8) : indexA Tryd.prog 30 (.agg l.toArray) (B x) = ixC (aidx x.toNat 256) l := ix_arr_cell_B Tryd.underlying30 T5.sz T5.ag l x
@[go_sem] theorem T72.sla (h : List Blk) (b o : Nat) (lo hi : Option Value) : aslice Tryd.prog h 72 (pt b o) lo hi = slcArr (h[b]?) b o 256 1 (lowA lo) (highA 256 hi) := sla_arr Tryd.underlying72 T4.sz h b o lo hi
@[go_sem] theorem T32.ix (l : List Value) (k : IntKind) (n : Int) : indexA Tryd.prog 32 (.agg l.toArray) (.int k n) = ixC (aidx n 16) l := ix_arr_cell Tryd.underlying32 T5.sz T5.ag l k n
@[go_sem] theorem T32.ixB (l : List Value) (x : UInt8) : indexA Tryd.prog 32 (.agg l.toArray) (B x) = ixC (aidx x.toNat 16) l := ix_arr_cell_B Tryd.underlying32 T5.sz T5.ag l x
@[go_sem] theorem T9.sla (h : List Blk) (s : ByteArray) (lo hi : Option Value) : aslice Tryd.prog h 9 (.string s) lo hi = slcStr s (lowA lo) (highA s.size hi) := sla_str Tryd.underlying9 h s lo hi
theorem T48.sz : tsz Tryd.prog 48 = some 1 := by kernel_rfl
@[go_sem] theorem T62.fla1 (b o : Nat) : fieldAddrA Tryd.prog 62 1 (pt b o) = some (pt b (o + 1)) := fla (f := 1) (o' := 1) (ft := 48) (z := 1) Tryd.underlying62 rfl rfl rfl T48.sz (by decide) b o
theorem T48.ag : tagg Tryd.prog 48 = some false := by kernel_rfl
@[go_sem] theorem T48.load (h : List Blk) (b o : Nat) : loadP Tryd.prog h 48 (pt b o) = loadCell (h[b]?) o := loadP_cell T48.ag h b o
@[go_sem] theorem T48.cap (c : Nat) : acap Tryd.prog 48 (.slice none 0 c) = some (.int .i64 c) := cap_nil Tryd.underlying48 c
@[go_sem] theorem T48.store_sl (h : List Blk) (b o : Nat) (c q n es : Nat) : storeP Tryd.prog h 48 (sl c q n es) (pt b o) = storeCell h b (h[b]?) o (sl c q n es) := storeP_sl T48.sz c q n es h b o
@[go_sem] theorem T48.store_nil (h : List Blk) (b o : Nat) (n c : Nat) : storeP Tryd.prog h 48 (.slice none n c) (pt b o) = storeCell h b (h[b]?) o (.slice none n c) := storeP_nil T48.sz n c h b o
@[go_sem] theorem T2.conv87 (h : List Blk) (k : IntKind) (n : Int) : convS Tryd.prog h 2 87 (.int k n) = some (.int .u64 (IntKind.u64.wrap n)) := conv_int Tryd.underlying2 Tryd.underlying87 h k n
theorem T31.pl : (Bs 16 (fun _ => 0)).all plainC = true := by kernel_rfl
@[go_sem] theorem T31.bld0 : buildA Tryd.prog 31 [] = some (.agg (Bs 16 (fun _ => 0)).toArray) := build_nil T31.ze T31.pl Tryd.underlying31 T23.sz
@[go_sem] theorem T48.slaN (h : List Blk) (lo hi : Option Value) : aslice Tryd.prog h 48 (.slice none 0 0) lo hi = slcNil (lowA lo) (highA 0 hi) := sla_nil Tryd.underlying48 T5.sz h lo hi
@[go_sem] theorem T48.sla (h : List Blk) (b o len : Nat) (lo hi : Option Value) : aslice Tryd.prog h 48 (sl b o len 1) lo hi = slcSl b o 1 (lowA lo) (highA len hi) := sla_sl Tryd.underlying48 T5.sz h b o len lo hi
@[go_sem] theorem T5.conv21 (h : List Blk) (x : UInt8) : convS Tryd.prog h 5 21 (B x) = some (.int .i32 (IntKind.i32.wrap x.toNat)) := conv_B Tryd.underlying5 Tryd.underlying21 h x
theorem T60.sz : tsz Tryd.prog 60 = some 1 := by kernel_rfl
@[go_sem] theorem T62.fla0 (b o : Nat) : fieldAddrA Tryd.prog 62 0 (pt b o) = some (pt b (o + 0)) := fla (f := 0) (o' := 0) (ft := 60) (z := 1) Tryd.underlying62 rfl rfl rfl T60.sz (by decide) b o
theorem T60.ag : tagg Tryd.prog 60 = some false := by kernel_rfl
@[go_sem] theorem T60.load (h : List Blk) (b o : Nat) : loadP Tryd.prog h 60 (pt b o) = loadCell (h[b]?) o := loadP_cell T60.ag h b o
@[go_sem] theorem T60.store_pt (h : List Blk) (b o : Nat) (c q : Nat) : storeP Tryd.prog h 60 (pt c q) (pt b o) = storeCell h b (h[b]?) o (pt c q) := storeP_pt T60.sz c q h b o
@[go_sem] theorem T5.conv2 (h : List Blk) (x : UInt8) : convS Tryd.prog h 5 2 (B x) = some (.int .i64 (IntKind.i64.wrap x.toNat)) := conv_B Tryd.underlying5 Tryd.underlying2 h x
@[go_sem] theorem T78.len (b o n es : Nat) : alen Tryd.prog 78 (sl b o n es) = some (.int .i64 n) := len_sl Tryd.underlying78 b o n es
@[go_sem] theorem T78.lenN (n c : Nat) : alen Tryd.prog 78 (.slice none n c) = some (.int .i64 n) := len_nilS Tryd.underlying78 n c
@[go_sem] theorem T78.ixa (b o len : Nat) (k : IntKind) (n : Int) : idxAddrA Tryd.prog 78 (sl b o len 1) (.int k n) = ixR (aidx n len) b o 1 := ixa_sl Tryd.underlying78 T4.sz b o len k n
@[go_sem] theorem T78.ixaB (b o len : Nat) (x : UInt8) : idxAddrA Tryd.prog 78 (sl b o len 1) (B x) = ixR (aidx x.toNat len) b o 1 := ixa_sl_B Tryd.underlying78 T4.sz b o len x
theorem T4.isb : isBoolT Tryd.prog 4 = true := by kernel_rfl
@[go_sem] theorem T4.eql (a b : Bool) : abin Tryd.prog .eql 4 (.bool a) (.bool b) = some (.bool (a == b)) := eql_bool T4.isb a b
@[go_sem] theorem T4.neq (a b : Bool) : abin Tryd.prog .neq 4 (.bool a) (.bool b) = some (.bool (!(a == b))) := neq_bool T4.isb a b
@[go_sem] theorem T5.conv3 (h : List Blk) (x : UInt8) : convS Tryd.prog h 5 3 (B x) = some (.int .i64 (IntKind.i64.wrap x.toNat)) := conv_B Tryd.underlying5 Tryd.underlying3 h x
theorem T110.sz : tsz Tryd.prog 110 = some 2 := by kernel_rfl
@[go_sem] theorem T111.ixa (b o : Nat) (k : IntKind) (n : Int) : idxAddrA Tryd.prog 111 (pt b o) (.int k n) = ixR (aidx n 16) b o 2 := ixa_arr Tryd.underlying111 T110.sz b o k n
@[go_sem] theorem T111.ixaB (b o : Nat) (x : UInt8) : idxAddrA Tryd.prog 111 (pt b o) (B x) = ixR (aidx x.toNat 16) b o 2 := ixa_arr_B Tryd.underlying111 T110.sz b o x
theorem T110.ag : tagg Tryd.prog 110 = some true := by kernel_rfl
@[go_sem] theorem T110.load (h : List Blk) (b o : Nat) : loadP Tryd.prog h 110 (pt b o) = loadRow (h[b]?) o 2 := loadP_row T110.ag T110.sz h b o
theorem T110.ze : tzero Tryd.prog 110 = some (.agg ([B 0] ++ [B 0]).toArray) := by kernel_rfl
@[go_sem] theorem T110.alloc (h : List Blk) : allocA Tryd.prog h 110 = some (pt h.length 0, h ++ [⟨[B 0] ++ [B 0], true⟩]) := alloc_of T110.ze rfl (by kernel_rfl) h
@[go_sem] theorem T110.store (h : List Blk) (b o : Nat) (cs : Array Value) : storeP Tryd.prog h 110 (.agg cs) (pt b o) = storeRow h b (h[b]?) o 2 cs.toList := storeP_row T110.sz cs h b o
@[go_sem] theorem T110.fla0 (b o : Nat) : fieldAddrA Tryd.prog 110 0 (pt b o) = some (pt b (o + 0)) := fla (f := 0) (o' := 0) (ft := 5) (z := 1) Tryd.underlying110 rfl rfl rfl T5.sz (by decide) b o
@[go_sem] theorem T110.fla1 (b o : Nat) : fieldAddrA Tryd.prog 110 1 (pt b o) = some (pt b (o + 1)) := fla (f := 1) (o' := 1) (ft := 5) (z := 1) Tryd.underlying110 rfl rfl rfl T5.sz (by decide) b o
@[go_sem] theorem T87.conv5 (h : List Blk) (k : IntKind) (n : Int) : convS Tryd.prog h 87 5 (.int k n) = some (.int .u8 (IntKind.u8.wrap n)) := conv_int Tryd.underlying87 Tryd.underlying5 h k n
@[go_sem] theorem T70.conv114 (h : List Blk) (k : IntKind) (n : Int) : convS Tryd.prog h 70 114 (.int k n) = some (.int .u32 (IntKind.u32.wrap n)) := conv_int Tryd.underlying70 Tryd.underlying114 h k n
@[go_sem] theorem T121.ixa (b o : Nat) (k : IntKind) (n : Int) : idxAddrA Tryd.prog 121 (pt b o) (.int k n) = ixR (aidx n 32) b o 1 := ixa_arr Tryd.underlying121 T5.sz b o k n
@[go_sem] theorem T121.ixaB (b o : Nat) (x : UInt8) : idxAddrA Tryd.prog 121 (pt b o) (B x) = ixR (aidx x.toNat 32) b o 1 := ixa_arr_B Tryd.underlying121 T5.sz b o x
@[go_sem] theorem T122.ixa (b o : Nat) (k : IntKind) (n : Int) : idxAddrA Tryd.prog 122 (pt b o) (.int k n) = ixR (aidx n 64) b o 1 := ixa_arr Tryd.underlying122 T5.sz b o k n
@[go_sem] theorem T122.ixaB (b o : Nat) (x : UInt8) : idxAddrA Tryd.prog 122 (pt b o) (B x) = ixR (aidx x.toNat 64) b o 1 := ixa_arr_B Tryd.underlying122 T5.sz b o x
theorem T121.ze : tzero Tryd.prog 121 = some (.agg (Bs 32 (fun _ => 0)).toArray) := by kernel_rfl
theorem T121.pl : (Bs 32 (fun _ => 0)).all plainC = true := by kernel_rfl
@[go_sem] theorem T121.bld (p : Nat × Value) (ps : List (Nat × Value)) : buildA Tryd.prog 121 (p :: ps) = bldR (fillK (fun i => some (i * 1, 1)) (some (Bs 32 (fun _ => 0))) (p :: ps)) := build_parts T121.ze T121.pl Tryd.underlying121 T5.sz _
theorem T121.sz : tsz Tryd.prog 121 = some 32 := by kernel_rfl
@[go_sem] theorem T121.store (h : List Blk) (b o : Nat) (cs : Array Value) : storeP Tryd.prog h 121 (.agg cs) (pt b o) = storeRow h b (h[b]?) o 32 cs.toList := storeP_row T121.sz cs h b o
theorem T122.ze : tzero Tryd.prog 122 = some (.agg (Bs 64 (fun _ => 0)).toArray) := by kernel_rfl
theorem T122.pl : (Bs 64 (fun _ => 0)).all plainC = true := by kernel_rfl
@[go_sem] theorem T122.bld (p : Nat × Value) (ps : List (Nat × Value)) : buildA Tryd.prog 122 (p :: ps) = bldR (fillK (fun i => some (i * 1, 1)) (some (Bs 64 (fun _ => 0))) (p :: ps)) := build_parts T122.ze T122.pl Tryd.underlying122 T5.sz _
theorem T122.sz : tsz Tryd.prog 122 = some 64 := by kernel_rfl
@[go_sem] theorem T122.store (h : List Blk) (b o : Nat) (cs : Array Value) : storeP Tryd.prog h 122 (.agg cs) (pt b o) = storeRow h b (h[b]?) o 64 cs.toList := storeP_row T122.sz cs h b o
theorem T113.ze : tzero Tryd.prog 113 = some (.agg (Vs 20 (fun _ => .int .u64 0)).toArray) := by kernel_rfl
theorem T113.pl : (Vs 20 (fun _ => .int .u64 0)).all plainC = true := by kernel_rfl
theorem T87.sz : tsz Tryd.prog 87 = some 1 := by kernel_rfl
@[go_sem] theorem T113.bld (p : Nat × Value) (ps : List (Nat × Value)) : buildA Tryd.prog 113 (p :: ps) = bldR (fillK (fun i => some (i * 1, 1)) (some (Vs 20 (fun _ => .int .u64 0))) (p :: ps)) := build_parts T113.ze T113.pl Tryd.underlying113 T87.sz _
theorem T113.sz : tsz Tryd.prog 113 = some 20 := by kernel_rfl
@[go_sem] theorem T113.store (h : List Blk) (b o : Nat) (cs : Array Value) : storeP Tryd.prog h 113 (.agg cs) (pt b o) = storeRow h b (h[b]?) o 20 cs.toList := storeP_row T113.sz cs h b o
theorem T110.pl : ([B 0] ++ [B 0]).all plainC = true := by kernel_rfl
theorem T110.places : placesA Tryd.prog 110 = some [(0, 1), (1, 1)] := by kernel_rfl
@[go_sem] theorem T110.bld (p : Nat × Value) (ps : List (Nat × Value)) : buildA Tryd.prog 110 (p :: ps) = bldR (fillK (fun i => [(0, 1), (1, 1)][i]?) (some ([B 0] ++ [B 0])) (p :: ps)) := build_parts_struct T110.ze T110.pl Tryd.underlying110 T110.places _
theorem T111.ze : tzero Tryd.prog 111 = some (.agg ([B 0] ++ [B 0] ++ [B 0] ++ [B 0] ++ [B 0] ++ [B 0] ++ [B 0] ++ [B 0] ++ [B 0] ++ [B 0] ++ [B 0] ++ [B 0] ++ [B 0] ++ [B 0] ++ [B 0] ++ [B 0] ++ [B 0] ++ [B 0] ++ [B 0] ++ [B 0] ++ [B 0] ++ [B 0] ++ [B 0] ++ [B 0] ++ [B 0] ++ [B 0] ++ [B 0] ++ [B 0] ++ [B 0] ++ [B 0] ++ [B 0] ++ [B 0]).toArray) := by kernel_rfl
theorem T111.pl : ([B 0] ++ [B 0] ++ [B 0] ++ [B 0] ++ [B 0] ++ [B 0] ++ [B 0] ++ [B 0] ++ [B 0] ++ [B 0] ++ [B 0] ++ [B 0] ++ [B 0] ++ [B 0] ++ [B 0] ++ [B 0] ++ [B 0] ++ [B 0] ++ [B 0] ++ [B 0] ++ [B 0] ++ [B 0] ++ [B 0] ++ [B 0] ++ [B 0] ++ [B 0] ++ [B 0] ++ [B 0] ++ [B 0] ++ [B 0] ++ [B 0] ++ [B 0]).all plainC = true := by kernel_rfl
@[go_sem] theorem T111.bld (p : Nat × Value) (ps : List (Nat × Value)) : buildA Tryd.prog 111 (p :: ps) = bldR (fillK (fun i => some (i * 2, 2)) (some ([B 0] ++ [B 0] ++ [B 0] ++ [B 0] ++ [B 0] ++ [B 0] ++ [B 0] ++ [B 0] ++ [B 0] ++ [B 0] ++ [B 0] ++ [B 0] ++ [B 0] ++ [B 0] ++ [B 0] ++ [B 0] ++ [B 0] ++ [B 0] ++ [B 0] ++ [B 0] ++ [B 0] ++ [B 0] ++ [B 0] ++ [B 0] ++ [B 0] ++ [B 0] ++ [B 0] ++ [B 0] ++ [B 0] ++ [B 0] ++ [B 0] ++ [B 0])) (p :: ps)) := build_parts T111.ze T111.pl Tryd.underlying111 T110.sz _
theorem T111.sz : tsz Tryd.prog 111 = some 32 := by kernel_rfl
@[go_sem] theorem T111.store (h : List Blk) (b o : Nat) (cs : Array Value) : storeP Tryd.prog h 111 (.agg cs) (pt b o) = storeRow h b (h[b]?) o 32 cs.toList := storeP_row T111.sz cs h b o
theorem mixedOk : Tryd.prog.follows .mixedOrders = true := by kernel_rfl

end Go.Proofs.YtpomeeakmpbocaaDoor
