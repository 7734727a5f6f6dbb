/- The operations at the types of this seat, as a walk reckons them; written by a program of the prover's. -/
import Derived.Test.YtmkhafmkllfmkaaDoorRows
import Derived.Test.YtmkhafmkllfmkaaDoorAbsI
import Derived.Test.YtmkhafmkllfmkaaDoorAbsN
namespace Go.Proofs.YtmkhafmkllfmkaaDoor
set_option linter.unusedSimpArgs false
set_option linter.unusedVariables false
open Go.Abs
set_option maxRecDepth 100000

@[go_sem] theorem T9.len (s : ByteArray) : alen Tryd.prog 9 (.string s) = some (.int .i64 s.size) := len_str Tryd.underlying9 s
theorem T30.ze : tzero Tryd.prog 30 = some (.agg (Ci 0 (fun _ => 0) (fun _ => 0) (fun _ => 0) 0).toArray) := by kernel_rfl
@[go_sem] theorem T30.alloc (h : List Blk) : allocA Tryd.prog h 30 = some (pt h.length 0, h ++ [⟨Ci 0 (fun _ => 0) (fun _ => 0) (fun _ => 0) 0, true⟩]) := alloc_of T30.ze rfl (by kernel_rfl) h
theorem T30.sz : tsz Tryd.prog 30 = some 290 := by kernel_rfl
@[go_sem] theorem T30.store (h : List Blk) (b o : Nat) (cs : Array Value) : storeP Tryd.prog h 30 (.agg cs) (pt b o) = storeRow h b (h[b]?) o 290 cs.toList := storeP_row T30.sz cs h b o
theorem T30.ag : tagg Tryd.prog 30 = some true := by kernel_rfl
@[go_sem] theorem T30.load (h : List Blk) (b o : Nat) : loadP Tryd.prog h 30 (pt b o) = loadRow (h[b]?) o 290 := loadP_row T30.ag T30.sz h b o
theorem T30.pl : (Ci 0 (fun _ => 0) (fun _ => 0) (fun _ => 0) 0).all plainC = true := by kernel_rfl
theorem T30.places : placesA Tryd.prog 30 = some [(0, 1), (1, 256), (257, 16), (273, 16), (289, 1)] := by kernel_rfl
@[go_sem] theorem T30.bld0 : buildA Tryd.prog 30 [] = some (.agg (Ci 0 (fun _ => 0) (fun _ => 0) (fun _ => 0) 0).toArray) := build_nil_struct T30.ze T30.pl Tryd.underlying30 T30.places
@[go_sem] theorem T37.len (b o n es : Nat) : alen Tryd.prog 37 (sl b o n es) = some (.int .i64 n) := len_sl Tryd.underlying37 b o n es
@[go_sem] theorem T37.lenN (n c : Nat) : alen Tryd.prog 37 (.slice none n c) = some (.int .i64 n) := len_nilS Tryd.underlying37 n c
theorem T9.sz : tsz Tryd.prog 9 = some 1 := by kernel_rfl
@[go_sem] theorem T37.ixa (b o len : Nat) (k : IntKind) (n : Int) : idxAddrA Tryd.prog 37 (sl b o len 1) (.int k n) = ixR (aidx n len) b o 1 := ixa_sl Tryd.underlying37 T9.sz b o len k n
@[go_sem] theorem T37.ixaB (b o len : Nat) (x : UInt8) : idxAddrA Tryd.prog 37 (sl b o len 1) (B x) = ixR (aidx x.toNat len) b o 1 := ixa_sl_B Tryd.underlying37 T9.sz b o len x
theorem T9.ag : tagg Tryd.prog 9 = some false := by kernel_rfl
@[go_sem] theorem T9.load (h : List Blk) (b o : Nat) : loadP Tryd.prog h 9 (pt b o) = loadCell (h[b]?) o := loadP_cell T9.ag h b o
theorem T23.ze : tzero Tryd.prog 23 = some (.agg (Bs 256 (fun _ => 0)).toArray) := by kernel_rfl
@[go_sem] theorem T23.alloc (h : List Blk) : allocA Tryd.prog h 23 = some (pt h.length 0, h ++ [⟨Bs 256 (fun _ => 0), true⟩]) := alloc_of T23.ze rfl (by kernel_rfl) h
theorem T23.sz : tsz Tryd.prog 23 = some 256 := by kernel_rfl
@[go_sem] theorem T23.store (h : List Blk) (b o : Nat) (cs : Array Value) : storeP Tryd.prog h 23 (.agg cs) (pt b o) = storeRow h b (h[b]?) o 256 cs.toList := storeP_row T23.sz cs h b o
@[go_sem] theorem T43.len (b o n es : Nat) : alen Tryd.prog 43 (sl b o n es) = some (.int .i64 n) := len_sl Tryd.underlying43 b o n es
@[go_sem] theorem T43.lenN (n c : Nat) : alen Tryd.prog 43 (.slice none n c) = some (.int .i64 n) := len_nilS Tryd.underlying43 n c
theorem T23.ag : tagg Tryd.prog 23 = some true := by kernel_rfl
@[go_sem] theorem T23.load (h : List Blk) (b o : Nat) : loadP Tryd.prog h 23 (pt b o) = loadRow (h[b]?) o 256 := loadP_row T23.ag T23.sz h b o
@[go_sem] theorem T28.tap {b o len es : Nat} (hl : 16 ≤ len) : toArrPtrA Tryd.prog 28 (sl b o len es) = some (pt b o) := tapG Tryd.underlying28 (by decide) hl
theorem T28.ag : tagg Tryd.prog 28 = some true := by kernel_rfl
theorem T28.sz : tsz Tryd.prog 28 = some 16 := by kernel_rfl
@[go_sem] theorem T28.load (h : List Blk) (b o : Nat) : loadP Tryd.prog h 28 (pt b o) = loadRow (h[b]?) o 16 := loadP_row T28.ag T28.sz h b o
theorem T2.sz : tsz Tryd.prog 2 = some 1 := by kernel_rfl
@[go_sem] theorem T30.fla0 (b o : Nat) : fieldAddrA Tryd.prog 30 0 (pt b o) = some (pt b (o + 0)) := fla (f := 0) (o' := 0) (ft := 2) (z := 1) Tryd.underlying30 rfl rfl rfl T2.sz (by decide) b o
@[go_sem] theorem T2.store_int (h : List Blk) (b o : Nat) (n : Int) : storeP Tryd.prog h 2 (.int .i64 n) (pt b o) = storeCell h b (h[b]?) o (.int .i64 n) := storeP_int T2.sz .i64 n h b o
@[go_sem] theorem T30.fla1 (b o : Nat) : fieldAddrA Tryd.prog 30 1 (pt b o) = some (pt b (o + 1)) := fla (f := 1) (o' := 1) (ft := 23) (z := 256) Tryd.underlying30 rfl rfl rfl T23.sz (by decide) b o
@[go_sem] theorem T30.fla3 (b o : Nat) : fieldAddrA Tryd.prog 30 3 (pt b o) = some (pt b (o + 273)) := fla (f := 3) (o' := 273) (ft := 28) (z := 16) Tryd.underlying30 rfl rfl rfl T28.sz (by decide) b o
@[go_sem] theorem T28.store (h : List Blk) (b o : Nat) (cs : Array Value) : storeP Tryd.prog h 28 (.agg cs) (pt b o) = storeRow h b (h[b]?) o 16 cs.toList := storeP_row T28.sz cs h b o
@[go_sem] theorem T30.fla4 (b o : Nat) : fieldAddrA Tryd.prog 30 4 (pt b o) = some (pt b (o + 289)) := fla (f := 4) (o' := 289) (ft := 2) (z := 1) Tryd.underlying30 rfl rfl rfl T2.sz (by decide) b o
theorem T5.sz : tsz Tryd.prog 5 = some 1 := by kernel_rfl
@[go_sem] theorem T43.slaN (h : List Blk) (lo hi : Option Value) : aslice Tryd.prog h 43 (.slice none 0 0) lo hi = slcNil (lowA lo) (highA 0 hi) := sla_nil Tryd.underlying43 T5.sz h lo hi
@[go_sem] theorem T43.sla (h : List Blk) (b o len : Nat) (lo hi : Option Value) : aslice Tryd.prog h 43 (sl b o len 1) lo hi = slcSl b o 1 (lowA lo) (highA len hi) := sla_sl Tryd.underlying43 T5.sz h b o len lo hi
@[go_sem] theorem T24.tap {b o len es : Nat} (hl : 4 ≤ len) : toArrPtrA Tryd.prog 24 (sl b o len es) = some (pt b o) := tapG Tryd.underlying24 (by decide) hl
theorem T24.ag : tagg Tryd.prog 24 = some true := by kernel_rfl
theorem T24.sz : tsz Tryd.prog 24 = some 4 := by kernel_rfl
@[go_sem] theorem T24.load (h : List Blk) (b o : Nat) : loadP Tryd.prog h 24 (pt b o) = loadRow (h[b]?) o 4 := loadP_row T24.ag T24.sz h b o
theorem T26.sz : tsz Tryd.prog 26 = some 16 := by kernel_rfl
@[go_sem] theorem T30.fla2 (b o : Nat) : fieldAddrA Tryd.prog 30 2 (pt b o) = some (pt b (o + 257)) := fla (f := 2) (o' := 257) (ft := 26) (z := 16) Tryd.underlying30 rfl rfl rfl T26.sz (by decide) b o
@[go_sem] theorem T26.ixa (b o : Nat) (k : IntKind) (n : Int) : idxAddrA Tryd.prog 26 (pt b o) (.int k n) = ixR (aidx n 4) b o 4 := ixa_arr Tryd.underlying26 T24.sz b o k n
@[go_sem] theorem T26.ixaB (b o : Nat) (x : UInt8) : idxAddrA Tryd.prog 26 (pt b o) (B x) = ixR (aidx x.toNat 4) b o 4 := ixa_arr_B Tryd.underlying26 T24.sz b o x
@[go_sem] theorem T24.store (h : List Blk) (b o : Nat) (cs : Array Value) : storeP Tryd.prog h 24 (.agg cs) (pt b o) = storeRow h b (h[b]?) o 4 cs.toList := storeP_row T24.sz cs h b o
theorem T2.ag : tagg Tryd.prog 2 = some false := by kernel_rfl
@[go_sem] theorem T2.load (h : List Blk) (b o : Nat) : loadP Tryd.prog h 2 (pt b o) = loadCell (h[b]?) o := loadP_cell T2.ag h b o
theorem T26.ag : tagg Tryd.prog 26 = some true := by kernel_rfl
@[go_sem] theorem T26.load (h : List Blk) (b o : Nat) : loadP Tryd.prog h 26 (pt b o) = loadRow (h[b]?) o 16 := loadP_row T26.ag T26.sz h b o
@[go_sem] theorem T23.tap {b o len es : Nat} (hl : 256 ≤ len) : toArrPtrA Tryd.prog 23 (sl b o len es) = some (pt b o) := tapG Tryd.underlying23 (by decide) hl
@[go_sem] theorem T30.bld (p : Nat × Value) (ps : List (Nat × Value)) : buildA Tryd.prog 30 (p :: ps) = bldR (fillK (fun i => [(0, 1), (1, 256), (257, 16), (273, 16), (289, 1)][i]?) (some (Ci 0 (fun _ => 0) (fun _ => 0) (fun _ => 0) 0)) (p :: ps)) := build_parts_struct T30.ze T30.pl Tryd.underlying30 T30.places _
theorem T23.pl : (Bs 256 (fun _ => 0)).all plainC = true := by kernel_rfl
@[go_sem] theorem T23.bld0 : buildA Tryd.prog 23 [] = some (.agg (Bs 256 (fun _ => 0)).toArray) := build_nil T23.ze T23.pl Tryd.underlying23 T5.sz
theorem T5.ze : tzero Tryd.prog 5 = some (B 0) := by kernel_rfl
@[go_sem] theorem T43.bs0 (h : List Blk) : buildSliceA Tryd.prog h 43 0 [] = some (sl h.length 0 0 1, h ++ [⟨[], true⟩]) := bs_nil Tryd.underlying43 T5.sz T5.ze rfl (by kernel_rfl) (by kernel_rfl) h
@[go_sem] theorem T9.ix (s : ByteArray) (k : IntKind) (n : Int) : indexA Tryd.prog 9 (.string s) (.int k n) = chrC (aidx n s.size) s := ix_str Tryd.underlying9 s k n
@[go_sem] theorem T43.bs1 (h : List Blk) (ps : List (Nat × Value)) : buildSliceA Tryd.prog h 43 1 ps = litR h 1 1 (fillK (fun i => some (i * 1, 1)) (some [B 0]) ps) := bs_cells Tryd.underlying43 T5.sz T5.ze rfl rfl h (by decide) ps
theorem T43.ei : elemInfo Tryd.prog 43 = some (5, 1, 1) := by kernel_rfl
@[go_sem] theorem T43.app (h : List Blk) (s : Value) (b o m : Nat) : appendA Tryd.prog h 43 43 s (sl b o m 1) = appR h 1 1 s (srcR (h[b]?) o m 1) := by rw [append_of T43.ei]; simp only [srcA_sl]
@[go_sem] theorem T23.ixa (b o : Nat) (k : IntKind) (n : Int) : idxAddrA Tryd.prog 23 (pt b o) (.int k n) = ixR (aidx n 256) b o 1 := ixa_arr Tryd.underlying23 T5.sz b o k n
@[go_sem] theorem T23.ixaB (b o : Nat) (x : UInt8) : idxAddrA Tryd.prog 23 (pt b o) (B x) = ixR (aidx x.toNat 256) b o 1 := ixa_arr_B Tryd.underlying23 T5.sz b o x
theorem T5.ag : tagg Tryd.prog 5 = some false := by kernel_rfl
@[go_sem] theorem T5.load (h : List Blk) (b o : Nat) : loadP Tryd.prog h 5 (pt b o) = loadCell (h[b]?) o := loadP_cell T5.ag h b o
@[go_sem] theorem T28.ixa (b o : Nat) (k : IntKind) (n : Int) : idxAddrA Tryd.prog 28 (pt b o) (.int k n) = ixR (aidx n 16) b o 1 := ixa_arr Tryd.underlying28 T5.sz b o k n
@[go_sem] theorem T28.ixaB (b o : Nat) (x : UInt8) : idxAddrA Tryd.prog 28 (pt b o) (B x) = ixR (aidx x.toNat 16) b o 1 := ixa_arr_B Tryd.underlying28 T5.sz b o x
theorem T9.ze : tzero Tryd.prog 9 = some (.string .empty) := by kernel_rfl
@[go_sem] theorem T37.bs0 (h : List Blk) : buildSliceA Tryd.prog h 37 0 [] = some (sl h.length 0 0 1, h ++ [⟨[], true⟩]) := bs_nil Tryd.underlying37 T9.sz T9.ze rfl (by kernel_rfl) (by kernel_rfl) h
@[go_sem] theorem T9.sla (h : List Blk) (s : ByteArray) (lo hi : Option Value) : aslice Tryd.prog h 9 (.string s) lo hi = slcStr s (lowA lo) (highA s.size hi) := sla_str Tryd.underlying9 h s lo hi
@[go_sem] theorem T37.bs1 (h : List Blk) (ps : List (Nat × Value)) : buildSliceA Tryd.prog h 37 1 ps = litR h 1 1 (fillK (fun i => some (i * 1, 1)) (some [.string .empty]) ps) := bs_cells Tryd.underlying37 T9.sz T9.ze rfl rfl h (by decide) ps
theorem T37.ei : elemInfo Tryd.prog 37 = some (9, 1, 16) := by kernel_rfl
@[go_sem] theorem T37.app (h : List Blk) (s : Value) (b o m : Nat) : appendA Tryd.prog h 37 37 s (sl b o m 1) = appR h 1 16 s (srcR (h[b]?) o m 1) := by rw [append_of T37.ei]; simp only [srcA_sl]
@[go_sem] theorem T2.conv5 (h : List Blk) (k : IntKind) (n : Int) : convS Tryd.prog h 2 5 (.int k n) = some (.int .u8 (IntKind.u8.wrap n)) := conv_int Tryd.underlying2 Tryd.underlying5 h k n
@[go_sem] theorem T5.conv2 (h : List Blk) (x : UInt8) : convS Tryd.prog h 5 2 (B x) = some (.int .i64 (IntKind.i64.wrap x.toNat)) := conv_B Tryd.underlying5 Tryd.underlying2 h x
theorem T26.ze : tzero Tryd.prog 26 = some (.agg (Bs 16 (fun _ => 0)).toArray) := by kernel_rfl
@[go_sem] theorem T26.alloc (h : List Blk) : allocA Tryd.prog h 26 = some (pt h.length 0, h ++ [⟨Bs 16 (fun _ => 0), true⟩]) := alloc_of T26.ze rfl (by kernel_rfl) h
@[go_sem] theorem T26.store (h : List Blk) (b o : Nat) (cs : Array Value) : storeP Tryd.prog h 26 (.agg cs) (pt b o) = storeRow h b (h[b]?) o 16 cs.toList := storeP_row T26.sz cs h b o
theorem T9.by' : tbytes Tryd.prog 9 = some 16 := by kernel_rfl
@[go_sem] theorem T37.ms (h : List Blk) (k k' : IntKind) {n : Int} (h0 : 0 ≤ n) (hr : n * 16 ≤ 140737488355328) : makeSliceA Tryd.prog h 37 (.int k n) (.int k' n) = some (sl h.length 0 n.toNat 1, h ++ [⟨repA [.string .empty] n.toNat, true⟩]) := ms_of Tryd.underlying37 T9.sz T9.by' (by decide) T9.ze rfl (by kernel_rfl) (by kernel_rfl) h k k' h0 hr
@[go_sem] theorem T9.store_string (h : List Blk) (b o : Nat) (x : ByteArray) : storeP Tryd.prog h 9 (.string x) (pt b o) = storeCell h b (h[b]?) o (.string x) := storeP_string T9.sz x h b o
@[go_sem] theorem T37.slaN (h : List Blk) (lo hi : Option Value) : aslice Tryd.prog h 37 (.slice none 0 0) lo hi = slcNil (lowA lo) (highA 0 hi) := sla_nil Tryd.underlying37 T9.sz h lo hi
@[go_sem] theorem T37.sla (h : List Blk) (b o len : Nat) (lo hi : Option Value) : aslice Tryd.prog h 37 (sl b o len 1) lo hi = slcSl b o 1 (lowA lo) (highA len hi) := sla_sl Tryd.underlying37 T9.sz h b o len lo hi
theorem T75.ze : tzero Tryd.prog 75 = some (.agg (Vs 256 (fun _ => .bool false)).toArray) := by kernel_rfl
theorem T75.pl : (Vs 256 (fun _ => .bool false)).all plainC = true := by kernel_rfl
theorem T4.sz : tsz Tryd.prog 4 = some 1 := by kernel_rfl
@[go_sem] theorem T75.bld0 : buildA Tryd.prog 75 [] = some (.agg (Vs 256 (fun _ => .bool false)).toArray) := build_nil T75.ze T75.pl Tryd.underlying75 T4.sz
@[go_sem] theorem T75.alloc (h : List Blk) : allocA Tryd.prog h 75 = some (pt h.length 0, h ++ [⟨Vs 256 (fun _ => .bool false), true⟩]) := alloc_of T75.ze rfl (by kernel_rfl) h
theorem T75.sz : tsz Tryd.prog 75 = some 256 := by kernel_rfl
@[go_sem] theorem T75.store (h : List Blk) (b o : Nat) (cs : Array Value) : storeP Tryd.prog h 75 (.agg cs) (pt b o) = storeRow h b (h[b]?) o 256 cs.toList := storeP_row T75.sz cs h b o
@[go_sem] theorem T23.ix (l : List Value) (k : IntKind) (n : Int) : indexA Tryd.prog 23 (.agg l.toArray) (.int k n) = ixC (aidx n 256) l := ix_arr_cell Tryd.underlying23 T5.sz T5.ag l k n
@[go_sem] theorem T23.ixB (l : List Value) (x : UInt8) : indexA Tryd.prog 23 (.agg l.toArray) (B x) = ixC (aidx x.toNat 256) l := ix_arr_cell_B Tryd.underlying23 T5.sz T5.ag l x
@[go_sem] theorem T75.ixa (b o : Nat) (k : IntKind) (n : Int) : idxAddrA Tryd.prog 75 (pt b o) (.int k n) = ixR (aidx n 256) b o 1 := ixa_arr Tryd.underlying75 T4.sz b o k n
@[go_sem] theorem T75.ixaB (b o : Nat) (x : UInt8) : idxAddrA Tryd.prog 75 (pt b o) (B x) = ixR (aidx x.toNat 256) b o 1 := ixa_arr_B Tryd.underlying75 T4.sz b o x
@[go_sem] theorem T4.store_bool (h : List Blk) (b o : Nat) (x : Bool) : storeP Tryd.prog h 4 (.bool x) (pt b o) = storeCell h b (h[b]?) o (.bool x) := storeP_bool T4.sz x h b o
@[go_sem] theorem T75.sla (h : List Blk) (b o : Nat) (lo hi : Option Value) : aslice Tryd.prog h 75 (pt b o) lo hi = slcArr (h[b]?) b o 256 1 (lowA lo) (highA 256 hi) := sla_arr Tryd.underlying75 T4.sz h b o lo hi
@[go_sem] theorem T28.ix (l : List Value) (k : IntKind) (n : Int) : indexA Tryd.prog 28 (.agg l.toArray) (.int k n) = ixC (aidx n 16) l := ix_arr_cell Tryd.underlying28 T5.sz T5.ag l k n
@[go_sem] theorem T28.ixB (l : List Value) (x : UInt8) : indexA Tryd.prog 28 (.agg l.toArray) (B x) = ixC (aidx x.toNat 16) l := ix_arr_cell_B Tryd.underlying28 T5.sz T5.ag l x
@[go_sem] theorem T28.sla (h : List Blk) (b o : Nat) (lo hi : Option Value) : aslice Tryd.prog h 28 (pt b o) lo hi = slcArr (h[b]?) b o 16 1 (lowA lo) (highA 16 hi) := sla_arr Tryd.underlying28 T5.sz h b o lo hi
@[go_sem] theorem T24.ixa (b o : Nat) (k : IntKind) (n : Int) : idxAddrA Tryd.prog 24 (pt b o) (.int k n) = ixR (aidx n 4) b o 1 := ixa_arr Tryd.underlying24 T5.sz b o k n
@[go_sem] theorem T24.ixaB (b o : Nat) (x : UInt8) : idxAddrA Tryd.prog 24 (pt b o) (B x) = ixR (aidx x.toNat 4) b o 1 := ixa_arr_B Tryd.underlying24 T5.sz b o x
theorem T4.ag : tagg Tryd.prog 4 = some false := by kernel_rfl
@[go_sem] theorem T4.load (h : List Blk) (b o : Nat) : loadP Tryd.prog h 4 (pt b o) = loadCell (h[b]?) o := loadP_cell T4.ag h b o
theorem T83.ze : tzero Tryd.prog 83 = some (.agg (Vs 16 (fun _ => .bool false)).toArray) := by kernel_rfl
theorem T83.pl : (Vs 16 (fun _ => .bool false)).all plainC = true := by kernel_rfl
@[go_sem] theorem T83.bld0 : buildA Tryd.prog 83 [] = some (.agg (Vs 16 (fun _ => .bool false)).toArray) := build_nil T83.ze T83.pl Tryd.underlying83 T4.sz
@[go_sem] theorem T83.alloc (h : List Blk) : allocA Tryd.prog h 83 = some (pt h.length 0, h ++ [⟨Vs 16 (fun _ => .bool false), true⟩]) := alloc_of T83.ze rfl (by kernel_rfl) h
theorem T83.sz : tsz Tryd.prog 83 = some 16 := by kernel_rfl
@[go_sem] theorem T83.store (h : List Blk) (b o : Nat) (cs : Array Value) : storeP Tryd.prog h 83 (.agg cs) (pt b o) = storeRow h b (h[b]?) o 16 cs.toList := storeP_row T83.sz cs h b o
@[go_sem] theorem T83.ixa (b o : Nat) (k : IntKind) (n : Int) : idxAddrA Tryd.prog 83 (pt b o) (.int k n) = ixR (aidx n 16) b o 1 := ixa_arr Tryd.underlying83 T4.sz b o k n
@[go_sem] theorem T83.ixaB (b o : Nat) (x : UInt8) : idxAddrA Tryd.prog 83 (pt b o) (B x) = ixR (aidx x.toNat 16) b o 1 := ixa_arr_B Tryd.underlying83 T4.sz b o x
theorem T26.pl : (Bs 16 (fun _ => 0)).all plainC = true := by kernel_rfl
@[go_sem] theorem T26.bld0 : buildA Tryd.prog 26 [] = some (.agg (Bs 16 (fun _ => 0)).toArray) := build_nil T26.ze T26.pl Tryd.underlying26 T24.sz
@[go_sem] theorem T5.store_B (h : List Blk) (b o : Nat) (x : UInt8) : storeP Tryd.prog h 5 (B x) (pt b o) = storeCell h b (h[b]?) o (B x) := storeP_B T5.sz x h b o
@[go_sem] theorem T43.ixa (b o len : Nat) (k : IntKind) (n : Int) : idxAddrA Tryd.prog 43 (sl b o len 1) (.int k n) = ixR (aidx n len) b o 1 := ixa_sl Tryd.underlying43 T5.sz b o len k n
@[go_sem] theorem T43.ixaB (b o len : Nat) (x : UInt8) : idxAddrA Tryd.prog 43 (sl b o len 1) (B x) = ixR (aidx x.toNat len) b o 1 := ixa_sl_B Tryd.underlying43 T5.sz b o len x
@[go_sem] theorem T2.conv90 (h : List Blk) (k : IntKind) (n : Int) : convS Tryd.prog h 2 90 (.int k n) = some (.int .u64 (IntKind.u64.wrap n)) := conv_int Tryd.underlying2 Tryd.underlying90 h k n
theorem T24.ze : tzero Tryd.prog 24 = some (.agg (Bs 4 (fun _ => 0)).toArray) := by kernel_rfl
@[go_sem] theorem T24.alloc (h : List Blk) : allocA Tryd.prog h 24 = some (pt h.length 0, h ++ [⟨Bs 4 (fun _ => 0), true⟩]) := alloc_of T24.ze rfl (by kernel_rfl) h
@[go_sem] theorem T5.conv21 (h : List Blk) (x : UInt8) : convS Tryd.prog h 5 21 (B x) = some (.int .i32 (IntKind.i32.wrap x.toNat)) := conv_B Tryd.underlying5 Tryd.underlying21 h x
-- not served: Op.build [107, ['list', ['tuple', 0, ['app', ['c', 'Operand.tmp'], 5]], ['tuple', 1, ['ap (no plain zero: interface)
-- not served: Op.build [107, ['list', ['tuple', 0, ['app', ['c', 'Operand.tmp'], 5]], ['tuple', 1, ['ap (no plain zero: interface)
-- not served: Op.build [107, ['list', ['tuple', 0, ['app', ['c', 'Operand.tmp'], 7]], ['tuple', 1, ['ap (no plain zero: interface)
-- not served: Op.build [107, ['list', ['tuple', 0, ['app', ['c', 'Operand.tmp'], 7]], ['tuple', 1, ['ap (no plain zero: interface)
@[go_sem] theorem T77.len (b o n es : Nat) : alen Tryd.prog 77 (sl b o n es) = some (.int .i64 n) := len_sl Tryd.underlying77 b o n es
@[go_sem] theorem T77.lenN (n c : Nat) : alen Tryd.prog 77 (.slice none n c) = some (.int .i64 n) := len_nilS Tryd.underlying77 n c
@[go_sem] theorem T77.ixa (b o len : Nat) (k : IntKind) (n : Int) : idxAddrA Tryd.prog 77 (sl b o len 1) (.int k n) = ixR (aidx n len) b o 1 := ixa_sl Tryd.underlying77 T4.sz b o len k n
@[go_sem] theorem T77.ixaB (b o len : Nat) (x : UInt8) : idxAddrA Tryd.prog 77 (sl b o len 1) (B x) = ixR (aidx x.toNat len) b o 1 := ixa_sl_B Tryd.underlying77 T4.sz b o len x
theorem T4.isb : isBoolT Tryd.prog 4 = true := by kernel_rfl
@[go_sem] theorem T4.eql (a b : Bool) : abin Tryd.prog .eql 4 (.bool a) (.bool b) = some (.bool (a == b)) := eql_bool T4.isb a b
@[go_sem] theorem T4.neq (a b : Bool) : abin Tryd.prog .neq 4 (.bool a) (.bool b) = some (.bool (!(a == b))) := neq_bool T4.isb a b
@[go_sem] theorem T22.ixa (b o : Nat) (k : IntKind) (n : Int) : idxAddrA Tryd.prog 22 (pt b o) (.int k n) = ixR (aidx n 256) b o 1 := ixa_arr Tryd.underlying22 T5.sz b o k n
@[go_sem] theorem T22.ixaB (b o : Nat) (x : UInt8) : idxAddrA Tryd.prog 22 (pt b o) (B x) = ixR (aidx x.toNat 256) b o 1 := ixa_arr_B Tryd.underlying22 T5.sz b o x
@[go_sem] theorem T5.conv3 (h : List Blk) (x : UInt8) : convS Tryd.prog h 5 3 (B x) = some (.int .i64 (IntKind.i64.wrap x.toNat)) := conv_B Tryd.underlying5 Tryd.underlying3 h x
theorem T118.sz : tsz Tryd.prog 118 = some 2 := by kernel_rfl
@[go_sem] theorem T119.ixa (b o : Nat) (k : IntKind) (n : Int) : idxAddrA Tryd.prog 119 (pt b o) (.int k n) = ixR (aidx n 16) b o 2 := ixa_arr Tryd.underlying119 T118.sz b o k n
@[go_sem] theorem T119.ixaB (b o : Nat) (x : UInt8) : idxAddrA Tryd.prog 119 (pt b o) (B x) = ixR (aidx x.toNat 16) b o 2 := ixa_arr_B Tryd.underlying119 T118.sz b o x
theorem T118.ag : tagg Tryd.prog 118 = some true := by kernel_rfl
@[go_sem] theorem T118.load (h : List Blk) (b o : Nat) : loadP Tryd.prog h 118 (pt b o) = loadRow (h[b]?) o 2 := loadP_row T118.ag T118.sz h b o
theorem T118.ze : tzero Tryd.prog 118 = some (.agg ([B 0] ++ [B 0]).toArray) := by kernel_rfl
@[go_sem] theorem T118.alloc (h : List Blk) : allocA Tryd.prog h 118 = some (pt h.length 0, h ++ [⟨[B 0] ++ [B 0], true⟩]) := alloc_of T118.ze rfl (by kernel_rfl) h
@[go_sem] theorem T118.store (h : List Blk) (b o : Nat) (cs : Array Value) : storeP Tryd.prog h 118 (.agg cs) (pt b o) = storeRow h b (h[b]?) o 2 cs.toList := storeP_row T118.sz cs h b o
@[go_sem] theorem T118.fla0 (b o : Nat) : fieldAddrA Tryd.prog 118 0 (pt b o) = some (pt b (o + 0)) := fla (f := 0) (o' := 0) (ft := 5) (z := 1) Tryd.underlying118 rfl rfl rfl T5.sz (by decide) b o
@[go_sem] theorem T118.fla1 (b o : Nat) : fieldAddrA Tryd.prog 118 1 (pt b o) = some (pt b (o + 1)) := fla (f := 1) (o' := 1) (ft := 5) (z := 1) Tryd.underlying118 rfl rfl rfl T5.sz (by decide) b o
theorem T126.ze : tzero Tryd.prog 126 = some (.agg ([.string .empty]).toArray) := by kernel_rfl
theorem T126.pl : ([.string .empty]).all plainC = true := by kernel_rfl
theorem T126.places : placesA Tryd.prog 126 = some [(0, 1)] := by kernel_rfl
@[go_sem] theorem T126.bld (p : Nat × Value) (ps : List (Nat × Value)) : buildA Tryd.prog 126 (p :: ps) = bldR (fillK (fun i => [(0, 1)][i]?) (some ([.string .empty])) (p :: ps)) := build_parts_struct T126.ze T126.pl Tryd.underlying126 T126.places _
@[go_sem] theorem T90.conv5 (h : List Blk) (k : IntKind) (n : Int) : convS Tryd.prog h 90 5 (.int k n) = some (.int .u8 (IntKind.u8.wrap n)) := conv_int Tryd.underlying90 Tryd.underlying5 h k n
@[go_sem] theorem T60.conv120 (h : List Blk) (k : IntKind) (n : Int) : convS Tryd.prog h 60 120 (.int k n) = some (.int .u32 (IntKind.u32.wrap n)) := conv_int Tryd.underlying60 Tryd.underlying120 h k n
@[go_sem] theorem T133.ixa (b o : Nat) (k : IntKind) (n : Int) : idxAddrA Tryd.prog 133 (pt b o) (.int k n) = ixR (aidx n 32) b o 1 := ixa_arr Tryd.underlying133 T5.sz b o k n
@[go_sem] theorem T133.ixaB (b o : Nat) (x : UInt8) : idxAddrA Tryd.prog 133 (pt b o) (B x) = ixR (aidx x.toNat 32) b o 1 := ixa_arr_B Tryd.underlying133 T5.sz b o x
@[go_sem] theorem T134.ixa (b o : Nat) (k : IntKind) (n : Int) : idxAddrA Tryd.prog 134 (pt b o) (.int k n) = ixR (aidx n 64) b o 1 := ixa_arr Tryd.underlying134 T5.sz b o k n
@[go_sem] theorem T134.ixaB (b o : Nat) (x : UInt8) : idxAddrA Tryd.prog 134 (pt b o) (B x) = ixR (aidx x.toNat 64) b o 1 := ixa_arr_B Tryd.underlying134 T5.sz b o x
theorem T133.ze : tzero Tryd.prog 133 = some (.agg (Bs 32 (fun _ => 0)).toArray) := by kernel_rfl
theorem T133.pl : (Bs 32 (fun _ => 0)).all plainC = true := by kernel_rfl
@[go_sem] theorem T133.bld (p : Nat × Value) (ps : List (Nat × Value)) : buildA Tryd.prog 133 (p :: ps) = bldR (fillK (fun i => some (i * 1, 1)) (some (Bs 32 (fun _ => 0))) (p :: ps)) := build_parts T133.ze T133.pl Tryd.underlying133 T5.sz _
theorem T133.sz : tsz Tryd.prog 133 = some 32 := by kernel_rfl
@[go_sem] theorem T133.store (h : List Blk) (b o : Nat) (cs : Array Value) : storeP Tryd.prog h 133 (.agg cs) (pt b o) = storeRow h b (h[b]?) o 32 cs.toList := storeP_row T133.sz cs h b o
theorem T134.ze : tzero Tryd.prog 134 = some (.agg (Bs 64 (fun _ => 0)).toArray) := by kernel_rfl
theorem T134.pl : (Bs 64 (fun _ => 0)).all plainC = true := by kernel_rfl
@[go_sem] theorem T134.bld (p : Nat × Value) (ps : List (Nat × Value)) : buildA Tryd.prog 134 (p :: ps) = bldR (fillK (fun i => some (i * 1, 1)) (some (Bs 64 (fun _ => 0))) (p :: ps)) := build_parts T134.ze T134.pl Tryd.underlying134 T5.sz _
theorem T134.sz : tsz Tryd.prog 134 = some 64 := by kernel_rfl
@[go_sem] theorem T134.store (h : List Blk) (b o : Nat) (cs : Array Value) : storeP Tryd.prog h 134 (.agg cs) (pt b o) = storeRow h b (h[b]?) o 64 cs.toList := storeP_row T134.sz cs h b o
theorem T128.ze : tzero Tryd.prog 128 = some (.agg (Vs 20 (fun _ => .int .u64 0)).toArray) := by kernel_rfl
theorem T128.pl : (Vs 20 (fun _ => .int .u64 0)).all plainC = true := by kernel_rfl
theorem T90.sz : tsz Tryd.prog 90 = some 1 := by kernel_rfl
@[go_sem] theorem T128.bld (p : Nat × Value) (ps : List (Nat × Value)) : buildA Tryd.prog 128 (p :: ps) = bldR (fillK (fun i => some (i * 1, 1)) (some (Vs 20 (fun _ => .int .u64 0))) (p :: ps)) := build_parts T128.ze T128.pl Tryd.underlying128 T90.sz _
theorem T128.sz : tsz Tryd.prog 128 = some 20 := by kernel_rfl
@[go_sem] theorem T128.store (h : List Blk) (b o : Nat) (cs : Array Value) : storeP Tryd.prog h 128 (.agg cs) (pt b o) = storeRow h b (h[b]?) o 20 cs.toList := storeP_row T128.sz cs h b o
theorem T118.pl : ([B 0] ++ [B 0]).all plainC = true := by kernel_rfl
theorem T118.places : placesA Tryd.prog 118 = some [(0, 1), (1, 1)] := by kernel_rfl
@[go_sem] theorem T118.bld (p : Nat × Value) (ps : List (Nat × Value)) : buildA Tryd.prog 118 (p :: ps) = bldR (fillK (fun i => [(0, 1), (1, 1)][i]?) (some ([B 0] ++ [B 0])) (p :: ps)) := build_parts_struct T118.ze T118.pl Tryd.underlying118 T118.places _
theorem T119.ze : tzero Tryd.prog 119 = some (.agg ([B 0] ++ [B 0] ++ [B 0] ++ [B 0] ++ [B 0] ++ [B 0] ++ [B 0] ++ [B 0] ++ [B 0] ++ [B 0] ++ [B 0] ++ [B 0] ++ [B 0] ++ [B 0] ++ [B 0] ++ [B 0] ++ [B 0] ++ [B 0] ++ [B 0] ++ [B 0] ++ [B 0] ++ [B 0] ++ [B 0] ++ [B 0] ++ [B 0] ++ [B 0] ++ [B 0] ++ [B 0] ++ [B 0] ++ [B 0] ++ [B 0] ++ [B 0]).toArray) := by kernel_rfl
theorem T119.pl : ([B 0] ++ [B 0] ++ [B 0] ++ [B 0] ++ [B 0] ++ [B 0] ++ [B 0] ++ [B 0] ++ [B 0] ++ [B 0] ++ [B 0] ++ [B 0] ++ [B 0] ++ [B 0] ++ [B 0] ++ [B 0] ++ [B 0] ++ [B 0] ++ [B 0] ++ [B 0] ++ [B 0] ++ [B 0] ++ [B 0] ++ [B 0] ++ [B 0] ++ [B 0] ++ [B 0] ++ [B 0] ++ [B 0] ++ [B 0] ++ [B 0] ++ [B 0]).all plainC = true := by kernel_rfl
@[go_sem] theorem T119.bld (p : Nat × Value) (ps : List (Nat × Value)) : buildA Tryd.prog 119 (p :: ps) = bldR (fillK (fun i => some (i * 2, 2)) (some ([B 0] ++ [B 0] ++ [B 0] ++ [B 0] ++ [B 0] ++ [B 0] ++ [B 0] ++ [B 0] ++ [B 0] ++ [B 0] ++ [B 0] ++ [B 0] ++ [B 0] ++ [B 0] ++ [B 0] ++ [B 0] ++ [B 0] ++ [B 0] ++ [B 0] ++ [B 0] ++ [B 0] ++ [B 0] ++ [B 0] ++ [B 0] ++ [B 0] ++ [B 0] ++ [B 0] ++ [B 0] ++ [B 0] ++ [B 0] ++ [B 0] ++ [B 0])) (p :: ps)) := build_parts T119.ze T119.pl Tryd.underlying119 T118.sz _
theorem T119.sz : tsz Tryd.prog 119 = some 32 := by kernel_rfl
@[go_sem] theorem T119.store (h : List Blk) (b o : Nat) (cs : Array Value) : storeP Tryd.prog h 119 (.agg cs) (pt b o) = storeRow h b (h[b]?) o 32 cs.toList := storeP_row T119.sz cs h b o
theorem mixedOk : Tryd.prog.follows .mixedOrders = true := by kernel_rfl

end Go.Proofs.YtmkhafmkllfmkaaDoor
