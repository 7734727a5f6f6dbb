/- The operations at the types of this seat, as a walk reckons them; written by a program of the prover's. -/
import Derived.Test.YtdblbbedfoddiaaDoorRows
import Derived.Test.YtdblbbedfoddiaaDoorAbsI
import Derived.Test.YtdblbbedfoddiaaDoorAbsN
namespace Go.Proofs.YtdblbbedfoddiaaDoor
set_option linter.unusedSimpArgs false
set_option linter.unusedVariables false
open Go.Abs
set_option maxRecDepth 100000

@[go_sem] theorem T9.len (s : ByteArray) : alen Tryd.prog 9 (.string s) = some (.int .i64 s.size) := len_str Tryd.underlying9 s
theorem T24.ze : tzero Tryd.prog 24 = some (.agg (Bs 16 (fun _ => 0)).toArray) := by kernel_rfl
@[go_sem] theorem T24.alloc (h : List Blk) : allocA Tryd.prog h 24 = some (pt h.length 0, h ++ [⟨Bs 16 (fun _ => 0), true⟩]) := alloc_of T24.ze rfl (by kernel_rfl) h
theorem T24.sz : tsz Tryd.prog 24 = some 16 := by kernel_rfl
@[go_sem] theorem T24.store (h : List Blk) (b o : Nat) (cs : Array Value) : storeP Tryd.prog h 24 (.agg cs) (pt b o) = storeRow h b (h[b]?) o 16 cs.toList := storeP_row T24.sz cs h b o
theorem T24.ag : tagg Tryd.prog 24 = some true := by kernel_rfl
@[go_sem] theorem T24.load (h : List Blk) (b o : Nat) : loadP Tryd.prog h 24 (pt b o) = loadRow (h[b]?) o 16 := loadP_row T24.ag T24.sz h b o
theorem T24.pl : (Bs 16 (fun _ => 0)).all plainC = true := by kernel_rfl
theorem T22.sz : tsz Tryd.prog 22 = some 4 := by kernel_rfl
@[go_sem] theorem T24.bld0 : buildA Tryd.prog 24 [] = some (.agg (Bs 16 (fun _ => 0)).toArray) := build_nil T24.ze T24.pl Tryd.underlying24 T22.sz
@[go_sem] theorem T29.len (b o n es : Nat) : alen Tryd.prog 29 (sl b o n es) = some (.int .i64 n) := len_sl Tryd.underlying29 b o n es
@[go_sem] theorem T29.lenN (n c : Nat) : alen Tryd.prog 29 (.slice none n c) = some (.int .i64 n) := len_nilS Tryd.underlying29 n c
theorem T9.sz : tsz Tryd.prog 9 = some 1 := by kernel_rfl
@[go_sem] theorem T29.ixa (b o len : Nat) (k : IntKind) (n : Int) : idxAddrA Tryd.prog 29 (sl b o len 1) (.int k n) = ixR (aidx n len) b o 1 := ixa_sl Tryd.underlying29 T9.sz b o len k n
@[go_sem] theorem T29.ixaB (b o len : Nat) (x : UInt8) : idxAddrA Tryd.prog 29 (sl b o len 1) (B x) = ixR (aidx x.toNat len) b o 1 := ixa_sl_B Tryd.underlying29 T9.sz b o len x
theorem T9.ag : tagg Tryd.prog 9 = some false := by kernel_rfl
@[go_sem] theorem T9.load (h : List Blk) (b o : Nat) : loadP Tryd.prog h 9 (pt b o) = loadCell (h[b]?) o := loadP_cell T9.ag h b o
@[go_sem] theorem T31.len (b o n es : Nat) : alen Tryd.prog 31 (sl b o n es) = some (.int .i64 n) := len_sl Tryd.underlying31 b o n es
@[go_sem] theorem T31.lenN (n c : Nat) : alen Tryd.prog 31 (.slice none n c) = some (.int .i64 n) := len_nilS Tryd.underlying31 n c
theorem T5.sz : tsz Tryd.prog 5 = some 1 := by kernel_rfl
@[go_sem] theorem T31.ixa (b o len : Nat) (k : IntKind) (n : Int) : idxAddrA Tryd.prog 31 (sl b o len 1) (.int k n) = ixR (aidx n len) b o 1 := ixa_sl Tryd.underlying31 T5.sz b o len k n
@[go_sem] theorem T31.ixaB (b o len : Nat) (x : UInt8) : idxAddrA Tryd.prog 31 (sl b o len 1) (B x) = ixR (aidx x.toNat len) b o 1 := ixa_sl_B Tryd.underlying31 T5.sz b o len x
theorem T5.ag : tagg Tryd.prog 5 = some false := by kernel_rfl
@[go_sem] theorem T5.load (h : List Blk) (b o : Nat) : loadP Tryd.prog h 5 (pt b o) = loadCell (h[b]?) o := loadP_cell T5.ag h b o
@[go_sem] theorem T24.ixa (b o : Nat) (k : IntKind) (n : Int) : idxAddrA Tryd.prog 24 (pt b o) (.int k n) = ixR (aidx n 4) b o 4 := ixa_arr Tryd.underlying24 T22.sz b o k n
@[go_sem] theorem T24.ixaB (b o : Nat) (x : UInt8) : idxAddrA Tryd.prog 24 (pt b o) (B x) = ixR (aidx x.toNat 4) b o 4 := ixa_arr_B Tryd.underlying24 T22.sz b o x
@[go_sem] theorem T22.ixa (b o : Nat) (k : IntKind) (n : Int) : idxAddrA Tryd.prog 22 (pt b o) (.int k n) = ixR (aidx n 4) b o 1 := ixa_arr Tryd.underlying22 T5.sz b o k n
@[go_sem] theorem T22.ixaB (b o : Nat) (x : UInt8) : idxAddrA Tryd.prog 22 (pt b o) (B x) = ixR (aidx x.toNat 4) b o 1 := ixa_arr_B Tryd.underlying22 T5.sz b o x
@[go_sem] theorem T5.store_B (h : List Blk) (b o : Nat) (x : UInt8) : storeP Tryd.prog h 5 (B x) (pt b o) = storeCell h b (h[b]?) o (B x) := storeP_B T5.sz x h b o
@[go_sem] theorem T22.tap {b o len es : Nat} (hl : 4 ≤ len) : toArrPtrA Tryd.prog 22 (sl b o len es) = some (pt b o) := tapG Tryd.underlying22 (by decide) hl
theorem T22.ag : tagg Tryd.prog 22 = some true := by kernel_rfl
@[go_sem] theorem T22.load (h : List Blk) (b o : Nat) : loadP Tryd.prog h 22 (pt b o) = loadRow (h[b]?) o 4 := loadP_row T22.ag T22.sz h b o
@[go_sem] theorem T22.store (h : List Blk) (b o : Nat) (cs : Array Value) : storeP Tryd.prog h 22 (.agg cs) (pt b o) = storeRow h b (h[b]?) o 4 cs.toList := storeP_row T22.sz cs h b o
theorem T9.ze : tzero Tryd.prog 9 = some (.string .empty) := by kernel_rfl
@[go_sem] theorem T29.bs0 (h : List Blk) : buildSliceA Tryd.prog h 29 0 [] = some (sl h.length 0 0 1, h ++ [⟨[], true⟩]) := bs_nil Tryd.underlying29 T9.sz T9.ze rfl (by kernel_rfl) (by kernel_rfl) h
@[go_sem] theorem T9.ix (s : ByteArray) (k : IntKind) (n : Int) : indexA Tryd.prog 9 (.string s) (.int k n) = chrC (aidx n s.size) s := ix_str Tryd.underlying9 s k n
@[go_sem] theorem T9.sla (h : List Blk) (s : ByteArray) (lo hi : Option Value) : aslice Tryd.prog h 9 (.string s) lo hi = slcStr s (lowA lo) (highA s.size hi) := sla_str Tryd.underlying9 h s lo hi
@[go_sem] theorem T29.bs1 (h : List Blk) (ps : List (Nat × Value)) : buildSliceA Tryd.prog h 29 1 ps = litR h 1 1 (fillK (fun i => some (i * 1, 1)) (some [.string .empty]) ps) := bs_cells Tryd.underlying29 T9.sz T9.ze rfl rfl h (by decide) ps
theorem T29.ei : elemInfo Tryd.prog 29 = some (9, 1, 16) := by kernel_rfl
@[go_sem] theorem T29.app (h : List Blk) (s : Value) (b o m : Nat) : appendA Tryd.prog h 29 29 s (sl b o m 1) = appR h 1 16 s (srcR (h[b]?) o m 1) := by rw [append_of T29.ei]; simp only [srcA_sl]
theorem T5.ze : tzero Tryd.prog 5 = some (B 0) := by kernel_rfl
@[go_sem] theorem T31.bs0 (h : List Blk) : buildSliceA Tryd.prog h 31 0 [] = some (sl h.length 0 0 1, h ++ [⟨[], true⟩]) := bs_nil Tryd.underlying31 T5.sz T5.ze rfl (by kernel_rfl) (by kernel_rfl) h
@[go_sem] theorem T2.conv5 (h : List Blk) (k : IntKind) (n : Int) : convS Tryd.prog h 2 5 (.int k n) = some (.int .u8 (IntKind.u8.wrap n)) := conv_int Tryd.underlying2 Tryd.underlying5 h k n
@[go_sem] theorem T31.bs1 (h : List Blk) (ps : List (Nat × Value)) : buildSliceA Tryd.prog h 31 1 ps = litR h 1 1 (fillK (fun i => some (i * 1, 1)) (some [B 0]) ps) := bs_cells Tryd.underlying31 T5.sz T5.ze rfl rfl h (by decide) ps
theorem T31.ei : elemInfo Tryd.prog 31 = some (5, 1, 1) := by kernel_rfl
@[go_sem] theorem T31.app (h : List Blk) (s : Value) (b o m : Nat) : appendA Tryd.prog h 31 31 s (sl b o m 1) = appR h 1 1 s (srcR (h[b]?) o m 1) := by rw [append_of T31.ei]; simp only [srcA_sl]
@[go_sem] theorem T5.conv2 (h : List Blk) (x : UInt8) : convS Tryd.prog h 5 2 (B x) = some (.int .i64 (IntKind.i64.wrap x.toNat)) := conv_B Tryd.underlying5 Tryd.underlying2 h x
theorem T9.by' : tbytes Tryd.prog 9 = some 16 := by kernel_rfl
@[go_sem] theorem T29.ms (h : List Blk) (k k' : IntKind) {n : Int} (h0 : 0 ≤ n) (hr : n * 16 ≤ 140737488355328) : makeSliceA Tryd.prog h 29 (.int k n) (.int k' n) = some (sl h.length 0 n.toNat 1, h ++ [⟨repA [.string .empty] n.toNat, true⟩]) := ms_of Tryd.underlying29 T9.sz T9.by' (by decide) T9.ze rfl (by kernel_rfl) (by kernel_rfl) h k k' h0 hr
@[go_sem] theorem T9.store_string (h : List Blk) (b o : Nat) (x : ByteArray) : storeP Tryd.prog h 9 (.string x) (pt b o) = storeCell h b (h[b]?) o (.string x) := storeP_string T9.sz x h b o
@[go_sem] theorem T29.slaN (h : List Blk) (lo hi : Option Value) : aslice Tryd.prog h 29 (.slice none 0 0) lo hi = slcNil (lowA lo) (highA 0 hi) := sla_nil Tryd.underlying29 T9.sz h lo hi
@[go_sem] theorem T29.sla (h : List Blk) (b o len : Nat) (lo hi : Option Value) : aslice Tryd.prog h 29 (sl b o len 1) lo hi = slcSl b o 1 (lowA lo) (highA len hi) := sla_sl Tryd.underlying29 T9.sz h b o len lo hi
@[go_sem] theorem T5.conv21 (h : List Blk) (x : UInt8) : convS Tryd.prog h 5 21 (B x) = some (.int .i32 (IntKind.i32.wrap x.toNat)) := conv_B Tryd.underlying5 Tryd.underlying21 h x
@[go_sem] theorem T48.ixa (b o : Nat) (k : IntKind) (n : Int) : idxAddrA Tryd.prog 48 (pt b o) (.int k n) = ixR (aidx n 256) b o 1 := ixa_arr Tryd.underlying48 T5.sz b o k n
@[go_sem] theorem T48.ixaB (b o : Nat) (x : UInt8) : idxAddrA Tryd.prog 48 (pt b o) (B x) = ixR (aidx x.toNat 256) b o 1 := ixa_arr_B Tryd.underlying48 T5.sz b o x
@[go_sem] theorem T5.conv3 (h : List Blk) (x : UInt8) : convS Tryd.prog h 5 3 (B x) = some (.int .i64 (IntKind.i64.wrap x.toNat)) := conv_B Tryd.underlying5 Tryd.underlying3 h x
theorem T50.sz : tsz Tryd.prog 50 = some 2 := by kernel_rfl
@[go_sem] theorem T51.ixa (b o : Nat) (k : IntKind) (n : Int) : idxAddrA Tryd.prog 51 (pt b o) (.int k n) = ixR (aidx n 16) b o 2 := ixa_arr Tryd.underlying51 T50.sz b o k n
@[go_sem] theorem T51.ixaB (b o : Nat) (x : UInt8) : idxAddrA Tryd.prog 51 (pt b o) (B x) = ixR (aidx x.toNat 16) b o 2 := ixa_arr_B Tryd.underlying51 T50.sz b o x
theorem T50.ag : tagg Tryd.prog 50 = some true := by kernel_rfl
@[go_sem] theorem T50.load (h : List Blk) (b o : Nat) : loadP Tryd.prog h 50 (pt b o) = loadRow (h[b]?) o 2 := loadP_row T50.ag T50.sz h b o
theorem T50.ze : tzero Tryd.prog 50 = some (.agg ([B 0] ++ [B 0]).toArray) := by kernel_rfl
@[go_sem] theorem T50.alloc (h : List Blk) : allocA Tryd.prog h 50 = some (pt h.length 0, h ++ [⟨[B 0] ++ [B 0], true⟩]) := alloc_of T50.ze rfl (by kernel_rfl) h
@[go_sem] theorem T50.store (h : List Blk) (b o : Nat) (cs : Array Value) : storeP Tryd.prog h 50 (.agg cs) (pt b o) = storeRow h b (h[b]?) o 2 cs.toList := storeP_row T50.sz cs h b o
@[go_sem] theorem T50.fla0 (b o : Nat) : fieldAddrA Tryd.prog 50 0 (pt b o) = some (pt b (o + 0)) := fla (f := 0) (o' := 0) (ft := 5) (z := 1) Tryd.underlying50 rfl rfl rfl T5.sz (by decide) b o
@[go_sem] theorem T50.fla1 (b o : Nat) : fieldAddrA Tryd.prog 50 1 (pt b o) = some (pt b (o + 1)) := fla (f := 1) (o' := 1) (ft := 5) (z := 1) Tryd.underlying50 rfl rfl rfl T5.sz (by decide) b o
theorem T50.pl : ([B 0] ++ [B 0]).all plainC = true := by kernel_rfl
theorem T50.places : placesA Tryd.prog 50 = some [(0, 1), (1, 1)] := by kernel_rfl
@[go_sem] theorem T50.bld (p : Nat × Value) (ps : List (Nat × Value)) : buildA Tryd.prog 50 (p :: ps) = bldR (fillK (fun i => [(0, 1), (1, 1)][i]?) (some ([B 0] ++ [B 0])) (p :: ps)) := build_parts_struct T50.ze T50.pl Tryd.underlying50 T50.places _
theorem T51.ze : tzero Tryd.prog 51 = some (.agg ([B 0] ++ [B 0] ++ [B 0] ++ [B 0] ++ [B 0] ++ [B 0] ++ [B 0] ++ [B 0] ++ [B 0] ++ [B 0] ++ [B 0] ++ [B 0] ++ [B 0] ++ [B 0] ++ [B 0] ++ [B 0] ++ [B 0] ++ [B 0] ++ [B 0] ++ [B 0] ++ [B 0] ++ [B 0] ++ [B 0] ++ [B 0] ++ [B 0] ++ [B 0] ++ [B 0] ++ [B 0] ++ [B 0] ++ [B 0] ++ [B 0] ++ [B 0]).toArray) := by kernel_rfl
theorem T51.pl : ([B 0] ++ [B 0] ++ [B 0] ++ [B 0] ++ [B 0] ++ [B 0] ++ [B 0] ++ [B 0] ++ [B 0] ++ [B 0] ++ [B 0] ++ [B 0] ++ [B 0] ++ [B 0] ++ [B 0] ++ [B 0] ++ [B 0] ++ [B 0] ++ [B 0] ++ [B 0] ++ [B 0] ++ [B 0] ++ [B 0] ++ [B 0] ++ [B 0] ++ [B 0] ++ [B 0] ++ [B 0] ++ [B 0] ++ [B 0] ++ [B 0] ++ [B 0]).all plainC = true := by kernel_rfl
@[go_sem] theorem T51.bld (p : Nat × Value) (ps : List (Nat × Value)) : buildA Tryd.prog 51 (p :: ps) = bldR (fillK (fun i => some (i * 2, 2)) (some ([B 0] ++ [B 0] ++ [B 0] ++ [B 0] ++ [B 0] ++ [B 0] ++ [B 0] ++ [B 0] ++ [B 0] ++ [B 0] ++ [B 0] ++ [B 0] ++ [B 0] ++ [B 0] ++ [B 0] ++ [B 0] ++ [B 0] ++ [B 0] ++ [B 0] ++ [B 0] ++ [B 0] ++ [B 0] ++ [B 0] ++ [B 0] ++ [B 0] ++ [B 0] ++ [B 0] ++ [B 0] ++ [B 0] ++ [B 0] ++ [B 0] ++ [B 0])) (p :: ps)) := build_parts T51.ze T51.pl Tryd.underlying51 T50.sz _
theorem T51.sz : tsz Tryd.prog 51 = some 32 := by kernel_rfl
@[go_sem] theorem T51.store (h : List Blk) (b o : Nat) (cs : Array Value) : storeP Tryd.prog h 51 (.agg cs) (pt b o) = storeRow h b (h[b]?) o 32 cs.toList := storeP_row T51.sz cs h b o
theorem mixedOk : Tryd.prog.follows .mixedOrders = true := by kernel_rfl

end Go.Proofs.YtdblbbedfoddiaaDoor
