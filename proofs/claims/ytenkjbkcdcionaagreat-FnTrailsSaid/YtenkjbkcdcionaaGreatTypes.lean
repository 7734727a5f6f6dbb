/- The operations at the types of this seat, as a walk reckons them; written by a program of the prover's. -/
import Derived.Test.YtenkjbkcdcionaaGreatRows
import Derived.Test.YtenkjbkcdcionaaGreatAbsI
import Derived.Test.YtenkjbkcdcionaaGreatAbsN
namespace Go.Proofs.YtenkjbkcdcionaaGreat
set_option linter.unusedSimpArgs false
set_option linter.unusedVariables false
open Go.Abs
set_option maxRecDepth 100000

theorem T32.ze : tzero Tryz.prog 32 = some (.agg (Ci 0 (fun _ => 0) (fun _ => 0) (fun _ => 0) 0).toArray) := by kernel_rfl
@[go_sem] theorem T32.alloc (h : List Blk) : allocA Tryz.prog h 32 = some (pt h.length 0, h ++ [⟨Ci 0 (fun _ => 0) (fun _ => 0) (fun _ => 0) 0, true⟩]) := alloc_of T32.ze rfl (by kernel_rfl) h
theorem T32.sz : tsz Tryz.prog 32 = some 290 := by kernel_rfl
@[go_sem] theorem T32.store (h : List Blk) (b o : Nat) (cs : Array Value) : storeP Tryz.prog h 32 (.agg cs) (pt b o) = storeRow h b (h[b]?) o 290 cs.toList := storeP_row T32.sz cs h b o
theorem T32.ag : tagg Tryz.prog 32 = some true := by kernel_rfl
@[go_sem] theorem T32.load (h : List Blk) (b o : Nat) : loadP Tryz.prog h 32 (pt b o) = loadRow (h[b]?) o 290 := loadP_row T32.ag T32.sz h b o
theorem T40.ze : tzero Tryz.prog 40 = some (.agg (Bs 16 (fun _ => 0)).toArray) := by kernel_rfl
@[go_sem] theorem T40.alloc (h : List Blk) : allocA Tryz.prog h 40 = some (pt h.length 0, h ++ [⟨Bs 16 (fun _ => 0), true⟩]) := alloc_of T40.ze rfl (by kernel_rfl) h
theorem T40.sz : tsz Tryz.prog 40 = some 16 := by kernel_rfl
@[go_sem] theorem T40.store (h : List Blk) (b o : Nat) (cs : Array Value) : storeP Tryz.prog h 40 (.agg cs) (pt b o) = storeRow h b (h[b]?) o 16 cs.toList := storeP_row T40.sz cs h b o
theorem T40.ag : tagg Tryz.prog 40 = some true := by kernel_rfl
@[go_sem] theorem T40.load (h : List Blk) (b o : Nat) : loadP Tryz.prog h 40 (pt b o) = loadRow (h[b]?) o 16 := loadP_row T40.ag T40.sz h b o
@[go_sem] theorem T36.len (b o n es : Nat) : alen Tryz.prog 36 (sl b o n es) = some (.int .i64 n) := len_sl Tryz.underlying36 b o n es
@[go_sem] theorem T36.lenN (n c : Nat) : alen Tryz.prog 36 (.slice none n c) = some (.int .i64 n) := len_nilS Tryz.underlying36 n c
theorem T53.sz : tsz Tryz.prog 53 = some 1 := by kernel_rfl
@[go_sem] theorem T36.ixa (b o len : Nat) (k : IntKind) (n : Int) : idxAddrA Tryz.prog 36 (sl b o len 1) (.int k n) = ixR (aidx n len) b o 1 := ixa_sl Tryz.underlying36 T53.sz b o len k n
@[go_sem] theorem T36.ixaB (b o len : Nat) (x : UInt8) : idxAddrA Tryz.prog 36 (sl b o len 1) (B x) = ixR (aidx x.toNat len) b o 1 := ixa_sl_B Tryz.underlying36 T53.sz b o len x
theorem T53.ag : tagg Tryz.prog 53 = some false := by kernel_rfl
@[go_sem] theorem T53.load (h : List Blk) (b o : Nat) : loadP Tryz.prog h 53 (pt b o) = loadCell (h[b]?) o := loadP_cell T53.ag h b o
theorem T2.sz : tsz Tryz.prog 2 = some 1 := by kernel_rfl
theorem T2.ze : tzero Tryz.prog 2 = some (.int .i64 0) := by kernel_rfl
@[go_sem] theorem T53.bs1 (h : List Blk) (ps : List (Nat × Value)) : buildSliceA Tryz.prog h 53 1 ps = litR h 1 1 (fillK (fun i => some (i * 1, 1)) (some [.int .i64 0]) ps) := bs_cells Tryz.underlying53 T2.sz T2.ze rfl rfl h (by decide) ps
@[go_sem] theorem T53.len (b o n es : Nat) : alen Tryz.prog 53 (sl b o n es) = some (.int .i64 n) := len_sl Tryz.underlying53 b o n es
@[go_sem] theorem T53.lenN (n c : Nat) : alen Tryz.prog 53 (.slice none n c) = some (.int .i64 n) := len_nilS Tryz.underlying53 n c
theorem T40.pl : (Bs 16 (fun _ => 0)).all plainC = true := by kernel_rfl
theorem T5.sz : tsz Tryz.prog 5 = some 1 := by kernel_rfl
@[go_sem] theorem T40.bld0 : buildA Tryz.prog 40 [] = some (.agg (Bs 16 (fun _ => 0)).toArray) := build_nil T40.ze T40.pl Tryz.underlying40 T5.sz
theorem T40.aeq (f g : Nat → UInt8) : aeq Tryz.prog 40 (Bs 16 f) (Bs 16 g) = some (eqB 16 f g) := aeq_bytes (by kernel_rfl) (by kernel_rfl) (by kernel_rfl) (by kernel_rfl) (by kernel_rfl) f g
@[go_sem] theorem T40.eqa (f g : Nat → UInt8) : abin Tryz.prog .eql 40 (.agg (Bs 16 f).toArray) (.agg (Bs 16 g).toArray) = some (.bool (eqB 16 f g)) := eql_bytes (T40.aeq f g)
@[go_sem] theorem T40.nea (f g : Nat → UInt8) : abin Tryz.prog .neq 40 (.agg (Bs 16 f).toArray) (.agg (Bs 16 g).toArray) = some (.bool (!eqB 16 f g)) := neq_bytes (T40.aeq f g)
@[go_sem] theorem T33.len (b o n es : Nat) : alen Tryz.prog 33 (sl b o n es) = some (.int .i64 n) := len_sl Tryz.underlying33 b o n es
@[go_sem] theorem T33.lenN (n c : Nat) : alen Tryz.prog 33 (.slice none n c) = some (.int .i64 n) := len_nilS Tryz.underlying33 n c
@[go_sem] theorem T33.ixa (b o len : Nat) (k : IntKind) (n : Int) : idxAddrA Tryz.prog 33 (sl b o len 16) (.int k n) = ixR (aidx n len) b o 16 := ixa_sl Tryz.underlying33 T40.sz b o len k n
@[go_sem] theorem T33.ixaB (b o len : Nat) (x : UInt8) : idxAddrA Tryz.prog 33 (sl b o len 16) (B x) = ixR (aidx x.toNat len) b o 16 := ixa_sl_B Tryz.underlying33 T40.sz b o len x
@[go_sem] theorem T22.len (b o n es : Nat) : alen Tryz.prog 22 (sl b o n es) = some (.int .i64 n) := len_sl Tryz.underlying22 b o n es
@[go_sem] theorem T22.lenN (n c : Nat) : alen Tryz.prog 22 (.slice none n c) = some (.int .i64 n) := len_nilS Tryz.underlying22 n c
@[go_sem] theorem T33.bs1 (h : List Blk) (ps : List (Nat × Value)) : buildSliceA Tryz.prog h 33 1 ps = litR h 1 16 (fillK (fun i => some (i * 16, 16)) (some (repA (Bs 16 (fun _ => 0)) 1)) ps) := bs_parts Tryz.underlying33 T40.sz T40.ze rfl (by kernel_rfl) (by kernel_rfl) h (by decide) ps
theorem T33.ei : elemInfo Tryz.prog 33 = some (40, 16, 16) := by kernel_rfl
@[go_sem] theorem T33.app (h : List Blk) (s : Value) (b o m : Nat) : appendA Tryz.prog h 33 33 s (sl b o m 16) = appR h 16 16 s (srcR (h[b]?) o m 16) := by rw [append_of T33.ei]; simp only [srcA_sl]
@[go_sem] theorem T40.ixa (b o : Nat) (k : IntKind) (n : Int) : idxAddrA Tryz.prog 40 (pt b o) (.int k n) = ixR (aidx n 16) b o 1 := ixa_arr Tryz.underlying40 T5.sz b o k n
@[go_sem] theorem T40.ixaB (b o : Nat) (x : UInt8) : idxAddrA Tryz.prog 40 (pt b o) (B x) = ixR (aidx x.toNat 16) b o 1 := ixa_arr_B Tryz.underlying40 T5.sz b o x
theorem T5.ag : tagg Tryz.prog 5 = some false := by kernel_rfl
@[go_sem] theorem T5.load (h : List Blk) (b o : Nat) : loadP Tryz.prog h 5 (pt b o) = loadCell (h[b]?) o := loadP_cell T5.ag h b o
@[go_sem] theorem T5.store_B (h : List Blk) (b o : Nat) (x : UInt8) : storeP Tryz.prog h 5 (B x) (pt b o) = storeCell h b (h[b]?) o (B x) := storeP_B T5.sz x h b o
@[go_sem] theorem T33.slaN (h : List Blk) (lo hi : Option Value) : aslice Tryz.prog h 33 (.slice none 0 0) lo hi = slcNil (lowA lo) (highA 0 hi) := sla_nil Tryz.underlying33 T40.sz h lo hi
@[go_sem] theorem T33.sla (h : List Blk) (b o len : Nat) (lo hi : Option Value) : aslice Tryz.prog h 33 (sl b o len 16) lo hi = slcSl b o 16 (lowA lo) (highA len hi) := sla_sl Tryz.underlying33 T40.sz h b o len lo hi
theorem T53.ze : tzero Tryz.prog 53 = some (.slice none 0 0) := by kernel_rfl
@[go_sem] theorem T36.bs0 (h : List Blk) : buildSliceA Tryz.prog h 36 0 [] = some (sl h.length 0 0 1, h ++ [⟨[], true⟩]) := bs_nil Tryz.underlying36 T53.sz T53.ze rfl (by kernel_rfl) (by kernel_rfl) h
@[go_sem] theorem T53.eqn (b o n es : Nat) : abin Tryz.prog .eql 53 (sl b o n es) (.slice none 0 0) = some (.bool false) := eqn_sl Tryz.underlying53 b o n es
@[go_sem] theorem T53.eqN (l c : Nat) : abin Tryz.prog .eql 53 (.slice none l c) (.slice none 0 0) = some (.bool true) := eqn_nil Tryz.underlying53 l c
@[go_sem] theorem T53.nen (b o n es : Nat) : abin Tryz.prog .neq 53 (sl b o n es) (.slice none 0 0) = some (.bool true) := nen_sl Tryz.underlying53 b o n es
@[go_sem] theorem T53.neN (l c : Nat) : abin Tryz.prog .neq 53 (.slice none l c) (.slice none 0 0) = some (.bool false) := nen_nil Tryz.underlying53 l c
@[go_sem] theorem T36.bs1 (h : List Blk) (ps : List (Nat × Value)) : buildSliceA Tryz.prog h 36 1 ps = litR h 1 1 (fillK (fun i => some (i * 1, 1)) (some [.slice none 0 0]) ps) := bs_cells Tryz.underlying36 T53.sz T53.ze rfl rfl h (by decide) ps
theorem T36.ei : elemInfo Tryz.prog 36 = some (53, 1, 24) := by kernel_rfl
@[go_sem] theorem T36.app (h : List Blk) (s : Value) (b o m : Nat) : appendA Tryz.prog h 36 36 s (sl b o m 1) = appR h 1 24 s (srcR (h[b]?) o m 1) := by rw [append_of T36.ei]; simp only [srcA_sl]
@[go_sem] theorem T53.bs6 (h : List Blk) (ps : List (Nat × Value)) : buildSliceA Tryz.prog h 53 6 ps = litR h 6 1 (fillK (fun i => some (i * 1, 1)) (some [.int .i64 0, .int .i64 0, .int .i64 0, .int .i64 0, .int .i64 0, .int .i64 0]) ps) := bs_cells Tryz.underlying53 T2.sz T2.ze rfl rfl h (by decide) ps
@[go_sem] theorem T32.fla0 (b o : Nat) : fieldAddrA Tryz.prog 32 0 (pt b o) = some (pt b (o + 0)) := fla (f := 0) (o' := 0) (ft := 2) (z := 1) Tryz.underlying32 rfl rfl rfl T2.sz (by decide) b o
theorem T2.ag : tagg Tryz.prog 2 = some false := by kernel_rfl
@[go_sem] theorem T2.load (h : List Blk) (b o : Nat) : loadP Tryz.prog h 2 (pt b o) = loadCell (h[b]?) o := loadP_cell T2.ag h b o
theorem T28.sz : tsz Tryz.prog 28 = some 16 := by kernel_rfl
@[go_sem] theorem T32.fla2 (b o : Nat) : fieldAddrA Tryz.prog 32 2 (pt b o) = some (pt b (o + 257)) := fla (f := 2) (o' := 257) (ft := 28) (z := 16) Tryz.underlying32 rfl rfl rfl T28.sz (by decide) b o
theorem T28.ag : tagg Tryz.prog 28 = some true := by kernel_rfl
@[go_sem] theorem T28.load (h : List Blk) (b o : Nat) : loadP Tryz.prog h 28 (pt b o) = loadRow (h[b]?) o 16 := loadP_row T28.ag T28.sz h b o
theorem T3.sz : tsz Tryz.prog 3 = some 1 := by kernel_rfl
theorem T3.by' : tbytes Tryz.prog 3 = some 8 := by kernel_rfl
theorem T3.ze : tzero Tryz.prog 3 = some (.int .i64 0) := by kernel_rfl
@[go_sem] theorem T77.ms (h : List Blk) (k k' : IntKind) {n : Int} (h0 : 0 ≤ n) (hr : n * 8 ≤ 140737488355328) : makeSliceA Tryz.prog h 77 (.int k n) (.int k' n) = some (sl h.length 0 n.toNat 1, h ++ [⟨Is n.toNat (fun _ => 0), true⟩]) := by rw [← repA_I]; exact ms_of Tryz.underlying77 T3.sz T3.by' (by decide) T3.ze rfl (by kernel_rfl) (by kernel_rfl) h k k' h0 hr
theorem T75.ze : tzero Tryz.prog 75 = some (.agg (Vs 16 (fun _ => .slice none 0 0)).toArray) := by kernel_rfl
@[go_sem] theorem T75.alloc (h : List Blk) : allocA Tryz.prog h 75 = some (pt h.length 0, h ++ [⟨Vs 16 (fun _ => .slice none 0 0), true⟩]) := alloc_of T75.ze rfl (by kernel_rfl) h
theorem T75.sz : tsz Tryz.prog 75 = some 16 := by kernel_rfl
@[go_sem] theorem T75.store (h : List Blk) (b o : Nat) (cs : Array Value) : storeP Tryz.prog h 75 (.agg cs) (pt b o) = storeRow h b (h[b]?) o 16 cs.toList := storeP_row T75.sz cs h b o
@[go_sem] theorem T77.len (b o n es : Nat) : alen Tryz.prog 77 (sl b o n es) = some (.int .i64 n) := len_sl Tryz.underlying77 b o n es
@[go_sem] theorem T77.lenN (n c : Nat) : alen Tryz.prog 77 (.slice none n c) = some (.int .i64 n) := len_nilS Tryz.underlying77 n c
@[go_sem] theorem T3.conv79 (h : List Blk) (k : IntKind) (n : Int) : convS Tryz.prog h 3 79 (.int k n) = some (.int .u64 (IntKind.u64.wrap n)) := conv_int Tryz.underlying3 Tryz.underlying79 h k n
@[go_sem] theorem T77.ixa (b o len : Nat) (k : IntKind) (n : Int) : idxAddrA Tryz.prog 77 (sl b o len 1) (.int k n) = ixR (aidx n len) b o 1 := ixa_sl Tryz.underlying77 T3.sz b o len k n
@[go_sem] theorem T77.ixaB (b o len : Nat) (x : UInt8) : idxAddrA Tryz.prog 77 (sl b o len 1) (B x) = ixR (aidx x.toNat len) b o 1 := ixa_sl_B Tryz.underlying77 T3.sz b o len x
@[go_sem] theorem T3.store_int (h : List Blk) (b o : Nat) (n : Int) : storeP Tryz.prog h 3 (.int .i64 n) (pt b o) = storeCell h b (h[b]?) o (.int .i64 n) := storeP_int T3.sz .i64 n h b o
@[go_sem] theorem T77.bs1 (h : List Blk) (ps : List (Nat × Value)) : buildSliceA Tryz.prog h 77 1 ps = litR h 1 1 (fillK (fun i => some (i * 1, 1)) (some [.int .i64 0]) ps) := bs_cells Tryz.underlying77 T3.sz T3.ze rfl rfl h (by decide) ps
theorem T3.ag : tagg Tryz.prog 3 = some false := by kernel_rfl
@[go_sem] theorem T3.load (h : List Blk) (b o : Nat) : loadP Tryz.prog h 3 (pt b o) = loadCell (h[b]?) o := loadP_cell T3.ag h b o
theorem T30.sz : tsz Tryz.prog 30 = some 16 := by kernel_rfl
@[go_sem] theorem T32.fla3 (b o : Nat) : fieldAddrA Tryz.prog 32 3 (pt b o) = some (pt b (o + 273)) := fla (f := 3) (o' := 273) (ft := 30) (z := 16) Tryz.underlying32 rfl rfl rfl T30.sz (by decide) b o
theorem T30.ag : tagg Tryz.prog 30 = some true := by kernel_rfl
@[go_sem] theorem T30.load (h : List Blk) (b o : Nat) : loadP Tryz.prog h 30 (pt b o) = loadRow (h[b]?) o 16 := loadP_row T30.ag T30.sz h b o
theorem T75.ag : tagg Tryz.prog 75 = some true := by kernel_rfl
@[go_sem] theorem T75.load (h : List Blk) (b o : Nat) : loadP Tryz.prog h 75 (pt b o) = loadRow (h[b]?) o 16 := loadP_row T75.ag T75.sz h b o
theorem T2.by' : tbytes Tryz.prog 2 = some 8 := by kernel_rfl
@[go_sem] theorem T53.ms (h : List Blk) (k k' : IntKind) {n : Int} (h0 : 0 ≤ n) (hr : n * 8 ≤ 140737488355328) : makeSliceA Tryz.prog h 53 (.int k n) (.int k' n) = some (sl h.length 0 n.toNat 1, h ++ [⟨Is n.toNat (fun _ => 0), true⟩]) := by rw [← repA_I]; exact ms_of Tryz.underlying53 T2.sz T2.by' (by decide) T2.ze rfl (by kernel_rfl) (by kernel_rfl) h k k' h0 hr
@[go_sem] theorem T53.ixa (b o len : Nat) (k : IntKind) (n : Int) : idxAddrA Tryz.prog 53 (sl b o len 1) (.int k n) = ixR (aidx n len) b o 1 := ixa_sl Tryz.underlying53 T2.sz b o len k n
@[go_sem] theorem T53.ixaB (b o len : Nat) (x : UInt8) : idxAddrA Tryz.prog 53 (sl b o len 1) (B x) = ixR (aidx x.toNat len) b o 1 := ixa_sl_B Tryz.underlying53 T2.sz b o len x
@[go_sem] theorem T2.store_int (h : List Blk) (b o : Nat) (n : Int) : storeP Tryz.prog h 2 (.int .i64 n) (pt b o) = storeCell h b (h[b]?) o (.int .i64 n) := storeP_int T2.sz .i64 n h b o
@[go_sem] theorem T75.sla (h : List Blk) (b o : Nat) (lo hi : Option Value) : aslice Tryz.prog h 75 (pt b o) lo hi = slcArr (h[b]?) b o 16 1 (lowA lo) (highA 16 hi) := sla_arr Tryz.underlying75 T53.sz h b o lo hi
@[go_sem] theorem T2.conv5 (h : List Blk) (k : IntKind) (n : Int) : convS Tryz.prog h 2 5 (.int k n) = some (.int .u8 (IntKind.u8.wrap n)) := conv_int Tryz.underlying2 Tryz.underlying5 h k n
@[go_sem] theorem T32.fla4 (b o : Nat) : fieldAddrA Tryz.prog 32 4 (pt b o) = some (pt b (o + 289)) := fla (f := 4) (o' := 289) (ft := 2) (z := 1) Tryz.underlying32 rfl rfl rfl T2.sz (by decide) b o
@[go_sem] theorem T3.conv5 (h : List Blk) (k : IntKind) (n : Int) : convS Tryz.prog h 3 5 (.int k n) = some (.int .u8 (IntKind.u8.wrap n)) := conv_int Tryz.underlying3 Tryz.underlying5 h k n
@[go_sem] theorem T40.ix (l : List Value) (k : IntKind) (n : Int) : indexA Tryz.prog 40 (.agg l.toArray) (.int k n) = ixC (aidx n 16) l := ix_arr_cell Tryz.underlying40 T5.sz T5.ag l k n
@[go_sem] theorem T40.ixB (l : List Value) (x : UInt8) : indexA Tryz.prog 40 (.agg l.toArray) (B x) = ixC (aidx x.toNat 16) l := ix_arr_cell_B Tryz.underlying40 T5.sz T5.ag l x
@[go_sem] theorem T3.conv95 (h : List Blk) (k : IntKind) (n : Int) : convS Tryz.prog h 3 95 (.int k n) = some (.int .u64 (IntKind.u64.wrap n)) := conv_int Tryz.underlying3 Tryz.underlying95 h k n
theorem T97.ze : tzero Tryz.prog 97 = some (.agg (Sr (.slice none 0 0) 0 0).toArray) := by kernel_rfl
theorem T97.pl : (Sr (.slice none 0 0) 0 0).all plainC = true := by kernel_rfl
theorem T97.places : placesA Tryz.prog 97 = some [(0, 1), (1, 1), (2, 1)] := by kernel_rfl
@[go_sem] theorem T97.bld (p : Nat × Value) (ps : List (Nat × Value)) : buildA Tryz.prog 97 (p :: ps) = bldR (fillK (fun i => [(0, 1), (1, 1), (2, 1)][i]?) (some (Sr (.slice none 0 0) 0 0)) (p :: ps)) := build_parts_struct T97.ze T97.pl Tryz.underlying97 T97.places _
theorem T95.sz : tsz Tryz.prog 95 = some 1 := by kernel_rfl
@[go_sem] theorem T97.fla2 (b o : Nat) : fieldAddrA Tryz.prog 97 2 (pt b o) = some (pt b (o + 2)) := fla (f := 2) (o' := 2) (ft := 95) (z := 1) Tryz.underlying97 rfl rfl rfl T95.sz (by decide) b o
theorem T95.ag : tagg Tryz.prog 95 = some false := by kernel_rfl
@[go_sem] theorem T95.load (h : List Blk) (b o : Nat) : loadP Tryz.prog h 95 (pt b o) = loadCell (h[b]?) o := loadP_cell T95.ag h b o
@[go_sem] theorem T22.ixa (b o len : Nat) (k : IntKind) (n : Int) : idxAddrA Tryz.prog 22 (sl b o len 1) (.int k n) = ixR (aidx n len) b o 1 := ixa_sl Tryz.underlying22 T5.sz b o len k n
@[go_sem] theorem T22.ixaB (b o len : Nat) (x : UInt8) : idxAddrA Tryz.prog 22 (sl b o len 1) (B x) = ixR (aidx x.toNat len) b o 1 := ixa_sl_B Tryz.underlying22 T5.sz b o len x
@[go_sem] theorem T5.conv95 (h : List Blk) (x : UInt8) : convS Tryz.prog h 5 95 (B x) = some (.int .u64 (IntKind.u64.wrap x.toNat)) := conv_B Tryz.underlying5 Tryz.underlying95 h x
@[go_sem] theorem T95.store_int (h : List Blk) (b o : Nat) (n : Int) : storeP Tryz.prog h 95 (.int .u64 n) (pt b o) = storeCell h b (h[b]?) o (.int .u64 n) := storeP_int T95.sz .u64 n h b o
@[go_sem] theorem T95.conv2 (h : List Blk) (k : IntKind) (n : Int) : convS Tryz.prog h 95 2 (.int k n) = some (.int .i64 (IntKind.i64.wrap n)) := conv_int Tryz.underlying95 Tryz.underlying2 h k n
@[go_sem] theorem T97.fla1 (b o : Nat) : fieldAddrA Tryz.prog 97 1 (pt b o) = some (pt b (o + 1)) := fla (f := 1) (o' := 1) (ft := 3) (z := 1) Tryz.underlying97 rfl rfl rfl T3.sz (by decide) b o
theorem T22.sz : tsz Tryz.prog 22 = some 1 := by kernel_rfl
@[go_sem] theorem T97.fla0 (b o : Nat) : fieldAddrA Tryz.prog 97 0 (pt b o) = some (pt b (o + 0)) := fla (f := 0) (o' := 0) (ft := 22) (z := 1) Tryz.underlying97 rfl rfl rfl T22.sz (by decide) b o
theorem T22.ag : tagg Tryz.prog 22 = some false := by kernel_rfl
@[go_sem] theorem T22.load (h : List Blk) (b o : Nat) : loadP Tryz.prog h 22 (pt b o) = loadCell (h[b]?) o := loadP_cell T22.ag h b o
@[go_sem] theorem T5.conv2 (h : List Blk) (x : UInt8) : convS Tryz.prog h 5 2 (B x) = some (.int .i64 (IntKind.i64.wrap x.toNat)) := conv_B Tryz.underlying5 Tryz.underlying2 h x
theorem T25.sz : tsz Tryz.prog 25 = some 256 := by kernel_rfl
@[go_sem] theorem T32.fla1 (b o : Nat) : fieldAddrA Tryz.prog 32 1 (pt b o) = some (pt b (o + 1)) := fla (f := 1) (o' := 1) (ft := 25) (z := 256) Tryz.underlying32 rfl rfl rfl T25.sz (by decide) b o
theorem T25.ag : tagg Tryz.prog 25 = some true := by kernel_rfl
@[go_sem] theorem T25.load (h : List Blk) (b o : Nat) : loadP Tryz.prog h 25 (pt b o) = loadRow (h[b]?) o 256 := loadP_row T25.ag T25.sz h b o
theorem T28.ze : tzero Tryz.prog 28 = some (.agg (Bs 16 (fun _ => 0)).toArray) := by kernel_rfl
@[go_sem] theorem T28.alloc (h : List Blk) : allocA Tryz.prog h 28 = some (pt h.length 0, h ++ [⟨Bs 16 (fun _ => 0), true⟩]) := alloc_of T28.ze rfl (by kernel_rfl) h
@[go_sem] theorem T28.store (h : List Blk) (b o : Nat) (cs : Array Value) : storeP Tryz.prog h 28 (.agg cs) (pt b o) = storeRow h b (h[b]?) o 16 cs.toList := storeP_row T28.sz cs h b o
theorem T113.ze : tzero Tryz.prog 113 = some (.agg (En (fun _ => 0) (fun _ => 0) (fun _ => 0) (fun _ => 0) (.pointer none) (.pointer none) 0).toArray) := by kernel_rfl
theorem T113.pl : (En (fun _ => 0) (fun _ => 0) (fun _ => 0) (fun _ => 0) (.pointer none) (.pointer none) 0).all plainC = true := by kernel_rfl
theorem T113.places : placesA Tryz.prog 113 = some [(0, 256), (256, 256), (512, 16), (528, 16), (544, 1), (545, 1), (546, 1)] := by kernel_rfl
@[go_sem] theorem T113.bld (p : Nat × Value) (ps : List (Nat × Value)) : buildA Tryz.prog 113 (p :: ps) = bldR (fillK (fun i => [(0, 256), (256, 256), (512, 16), (528, 16), (544, 1), (545, 1), (546, 1)][i]?) (some (En (fun _ => 0) (fun _ => 0) (fun _ => 0) (fun _ => 0) (.pointer none) (.pointer none) 0)) (p :: ps)) := build_parts_struct T113.ze T113.pl Tryz.underlying113 T113.places _
@[go_sem] theorem T53.bs0 (h : List Blk) : buildSliceA Tryz.prog h 53 0 [] = some (sl h.length 0 0 1, h ++ [⟨[], true⟩]) := bs_nil Tryz.underlying53 T2.sz T2.ze rfl (by kernel_rfl) (by kernel_rfl) h
@[go_sem] theorem T113.fla0 (b o : Nat) : fieldAddrA Tryz.prog 113 0 (pt b o) = some (pt b (o + 0)) := fla (f := 0) (o' := 0) (ft := 25) (z := 256) Tryz.underlying113 rfl rfl rfl T25.sz (by decide) b o
theorem T53.ei : elemInfo Tryz.prog 53 = some (2, 1, 8) := by kernel_rfl
@[go_sem] theorem T53.app (h : List Blk) (s : Value) (b o m : Nat) : appendA Tryz.prog h 53 53 s (sl b o m 1) = appR h 1 8 s (srcR (h[b]?) o m 1) := by rw [append_of T53.ei]; simp only [srcA_sl]
@[go_sem] theorem T53.bs4 (h : List Blk) (ps : List (Nat × Value)) : buildSliceA Tryz.prog h 53 4 ps = litR h 4 1 (fillK (fun i => some (i * 1, 1)) (some [.int .i64 0, .int .i64 0, .int .i64 0, .int .i64 0]) ps) := bs_cells Tryz.underlying53 T2.sz T2.ze rfl rfl h (by decide) ps
@[go_sem] theorem T25.ixa (b o : Nat) (k : IntKind) (n : Int) : idxAddrA Tryz.prog 25 (pt b o) (.int k n) = ixR (aidx n 256) b o 1 := ixa_arr Tryz.underlying25 T5.sz b o k n
@[go_sem] theorem T25.ixaB (b o : Nat) (x : UInt8) : idxAddrA Tryz.prog 25 (pt b o) (B x) = ixR (aidx x.toNat 256) b o 1 := ixa_arr_B Tryz.underlying25 T5.sz b o x
theorem T26.sz : tsz Tryz.prog 26 = some 4 := by kernel_rfl
@[go_sem] theorem T28.ixa (b o : Nat) (k : IntKind) (n : Int) : idxAddrA Tryz.prog 28 (pt b o) (.int k n) = ixR (aidx n 4) b o 4 := ixa_arr Tryz.underlying28 T26.sz b o k n
@[go_sem] theorem T28.ixaB (b o : Nat) (x : UInt8) : idxAddrA Tryz.prog 28 (pt b o) (B x) = ixR (aidx x.toNat 4) b o 4 := ixa_arr_B Tryz.underlying28 T26.sz b o x
theorem T26.ag : tagg Tryz.prog 26 = some true := by kernel_rfl
@[go_sem] theorem T26.load (h : List Blk) (b o : Nat) : loadP Tryz.prog h 26 (pt b o) = loadRow (h[b]?) o 4 := loadP_row T26.ag T26.sz h b o
@[go_sem] theorem T26.store (h : List Blk) (b o : Nat) (cs : Array Value) : storeP Tryz.prog h 26 (.agg cs) (pt b o) = storeRow h b (h[b]?) o 4 cs.toList := storeP_row T26.sz cs h b o
theorem T5.ze : tzero Tryz.prog 5 = some (B 0) := by kernel_rfl
@[go_sem] theorem T22.bs3 (h : List Blk) (ps : List (Nat × Value)) : buildSliceA Tryz.prog h 22 3 ps = litR h 3 1 (fillK (fun i => some (i * 1, 1)) (some [B 0, B 0, B 0]) ps) := bs_cells Tryz.underlying22 T5.sz T5.ze rfl rfl h (by decide) ps
@[go_sem] theorem T30.ixa (b o : Nat) (k : IntKind) (n : Int) : idxAddrA Tryz.prog 30 (pt b o) (.int k n) = ixR (aidx n 16) b o 1 := ixa_arr Tryz.underlying30 T5.sz b o k n
@[go_sem] theorem T30.ixaB (b o : Nat) (x : UInt8) : idxAddrA Tryz.prog 30 (pt b o) (B x) = ixR (aidx x.toNat 16) b o 1 := ixa_arr_B Tryz.underlying30 T5.sz b o x
@[go_sem] theorem T53.bs3 (h : List Blk) (ps : List (Nat × Value)) : buildSliceA Tryz.prog h 53 3 ps = litR h 3 1 (fillK (fun i => some (i * 1, 1)) (some [.int .i64 0, .int .i64 0, .int .i64 0]) ps) := bs_cells Tryz.underlying53 T2.sz T2.ze rfl rfl h (by decide) ps
theorem T118.ze : tzero Tryz.prog 118 = some (.agg (Is 256 (fun _ => 0)).toArray) := by kernel_rfl
theorem T118.pl : (Is 256 (fun _ => 0)).all plainC = true := by kernel_rfl
theorem T117.sz : tsz Tryz.prog 117 = some 16 := by kernel_rfl
@[go_sem] theorem T118.bld0 : buildA Tryz.prog 118 [] = some (.agg (Is 256 (fun _ => 0)).toArray) := build_nil T118.ze T118.pl Tryz.underlying118 T117.sz
@[go_sem] theorem T118.alloc (h : List Blk) : allocA Tryz.prog h 118 = some (pt h.length 0, h ++ [⟨Is 256 (fun _ => 0), true⟩]) := alloc_of T118.ze rfl (by kernel_rfl) h
theorem T118.sz : tsz Tryz.prog 118 = some 256 := by kernel_rfl
@[go_sem] theorem T118.store (h : List Blk) (b o : Nat) (cs : Array Value) : storeP Tryz.prog h 118 (.agg cs) (pt b o) = storeRow h b (h[b]?) o 256 cs.toList := storeP_row T118.sz cs h b o
@[go_sem] theorem T118.ixa (b o : Nat) (k : IntKind) (n : Int) : idxAddrA Tryz.prog 118 (pt b o) (.int k n) = ixR (aidx n 16) b o 16 := ixa_arr Tryz.underlying118 T117.sz b o k n
@[go_sem] theorem T118.ixaB (b o : Nat) (x : UInt8) : idxAddrA Tryz.prog 118 (pt b o) (B x) = ixR (aidx x.toNat 16) b o 16 := ixa_arr_B Tryz.underlying118 T117.sz b o x
@[go_sem] theorem T117.ixa (b o : Nat) (k : IntKind) (n : Int) : idxAddrA Tryz.prog 117 (pt b o) (.int k n) = ixR (aidx n 16) b o 1 := ixa_arr Tryz.underlying117 T3.sz b o k n
@[go_sem] theorem T117.ixaB (b o : Nat) (x : UInt8) : idxAddrA Tryz.prog 117 (pt b o) (B x) = ixR (aidx x.toNat 16) b o 1 := ixa_arr_B Tryz.underlying117 T3.sz b o x
theorem T75.pl : (Vs 16 (fun _ => .slice none 0 0)).all plainC = true := by kernel_rfl
@[go_sem] theorem T75.bld0 : buildA Tryz.prog 75 [] = some (.agg (Vs 16 (fun _ => .slice none 0 0)).toArray) := build_nil T75.ze T75.pl Tryz.underlying75 T53.sz
@[go_sem] theorem T75.ixa (b o : Nat) (k : IntKind) (n : Int) : idxAddrA Tryz.prog 75 (pt b o) (.int k n) = ixR (aidx n 16) b o 1 := ixa_arr Tryz.underlying75 T53.sz b o k n
@[go_sem] theorem T75.ixaB (b o : Nat) (x : UInt8) : idxAddrA Tryz.prog 75 (pt b o) (B x) = ixR (aidx x.toNat 16) b o 1 := ixa_arr_B Tryz.underlying75 T53.sz b o x
@[go_sem] theorem T53.store_sl (h : List Blk) (b o : Nat) (c q n es : Nat) : storeP Tryz.prog h 53 (sl c q n es) (pt b o) = storeCell h b (h[b]?) o (sl c q n es) := storeP_sl T53.sz c q n es h b o
@[go_sem] theorem T53.store_nil (h : List Blk) (b o : Nat) (n c : Nat) : storeP Tryz.prog h 53 (.slice none n c) (pt b o) = storeCell h b (h[b]?) o (.slice none n c) := storeP_nil T53.sz n c h b o
@[go_sem] theorem T79.conv121 (h : List Blk) (k : IntKind) (n : Int) : convS Tryz.prog h 79 121 (.int k n) = some (.int .u32 (IntKind.u32.wrap n)) := conv_int Tryz.underlying79 Tryz.underlying121 h k n
@[go_sem] theorem T79.conv3 (h : List Blk) (k : IntKind) (n : Int) : convS Tryz.prog h 79 3 (.int k n) = some (.int .i64 (IntKind.i64.wrap n)) := conv_int Tryz.underlying79 Tryz.underlying3 h k n
@[go_sem] theorem T77.slaN (h : List Blk) (lo hi : Option Value) : aslice Tryz.prog h 77 (.slice none 0 0) lo hi = slcNil (lowA lo) (highA 0 hi) := sla_nil Tryz.underlying77 T3.sz h lo hi
@[go_sem] theorem T77.sla (h : List Blk) (b o len : Nat) (lo hi : Option Value) : aslice Tryz.prog h 77 (sl b o len 1) lo hi = slcSl b o 1 (lowA lo) (highA len hi) := sla_sl Tryz.underlying77 T3.sz h b o len lo hi
@[go_sem] theorem T30.ix (l : List Value) (k : IntKind) (n : Int) : indexA Tryz.prog 30 (.agg l.toArray) (.int k n) = ixC (aidx n 16) l := ix_arr_cell Tryz.underlying30 T5.sz T5.ag l k n
@[go_sem] theorem T30.ixB (l : List Value) (x : UInt8) : indexA Tryz.prog 30 (.agg l.toArray) (B x) = ixC (aidx x.toNat 16) l := ix_arr_cell_B Tryz.underlying30 T5.sz T5.ag l x
@[go_sem] theorem T5.conv79 (h : List Blk) (x : UInt8) : convS Tryz.prog h 5 79 (B x) = some (.int .u64 (IntKind.u64.wrap x.toNat)) := conv_B Tryz.underlying5 Tryz.underlying79 h x
@[go_sem] theorem T36.eqn (b o n es : Nat) : abin Tryz.prog .eql 36 (sl b o n es) (.slice none 0 0) = some (.bool false) := eqn_sl Tryz.underlying36 b o n es
@[go_sem] theorem T36.eqN (l c : Nat) : abin Tryz.prog .eql 36 (.slice none l c) (.slice none 0 0) = some (.bool true) := eqn_nil Tryz.underlying36 l c
@[go_sem] theorem T36.nen (b o n es : Nat) : abin Tryz.prog .neq 36 (sl b o n es) (.slice none 0 0) = some (.bool true) := nen_sl Tryz.underlying36 b o n es
@[go_sem] theorem T36.neN (l c : Nat) : abin Tryz.prog .neq 36 (.slice none l c) (.slice none 0 0) = some (.bool false) := nen_nil Tryz.underlying36 l c
@[go_sem] theorem T113.fla2 (b o : Nat) : fieldAddrA Tryz.prog 113 2 (pt b o) = some (pt b (o + 512)) := fla (f := 2) (o' := 512) (ft := 30) (z := 16) Tryz.underlying113 rfl rfl rfl T30.sz (by decide) b o
theorem T110.sz : tsz Tryz.prog 110 = some 1 := by kernel_rfl
@[go_sem] theorem T113.fla4 (b o : Nat) : fieldAddrA Tryz.prog 113 4 (pt b o) = some (pt b (o + 544)) := fla (f := 4) (o' := 544) (ft := 110) (z := 1) Tryz.underlying113 rfl rfl rfl T110.sz (by decide) b o
theorem T110.ag : tagg Tryz.prog 110 = some false := by kernel_rfl
@[go_sem] theorem T110.load (h : List Blk) (b o : Nat) : loadP Tryz.prog h 110 (pt b o) = loadCell (h[b]?) o := loadP_cell T110.ag h b o
@[go_sem] theorem T40.sla (h : List Blk) (b o : Nat) (lo hi : Option Value) : aslice Tryz.prog h 40 (pt b o) lo hi = slcArr (h[b]?) b o 16 1 (lowA lo) (highA 16 hi) := sla_arr Tryz.underlying40 T5.sz h b o lo hi
theorem T135.ze : tzero Tryz.prog 135 = some (.agg (Vs 256 (fun _ => .bool false)).toArray) := by kernel_rfl
theorem T135.pl : (Vs 256 (fun _ => .bool false)).all plainC = true := by kernel_rfl
theorem T4.sz : tsz Tryz.prog 4 = some 1 := by kernel_rfl
@[go_sem] theorem T135.bld0 : buildA Tryz.prog 135 [] = some (.agg (Vs 256 (fun _ => .bool false)).toArray) := build_nil T135.ze T135.pl Tryz.underlying135 T4.sz
@[go_sem] theorem T135.alloc (h : List Blk) : allocA Tryz.prog h 135 = some (pt h.length 0, h ++ [⟨Vs 256 (fun _ => .bool false), true⟩]) := alloc_of T135.ze rfl (by kernel_rfl) h
theorem T135.sz : tsz Tryz.prog 135 = some 256 := by kernel_rfl
@[go_sem] theorem T135.store (h : List Blk) (b o : Nat) (cs : Array Value) : storeP Tryz.prog h 135 (.agg cs) (pt b o) = storeRow h b (h[b]?) o 256 cs.toList := storeP_row T135.sz cs h b o
@[go_sem] theorem T135.ixa (b o : Nat) (k : IntKind) (n : Int) : idxAddrA Tryz.prog 135 (pt b o) (.int k n) = ixR (aidx n 256) b o 1 := ixa_arr Tryz.underlying135 T4.sz b o k n
@[go_sem] theorem T135.ixaB (b o : Nat) (x : UInt8) : idxAddrA Tryz.prog 135 (pt b o) (B x) = ixR (aidx x.toNat 256) b o 1 := ixa_arr_B Tryz.underlying135 T4.sz b o x
theorem T4.ag : tagg Tryz.prog 4 = some false := by kernel_rfl
@[go_sem] theorem T4.load (h : List Blk) (b o : Nat) : loadP Tryz.prog h 4 (pt b o) = loadCell (h[b]?) o := loadP_cell T4.ag h b o
@[go_sem] theorem T4.store_bool (h : List Blk) (b o : Nat) (x : Bool) : storeP Tryz.prog h 4 (.bool x) (pt b o) = storeCell h b (h[b]?) o (.bool x) := storeP_bool T4.sz x h b o
theorem T136.ze : tzero Tryz.prog 136 = some (.agg (Vs 16 (fun _ => .bool false)).toArray) := by kernel_rfl
theorem T136.pl : (Vs 16 (fun _ => .bool false)).all plainC = true := by kernel_rfl
@[go_sem] theorem T136.bld0 : buildA Tryz.prog 136 [] = some (.agg (Vs 16 (fun _ => .bool false)).toArray) := build_nil T136.ze T136.pl Tryz.underlying136 T4.sz
@[go_sem] theorem T136.alloc (h : List Blk) : allocA Tryz.prog h 136 = some (pt h.length 0, h ++ [⟨Vs 16 (fun _ => .bool false), true⟩]) := alloc_of T136.ze rfl (by kernel_rfl) h
theorem T136.sz : tsz Tryz.prog 136 = some 16 := by kernel_rfl
@[go_sem] theorem T136.store (h : List Blk) (b o : Nat) (cs : Array Value) : storeP Tryz.prog h 136 (.agg cs) (pt b o) = storeRow h b (h[b]?) o 16 cs.toList := storeP_row T136.sz cs h b o
@[go_sem] theorem T136.ixa (b o : Nat) (k : IntKind) (n : Int) : idxAddrA Tryz.prog 136 (pt b o) (.int k n) = ixR (aidx n 16) b o 1 := ixa_arr Tryz.underlying136 T4.sz b o k n
@[go_sem] theorem T136.ixaB (b o : Nat) (x : UInt8) : idxAddrA Tryz.prog 136 (pt b o) (B x) = ixR (aidx x.toNat 16) b o 1 := ixa_arr_B Tryz.underlying136 T4.sz b o x
@[go_sem] theorem T25.ix (l : List Value) (k : IntKind) (n : Int) : indexA Tryz.prog 25 (.agg l.toArray) (.int k n) = ixC (aidx n 256) l := ix_arr_cell Tryz.underlying25 T5.sz T5.ag l k n
@[go_sem] theorem T25.ixB (l : List Value) (x : UInt8) : indexA Tryz.prog 25 (.agg l.toArray) (B x) = ixC (aidx x.toNat 256) l := ix_arr_cell_B Tryz.underlying25 T5.sz T5.ag l x
@[go_sem] theorem T135.sla (h : List Blk) (b o : Nat) (lo hi : Option Value) : aslice Tryz.prog h 135 (pt b o) lo hi = slcArr (h[b]?) b o 256 1 (lowA lo) (highA 256 hi) := sla_arr Tryz.underlying135 T4.sz h b o lo hi
@[go_sem] theorem T30.sla (h : List Blk) (b o : Nat) (lo hi : Option Value) : aslice Tryz.prog h 30 (pt b o) lo hi = slcArr (h[b]?) b o 16 1 (lowA lo) (highA 16 hi) := sla_arr Tryz.underlying30 T5.sz h b o lo hi
@[go_sem] theorem T26.ixa (b o : Nat) (k : IntKind) (n : Int) : idxAddrA Tryz.prog 26 (pt b o) (.int k n) = ixR (aidx n 4) b o 1 := ixa_arr Tryz.underlying26 T5.sz b o k n
@[go_sem] theorem T26.ixaB (b o : Nat) (x : UInt8) : idxAddrA Tryz.prog 26 (pt b o) (B x) = ixR (aidx x.toNat 4) b o 1 := ixa_arr_B Tryz.underlying26 T5.sz b o x
theorem T28.pl : (Bs 16 (fun _ => 0)).all plainC = true := by kernel_rfl
@[go_sem] theorem T28.bld0 : buildA Tryz.prog 28 [] = some (.agg (Bs 16 (fun _ => 0)).toArray) := build_nil T28.ze T28.pl Tryz.underlying28 T26.sz
theorem T25.ze : tzero Tryz.prog 25 = some (.agg (Bs 256 (fun _ => 0)).toArray) := by kernel_rfl
@[go_sem] theorem T25.alloc (h : List Blk) : allocA Tryz.prog h 25 = some (pt h.length 0, h ++ [⟨Bs 256 (fun _ => 0), true⟩]) := alloc_of T25.ze rfl (by kernel_rfl) h
theorem T25.pl : (Bs 256 (fun _ => 0)).all plainC = true := by kernel_rfl
@[go_sem] theorem T25.bld0 : buildA Tryz.prog 25 [] = some (.agg (Bs 256 (fun _ => 0)).toArray) := build_nil T25.ze T25.pl Tryz.underlying25 T5.sz
@[go_sem] theorem T25.store (h : List Blk) (b o : Nat) (cs : Array Value) : storeP Tryz.prog h 25 (.agg cs) (pt b o) = storeRow h b (h[b]?) o 256 cs.toList := storeP_row T25.sz cs h b o
theorem T30.ze : tzero Tryz.prog 30 = some (.agg (Bs 16 (fun _ => 0)).toArray) := by kernel_rfl
@[go_sem] theorem T30.alloc (h : List Blk) : allocA Tryz.prog h 30 = some (pt h.length 0, h ++ [⟨Bs 16 (fun _ => 0), true⟩]) := alloc_of T30.ze rfl (by kernel_rfl) h
theorem T30.pl : (Bs 16 (fun _ => 0)).all plainC = true := by kernel_rfl
@[go_sem] theorem T30.bld0 : buildA Tryz.prog 30 [] = some (.agg (Bs 16 (fun _ => 0)).toArray) := build_nil T30.ze T30.pl Tryz.underlying30 T5.sz
@[go_sem] theorem T30.store (h : List Blk) (b o : Nat) (cs : Array Value) : storeP Tryz.prog h 30 (.agg cs) (pt b o) = storeRow h b (h[b]?) o 16 cs.toList := storeP_row T30.sz cs h b o
theorem T146.ze : tzero Tryz.prog 146 = some (.agg (Bs 4096 (fun _ => 0)).toArray) := by kernel_rfl
theorem T146.pl : (Bs 4096 (fun _ => 0)).all plainC = true := by kernel_rfl
theorem T144.sz : tsz Tryz.prog 144 = some 1024 := by kernel_rfl
@[go_sem] theorem T146.bld0 : buildA Tryz.prog 146 [] = some (.agg (Bs 4096 (fun _ => 0)).toArray) := build_nil T146.ze T146.pl Tryz.underlying146 T144.sz
@[go_sem] theorem T26.ix (l : List Value) (k : IntKind) (n : Int) : indexA Tryz.prog 26 (.agg l.toArray) (.int k n) = ixC (aidx n 4) l := ix_arr_cell Tryz.underlying26 T5.sz T5.ag l k n
@[go_sem] theorem T26.ixB (l : List Value) (x : UInt8) : indexA Tryz.prog 26 (.agg l.toArray) (B x) = ixC (aidx x.toNat 4) l := ix_arr_cell_B Tryz.underlying26 T5.sz T5.ag l x
@[go_sem] theorem T146.ixa (b o : Nat) (k : IntKind) (n : Int) : idxAddrA Tryz.prog 146 (pt b o) (.int k n) = ixR (aidx n 4) b o 1024 := ixa_arr Tryz.underlying146 T144.sz b o k n
@[go_sem] theorem T146.ixaB (b o : Nat) (x : UInt8) : idxAddrA Tryz.prog 146 (pt b o) (B x) = ixR (aidx x.toNat 4) b o 1024 := ixa_arr_B Tryz.underlying146 T144.sz b o x
theorem T24.sz : tsz Tryz.prog 24 = some 256 := by kernel_rfl
@[go_sem] theorem T144.ixa (b o : Nat) (k : IntKind) (n : Int) : idxAddrA Tryz.prog 144 (pt b o) (.int k n) = ixR (aidx n 4) b o 256 := ixa_arr Tryz.underlying144 T24.sz b o k n
@[go_sem] theorem T144.ixaB (b o : Nat) (x : UInt8) : idxAddrA Tryz.prog 144 (pt b o) (B x) = ixR (aidx x.toNat 4) b o 256 := ixa_arr_B Tryz.underlying144 T24.sz b o x
@[go_sem] theorem T24.ixa (b o : Nat) (k : IntKind) (n : Int) : idxAddrA Tryz.prog 24 (pt b o) (.int k n) = ixR (aidx n 256) b o 1 := ixa_arr Tryz.underlying24 T5.sz b o k n
@[go_sem] theorem T24.ixaB (b o : Nat) (x : UInt8) : idxAddrA Tryz.prog 24 (pt b o) (B x) = ixR (aidx x.toNat 256) b o 1 := ixa_arr_B Tryz.underlying24 T5.sz b o x
@[go_sem] theorem T113.fla5 (b o : Nat) : fieldAddrA Tryz.prog 113 5 (pt b o) = some (pt b (o + 545)) := fla (f := 5) (o' := 545) (ft := 110) (z := 1) Tryz.underlying113 rfl rfl rfl T110.sz (by decide) b o
@[go_sem] theorem T113.fla3 (b o : Nat) : fieldAddrA Tryz.prog 113 3 (pt b o) = some (pt b (o + 528)) := fla (f := 3) (o' := 528) (ft := 30) (z := 16) Tryz.underlying113 rfl rfl rfl T30.sz (by decide) b o
@[go_sem] theorem T53.bs7 (h : List Blk) (ps : List (Nat × Value)) : buildSliceA Tryz.prog h 53 7 ps = litR h 7 1 (fillK (fun i => some (i * 1, 1)) (some [.int .i64 0, .int .i64 0, .int .i64 0, .int .i64 0, .int .i64 0, .int .i64 0, .int .i64 0]) ps) := bs_cells Tryz.underlying53 T2.sz T2.ze rfl rfl h (by decide) ps
theorem T26.ze : tzero Tryz.prog 26 = some (.agg (Bs 4 (fun _ => 0)).toArray) := by kernel_rfl
theorem T26.pl : (Bs 4 (fun _ => 0)).all plainC = true := by kernel_rfl
@[go_sem] theorem T26.bld (p : Nat × Value) (ps : List (Nat × Value)) : buildA Tryz.prog 26 (p :: ps) = bldR (fillK (fun i => some (i * 1, 1)) (some (Bs 4 (fun _ => 0))) (p :: ps)) := build_parts T26.ze T26.pl Tryz.underlying26 T5.sz _
@[go_sem] theorem T28.bld (p : Nat × Value) (ps : List (Nat × Value)) : buildA Tryz.prog 28 (p :: ps) = bldR (fillK (fun i => some (i * 4, 4)) (some (Bs 16 (fun _ => 0))) (p :: ps)) := build_parts T28.ze T28.pl Tryz.underlying28 T26.sz _
theorem T22.ze : tzero Tryz.prog 22 = some (.slice none 0 0) := by kernel_rfl
@[go_sem] theorem T150.bs0 (h : List Blk) : buildSliceA Tryz.prog h 150 0 [] = some (sl h.length 0 0 1, h ++ [⟨[], true⟩]) := bs_nil Tryz.underlying150 T22.sz T22.ze rfl (by kernel_rfl) (by kernel_rfl) h
@[go_sem] theorem T22.bs0 (h : List Blk) : buildSliceA Tryz.prog h 22 0 [] = some (sl h.length 0 0 1, h ++ [⟨[], true⟩]) := bs_nil Tryz.underlying22 T5.sz T5.ze rfl (by kernel_rfl) (by kernel_rfl) h
@[go_sem] theorem T22.bs1 (h : List Blk) (ps : List (Nat × Value)) : buildSliceA Tryz.prog h 22 1 ps = litR h 1 1 (fillK (fun i => some (i * 1, 1)) (some [B 0]) ps) := bs_cells Tryz.underlying22 T5.sz T5.ze rfl rfl h (by decide) ps
theorem T22.ei : elemInfo Tryz.prog 22 = some (5, 1, 1) := by kernel_rfl
@[go_sem] theorem T22.app (h : List Blk) (s : Value) (b o m : Nat) : appendA Tryz.prog h 22 22 s (sl b o m 1) = appR h 1 1 s (srcR (h[b]?) o m 1) := by rw [append_of T22.ei]; simp only [srcA_sl]
@[go_sem] theorem T150.bs1 (h : List Blk) (ps : List (Nat × Value)) : buildSliceA Tryz.prog h 150 1 ps = litR h 1 1 (fillK (fun i => some (i * 1, 1)) (some [.slice none 0 0]) ps) := bs_cells Tryz.underlying150 T22.sz T22.ze rfl rfl h (by decide) ps
theorem T150.ei : elemInfo Tryz.prog 150 = some (22, 1, 24) := by kernel_rfl
@[go_sem] theorem T150.app (h : List Blk) (s : Value) (b o m : Nat) : appendA Tryz.prog h 150 150 s (sl b o m 1) = appR h 1 24 s (srcR (h[b]?) o m 1) := by rw [append_of T150.ei]; simp only [srcA_sl]
@[go_sem] theorem T150.len (b o n es : Nat) : alen Tryz.prog 150 (sl b o n es) = some (.int .i64 n) := len_sl Tryz.underlying150 b o n es
@[go_sem] theorem T150.lenN (n c : Nat) : alen Tryz.prog 150 (.slice none n c) = some (.int .i64 n) := len_nilS Tryz.underlying150 n c
@[go_sem] theorem T150.ixa (b o len : Nat) (k : IntKind) (n : Int) : idxAddrA Tryz.prog 150 (sl b o len 1) (.int k n) = ixR (aidx n len) b o 1 := ixa_sl Tryz.underlying150 T22.sz b o len k n
@[go_sem] theorem T150.ixaB (b o len : Nat) (x : UInt8) : idxAddrA Tryz.prog 150 (sl b o len 1) (B x) = ixR (aidx x.toNat len) b o 1 := ixa_sl_B Tryz.underlying150 T22.sz b o len x
@[go_sem] theorem T22.store_sl (h : List Blk) (b o : Nat) (c q n es : Nat) : storeP Tryz.prog h 22 (sl c q n es) (pt b o) = storeCell h b (h[b]?) o (sl c q n es) := storeP_sl T22.sz c q n es h b o
@[go_sem] theorem T22.store_nil (h : List Blk) (b o : Nat) (n c : Nat) : storeP Tryz.prog h 22 (.slice none n c) (pt b o) = storeCell h b (h[b]?) o (.slice none n c) := storeP_nil T22.sz n c h b o
@[go_sem] theorem T9.ix (s : ByteArray) (k : IntKind) (n : Int) : indexA Tryz.prog 9 (.string s) (.int k n) = chrC (aidx n s.size) s := ix_str Tryz.underlying9 s k n
@[go_sem] theorem T5.conv3 (h : List Blk) (x : UInt8) : convS Tryz.prog h 5 3 (B x) = some (.int .i64 (IntKind.i64.wrap x.toNat)) := conv_B Tryz.underlying5 Tryz.underlying3 h x
@[go_sem] theorem T95.conv3 (h : List Blk) (k : IntKind) (n : Int) : convS Tryz.prog h 95 3 (.int k n) = some (.int .i64 (IntKind.i64.wrap n)) := conv_int Tryz.underlying95 Tryz.underlying3 h k n
@[go_sem] theorem T121.conv79 (h : List Blk) (k : IntKind) (n : Int) : convS Tryz.prog h 121 79 (.int k n) = some (.int .u64 (IntKind.u64.wrap n)) := conv_int Tryz.underlying121 Tryz.underlying79 h k n
@[go_sem] theorem T2.conv95 (h : List Blk) (k : IntKind) (n : Int) : convS Tryz.prog h 2 95 (.int k n) = some (.int .u64 (IntKind.u64.wrap n)) := conv_int Tryz.underlying2 Tryz.underlying95 h k n
@[go_sem] theorem T26.alloc (h : List Blk) : allocA Tryz.prog h 26 = some (pt h.length 0, h ++ [⟨Bs 4 (fun _ => 0), true⟩]) := alloc_of T26.ze rfl (by kernel_rfl) h
@[go_sem] theorem T22.slaN (h : List Blk) (lo hi : Option Value) : aslice Tryz.prog h 22 (.slice none 0 0) lo hi = slcNil (lowA lo) (highA 0 hi) := sla_nil Tryz.underlying22 T5.sz h lo hi
@[go_sem] theorem T22.sla (h : List Blk) (b o len : Nat) (lo hi : Option Value) : aslice Tryz.prog h 22 (sl b o len 1) lo hi = slcSl b o 1 (lowA lo) (highA len hi) := sla_sl Tryz.underlying22 T5.sz h b o len lo hi
theorem T32.pl : (Ci 0 (fun _ => 0) (fun _ => 0) (fun _ => 0) 0).all plainC = true := by kernel_rfl
theorem T32.places : placesA Tryz.prog 32 = some [(0, 1), (1, 256), (257, 16), (273, 16), (289, 1)] := by kernel_rfl
@[go_sem] theorem T32.bld (p : Nat × Value) (ps : List (Nat × Value)) : buildA Tryz.prog 32 (p :: ps) = bldR (fillK (fun i => [(0, 1), (1, 256), (257, 16), (273, 16), (289, 1)][i]?) (some (Ci 0 (fun _ => 0) (fun _ => 0) (fun _ => 0) 0)) (p :: ps)) := build_parts_struct T32.ze T32.pl Tryz.underlying32 T32.places _
@[go_sem] theorem T121.conv95 (h : List Blk) (k : IntKind) (n : Int) : convS Tryz.prog h 121 95 (.int k n) = some (.int .u64 (IntKind.u64.wrap n)) := conv_int Tryz.underlying121 Tryz.underlying95 h k n
@[go_sem] theorem T95.conv121 (h : List Blk) (k : IntKind) (n : Int) : convS Tryz.prog h 95 121 (.int k n) = some (.int .u32 (IntKind.u32.wrap n)) := conv_int Tryz.underlying95 Tryz.underlying121 h k n
@[go_sem] theorem T140.len (b o n es : Nat) : alen Tryz.prog 140 (sl b o n es) = some (.int .i64 n) := len_sl Tryz.underlying140 b o n es
@[go_sem] theorem T140.lenN (n c : Nat) : alen Tryz.prog 140 (.slice none n c) = some (.int .i64 n) := len_nilS Tryz.underlying140 n c
@[go_sem] theorem T140.ixa (b o len : Nat) (k : IntKind) (n : Int) : idxAddrA Tryz.prog 140 (sl b o len 1) (.int k n) = ixR (aidx n len) b o 1 := ixa_sl Tryz.underlying140 T4.sz b o len k n
@[go_sem] theorem T140.ixaB (b o len : Nat) (x : UInt8) : idxAddrA Tryz.prog 140 (sl b o len 1) (B x) = ixR (aidx x.toNat len) b o 1 := ixa_sl_B Tryz.underlying140 T4.sz b o len x
theorem T4.isb : isBoolT Tryz.prog 4 = true := by kernel_rfl
@[go_sem] theorem T4.eql (a b : Bool) : abin Tryz.prog .eql 4 (.bool a) (.bool b) = some (.bool (a == b)) := eql_bool T4.isb a b
@[go_sem] theorem T4.neq (a b : Bool) : abin Tryz.prog .neq 4 (.bool a) (.bool b) = some (.bool (!(a == b))) := neq_bool T4.isb a b
theorem mixedOk : Tryz.prog.follows .mixedOrders = true := by kernel_rfl

end Go.Proofs.YtenkjbkcdcionaaGreat
