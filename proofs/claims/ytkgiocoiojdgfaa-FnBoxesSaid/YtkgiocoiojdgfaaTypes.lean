/- The operations at the types of this seat, as a walk reckons them; written by a program of the prover's. -/
import Derived.Test.YtkgiocoiojdgfaaRows
import Derived.Test.YtkgiocoiojdgfaaAbsI
import Derived.Test.YtkgiocoiojdgfaaAbsN
namespace Go.Proofs.Ytkgiocoiojdgfaa
set_option linter.unusedSimpArgs false
set_option linter.unusedVariables false
open Go.Abs
set_option maxRecDepth 100000

theorem T27.ag : tagg Try.prog 27 = some true := by kernel_rfl
theorem T27.sz : tsz Try.prog 27 = some 290 := by kernel_rfl
@[go_sem] theorem T27.load (h : List Blk) (b o : Nat) : loadP Try.prog h 27 (pt b o) = loadRow (h[b]?) o 290 := loadP_row T27.ag T27.sz h b o
theorem T4.isb : isBoolT Try.prog 4 = true := by kernel_rfl
@[go_sem] theorem T4.eql (a b : Bool) : abin Try.prog .eql 4 (.bool a) (.bool b) = some (.bool (a == b)) := eql_bool T4.isb a b
@[go_sem] theorem T4.neq (a b : Bool) : abin Try.prog .neq 4 (.bool a) (.bool b) = some (.bool (!(a == b))) := neq_bool T4.isb a b
theorem T31.ze : tzero Try.prog 31 = some (.agg (Bs 256 (fun _ => 0)).toArray) := by kernel_rfl
@[go_sem] theorem T31.alloc (h : List Blk) : allocA Try.prog h 31 = some (pt h.length 0, h ++ [⟨Bs 256 (fun _ => 0), true⟩]) := alloc_of T31.ze rfl (by kernel_rfl) h
theorem T31.sz : tsz Try.prog 31 = some 256 := by kernel_rfl
@[go_sem] theorem T31.store (h : List Blk) (b o : Nat) (cs : Array Value) : storeP Try.prog h 31 (.agg cs) (pt b o) = storeRow h b (h[b]?) o 256 cs.toList := storeP_row T31.sz cs h b o
theorem T31.ag : tagg Try.prog 31 = some true := by kernel_rfl
@[go_sem] theorem T31.load (h : List Blk) (b o : Nat) : loadP Try.prog h 31 (pt b o) = loadRow (h[b]?) o 256 := loadP_row T31.ag T31.sz h b o
theorem T31.aeq (f g : Nat → UInt8) : aeq Try.prog 31 (Bs 256 f) (Bs 256 g) = some (eqB 256 f g) := aeq_bytes (by kernel_rfl) (by kernel_rfl) (by kernel_rfl) (by kernel_rfl) (by kernel_rfl) f g
@[go_sem] theorem T31.eqa (f g : Nat → UInt8) : abin Try.prog .eql 31 (.agg (Bs 256 f).toArray) (.agg (Bs 256 g).toArray) = some (.bool (eqB 256 f g)) := eql_bytes (T31.aeq f g)
@[go_sem] theorem T31.nea (f g : Nat → UInt8) : abin Try.prog .neq 31 (.agg (Bs 256 f).toArray) (.agg (Bs 256 g).toArray) = some (.bool (!eqB 256 f g)) := neq_bytes (T31.aeq f g)
theorem T5.sz : tsz Try.prog 5 = some 1 := by kernel_rfl
@[go_sem] theorem T31.ixa (b o : Nat) (k : IntKind) (n : Int) : idxAddrA Try.prog 31 (pt b o) (.int k n) = ixR (aidx n 256) b o 1 := ixa_arr Try.underlying31 T5.sz b o k n
@[go_sem] theorem T31.ixaB (b o : Nat) (x : UInt8) : idxAddrA Try.prog 31 (pt b o) (B x) = ixR (aidx x.toNat 256) b o 1 := ixa_arr_B Try.underlying31 T5.sz b o x
theorem T5.ag : tagg Try.prog 5 = some false := by kernel_rfl
@[go_sem] theorem T5.load (h : List Blk) (b o : Nat) : loadP Try.prog h 5 (pt b o) = loadCell (h[b]?) o := loadP_cell T5.ag h b o
@[go_sem] theorem T2.conv5 (h : List Blk) (k : IntKind) (n : Int) : convS Try.prog h 2 5 (.int k n) = some (.int .u8 (IntKind.u8.wrap n)) := conv_int Try.underlying2 Try.underlying5 h k n
@[go_sem] theorem T43.len (b o n es : Nat) : alen Try.prog 43 (sl b o n es) = some (.int .i64 n) := len_sl Try.underlying43 b o n es
@[go_sem] theorem T43.lenN (n c : Nat) : alen Try.prog 43 (.slice none n c) = some (.int .i64 n) := len_nilS Try.underlying43 n c
@[go_sem] theorem T43.ixa (b o len : Nat) (k : IntKind) (n : Int) : idxAddrA Try.prog 43 (sl b o len 1) (.int k n) = ixR (aidx n len) b o 1 := ixa_sl Try.underlying43 T5.sz b o len k n
@[go_sem] theorem T43.ixaB (b o len : Nat) (x : UInt8) : idxAddrA Try.prog 43 (sl b o len 1) (B x) = ixR (aidx x.toNat len) b o 1 := ixa_sl_B Try.underlying43 T5.sz b o len x
theorem T32.ze : tzero Try.prog 32 = some (.agg (Bs 16 (fun _ => 0)).toArray) := by kernel_rfl
@[go_sem] theorem T32.alloc (h : List Blk) : allocA Try.prog h 32 = some (pt h.length 0, h ++ [⟨Bs 16 (fun _ => 0), true⟩]) := alloc_of T32.ze rfl (by kernel_rfl) h
theorem T32.sz : tsz Try.prog 32 = some 16 := by kernel_rfl
@[go_sem] theorem T32.store (h : List Blk) (b o : Nat) (cs : Array Value) : storeP Try.prog h 32 (.agg cs) (pt b o) = storeRow h b (h[b]?) o 16 cs.toList := storeP_row T32.sz cs h b o
theorem T32.ag : tagg Try.prog 32 = some true := by kernel_rfl
@[go_sem] theorem T32.load (h : List Blk) (b o : Nat) : loadP Try.prog h 32 (pt b o) = loadRow (h[b]?) o 16 := loadP_row T32.ag T32.sz h b o
theorem T32.aeq (f g : Nat → UInt8) : aeq Try.prog 32 (Bs 16 f) (Bs 16 g) = some (eqB 16 f g) := aeq_bytes (by kernel_rfl) (by kernel_rfl) (by kernel_rfl) (by kernel_rfl) (by kernel_rfl) f g
@[go_sem] theorem T32.eqa (f g : Nat → UInt8) : abin Try.prog .eql 32 (.agg (Bs 16 f).toArray) (.agg (Bs 16 g).toArray) = some (.bool (eqB 16 f g)) := eql_bytes (T32.aeq f g)
@[go_sem] theorem T32.nea (f g : Nat → UInt8) : abin Try.prog .neq 32 (.agg (Bs 16 f).toArray) (.agg (Bs 16 g).toArray) = some (.bool (!eqB 16 f g)) := neq_bytes (T32.aeq f g)
theorem T33.ze : tzero Try.prog 33 = some (.agg (Bs 16 (fun _ => 0)).toArray) := by kernel_rfl
@[go_sem] theorem T33.alloc (h : List Blk) : allocA Try.prog h 33 = some (pt h.length 0, h ++ [⟨Bs 16 (fun _ => 0), true⟩]) := alloc_of T33.ze rfl (by kernel_rfl) h
theorem T102.ze : tzero Try.prog 102 = some (.agg (Bs 16 (fun _ => 0)).toArray) := by kernel_rfl
@[go_sem] theorem T102.alloc (h : List Blk) : allocA Try.prog h 102 = some (pt h.length 0, h ++ [⟨Bs 16 (fun _ => 0), true⟩]) := alloc_of T102.ze rfl (by kernel_rfl) h
theorem T33.sz : tsz Try.prog 33 = some 16 := by kernel_rfl
@[go_sem] theorem T33.store (h : List Blk) (b o : Nat) (cs : Array Value) : storeP Try.prog h 33 (.agg cs) (pt b o) = storeRow h b (h[b]?) o 16 cs.toList := storeP_row T33.sz cs h b o
theorem T102.sz : tsz Try.prog 102 = some 16 := by kernel_rfl
@[go_sem] theorem T102.store (h : List Blk) (b o : Nat) (cs : Array Value) : storeP Try.prog h 102 (.agg cs) (pt b o) = storeRow h b (h[b]?) o 16 cs.toList := storeP_row T102.sz cs h b o
theorem T33.ag : tagg Try.prog 33 = some true := by kernel_rfl
@[go_sem] theorem T33.load (h : List Blk) (b o : Nat) : loadP Try.prog h 33 (pt b o) = loadRow (h[b]?) o 16 := loadP_row T33.ag T33.sz h b o
theorem T102.ag : tagg Try.prog 102 = some true := by kernel_rfl
@[go_sem] theorem T102.load (h : List Blk) (b o : Nat) : loadP Try.prog h 102 (pt b o) = loadRow (h[b]?) o 16 := loadP_row T102.ag T102.sz h b o
theorem T102.aeq (f g : Nat → UInt8) : aeq Try.prog 102 (Bs 16 f) (Bs 16 g) = some (eqB 16 f g) := aeq_bytes (by kernel_rfl) (by kernel_rfl) (by kernel_rfl) (by kernel_rfl) (by kernel_rfl) f g
@[go_sem] theorem T102.eqa (f g : Nat → UInt8) : abin Try.prog .eql 102 (.agg (Bs 16 f).toArray) (.agg (Bs 16 g).toArray) = some (.bool (eqB 16 f g)) := eql_bytes (T102.aeq f g)
@[go_sem] theorem T102.nea (f g : Nat → UInt8) : abin Try.prog .neq 102 (.agg (Bs 16 f).toArray) (.agg (Bs 16 g).toArray) = some (.bool (!eqB 16 f g)) := neq_bytes (T102.aeq f g)
theorem T33.aeq (f g : Nat → UInt8) : aeq Try.prog 33 (Bs 16 f) (Bs 16 g) = some (eqB 16 f g) := aeq_bytes (by kernel_rfl) (by kernel_rfl) (by kernel_rfl) (by kernel_rfl) (by kernel_rfl) f g
@[go_sem] theorem T33.eqa (f g : Nat → UInt8) : abin Try.prog .eql 33 (.agg (Bs 16 f).toArray) (.agg (Bs 16 g).toArray) = some (.bool (eqB 16 f g)) := eql_bytes (T33.aeq f g)
@[go_sem] theorem T33.nea (f g : Nat → UInt8) : abin Try.prog .neq 33 (.agg (Bs 16 f).toArray) (.agg (Bs 16 g).toArray) = some (.bool (!eqB 16 f g)) := neq_bytes (T33.aeq f g)
@[go_sem] theorem T28.len (b o n es : Nat) : alen Try.prog 28 (sl b o n es) = some (.int .i64 n) := len_sl Try.underlying28 b o n es
@[go_sem] theorem T28.lenN (n c : Nat) : alen Try.prog 28 (.slice none n c) = some (.int .i64 n) := len_nilS Try.underlying28 n c
theorem T59.sz : tsz Try.prog 59 = some 1 := by kernel_rfl
@[go_sem] theorem T28.ixa (b o len : Nat) (k : IntKind) (n : Int) : idxAddrA Try.prog 28 (sl b o len 1) (.int k n) = ixR (aidx n len) b o 1 := ixa_sl Try.underlying28 T59.sz b o len k n
@[go_sem] theorem T28.ixaB (b o len : Nat) (x : UInt8) : idxAddrA Try.prog 28 (sl b o len 1) (B x) = ixR (aidx x.toNat len) b o 1 := ixa_sl_B Try.underlying28 T59.sz b o len x
theorem T59.ag : tagg Try.prog 59 = some false := by kernel_rfl
@[go_sem] theorem T59.load (h : List Blk) (b o : Nat) : loadP Try.prog h 59 (pt b o) = loadCell (h[b]?) o := loadP_cell T59.ag h b o
@[go_sem] theorem T59.len (b o n es : Nat) : alen Try.prog 59 (sl b o n es) = some (.int .i64 n) := len_sl Try.underlying59 b o n es
@[go_sem] theorem T59.lenN (n c : Nat) : alen Try.prog 59 (.slice none n c) = some (.int .i64 n) := len_nilS Try.underlying59 n c
theorem T35.ag : tagg Try.prog 35 = some true := by kernel_rfl
theorem T35.sz : tsz Try.prog 35 = some 290 := by kernel_rfl
@[go_sem] theorem T35.load (h : List Blk) (b o : Nat) : loadP Try.prog h 35 (pt b o) = loadRow (h[b]?) o 290 := loadP_row T35.ag T35.sz h b o
theorem T35.ze : tzero Try.prog 35 = some (.agg (Ci 0 (fun _ => 0) (fun _ => 0) (fun _ => 0) 0).toArray) := by kernel_rfl
@[go_sem] theorem T35.alloc (h : List Blk) : allocA Try.prog h 35 = some (pt h.length 0, h ++ [⟨Ci 0 (fun _ => 0) (fun _ => 0) (fun _ => 0) 0, true⟩]) := alloc_of T35.ze rfl (by kernel_rfl) h
theorem T2.sz : tsz Try.prog 2 = some 1 := by kernel_rfl
@[go_sem] theorem T27.fla0 (b o : Nat) : fieldAddrA Try.prog 27 0 (pt b o) = some (pt b (o + 0)) := fla (f := 0) (o' := 0) (ft := 2) (z := 1) Try.underlying27 rfl rfl rfl T2.sz (by decide) b o
theorem T2.ag : tagg Try.prog 2 = some false := by kernel_rfl
@[go_sem] theorem T2.load (h : List Blk) (b o : Nat) : loadP Try.prog h 2 (pt b o) = loadCell (h[b]?) o := loadP_cell T2.ag h b o
@[go_sem] theorem T35.fla0 (b o : Nat) : fieldAddrA Try.prog 35 0 (pt b o) = some (pt b (o + 0)) := fla (f := 0) (o' := 0) (ft := 2) (z := 1) Try.underlying35 rfl rfl rfl T2.sz (by decide) b o
@[go_sem] theorem T2.store_int (h : List Blk) (b o : Nat) (n : Int) : storeP Try.prog h 2 (.int .i64 n) (pt b o) = storeCell h b (h[b]?) o (.int .i64 n) := storeP_int T2.sz .i64 n h b o
theorem T22.sz : tsz Try.prog 22 = some 256 := by kernel_rfl
@[go_sem] theorem T27.fla1 (b o : Nat) : fieldAddrA Try.prog 27 1 (pt b o) = some (pt b (o + 1)) := fla (f := 1) (o' := 1) (ft := 22) (z := 256) Try.underlying27 rfl rfl rfl T22.sz (by decide) b o
theorem T22.ag : tagg Try.prog 22 = some true := by kernel_rfl
@[go_sem] theorem T22.load (h : List Blk) (b o : Nat) : loadP Try.prog h 22 (pt b o) = loadRow (h[b]?) o 256 := loadP_row T22.ag T22.sz h b o
@[go_sem] theorem T35.fla1 (b o : Nat) : fieldAddrA Try.prog 35 1 (pt b o) = some (pt b (o + 1)) := fla (f := 1) (o' := 1) (ft := 31) (z := 256) Try.underlying35 rfl rfl rfl T31.sz (by decide) b o
theorem T24.sz : tsz Try.prog 24 = some 16 := by kernel_rfl
@[go_sem] theorem T27.fla2 (b o : Nat) : fieldAddrA Try.prog 27 2 (pt b o) = some (pt b (o + 257)) := fla (f := 2) (o' := 257) (ft := 24) (z := 16) Try.underlying27 rfl rfl rfl T24.sz (by decide) b o
theorem T24.ag : tagg Try.prog 24 = some true := by kernel_rfl
@[go_sem] theorem T24.load (h : List Blk) (b o : Nat) : loadP Try.prog h 24 (pt b o) = loadRow (h[b]?) o 16 := loadP_row T24.ag T24.sz h b o
@[go_sem] theorem T35.fla2 (b o : Nat) : fieldAddrA Try.prog 35 2 (pt b o) = some (pt b (o + 257)) := fla (f := 2) (o' := 257) (ft := 32) (z := 16) Try.underlying35 rfl rfl rfl T32.sz (by decide) b o
theorem T25.sz : tsz Try.prog 25 = some 16 := by kernel_rfl
@[go_sem] theorem T27.fla3 (b o : Nat) : fieldAddrA Try.prog 27 3 (pt b o) = some (pt b (o + 273)) := fla (f := 3) (o' := 273) (ft := 25) (z := 16) Try.underlying27 rfl rfl rfl T25.sz (by decide) b o
theorem T25.ag : tagg Try.prog 25 = some true := by kernel_rfl
@[go_sem] theorem T25.load (h : List Blk) (b o : Nat) : loadP Try.prog h 25 (pt b o) = loadRow (h[b]?) o 16 := loadP_row T25.ag T25.sz h b o
@[go_sem] theorem T35.fla3 (b o : Nat) : fieldAddrA Try.prog 35 3 (pt b o) = some (pt b (o + 273)) := fla (f := 3) (o' := 273) (ft := 33) (z := 16) Try.underlying35 rfl rfl rfl T33.sz (by decide) b o
@[go_sem] theorem T27.fla4 (b o : Nat) : fieldAddrA Try.prog 27 4 (pt b o) = some (pt b (o + 289)) := fla (f := 4) (o' := 289) (ft := 2) (z := 1) Try.underlying27 rfl rfl rfl T2.sz (by decide) b o
@[go_sem] theorem T35.fla4 (b o : Nat) : fieldAddrA Try.prog 35 4 (pt b o) = some (pt b (o + 289)) := fla (f := 4) (o' := 289) (ft := 2) (z := 1) Try.underlying35 rfl rfl rfl T2.sz (by decide) b o
@[go_sem] theorem T35.store (h : List Blk) (b o : Nat) (cs : Array Value) : storeP Try.prog h 35 (.agg cs) (pt b o) = storeRow h b (h[b]?) o 290 cs.toList := storeP_row T35.sz cs h b o
theorem T126.ze : tzero Try.prog 126 = some (.agg (Vs 16 (fun _ => .slice none 0 0)).toArray) := by kernel_rfl
@[go_sem] theorem T126.alloc (h : List Blk) : allocA Try.prog h 126 = some (pt h.length 0, h ++ [⟨Vs 16 (fun _ => .slice none 0 0), true⟩]) := alloc_of T126.ze rfl (by kernel_rfl) h
theorem T126.sz : tsz Try.prog 126 = some 16 := by kernel_rfl
@[go_sem] theorem T126.store (h : List Blk) (b o : Nat) (cs : Array Value) : storeP Try.prog h 126 (.agg cs) (pt b o) = storeRow h b (h[b]?) o 16 cs.toList := storeP_row T126.sz cs h b o
@[go_sem] theorem T126.sla (h : List Blk) (b o : Nat) (lo hi : Option Value) : aslice Try.prog h 126 (pt b o) lo hi = slcArr (h[b]?) b o 16 1 (lowA lo) (highA 16 hi) := sla_arr Try.underlying126 T59.sz h b o lo hi
theorem T2.by' : tbytes Try.prog 2 = some 8 := by kernel_rfl
theorem T2.ze : tzero Try.prog 2 = some (.int .i64 0) := by kernel_rfl
@[go_sem] theorem T59.ms (h : List Blk) (k k' : IntKind) {n : Int} (h0 : 0 ≤ n) (hr : n * 8 ≤ 140737488355328) : makeSliceA Try.prog h 59 (.int k n) (.int k' n) = some (sl h.length 0 n.toNat 1, h ++ [⟨Is n.toNat (fun _ => 0), true⟩]) := by rw [← repA_I]; exact ms_of Try.underlying59 T2.sz T2.by' (by decide) T2.ze rfl (by kernel_rfl) (by kernel_rfl) h k k' h0 hr
@[go_sem] theorem T59.ixa (b o len : Nat) (k : IntKind) (n : Int) : idxAddrA Try.prog 59 (sl b o len 1) (.int k n) = ixR (aidx n len) b o 1 := ixa_sl Try.underlying59 T2.sz b o len k n
@[go_sem] theorem T59.ixaB (b o len : Nat) (x : UInt8) : idxAddrA Try.prog 59 (sl b o len 1) (B x) = ixR (aidx x.toNat len) b o 1 := ixa_sl_B Try.underlying59 T2.sz b o len x
theorem T3.sz : tsz Try.prog 3 = some 1 := by kernel_rfl
theorem T3.by' : tbytes Try.prog 3 = some 8 := by kernel_rfl
theorem T3.ze : tzero Try.prog 3 = some (.int .i64 0) := by kernel_rfl
@[go_sem] theorem T133.ms (h : List Blk) (k k' : IntKind) {n : Int} (h0 : 0 ≤ n) (hr : n * 8 ≤ 140737488355328) : makeSliceA Try.prog h 133 (.int k n) (.int k' n) = some (sl h.length 0 n.toNat 1, h ++ [⟨Is n.toNat (fun _ => 0), true⟩]) := by rw [← repA_I]; exact ms_of Try.underlying133 T3.sz T3.by' (by decide) T3.ze rfl (by kernel_rfl) (by kernel_rfl) h k k' h0 hr
@[go_sem] theorem T133.len (b o n es : Nat) : alen Try.prog 133 (sl b o n es) = some (.int .i64 n) := len_sl Try.underlying133 b o n es
@[go_sem] theorem T133.lenN (n c : Nat) : alen Try.prog 133 (.slice none n c) = some (.int .i64 n) := len_nilS Try.underlying133 n c
@[go_sem] theorem T3.conv135 (h : List Blk) (k : IntKind) (n : Int) : convS Try.prog h 3 135 (.int k n) = some (.int .u64 (IntKind.u64.wrap n)) := conv_int Try.underlying3 Try.underlying135 h k n
@[go_sem] theorem T133.ixa (b o len : Nat) (k : IntKind) (n : Int) : idxAddrA Try.prog 133 (sl b o len 1) (.int k n) = ixR (aidx n len) b o 1 := ixa_sl Try.underlying133 T3.sz b o len k n
@[go_sem] theorem T133.ixaB (b o len : Nat) (x : UInt8) : idxAddrA Try.prog 133 (sl b o len 1) (B x) = ixR (aidx x.toNat len) b o 1 := ixa_sl_B Try.underlying133 T3.sz b o len x
@[go_sem] theorem T3.store_int (h : List Blk) (b o : Nat) (n : Int) : storeP Try.prog h 3 (.int .i64 n) (pt b o) = storeCell h b (h[b]?) o (.int .i64 n) := storeP_int T3.sz .i64 n h b o
@[go_sem] theorem T133.bs1 (h : List Blk) (ps : List (Nat × Value)) : buildSliceA Try.prog h 133 1 ps = litR h 1 1 (fillK (fun i => some (i * 1, 1)) (some [.int .i64 0]) ps) := bs_cells Try.underlying133 T3.sz T3.ze rfl rfl h (by decide) ps
theorem T3.ag : tagg Try.prog 3 = some false := by kernel_rfl
@[go_sem] theorem T3.load (h : List Blk) (b o : Nat) : loadP Try.prog h 3 (pt b o) = loadCell (h[b]?) o := loadP_cell T3.ag h b o
theorem T126.ag : tagg Try.prog 126 = some true := by kernel_rfl
@[go_sem] theorem T126.load (h : List Blk) (b o : Nat) : loadP Try.prog h 126 (pt b o) = loadRow (h[b]?) o 16 := loadP_row T126.ag T126.sz h b o
@[go_sem] theorem T59.bs3 (h : List Blk) (ps : List (Nat × Value)) : buildSliceA Try.prog h 59 3 ps = litR h 3 1 (fillK (fun i => some (i * 1, 1)) (some [.int .i64 0, .int .i64 0, .int .i64 0]) ps) := bs_cells Try.underlying59 T2.sz T2.ze rfl rfl h (by decide) ps
@[go_sem] theorem T59.bs0 (h : List Blk) : buildSliceA Try.prog h 59 0 [] = some (sl h.length 0 0 1, h ++ [⟨[], true⟩]) := bs_nil Try.underlying59 T2.sz T2.ze rfl (by kernel_rfl) (by kernel_rfl) h
@[go_sem] theorem T59.bs1 (h : List Blk) (ps : List (Nat × Value)) : buildSliceA Try.prog h 59 1 ps = litR h 1 1 (fillK (fun i => some (i * 1, 1)) (some [.int .i64 0]) ps) := bs_cells Try.underlying59 T2.sz T2.ze rfl rfl h (by decide) ps
theorem T59.ei : elemInfo Try.prog 59 = some (2, 1, 8) := by kernel_rfl
@[go_sem] theorem T59.app (h : List Blk) (s : Value) (b o m : Nat) : appendA Try.prog h 59 59 s (sl b o m 1) = appR h 1 8 s (srcR (h[b]?) o m 1) := by rw [append_of T59.ei]; simp only [srcA_sl]
theorem T31.pl : (Bs 256 (fun _ => 0)).all plainC = true := by kernel_rfl
@[go_sem] theorem T31.bld0 : buildA Try.prog 31 [] = some (.agg (Bs 256 (fun _ => 0)).toArray) := build_nil T31.ze T31.pl Try.underlying31 T5.sz
theorem T158.ze : tzero Try.prog 158 = some (.agg (Vs 256 (fun _ => .bool false)).toArray) := by kernel_rfl
theorem T158.pl : (Vs 256 (fun _ => .bool false)).all plainC = true := by kernel_rfl
theorem T4.sz : tsz Try.prog 4 = some 1 := by kernel_rfl
@[go_sem] theorem T158.bld0 : buildA Try.prog 158 [] = some (.agg (Vs 256 (fun _ => .bool false)).toArray) := build_nil T158.ze T158.pl Try.underlying158 T4.sz
@[go_sem] theorem T158.alloc (h : List Blk) : allocA Try.prog h 158 = some (pt h.length 0, h ++ [⟨Vs 256 (fun _ => .bool false), true⟩]) := alloc_of T158.ze rfl (by kernel_rfl) h
theorem T158.sz : tsz Try.prog 158 = some 256 := by kernel_rfl
@[go_sem] theorem T158.store (h : List Blk) (b o : Nat) (cs : Array Value) : storeP Try.prog h 158 (.agg cs) (pt b o) = storeRow h b (h[b]?) o 256 cs.toList := storeP_row T158.sz cs h b o
@[go_sem] theorem T31.ix (l : List Value) (k : IntKind) (n : Int) : indexA Try.prog 31 (.agg l.toArray) (.int k n) = ixC (aidx n 256) l := ix_arr_cell Try.underlying31 T5.sz T5.ag l k n
@[go_sem] theorem T31.ixB (l : List Value) (x : UInt8) : indexA Try.prog 31 (.agg l.toArray) (B x) = ixC (aidx x.toNat 256) l := ix_arr_cell_B Try.underlying31 T5.sz T5.ag l x
@[go_sem] theorem T158.ixa (b o : Nat) (k : IntKind) (n : Int) : idxAddrA Try.prog 158 (pt b o) (.int k n) = ixR (aidx n 256) b o 1 := ixa_arr Try.underlying158 T4.sz b o k n
@[go_sem] theorem T158.ixaB (b o : Nat) (x : UInt8) : idxAddrA Try.prog 158 (pt b o) (B x) = ixR (aidx x.toNat 256) b o 1 := ixa_arr_B Try.underlying158 T4.sz b o x
@[go_sem] theorem T4.store_bool (h : List Blk) (b o : Nat) (x : Bool) : storeP Try.prog h 4 (.bool x) (pt b o) = storeCell h b (h[b]?) o (.bool x) := storeP_bool T4.sz x h b o
@[go_sem] theorem T158.sla (h : List Blk) (b o : Nat) (lo hi : Option Value) : aslice Try.prog h 158 (pt b o) lo hi = slcArr (h[b]?) b o 256 1 (lowA lo) (highA 256 hi) := sla_arr Try.underlying158 T4.sz h b o lo hi
@[go_sem] theorem T5.store_B (h : List Blk) (b o : Nat) (x : UInt8) : storeP Try.prog h 5 (B x) (pt b o) = storeCell h b (h[b]?) o (B x) := storeP_B T5.sz x h b o
@[go_sem] theorem T3.conv71 (h : List Blk) (k : IntKind) (n : Int) : convS Try.prog h 3 71 (.int k n) = some (.int .u64 (IntKind.u64.wrap n)) := conv_int Try.underlying3 Try.underlying71 h k n
theorem T163.ze : tzero Try.prog 163 = some (.agg (Sr (.slice none 0 0) 0 0).toArray) := by kernel_rfl
theorem T163.pl : (Sr (.slice none 0 0) 0 0).all plainC = true := by kernel_rfl
theorem T163.places : placesA Try.prog 163 = some [(0, 1), (1, 1), (2, 1)] := by kernel_rfl
@[go_sem] theorem T163.bld (p : Nat × Value) (ps : List (Nat × Value)) : buildA Try.prog 163 (p :: ps) = bldR (fillK (fun i => [(0, 1), (1, 1), (2, 1)][i]?) (some (Sr (.slice none 0 0) 0 0)) (p :: ps)) := build_parts_struct T163.ze T163.pl Try.underlying163 T163.places _
theorem T71.sz : tsz Try.prog 71 = some 1 := by kernel_rfl
@[go_sem] theorem T163.fla2 (b o : Nat) : fieldAddrA Try.prog 163 2 (pt b o) = some (pt b (o + 2)) := fla (f := 2) (o' := 2) (ft := 71) (z := 1) Try.underlying163 rfl rfl rfl T71.sz (by decide) b o
theorem T71.ag : tagg Try.prog 71 = some false := by kernel_rfl
@[go_sem] theorem T71.load (h : List Blk) (b o : Nat) : loadP Try.prog h 71 (pt b o) = loadCell (h[b]?) o := loadP_cell T71.ag h b o
@[go_sem] theorem T5.conv71 (h : List Blk) (x : UInt8) : convS Try.prog h 5 71 (B x) = some (.int .u64 (IntKind.u64.wrap x.toNat)) := conv_B Try.underlying5 Try.underlying71 h x
@[go_sem] theorem T71.store_int (h : List Blk) (b o : Nat) (n : Int) : storeP Try.prog h 71 (.int .u64 n) (pt b o) = storeCell h b (h[b]?) o (.int .u64 n) := storeP_int T71.sz .u64 n h b o
@[go_sem] theorem T71.conv2 (h : List Blk) (k : IntKind) (n : Int) : convS Try.prog h 71 2 (.int k n) = some (.int .i64 (IntKind.i64.wrap n)) := conv_int Try.underlying71 Try.underlying2 h k n
@[go_sem] theorem T163.fla1 (b o : Nat) : fieldAddrA Try.prog 163 1 (pt b o) = some (pt b (o + 1)) := fla (f := 1) (o' := 1) (ft := 3) (z := 1) Try.underlying163 rfl rfl rfl T3.sz (by decide) b o
theorem T43.sz : tsz Try.prog 43 = some 1 := by kernel_rfl
@[go_sem] theorem T163.fla0 (b o : Nat) : fieldAddrA Try.prog 163 0 (pt b o) = some (pt b (o + 0)) := fla (f := 0) (o' := 0) (ft := 43) (z := 1) Try.underlying163 rfl rfl rfl T43.sz (by decide) b o
theorem T43.ag : tagg Try.prog 43 = some false := by kernel_rfl
@[go_sem] theorem T43.load (h : List Blk) (b o : Nat) : loadP Try.prog h 43 (pt b o) = loadCell (h[b]?) o := loadP_cell T43.ag h b o
@[go_sem] theorem T5.conv2 (h : List Blk) (x : UInt8) : convS Try.prog h 5 2 (B x) = some (.int .i64 (IntKind.i64.wrap x.toNat)) := conv_B Try.underlying5 Try.underlying2 h x
@[go_sem] theorem T59.bs8 (h : List Blk) (ps : List (Nat × Value)) : buildSliceA Try.prog h 59 8 ps = litR h 8 1 (fillK (fun i => some (i * 1, 1)) (some [.int .i64 0, .int .i64 0, .int .i64 0, .int .i64 0, .int .i64 0, .int .i64 0, .int .i64 0, .int .i64 0]) ps) := bs_cells Try.underlying59 T2.sz T2.ze rfl rfl h (by decide) ps
@[go_sem] theorem T31.sla (h : List Blk) (b o : Nat) (lo hi : Option Value) : aslice Try.prog h 31 (pt b o) lo hi = slcArr (h[b]?) b o 256 1 (lowA lo) (highA 256 hi) := sla_arr Try.underlying31 T5.sz h b o lo hi
@[go_sem] theorem T9.len (s : ByteArray) : alen Try.prog 9 (.string s) = some (.int .i64 s.size) := len_str Try.underlying9 s
@[go_sem] theorem T9.sla (h : List Blk) (s : ByteArray) (lo hi : Option Value) : aslice Try.prog h 9 (.string s) lo hi = slcStr s (lowA lo) (highA s.size hi) := sla_str Try.underlying9 h s lo hi
@[go_sem] theorem T31.tap {b o len es : Nat} (hl : 256 ≤ len) : toArrPtrA Try.prog 31 (sl b o len es) = some (pt b o) := tapG Try.underlying31 (by decide) hl
@[go_sem] theorem T3.conv5 (h : List Blk) (k : IntKind) (n : Int) : convS Try.prog h 3 5 (.int k n) = some (.int .u8 (IntKind.u8.wrap n)) := conv_int Try.underlying3 Try.underlying5 h k n
@[go_sem] theorem T59.bs5 (h : List Blk) (ps : List (Nat × Value)) : buildSliceA Try.prog h 59 5 ps = litR h 5 1 (fillK (fun i => some (i * 1, 1)) (some [.int .i64 0, .int .i64 0, .int .i64 0, .int .i64 0, .int .i64 0]) ps) := bs_cells Try.underlying59 T2.sz T2.ze rfl rfl h (by decide) ps
theorem T5.ze : tzero Try.prog 5 = some (B 0) := by kernel_rfl
@[go_sem] theorem T43.bs0 (h : List Blk) : buildSliceA Try.prog h 43 0 [] = some (sl h.length 0 0 1, h ++ [⟨[], true⟩]) := bs_nil Try.underlying43 T5.sz T5.ze rfl (by kernel_rfl) (by kernel_rfl) h
@[go_sem] theorem T43.bs1 (h : List Blk) (ps : List (Nat × Value)) : buildSliceA Try.prog h 43 1 ps = litR h 1 1 (fillK (fun i => some (i * 1, 1)) (some [B 0]) ps) := bs_cells Try.underlying43 T5.sz T5.ze rfl rfl h (by decide) ps
theorem T43.ei : elemInfo Try.prog 43 = some (5, 1, 1) := by kernel_rfl
@[go_sem] theorem T43.app (h : List Blk) (s : Value) (b o m : Nat) : appendA Try.prog h 43 43 s (sl b o m 1) = appR h 1 1 s (srcR (h[b]?) o m 1) := by rw [append_of T43.ei]; simp only [srcA_sl]
theorem T32.pl : (Bs 16 (fun _ => 0)).all plainC = true := by kernel_rfl
theorem T23.sz : tsz Try.prog 23 = some 4 := by kernel_rfl
@[go_sem] theorem T32.bld0 : buildA Try.prog 32 [] = some (.agg (Bs 16 (fun _ => 0)).toArray) := build_nil T32.ze T32.pl Try.underlying32 T23.sz
@[go_sem] theorem T32.ixa (b o : Nat) (k : IntKind) (n : Int) : idxAddrA Try.prog 32 (pt b o) (.int k n) = ixR (aidx n 4) b o 4 := ixa_arr Try.underlying32 T23.sz b o k n
@[go_sem] theorem T32.ixaB (b o : Nat) (x : UInt8) : idxAddrA Try.prog 32 (pt b o) (B x) = ixR (aidx x.toNat 4) b o 4 := ixa_arr_B Try.underlying32 T23.sz b o x
theorem T23.ag : tagg Try.prog 23 = some true := by kernel_rfl
@[go_sem] theorem T23.load (h : List Blk) (b o : Nat) : loadP Try.prog h 23 (pt b o) = loadRow (h[b]?) o 4 := loadP_row T23.ag T23.sz h b o
@[go_sem] theorem T23.ix (l : List Value) (k : IntKind) (n : Int) : indexA Try.prog 23 (.agg l.toArray) (.int k n) = ixC (aidx n 4) l := ix_arr_cell Try.underlying23 T5.sz T5.ag l k n
@[go_sem] theorem T23.ixB (l : List Value) (x : UInt8) : indexA Try.prog 23 (.agg l.toArray) (B x) = ixC (aidx x.toNat 4) l := ix_arr_cell_B Try.underlying23 T5.sz T5.ag l x
@[go_sem] theorem T23.ixa (b o : Nat) (k : IntKind) (n : Int) : idxAddrA Try.prog 23 (pt b o) (.int k n) = ixR (aidx n 4) b o 1 := ixa_arr Try.underlying23 T5.sz b o k n
@[go_sem] theorem T23.ixaB (b o : Nat) (x : UInt8) : idxAddrA Try.prog 23 (pt b o) (B x) = ixR (aidx x.toNat 4) b o 1 := ixa_arr_B Try.underlying23 T5.sz b o x
@[go_sem] theorem T59.bs4 (h : List Blk) (ps : List (Nat × Value)) : buildSliceA Try.prog h 59 4 ps = litR h 4 1 (fillK (fun i => some (i * 1, 1)) (some [.int .i64 0, .int .i64 0, .int .i64 0, .int .i64 0]) ps) := bs_cells Try.underlying59 T2.sz T2.ze rfl rfl h (by decide) ps
@[go_sem] theorem T59.bs2 (h : List Blk) (ps : List (Nat × Value)) : buildSliceA Try.prog h 59 2 ps = litR h 2 1 (fillK (fun i => some (i * 1, 1)) (some [.int .i64 0, .int .i64 0]) ps) := bs_cells Try.underlying59 T2.sz T2.ze rfl rfl h (by decide) ps
theorem T102.pl : (Bs 16 (fun _ => 0)).all plainC = true := by kernel_rfl
@[go_sem] theorem T102.bld0 : buildA Try.prog 102 [] = some (.agg (Bs 16 (fun _ => 0)).toArray) := build_nil T102.ze T102.pl Try.underlying102 T5.sz
theorem T33.pl : (Bs 16 (fun _ => 0)).all plainC = true := by kernel_rfl
@[go_sem] theorem T33.bld0 : buildA Try.prog 33 [] = some (.agg (Bs 16 (fun _ => 0)).toArray) := build_nil T33.ze T33.pl Try.underlying33 T5.sz
theorem T59.ze : tzero Try.prog 59 = some (.slice none 0 0) := by kernel_rfl
@[go_sem] theorem T28.bs0 (h : List Blk) : buildSliceA Try.prog h 28 0 [] = some (sl h.length 0 0 1, h ++ [⟨[], true⟩]) := bs_nil Try.underlying28 T59.sz T59.ze rfl (by kernel_rfl) (by kernel_rfl) h
theorem T192.ze : tzero Try.prog 192 = some (.agg (Vs 16 (fun _ => .bool false)).toArray) := by kernel_rfl
theorem T192.pl : (Vs 16 (fun _ => .bool false)).all plainC = true := by kernel_rfl
@[go_sem] theorem T192.bld0 : buildA Try.prog 192 [] = some (.agg (Vs 16 (fun _ => .bool false)).toArray) := build_nil T192.ze T192.pl Try.underlying192 T4.sz
@[go_sem] theorem T192.alloc (h : List Blk) : allocA Try.prog h 192 = some (pt h.length 0, h ++ [⟨Vs 16 (fun _ => .bool false), true⟩]) := alloc_of T192.ze rfl (by kernel_rfl) h
theorem T192.sz : tsz Try.prog 192 = some 16 := by kernel_rfl
@[go_sem] theorem T192.store (h : List Blk) (b o : Nat) (cs : Array Value) : storeP Try.prog h 192 (.agg cs) (pt b o) = storeRow h b (h[b]?) o 16 cs.toList := storeP_row T192.sz cs h b o
@[go_sem] theorem T192.ixa (b o : Nat) (k : IntKind) (n : Int) : idxAddrA Try.prog 192 (pt b o) (.int k n) = ixR (aidx n 16) b o 1 := ixa_arr Try.underlying192 T4.sz b o k n
@[go_sem] theorem T192.ixaB (b o : Nat) (x : UInt8) : idxAddrA Try.prog 192 (pt b o) (B x) = ixR (aidx x.toNat 16) b o 1 := ixa_arr_B Try.underlying192 T4.sz b o x
theorem T4.ag : tagg Try.prog 4 = some false := by kernel_rfl
@[go_sem] theorem T4.load (h : List Blk) (b o : Nat) : loadP Try.prog h 4 (pt b o) = loadCell (h[b]?) o := loadP_cell T4.ag h b o
@[go_sem] theorem T33.ixa (b o : Nat) (k : IntKind) (n : Int) : idxAddrA Try.prog 33 (pt b o) (.int k n) = ixR (aidx n 16) b o 1 := ixa_arr Try.underlying33 T5.sz b o k n
@[go_sem] theorem T33.ixaB (b o : Nat) (x : UInt8) : idxAddrA Try.prog 33 (pt b o) (B x) = ixR (aidx x.toNat 16) b o 1 := ixa_arr_B Try.underlying33 T5.sz b o x
@[go_sem] theorem T28.bs1 (h : List Blk) (ps : List (Nat × Value)) : buildSliceA Try.prog h 28 1 ps = litR h 1 1 (fillK (fun i => some (i * 1, 1)) (some [.slice none 0 0]) ps) := bs_cells Try.underlying28 T59.sz T59.ze rfl rfl h (by decide) ps
theorem T28.ei : elemInfo Try.prog 28 = some (59, 1, 24) := by kernel_rfl
@[go_sem] theorem T28.app (h : List Blk) (s : Value) (b o m : Nat) : appendA Try.prog h 28 28 s (sl b o m 1) = appR h 1 24 s (srcR (h[b]?) o m 1) := by rw [append_of T28.ei]; simp only [srcA_sl]
theorem T194.ze : tzero Try.prog 194 = some (.agg (Vs 16 (fun _ => .bool false)).toArray) := by kernel_rfl
theorem T194.pl : (Vs 16 (fun _ => .bool false)).all plainC = true := by kernel_rfl
theorem T193.sz : tsz Try.prog 193 = some 4 := by kernel_rfl
@[go_sem] theorem T194.bld0 : buildA Try.prog 194 [] = some (.agg (Vs 16 (fun _ => .bool false)).toArray) := build_nil T194.ze T194.pl Try.underlying194 T193.sz
@[go_sem] theorem T194.alloc (h : List Blk) : allocA Try.prog h 194 = some (pt h.length 0, h ++ [⟨Vs 16 (fun _ => .bool false), true⟩]) := alloc_of T194.ze rfl (by kernel_rfl) h
theorem T194.sz : tsz Try.prog 194 = some 16 := by kernel_rfl
@[go_sem] theorem T194.store (h : List Blk) (b o : Nat) (cs : Array Value) : storeP Try.prog h 194 (.agg cs) (pt b o) = storeRow h b (h[b]?) o 16 cs.toList := storeP_row T194.sz cs h b o
@[go_sem] theorem T33.ix (l : List Value) (k : IntKind) (n : Int) : indexA Try.prog 33 (.agg l.toArray) (.int k n) = ixC (aidx n 16) l := ix_arr_cell Try.underlying33 T5.sz T5.ag l k n
@[go_sem] theorem T33.ixB (l : List Value) (x : UInt8) : indexA Try.prog 33 (.agg l.toArray) (B x) = ixC (aidx x.toNat 16) l := ix_arr_cell_B Try.underlying33 T5.sz T5.ag l x
@[go_sem] theorem T194.ixa (b o : Nat) (k : IntKind) (n : Int) : idxAddrA Try.prog 194 (pt b o) (.int k n) = ixR (aidx n 4) b o 4 := ixa_arr Try.underlying194 T193.sz b o k n
@[go_sem] theorem T194.ixaB (b o : Nat) (x : UInt8) : idxAddrA Try.prog 194 (pt b o) (B x) = ixR (aidx x.toNat 4) b o 4 := ixa_arr_B Try.underlying194 T193.sz b o x
@[go_sem] theorem T193.ixa (b o : Nat) (k : IntKind) (n : Int) : idxAddrA Try.prog 193 (pt b o) (.int k n) = ixR (aidx n 4) b o 1 := ixa_arr Try.underlying193 T4.sz b o k n
@[go_sem] theorem T193.ixaB (b o : Nat) (x : UInt8) : idxAddrA Try.prog 193 (pt b o) (B x) = ixR (aidx x.toNat 4) b o 1 := ixa_arr_B Try.underlying193 T4.sz b o x
@[go_sem] theorem T33.sla (h : List Blk) (b o : Nat) (lo hi : Option Value) : aslice Try.prog h 33 (pt b o) lo hi = slcArr (h[b]?) b o 16 1 (lowA lo) (highA 16 hi) := sla_arr Try.underlying33 T5.sz h b o lo hi
@[go_sem] theorem T102.ixa (b o : Nat) (k : IntKind) (n : Int) : idxAddrA Try.prog 102 (pt b o) (.int k n) = ixR (aidx n 16) b o 1 := ixa_arr Try.underlying102 T5.sz b o k n
@[go_sem] theorem T102.ixaB (b o : Nat) (x : UInt8) : idxAddrA Try.prog 102 (pt b o) (B x) = ixR (aidx x.toNat 16) b o 1 := ixa_arr_B Try.underlying102 T5.sz b o x
@[go_sem] theorem T22.ixa (b o : Nat) (k : IntKind) (n : Int) : idxAddrA Try.prog 22 (pt b o) (.int k n) = ixR (aidx n 256) b o 1 := ixa_arr Try.underlying22 T5.sz b o k n
@[go_sem] theorem T22.ixaB (b o : Nat) (x : UInt8) : idxAddrA Try.prog 22 (pt b o) (B x) = ixR (aidx x.toNat 256) b o 1 := ixa_arr_B Try.underlying22 T5.sz b o x
@[go_sem] theorem T24.ixa (b o : Nat) (k : IntKind) (n : Int) : idxAddrA Try.prog 24 (pt b o) (.int k n) = ixR (aidx n 4) b o 4 := ixa_arr Try.underlying24 T23.sz b o k n
@[go_sem] theorem T24.ixaB (b o : Nat) (x : UInt8) : idxAddrA Try.prog 24 (pt b o) (B x) = ixR (aidx x.toNat 4) b o 4 := ixa_arr_B Try.underlying24 T23.sz b o x
@[go_sem] theorem T23.store (h : List Blk) (b o : Nat) (cs : Array Value) : storeP Try.prog h 23 (.agg cs) (pt b o) = storeRow h b (h[b]?) o 4 cs.toList := storeP_row T23.sz cs h b o
@[go_sem] theorem T25.ixa (b o : Nat) (k : IntKind) (n : Int) : idxAddrA Try.prog 25 (pt b o) (.int k n) = ixR (aidx n 16) b o 1 := ixa_arr Try.underlying25 T5.sz b o k n
@[go_sem] theorem T25.ixaB (b o : Nat) (x : UInt8) : idxAddrA Try.prog 25 (pt b o) (B x) = ixR (aidx x.toNat 16) b o 1 := ixa_arr_B Try.underlying25 T5.sz b o x
theorem T200.ze : tzero Try.prog 200 = some (.agg (Is 256 (fun _ => 0)).toArray) := by kernel_rfl
theorem T200.pl : (Is 256 (fun _ => 0)).all plainC = true := by kernel_rfl
theorem T199.sz : tsz Try.prog 199 = some 16 := by kernel_rfl
@[go_sem] theorem T200.bld0 : buildA Try.prog 200 [] = some (.agg (Is 256 (fun _ => 0)).toArray) := build_nil T200.ze T200.pl Try.underlying200 T199.sz
@[go_sem] theorem T200.alloc (h : List Blk) : allocA Try.prog h 200 = some (pt h.length 0, h ++ [⟨Is 256 (fun _ => 0), true⟩]) := alloc_of T200.ze rfl (by kernel_rfl) h
theorem T200.sz : tsz Try.prog 200 = some 256 := by kernel_rfl
@[go_sem] theorem T200.store (h : List Blk) (b o : Nat) (cs : Array Value) : storeP Try.prog h 200 (.agg cs) (pt b o) = storeRow h b (h[b]?) o 256 cs.toList := storeP_row T200.sz cs h b o
@[go_sem] theorem T200.ixa (b o : Nat) (k : IntKind) (n : Int) : idxAddrA Try.prog 200 (pt b o) (.int k n) = ixR (aidx n 16) b o 16 := ixa_arr Try.underlying200 T199.sz b o k n
@[go_sem] theorem T200.ixaB (b o : Nat) (x : UInt8) : idxAddrA Try.prog 200 (pt b o) (B x) = ixR (aidx x.toNat 16) b o 16 := ixa_arr_B Try.underlying200 T199.sz b o x
@[go_sem] theorem T199.ixa (b o : Nat) (k : IntKind) (n : Int) : idxAddrA Try.prog 199 (pt b o) (.int k n) = ixR (aidx n 16) b o 1 := ixa_arr Try.underlying199 T3.sz b o k n
@[go_sem] theorem T199.ixaB (b o : Nat) (x : UInt8) : idxAddrA Try.prog 199 (pt b o) (B x) = ixR (aidx x.toNat 16) b o 1 := ixa_arr_B Try.underlying199 T3.sz b o x
theorem T126.pl : (Vs 16 (fun _ => .slice none 0 0)).all plainC = true := by kernel_rfl
@[go_sem] theorem T126.bld0 : buildA Try.prog 126 [] = some (.agg (Vs 16 (fun _ => .slice none 0 0)).toArray) := build_nil T126.ze T126.pl Try.underlying126 T59.sz
@[go_sem] theorem T126.ixa (b o : Nat) (k : IntKind) (n : Int) : idxAddrA Try.prog 126 (pt b o) (.int k n) = ixR (aidx n 16) b o 1 := ixa_arr Try.underlying126 T59.sz b o k n
@[go_sem] theorem T126.ixaB (b o : Nat) (x : UInt8) : idxAddrA Try.prog 126 (pt b o) (B x) = ixR (aidx x.toNat 16) b o 1 := ixa_arr_B Try.underlying126 T59.sz b o x
@[go_sem] theorem T59.store_sl (h : List Blk) (b o : Nat) (c q n es : Nat) : storeP Try.prog h 59 (sl c q n es) (pt b o) = storeCell h b (h[b]?) o (sl c q n es) := storeP_sl T59.sz c q n es h b o
@[go_sem] theorem T59.store_nil (h : List Blk) (b o : Nat) (n c : Nat) : storeP Try.prog h 59 (.slice none n c) (pt b o) = storeCell h b (h[b]?) o (.slice none n c) := storeP_nil T59.sz n c h b o
@[go_sem] theorem T28.eqn (b o n es : Nat) : abin Try.prog .eql 28 (sl b o n es) (.slice none 0 0) = some (.bool false) := eqn_sl Try.underlying28 b o n es
@[go_sem] theorem T28.eqN (l c : Nat) : abin Try.prog .eql 28 (.slice none l c) (.slice none 0 0) = some (.bool true) := eqn_nil Try.underlying28 l c
@[go_sem] theorem T28.nen (b o n es : Nat) : abin Try.prog .neq 28 (sl b o n es) (.slice none 0 0) = some (.bool true) := nen_sl Try.underlying28 b o n es
@[go_sem] theorem T28.neN (l c : Nat) : abin Try.prog .neq 28 (.slice none l c) (.slice none 0 0) = some (.bool false) := nen_nil Try.underlying28 l c
@[go_sem] theorem T5.conv135 (h : List Blk) (x : UInt8) : convS Try.prog h 5 135 (B x) = some (.int .u64 (IntKind.u64.wrap x.toNat)) := conv_B Try.underlying5 Try.underlying135 h x
@[go_sem] theorem T135.conv203 (h : List Blk) (k : IntKind) (n : Int) : convS Try.prog h 135 203 (.int k n) = some (.int .u32 (IntKind.u32.wrap n)) := conv_int Try.underlying135 Try.underlying203 h k n
@[go_sem] theorem T135.conv3 (h : List Blk) (k : IntKind) (n : Int) : convS Try.prog h 135 3 (.int k n) = some (.int .i64 (IntKind.i64.wrap n)) := conv_int Try.underlying135 Try.underlying3 h k n
@[go_sem] theorem T133.slaN (h : List Blk) (lo hi : Option Value) : aslice Try.prog h 133 (.slice none 0 0) lo hi = slcNil (lowA lo) (highA 0 hi) := sla_nil Try.underlying133 T3.sz h lo hi
@[go_sem] theorem T133.sla (h : List Blk) (b o len : Nat) (lo hi : Option Value) : aslice Try.prog h 133 (sl b o len 1) lo hi = slcSl b o 1 (lowA lo) (highA len hi) := sla_sl Try.underlying133 T3.sz h b o len lo hi
theorem T209.ze : tzero Try.prog 209 = some (.agg (Sr (.slice none 0 0) 0 0).toArray) := by kernel_rfl
theorem T209.pl : (Sr (.slice none 0 0) 0 0).all plainC = true := by kernel_rfl
theorem T209.places : placesA Try.prog 209 = some [(0, 1), (1, 1), (2, 1)] := by kernel_rfl
@[go_sem] theorem T209.bld (p : Nat × Value) (ps : List (Nat × Value)) : buildA Try.prog 209 (p :: ps) = bldR (fillK (fun i => [(0, 1), (1, 1), (2, 1)][i]?) (some (Sr (.slice none 0 0) 0 0)) (p :: ps)) := build_parts_struct T209.ze T209.pl Try.underlying209 T209.places _
@[go_sem] theorem T209.fla2 (b o : Nat) : fieldAddrA Try.prog 209 2 (pt b o) = some (pt b (o + 2)) := fla (f := 2) (o' := 2) (ft := 71) (z := 1) Try.underlying209 rfl rfl rfl T71.sz (by decide) b o
@[go_sem] theorem T209.fla1 (b o : Nat) : fieldAddrA Try.prog 209 1 (pt b o) = some (pt b (o + 1)) := fla (f := 1) (o' := 1) (ft := 3) (z := 1) Try.underlying209 rfl rfl rfl T3.sz (by decide) b o
@[go_sem] theorem T209.fla0 (b o : Nat) : fieldAddrA Try.prog 209 0 (pt b o) = some (pt b (o + 0)) := fla (f := 0) (o' := 0) (ft := 43) (z := 1) Try.underlying209 rfl rfl rfl T43.sz (by decide) b o
@[go_sem] theorem T9.ix (s : ByteArray) (k : IntKind) (n : Int) : indexA Try.prog 9 (.string s) (.int k n) = chrC (aidx n s.size) s := ix_str Try.underlying9 s k n
@[go_sem] theorem T43.bs2 (h : List Blk) (ps : List (Nat × Value)) : buildSliceA Try.prog h 43 2 ps = litR h 2 1 (fillK (fun i => some (i * 1, 1)) (some [B 0, B 0]) ps) := bs_cells Try.underlying43 T5.sz T5.ze rfl rfl h (by decide) ps
@[go_sem] theorem T43.conv9 (h : List Blk) (b o n es : Nat) : convS Try.prog h 43 9 (sl b o n es) = strR (h[b]?) o n := conv_str Try.underlying43 Try.underlying5 Try.underlying9 h b o n es
theorem T9.sz : tsz Try.prog 9 = some 1 := by kernel_rfl
theorem T9.ze : tzero Try.prog 9 = some (.string .empty) := by kernel_rfl
@[go_sem] theorem T212.bs16 (h : List Blk) (ps : List (Nat × Value)) : buildSliceA Try.prog h 212 16 ps = litR h 16 1 (fillK (fun i => some (i * 1, 1)) (some [.string .empty, .string .empty, .string .empty, .string .empty, .string .empty, .string .empty, .string .empty, .string .empty, .string .empty, .string .empty, .string .empty, .string .empty, .string .empty, .string .empty, .string .empty, .string .empty]) ps) := bs_cells Try.underlying212 T9.sz T9.ze rfl rfl h (by decide) ps
@[go_sem] theorem T212.len (b o n es : Nat) : alen Try.prog 212 (sl b o n es) = some (.int .i64 n) := len_sl Try.underlying212 b o n es
@[go_sem] theorem T212.lenN (n c : Nat) : alen Try.prog 212 (.slice none n c) = some (.int .i64 n) := len_nilS Try.underlying212 n c
@[go_sem] theorem T212.ixa (b o len : Nat) (k : IntKind) (n : Int) : idxAddrA Try.prog 212 (sl b o len 1) (.int k n) = ixR (aidx n len) b o 1 := ixa_sl Try.underlying212 T9.sz b o len k n
@[go_sem] theorem T212.ixaB (b o len : Nat) (x : UInt8) : idxAddrA Try.prog 212 (sl b o len 1) (B x) = ixR (aidx x.toNat len) b o 1 := ixa_sl_B Try.underlying212 T9.sz b o len x
theorem T9.ag : tagg Try.prog 9 = some false := by kernel_rfl
@[go_sem] theorem T9.load (h : List Blk) (b o : Nat) : loadP Try.prog h 9 (pt b o) = loadCell (h[b]?) o := loadP_cell T9.ag h b o
@[go_sem] theorem T43.slaN (h : List Blk) (lo hi : Option Value) : aslice Try.prog h 43 (.slice none 0 0) lo hi = slcNil (lowA lo) (highA 0 hi) := sla_nil Try.underlying43 T5.sz h lo hi
@[go_sem] theorem T43.sla (h : List Blk) (b o len : Nat) (lo hi : Option Value) : aslice Try.prog h 43 (sl b o len 1) lo hi = slcSl b o 1 (lowA lo) (highA len hi) := sla_sl Try.underlying43 T5.sz h b o len lo hi
theorem T5.by' : tbytes Try.prog 5 = some 1 := by kernel_rfl
@[go_sem] theorem T43.ms (h : List Blk) (k k' : IntKind) {n : Int} (h0 : 0 ≤ n) (hr : n * 1 ≤ 140737488355328) : makeSliceA Try.prog h 43 (.int k n) (.int k' n) = some (sl h.length 0 n.toNat 1, h ++ [⟨Bs n.toNat (fun _ => 0), true⟩]) := by rw [← repA_B]; exact ms_of Try.underlying43 T5.sz T5.by' (by decide) T5.ze rfl (by kernel_rfl) (by kernel_rfl) h k k' h0 hr
@[go_sem] theorem T5.alloc (h : List Blk) : allocA Try.prog h 5 = some (pt h.length 0, h ++ [⟨[B 0], true⟩]) := alloc_of T5.ze rfl (by kernel_rfl) h
theorem T140.ag : tagg Try.prog 140 = some false := by kernel_rfl
@[go_sem] theorem T140.load (h : List Blk) (b o : Nat) : loadP Try.prog h 140 (pt b o) = loadCell (h[b]?) o := loadP_cell T140.ag h b o
@[go_sem] theorem T43.bs4 (h : List Blk) (ps : List (Nat × Value)) : buildSliceA Try.prog h 43 4 ps = litR h 4 1 (fillK (fun i => some (i * 1, 1)) (some [B 0, B 0, B 0, B 0]) ps) := bs_cells Try.underlying43 T5.sz T5.ze rfl rfl h (by decide) ps
theorem T23.ze : tzero Try.prog 23 = some (.agg (Bs 4 (fun _ => 0)).toArray) := by kernel_rfl
@[go_sem] theorem T23.alloc (h : List Blk) : allocA Try.prog h 23 = some (pt h.length 0, h ++ [⟨Bs 4 (fun _ => 0), true⟩]) := alloc_of T23.ze rfl (by kernel_rfl) h
theorem T193.ze : tzero Try.prog 193 = some (.agg (Vs 4 (fun _ => .bool false)).toArray) := by kernel_rfl
theorem T193.pl : (Vs 4 (fun _ => .bool false)).all plainC = true := by kernel_rfl
@[go_sem] theorem T193.bld0 : buildA Try.prog 193 [] = some (.agg (Vs 4 (fun _ => .bool false)).toArray) := build_nil T193.ze T193.pl Try.underlying193 T4.sz
@[go_sem] theorem T193.alloc (h : List Blk) : allocA Try.prog h 193 = some (pt h.length 0, h ++ [⟨Vs 4 (fun _ => .bool false), true⟩]) := alloc_of T193.ze rfl (by kernel_rfl) h
@[go_sem] theorem T193.store (h : List Blk) (b o : Nat) (cs : Array Value) : storeP Try.prog h 193 (.agg cs) (pt b o) = storeRow h b (h[b]?) o 4 cs.toList := storeP_row T193.sz cs h b o
@[go_sem] theorem T5.conv3 (h : List Blk) (x : UInt8) : convS Try.prog h 5 3 (B x) = some (.int .i64 (IntKind.i64.wrap x.toNat)) := conv_B Try.underlying5 Try.underlying3 h x
theorem T43.ze : tzero Try.prog 43 = some (.slice none 0 0) := by kernel_rfl
@[go_sem] theorem T223.bs0 (h : List Blk) : buildSliceA Try.prog h 223 0 [] = some (sl h.length 0 0 1, h ++ [⟨[], true⟩]) := bs_nil Try.underlying223 T43.sz T43.ze rfl (by kernel_rfl) (by kernel_rfl) h
@[go_sem] theorem T223.bs1 (h : List Blk) (ps : List (Nat × Value)) : buildSliceA Try.prog h 223 1 ps = litR h 1 1 (fillK (fun i => some (i * 1, 1)) (some [.slice none 0 0]) ps) := bs_cells Try.underlying223 T43.sz T43.ze rfl rfl h (by decide) ps
theorem T223.ei : elemInfo Try.prog 223 = some (43, 1, 24) := by kernel_rfl
@[go_sem] theorem T223.app (h : List Blk) (s : Value) (b o m : Nat) : appendA Try.prog h 223 223 s (sl b o m 1) = appR h 1 24 s (srcR (h[b]?) o m 1) := by rw [append_of T223.ei]; simp only [srcA_sl]
@[go_sem] theorem T223.len (b o n es : Nat) : alen Try.prog 223 (sl b o n es) = some (.int .i64 n) := len_sl Try.underlying223 b o n es
@[go_sem] theorem T223.lenN (n c : Nat) : alen Try.prog 223 (.slice none n c) = some (.int .i64 n) := len_nilS Try.underlying223 n c
@[go_sem] theorem T223.ixa (b o len : Nat) (k : IntKind) (n : Int) : idxAddrA Try.prog 223 (sl b o len 1) (.int k n) = ixR (aidx n len) b o 1 := ixa_sl Try.underlying223 T43.sz b o len k n
@[go_sem] theorem T223.ixaB (b o len : Nat) (x : UInt8) : idxAddrA Try.prog 223 (sl b o len 1) (B x) = ixR (aidx x.toNat len) b o 1 := ixa_sl_B Try.underlying223 T43.sz b o len x
@[go_sem] theorem T43.store_sl (h : List Blk) (b o : Nat) (c q n es : Nat) : storeP Try.prog h 43 (sl c q n es) (pt b o) = storeCell h b (h[b]?) o (sl c q n es) := storeP_sl T43.sz c q n es h b o
@[go_sem] theorem T43.store_nil (h : List Blk) (b o : Nat) (n c : Nat) : storeP Try.prog h 43 (.slice none n c) (pt b o) = storeCell h b (h[b]?) o (.slice none n c) := storeP_nil T43.sz n c h b o
@[go_sem] theorem T71.conv3 (h : List Blk) (k : IntKind) (n : Int) : convS Try.prog h 71 3 (.int k n) = some (.int .i64 (IntKind.i64.wrap n)) := conv_int Try.underlying71 Try.underlying3 h k n
@[go_sem] theorem T203.conv135 (h : List Blk) (k : IntKind) (n : Int) : convS Try.prog h 203 135 (.int k n) = some (.int .u64 (IntKind.u64.wrap n)) := conv_int Try.underlying203 Try.underlying135 h k n
@[go_sem] theorem T2.conv71 (h : List Blk) (k : IntKind) (n : Int) : convS Try.prog h 2 71 (.int k n) = some (.int .u64 (IntKind.u64.wrap n)) := conv_int Try.underlying2 Try.underlying71 h k n
@[go_sem] theorem T160.len (b o n es : Nat) : alen Try.prog 160 (sl b o n es) = some (.int .i64 n) := len_sl Try.underlying160 b o n es
@[go_sem] theorem T160.lenN (n c : Nat) : alen Try.prog 160 (.slice none n c) = some (.int .i64 n) := len_nilS Try.underlying160 n c
@[go_sem] theorem T160.ixa (b o len : Nat) (k : IntKind) (n : Int) : idxAddrA Try.prog 160 (sl b o len 1) (.int k n) = ixR (aidx n len) b o 1 := ixa_sl Try.underlying160 T4.sz b o len k n
@[go_sem] theorem T160.ixaB (b o len : Nat) (x : UInt8) : idxAddrA Try.prog 160 (sl b o len 1) (B x) = ixR (aidx x.toNat len) b o 1 := ixa_sl_B Try.underlying160 T4.sz b o len x
@[go_sem] theorem T59.bs7 (h : List Blk) (ps : List (Nat × Value)) : buildSliceA Try.prog h 59 7 ps = litR h 7 1 (fillK (fun i => some (i * 1, 1)) (some [.int .i64 0, .int .i64 0, .int .i64 0, .int .i64 0, .int .i64 0, .int .i64 0, .int .i64 0]) ps) := bs_cells Try.underlying59 T2.sz T2.ze rfl rfl h (by decide) ps
@[go_sem] theorem T59.bs6 (h : List Blk) (ps : List (Nat × Value)) : buildSliceA Try.prog h 59 6 ps = litR h 6 1 (fillK (fun i => some (i * 1, 1)) (some [.int .i64 0, .int .i64 0, .int .i64 0, .int .i64 0, .int .i64 0, .int .i64 0]) ps) := bs_cells Try.underlying59 T2.sz T2.ze rfl rfl h (by decide) ps
@[go_sem] theorem T203.conv71 (h : List Blk) (k : IntKind) (n : Int) : convS Try.prog h 203 71 (.int k n) = some (.int .u64 (IntKind.u64.wrap n)) := conv_int Try.underlying203 Try.underlying71 h k n
@[go_sem] theorem T71.conv203 (h : List Blk) (k : IntKind) (n : Int) : convS Try.prog h 71 203 (.int k n) = some (.int .u32 (IntKind.u32.wrap n)) := conv_int Try.underlying71 Try.underlying203 h k n
theorem mixedOk : Try.prog.follows .mixedOrders = true := by kernel_rfl

end Go.Proofs.Ytkgiocoiojdgfaa
