/- The operations at the types of this seat, as a walk reckons them; written by a program of the prover's. -/
import Derived.Test.YtcfpninklbnifaaRows
import Derived.Test.YtcfpninklbnifaaAbsI
import Derived.Test.YtcfpninklbnifaaAbsN
namespace Go.Proofs.Ytcfpninklbnifaa
set_option linter.unusedSimpArgs false
set_option linter.unusedVariables false
open Go.Abs
set_option maxRecDepth 100000

theorem T32.ze : tzero Try.prog 32 = some (.agg (Ci 0 (fun _ => 0) (fun _ => 0) (fun _ => 0) 0).toArray) := by kernel_rfl
@[go_sem] theorem T32.alloc (h : List Blk) : allocA Try.prog h 32 = some (pt h.length 0, h ++ [⟨Ci 0 (fun _ => 0) (fun _ => 0) (fun _ => 0) 0, true⟩]) := alloc_of T32.ze rfl (by kernel_rfl) h
theorem T33.ze : tzero Try.prog 33 = some (.agg (Bs 16 (fun _ => 0)).toArray) := by kernel_rfl
@[go_sem] theorem T33.alloc (h : List Blk) : allocA Try.prog h 33 = some (pt h.length 0, h ++ [⟨Bs 16 (fun _ => 0), true⟩]) := alloc_of T33.ze rfl (by kernel_rfl) h
theorem T32.sz : tsz Try.prog 32 = some 290 := by kernel_rfl
@[go_sem] theorem T32.store (h : List Blk) (b o : Nat) (cs : Array Value) : storeP Try.prog h 32 (.agg cs) (pt b o) = storeRow h b (h[b]?) o 290 cs.toList := storeP_row T32.sz cs h b o
theorem T33.sz : tsz Try.prog 33 = some 16 := by kernel_rfl
@[go_sem] theorem T33.store (h : List Blk) (b o : Nat) (cs : Array Value) : storeP Try.prog h 33 (.agg cs) (pt b o) = storeRow h b (h[b]?) o 16 cs.toList := storeP_row T33.sz cs h b o
theorem T32.ag : tagg Try.prog 32 = some true := by kernel_rfl
@[go_sem] theorem T32.load (h : List Blk) (b o : Nat) : loadP Try.prog h 32 (pt b o) = loadRow (h[b]?) o 290 := loadP_row T32.ag T32.sz h b o
theorem T33.ag : tagg Try.prog 33 = some true := by kernel_rfl
@[go_sem] theorem T33.load (h : List Blk) (b o : Nat) : loadP Try.prog h 33 (pt b o) = loadRow (h[b]?) o 16 := loadP_row T33.ag T33.sz h b o
theorem T33.aeq (f g : Nat → UInt8) : aeq Try.prog 33 (Bs 16 f) (Bs 16 g) = some (eqB 16 f g) := aeq_bytes (by kernel_rfl) (by kernel_rfl) (by kernel_rfl) (by kernel_rfl) (by kernel_rfl) f g
@[go_sem] theorem T33.eqa (f g : Nat → UInt8) : abin Try.prog .eql 33 (.agg (Bs 16 f).toArray) (.agg (Bs 16 g).toArray) = some (.bool (eqB 16 f g)) := eql_bytes (T33.aeq f g)
@[go_sem] theorem T33.nea (f g : Nat → UInt8) : abin Try.prog .neq 33 (.agg (Bs 16 f).toArray) (.agg (Bs 16 g).toArray) = some (.bool (!eqB 16 f g)) := neq_bytes (T33.aeq f g)
theorem T4.isb : isBoolT Try.prog 4 = true := by kernel_rfl
@[go_sem] theorem T4.eql (a b : Bool) : abin Try.prog .eql 4 (.bool a) (.bool b) = some (.bool (a == b)) := eql_bool T4.isb a b
@[go_sem] theorem T4.neq (a b : Bool) : abin Try.prog .neq 4 (.bool a) (.bool b) = some (.bool (!(a == b))) := neq_bool T4.isb a b
-- equality at impl.Cipher is not served
theorem T33.pl : (Bs 16 (fun _ => 0)).all plainC = true := by kernel_rfl
theorem T5.sz : tsz Try.prog 5 = some 1 := by kernel_rfl
@[go_sem] theorem T33.bld0 : buildA Try.prog 33 [] = some (.agg (Bs 16 (fun _ => 0)).toArray) := build_nil T33.ze T33.pl Try.underlying33 T5.sz
theorem T2.sz : tsz Try.prog 2 = some 1 := by kernel_rfl
@[go_sem] theorem T32.fla4 (b o : Nat) : fieldAddrA Try.prog 32 4 (pt b o) = some (pt b (o + 289)) := fla (f := 4) (o' := 289) (ft := 2) (z := 1) Try.underlying32 rfl rfl rfl T2.sz (by decide) b o
theorem T2.ag : tagg Try.prog 2 = some false := by kernel_rfl
@[go_sem] theorem T2.load (h : List Blk) (b o : Nat) : loadP Try.prog h 2 (pt b o) = loadCell (h[b]?) o := loadP_cell T2.ag h b o
@[go_sem] theorem T49.len (b o n es : Nat) : alen Try.prog 49 (sl b o n es) = some (.int .i64 n) := len_sl Try.underlying49 b o n es
@[go_sem] theorem T49.lenN (n c : Nat) : alen Try.prog 49 (.slice none n c) = some (.int .i64 n) := len_nilS Try.underlying49 n c
@[go_sem] theorem T49.ixa (b o len : Nat) (k : IntKind) (n : Int) : idxAddrA Try.prog 49 (sl b o len 1) (.int k n) = ixR (aidx n len) b o 1 := ixa_sl Try.underlying49 T2.sz b o len k n
@[go_sem] theorem T49.ixaB (b o len : Nat) (x : UInt8) : idxAddrA Try.prog 49 (sl b o len 1) (B x) = ixR (aidx x.toNat len) b o 1 := ixa_sl_B Try.underlying49 T2.sz b o len x
@[go_sem] theorem T33.ixa (b o : Nat) (k : IntKind) (n : Int) : idxAddrA Try.prog 33 (pt b o) (.int k n) = ixR (aidx n 16) b o 1 := ixa_arr Try.underlying33 T5.sz b o k n
@[go_sem] theorem T33.ixaB (b o : Nat) (x : UInt8) : idxAddrA Try.prog 33 (pt b o) (B x) = ixR (aidx x.toNat 16) b o 1 := ixa_arr_B Try.underlying33 T5.sz b o x
theorem T5.ag : tagg Try.prog 5 = some false := by kernel_rfl
@[go_sem] theorem T5.load (h : List Blk) (b o : Nat) : loadP Try.prog h 5 (pt b o) = loadCell (h[b]?) o := loadP_cell T5.ag h b o
@[go_sem] theorem T2.conv5 (h : List Blk) (k : IntKind) (n : Int) : convS Try.prog h 2 5 (.int k n) = some (.int .u8 (IntKind.u8.wrap n)) := conv_int Try.underlying2 Try.underlying5 h k n
@[go_sem] theorem T5.store_B (h : List Blk) (b o : Nat) (x : UInt8) : storeP Try.prog h 5 (B x) (pt b o) = storeCell h b (h[b]?) o (B x) := storeP_B T5.sz x h b o
@[go_sem] theorem T22.len (b o n es : Nat) : alen Try.prog 22 (sl b o n es) = some (.int .i64 n) := len_sl Try.underlying22 b o n es
@[go_sem] theorem T22.lenN (n c : Nat) : alen Try.prog 22 (.slice none n c) = some (.int .i64 n) := len_nilS Try.underlying22 n c
@[go_sem] theorem T32.fla0 (b o : Nat) : fieldAddrA Try.prog 32 0 (pt b o) = some (pt b (o + 0)) := fla (f := 0) (o' := 0) (ft := 2) (z := 1) Try.underlying32 rfl rfl rfl T2.sz (by decide) b o
theorem T25.sz : tsz Try.prog 25 = some 256 := by kernel_rfl
@[go_sem] theorem T32.fla1 (b o : Nat) : fieldAddrA Try.prog 32 1 (pt b o) = some (pt b (o + 1)) := fla (f := 1) (o' := 1) (ft := 25) (z := 256) Try.underlying32 rfl rfl rfl T25.sz (by decide) b o
theorem T25.ag : tagg Try.prog 25 = some true := by kernel_rfl
@[go_sem] theorem T25.load (h : List Blk) (b o : Nat) : loadP Try.prog h 25 (pt b o) = loadRow (h[b]?) o 256 := loadP_row T25.ag T25.sz h b o
theorem T28.sz : tsz Try.prog 28 = some 16 := by kernel_rfl
@[go_sem] theorem T32.fla2 (b o : Nat) : fieldAddrA Try.prog 32 2 (pt b o) = some (pt b (o + 257)) := fla (f := 2) (o' := 257) (ft := 28) (z := 16) Try.underlying32 rfl rfl rfl T28.sz (by decide) b o
theorem T28.ag : tagg Try.prog 28 = some true := by kernel_rfl
@[go_sem] theorem T28.load (h : List Blk) (b o : Nat) : loadP Try.prog h 28 (pt b o) = loadRow (h[b]?) o 16 := loadP_row T28.ag T28.sz h b o
theorem T30.sz : tsz Try.prog 30 = some 16 := by kernel_rfl
@[go_sem] theorem T32.fla3 (b o : Nat) : fieldAddrA Try.prog 32 3 (pt b o) = some (pt b (o + 273)) := fla (f := 3) (o' := 273) (ft := 30) (z := 16) Try.underlying32 rfl rfl rfl T30.sz (by decide) b o
theorem T30.ag : tagg Try.prog 30 = some true := by kernel_rfl
@[go_sem] theorem T30.load (h : List Blk) (b o : Nat) : loadP Try.prog h 30 (pt b o) = loadRow (h[b]?) o 16 := loadP_row T30.ag T30.sz h b o
theorem T32.pl : (Ci 0 (fun _ => 0) (fun _ => 0) (fun _ => 0) 0).all plainC = true := by kernel_rfl
theorem T32.places : placesA Try.prog 32 = some [(0, 1), (1, 256), (257, 16), (273, 16), (289, 1)] := by kernel_rfl
@[go_sem] theorem T32.bld0 : buildA Try.prog 32 [] = some (.agg (Ci 0 (fun _ => 0) (fun _ => 0) (fun _ => 0) 0).toArray) := build_nil_struct T32.ze T32.pl Try.underlying32 T32.places
@[go_sem] theorem T33.ix (l : List Value) (k : IntKind) (n : Int) : indexA Try.prog 33 (.agg l.toArray) (.int k n) = ixC (aidx n 16) l := ix_arr_cell Try.underlying33 T5.sz T5.ag l k n
@[go_sem] theorem T33.ixB (l : List Value) (x : UInt8) : indexA Try.prog 33 (.agg l.toArray) (B x) = ixC (aidx x.toNat 16) l := ix_arr_cell_B Try.underlying33 T5.sz T5.ag l x
@[go_sem] theorem T49.eqn (b o n es : Nat) : abin Try.prog .eql 49 (sl b o n es) (.slice none 0 0) = some (.bool false) := eqn_sl Try.underlying49 b o n es
@[go_sem] theorem T49.eqN (l c : Nat) : abin Try.prog .eql 49 (.slice none l c) (.slice none 0 0) = some (.bool true) := eqn_nil Try.underlying49 l c
@[go_sem] theorem T49.nen (b o n es : Nat) : abin Try.prog .neq 49 (sl b o n es) (.slice none 0 0) = some (.bool true) := nen_sl Try.underlying49 b o n es
@[go_sem] theorem T49.neN (l c : Nat) : abin Try.prog .neq 49 (.slice none l c) (.slice none 0 0) = some (.bool false) := nen_nil Try.underlying49 l c
@[go_sem] theorem T3.conv57 (h : List Blk) (k : IntKind) (n : Int) : convS Try.prog h 3 57 (.int k n) = some (.int .u64 (IntKind.u64.wrap n)) := conv_int Try.underlying3 Try.underlying57 h k n
theorem T87.ze : tzero Try.prog 87 = some (.agg (Sr (.slice none 0 0) 0 0).toArray) := by kernel_rfl
theorem T87.pl : (Sr (.slice none 0 0) 0 0).all plainC = true := by kernel_rfl
theorem T87.places : placesA Try.prog 87 = some [(0, 1), (1, 1), (2, 1)] := by kernel_rfl
@[go_sem] theorem T87.bld (p : Nat × Value) (ps : List (Nat × Value)) : buildA Try.prog 87 (p :: ps) = bldR (fillK (fun i => [(0, 1), (1, 1), (2, 1)][i]?) (some (Sr (.slice none 0 0) 0 0)) (p :: ps)) := build_parts_struct T87.ze T87.pl Try.underlying87 T87.places _
theorem T57.sz : tsz Try.prog 57 = some 1 := by kernel_rfl
@[go_sem] theorem T87.fla2 (b o : Nat) : fieldAddrA Try.prog 87 2 (pt b o) = some (pt b (o + 2)) := fla (f := 2) (o' := 2) (ft := 57) (z := 1) Try.underlying87 rfl rfl rfl T57.sz (by decide) b o
theorem T57.ag : tagg Try.prog 57 = some false := by kernel_rfl
@[go_sem] theorem T57.load (h : List Blk) (b o : Nat) : loadP Try.prog h 57 (pt b o) = loadCell (h[b]?) o := loadP_cell T57.ag h b o
@[go_sem] theorem T22.ixa (b o len : Nat) (k : IntKind) (n : Int) : idxAddrA Try.prog 22 (sl b o len 1) (.int k n) = ixR (aidx n len) b o 1 := ixa_sl Try.underlying22 T5.sz b o len k n
@[go_sem] theorem T22.ixaB (b o len : Nat) (x : UInt8) : idxAddrA Try.prog 22 (sl b o len 1) (B x) = ixR (aidx x.toNat len) b o 1 := ixa_sl_B Try.underlying22 T5.sz b o len x
@[go_sem] theorem T5.conv57 (h : List Blk) (x : UInt8) : convS Try.prog h 5 57 (B x) = some (.int .u64 (IntKind.u64.wrap x.toNat)) := conv_B Try.underlying5 Try.underlying57 h x
@[go_sem] theorem T57.store_int (h : List Blk) (b o : Nat) (n : Int) : storeP Try.prog h 57 (.int .u64 n) (pt b o) = storeCell h b (h[b]?) o (.int .u64 n) := storeP_int T57.sz .u64 n h b o
@[go_sem] theorem T57.conv2 (h : List Blk) (k : IntKind) (n : Int) : convS Try.prog h 57 2 (.int k n) = some (.int .i64 (IntKind.i64.wrap n)) := conv_int Try.underlying57 Try.underlying2 h k n
theorem T3.sz : tsz Try.prog 3 = some 1 := by kernel_rfl
@[go_sem] theorem T87.fla1 (b o : Nat) : fieldAddrA Try.prog 87 1 (pt b o) = some (pt b (o + 1)) := fla (f := 1) (o' := 1) (ft := 3) (z := 1) Try.underlying87 rfl rfl rfl T3.sz (by decide) b o
theorem T3.ag : tagg Try.prog 3 = some false := by kernel_rfl
@[go_sem] theorem T3.load (h : List Blk) (b o : Nat) : loadP Try.prog h 3 (pt b o) = loadCell (h[b]?) o := loadP_cell T3.ag h b o
theorem T22.sz : tsz Try.prog 22 = some 1 := by kernel_rfl
@[go_sem] theorem T87.fla0 (b o : Nat) : fieldAddrA Try.prog 87 0 (pt b o) = some (pt b (o + 0)) := fla (f := 0) (o' := 0) (ft := 22) (z := 1) Try.underlying87 rfl rfl rfl T22.sz (by decide) b o
theorem T22.ag : tagg Try.prog 22 = some false := by kernel_rfl
@[go_sem] theorem T22.load (h : List Blk) (b o : Nat) : loadP Try.prog h 22 (pt b o) = loadCell (h[b]?) o := loadP_cell T22.ag h b o
@[go_sem] theorem T5.conv2 (h : List Blk) (x : UInt8) : convS Try.prog h 5 2 (B x) = some (.int .i64 (IntKind.i64.wrap x.toNat)) := conv_B Try.underlying5 Try.underlying2 h x
@[go_sem] theorem T3.store_int (h : List Blk) (b o : Nat) (n : Int) : storeP Try.prog h 3 (.int .i64 n) (pt b o) = storeCell h b (h[b]?) o (.int .i64 n) := storeP_int T3.sz .i64 n h b o
@[go_sem] theorem T3.conv5 (h : List Blk) (k : IntKind) (n : Int) : convS Try.prog h 3 5 (.int k n) = some (.int .u8 (IntKind.u8.wrap n)) := conv_int Try.underlying3 Try.underlying5 h k n
theorem T28.ze : tzero Try.prog 28 = some (.agg (Bs 16 (fun _ => 0)).toArray) := by kernel_rfl
@[go_sem] theorem T28.alloc (h : List Blk) : allocA Try.prog h 28 = some (pt h.length 0, h ++ [⟨Bs 16 (fun _ => 0), true⟩]) := alloc_of T28.ze rfl (by kernel_rfl) h
@[go_sem] theorem T28.store (h : List Blk) (b o : Nat) (cs : Array Value) : storeP Try.prog h 28 (.agg cs) (pt b o) = storeRow h b (h[b]?) o 16 cs.toList := storeP_row T28.sz cs h b o
@[go_sem] theorem T76.ixa (b o len : Nat) (k : IntKind) (n : Int) : idxAddrA Try.prog 76 (sl b o len 16) (.int k n) = ixR (aidx n len) b o 16 := ixa_sl Try.underlying76 T33.sz b o len k n
@[go_sem] theorem T76.ixaB (b o len : Nat) (x : UInt8) : idxAddrA Try.prog 76 (sl b o len 16) (B x) = ixR (aidx x.toNat len) b o 16 := ixa_sl_B Try.underlying76 T33.sz b o len x
theorem T98.ze : tzero Try.prog 98 = some (.agg (Vs 256 (fun _ => .bool false)).toArray) := by kernel_rfl
theorem T98.pl : (Vs 256 (fun _ => .bool false)).all plainC = true := by kernel_rfl
theorem T4.sz : tsz Try.prog 4 = some 1 := by kernel_rfl
@[go_sem] theorem T98.bld0 : buildA Try.prog 98 [] = some (.agg (Vs 256 (fun _ => .bool false)).toArray) := build_nil T98.ze T98.pl Try.underlying98 T4.sz
@[go_sem] theorem T98.alloc (h : List Blk) : allocA Try.prog h 98 = some (pt h.length 0, h ++ [⟨Vs 256 (fun _ => .bool false), true⟩]) := alloc_of T98.ze rfl (by kernel_rfl) h
theorem T98.sz : tsz Try.prog 98 = some 256 := by kernel_rfl
@[go_sem] theorem T98.store (h : List Blk) (b o : Nat) (cs : Array Value) : storeP Try.prog h 98 (.agg cs) (pt b o) = storeRow h b (h[b]?) o 256 cs.toList := storeP_row T98.sz cs h b o
@[go_sem] theorem T25.ix (l : List Value) (k : IntKind) (n : Int) : indexA Try.prog 25 (.agg l.toArray) (.int k n) = ixC (aidx n 256) l := ix_arr_cell Try.underlying25 T5.sz T5.ag l k n
@[go_sem] theorem T25.ixB (l : List Value) (x : UInt8) : indexA Try.prog 25 (.agg l.toArray) (B x) = ixC (aidx x.toNat 256) l := ix_arr_cell_B Try.underlying25 T5.sz T5.ag l x
@[go_sem] theorem T98.ixa (b o : Nat) (k : IntKind) (n : Int) : idxAddrA Try.prog 98 (pt b o) (.int k n) = ixR (aidx n 256) b o 1 := ixa_arr Try.underlying98 T4.sz b o k n
@[go_sem] theorem T98.ixaB (b o : Nat) (x : UInt8) : idxAddrA Try.prog 98 (pt b o) (B x) = ixR (aidx x.toNat 256) b o 1 := ixa_arr_B Try.underlying98 T4.sz b o x
@[go_sem] theorem T4.store_bool (h : List Blk) (b o : Nat) (x : Bool) : storeP Try.prog h 4 (.bool x) (pt b o) = storeCell h b (h[b]?) o (.bool x) := storeP_bool T4.sz x h b o
@[go_sem] theorem T98.sla (h : List Blk) (b o : Nat) (lo hi : Option Value) : aslice Try.prog h 98 (pt b o) lo hi = slcArr (h[b]?) b o 256 1 (lowA lo) (highA 256 hi) := sla_arr Try.underlying98 T4.sz h b o lo hi
@[go_sem] theorem T30.ix (l : List Value) (k : IntKind) (n : Int) : indexA Try.prog 30 (.agg l.toArray) (.int k n) = ixC (aidx n 16) l := ix_arr_cell Try.underlying30 T5.sz T5.ag l k n
@[go_sem] theorem T30.ixB (l : List Value) (x : UInt8) : indexA Try.prog 30 (.agg l.toArray) (B x) = ixC (aidx x.toNat 16) l := ix_arr_cell_B Try.underlying30 T5.sz T5.ag l x
@[go_sem] theorem T30.sla (h : List Blk) (b o : Nat) (lo hi : Option Value) : aslice Try.prog h 30 (pt b o) lo hi = slcArr (h[b]?) b o 16 1 (lowA lo) (highA 16 hi) := sla_arr Try.underlying30 T5.sz h b o lo hi
theorem T25.ze : tzero Try.prog 25 = some (.agg (Bs 256 (fun _ => 0)).toArray) := by kernel_rfl
@[go_sem] theorem T25.alloc (h : List Blk) : allocA Try.prog h 25 = some (pt h.length 0, h ++ [⟨Bs 256 (fun _ => 0), true⟩]) := alloc_of T25.ze rfl (by kernel_rfl) h
@[go_sem] theorem T25.store (h : List Blk) (b o : Nat) (cs : Array Value) : storeP Try.prog h 25 (.agg cs) (pt b o) = storeRow h b (h[b]?) o 256 cs.toList := storeP_row T25.sz cs h b o
theorem T106.ze : tzero Try.prog 106 = some (.agg (Sr (.slice none 0 0) 0 0).toArray) := by kernel_rfl
theorem T106.pl : (Sr (.slice none 0 0) 0 0).all plainC = true := by kernel_rfl
theorem T106.places : placesA Try.prog 106 = some [(0, 1), (1, 1), (2, 1)] := by kernel_rfl
@[go_sem] theorem T106.bld (p : Nat × Value) (ps : List (Nat × Value)) : buildA Try.prog 106 (p :: ps) = bldR (fillK (fun i => [(0, 1), (1, 1), (2, 1)][i]?) (some (Sr (.slice none 0 0) 0 0)) (p :: ps)) := build_parts_struct T106.ze T106.pl Try.underlying106 T106.places _
@[go_sem] theorem T106.fla2 (b o : Nat) : fieldAddrA Try.prog 106 2 (pt b o) = some (pt b (o + 2)) := fla (f := 2) (o' := 2) (ft := 57) (z := 1) Try.underlying106 rfl rfl rfl T57.sz (by decide) b o
@[go_sem] theorem T106.fla1 (b o : Nat) : fieldAddrA Try.prog 106 1 (pt b o) = some (pt b (o + 1)) := fla (f := 1) (o' := 1) (ft := 3) (z := 1) Try.underlying106 rfl rfl rfl T3.sz (by decide) b o
@[go_sem] theorem T106.fla0 (b o : Nat) : fieldAddrA Try.prog 106 0 (pt b o) = some (pt b (o + 0)) := fla (f := 0) (o' := 0) (ft := 22) (z := 1) Try.underlying106 rfl rfl rfl T22.sz (by decide) b o
theorem T112.ze : tzero Try.prog 112 = some (.agg (En (fun _ => 0) (fun _ => 0) (fun _ => 0) (fun _ => 0) (.pointer none) (.pointer none) 0).toArray) := by kernel_rfl
theorem T112.pl : (En (fun _ => 0) (fun _ => 0) (fun _ => 0) (fun _ => 0) (.pointer none) (.pointer none) 0).all plainC = true := by kernel_rfl
theorem T112.places : placesA Try.prog 112 = some [(0, 256), (256, 256), (512, 16), (528, 16), (544, 1), (545, 1), (546, 1)] := by kernel_rfl
@[go_sem] theorem T112.bld (p : Nat × Value) (ps : List (Nat × Value)) : buildA Try.prog 112 (p :: ps) = bldR (fillK (fun i => [(0, 256), (256, 256), (512, 16), (528, 16), (544, 1), (545, 1), (546, 1)][i]?) (some (En (fun _ => 0) (fun _ => 0) (fun _ => 0) (fun _ => 0) (.pointer none) (.pointer none) 0)) (p :: ps)) := build_parts_struct T112.ze T112.pl Try.underlying112 T112.places _
@[go_sem] theorem T76.len (b o n es : Nat) : alen Try.prog 76 (sl b o n es) = some (.int .i64 n) := len_sl Try.underlying76 b o n es
@[go_sem] theorem T76.lenN (n c : Nat) : alen Try.prog 76 (.slice none n c) = some (.int .i64 n) := len_nilS Try.underlying76 n c
@[go_sem] theorem T112.fla0 (b o : Nat) : fieldAddrA Try.prog 112 0 (pt b o) = some (pt b (o + 0)) := fla (f := 0) (o' := 0) (ft := 25) (z := 256) Try.underlying112 rfl rfl rfl T25.sz (by decide) b o
@[go_sem] theorem T25.ixa (b o : Nat) (k : IntKind) (n : Int) : idxAddrA Try.prog 25 (pt b o) (.int k n) = ixR (aidx n 256) b o 1 := ixa_arr Try.underlying25 T5.sz b o k n
@[go_sem] theorem T25.ixaB (b o : Nat) (x : UInt8) : idxAddrA Try.prog 25 (pt b o) (B x) = ixR (aidx x.toNat 256) b o 1 := ixa_arr_B Try.underlying25 T5.sz b o x
@[go_sem] theorem T112.fla2 (b o : Nat) : fieldAddrA Try.prog 112 2 (pt b o) = some (pt b (o + 512)) := fla (f := 2) (o' := 512) (ft := 30) (z := 16) Try.underlying112 rfl rfl rfl T30.sz (by decide) b o
theorem T109.sz : tsz Try.prog 109 = some 1 := by kernel_rfl
@[go_sem] theorem T112.fla4 (b o : Nat) : fieldAddrA Try.prog 112 4 (pt b o) = some (pt b (o + 544)) := fla (f := 4) (o' := 544) (ft := 109) (z := 1) Try.underlying112 rfl rfl rfl T109.sz (by decide) b o
theorem T109.ag : tagg Try.prog 109 = some false := by kernel_rfl
@[go_sem] theorem T109.load (h : List Blk) (b o : Nat) : loadP Try.prog h 109 (pt b o) = loadCell (h[b]?) o := loadP_cell T109.ag h b o
@[go_sem] theorem T33.sla (h : List Blk) (b o : Nat) (lo hi : Option Value) : aslice Try.prog h 33 (pt b o) lo hi = slcArr (h[b]?) b o 16 1 (lowA lo) (highA 16 hi) := sla_arr Try.underlying33 T5.sz h b o lo hi
@[go_sem] theorem T76.bs1 (h : List Blk) (ps : List (Nat × Value)) : buildSliceA Try.prog h 76 1 ps = litR h 1 16 (fillK (fun i => some (i * 16, 16)) (some (repA (Bs 16 (fun _ => 0)) 1)) ps) := bs_parts Try.underlying76 T33.sz T33.ze rfl (by kernel_rfl) (by kernel_rfl) h (by decide) ps
theorem T76.ei : elemInfo Try.prog 76 = some (33, 16, 16) := by kernel_rfl
@[go_sem] theorem T76.app (h : List Blk) (s : Value) (b o m : Nat) : appendA Try.prog h 76 76 s (sl b o m 16) = appR h 16 16 s (srcR (h[b]?) o m 16) := by rw [append_of T76.ei]; simp only [srcA_sl]
@[go_sem] theorem T112.fla5 (b o : Nat) : fieldAddrA Try.prog 112 5 (pt b o) = some (pt b (o + 545)) := fla (f := 5) (o' := 545) (ft := 109) (z := 1) Try.underlying112 rfl rfl rfl T109.sz (by decide) b o
@[go_sem] theorem T112.fla3 (b o : Nat) : fieldAddrA Try.prog 112 3 (pt b o) = some (pt b (o + 528)) := fla (f := 3) (o' := 528) (ft := 30) (z := 16) Try.underlying112 rfl rfl rfl T30.sz (by decide) b o
@[go_sem] theorem T112.fla1 (b o : Nat) : fieldAddrA Try.prog 112 1 (pt b o) = some (pt b (o + 256)) := fla (f := 1) (o' := 256) (ft := 25) (z := 256) Try.underlying112 rfl rfl rfl T25.sz (by decide) b o
@[go_sem] theorem T32.bld (p : Nat × Value) (ps : List (Nat × Value)) : buildA Try.prog 32 (p :: ps) = bldR (fillK (fun i => [(0, 1), (1, 256), (257, 16), (273, 16), (289, 1)][i]?) (some (Ci 0 (fun _ => 0) (fun _ => 0) (fun _ => 0) 0)) (p :: ps)) := build_parts_struct T32.ze T32.pl Try.underlying32 T32.places _
theorem T26.sz : tsz Try.prog 26 = some 4 := by kernel_rfl
@[go_sem] theorem T28.ixa (b o : Nat) (k : IntKind) (n : Int) : idxAddrA Try.prog 28 (pt b o) (.int k n) = ixR (aidx n 4) b o 4 := ixa_arr Try.underlying28 T26.sz b o k n
@[go_sem] theorem T28.ixaB (b o : Nat) (x : UInt8) : idxAddrA Try.prog 28 (pt b o) (B x) = ixR (aidx x.toNat 4) b o 4 := ixa_arr_B Try.underlying28 T26.sz b o x
@[go_sem] theorem T26.ixa (b o : Nat) (k : IntKind) (n : Int) : idxAddrA Try.prog 26 (pt b o) (.int k n) = ixR (aidx n 4) b o 1 := ixa_arr Try.underlying26 T5.sz b o k n
@[go_sem] theorem T26.ixaB (b o : Nat) (x : UInt8) : idxAddrA Try.prog 26 (pt b o) (B x) = ixR (aidx x.toNat 4) b o 1 := ixa_arr_B Try.underlying26 T5.sz b o x
@[go_sem] theorem T30.ixa (b o : Nat) (k : IntKind) (n : Int) : idxAddrA Try.prog 30 (pt b o) (.int k n) = ixR (aidx n 16) b o 1 := ixa_arr Try.underlying30 T5.sz b o k n
@[go_sem] theorem T30.ixaB (b o : Nat) (x : UInt8) : idxAddrA Try.prog 30 (pt b o) (B x) = ixR (aidx x.toNat 16) b o 1 := ixa_arr_B Try.underlying30 T5.sz b o x
theorem T2.ze : tzero Try.prog 2 = some (.int .i64 0) := by kernel_rfl
@[go_sem] theorem T49.bs3 (h : List Blk) (ps : List (Nat × Value)) : buildSliceA Try.prog h 49 3 ps = litR h 3 1 (fillK (fun i => some (i * 1, 1)) (some [.int .i64 0, .int .i64 0, .int .i64 0]) ps) := bs_cells Try.underlying49 T2.sz T2.ze rfl rfl h (by decide) ps
@[go_sem] theorem T49.bs0 (h : List Blk) : buildSliceA Try.prog h 49 0 [] = some (sl h.length 0 0 1, h ++ [⟨[], true⟩]) := bs_nil Try.underlying49 T2.sz T2.ze rfl (by kernel_rfl) (by kernel_rfl) h
@[go_sem] theorem T49.bs1 (h : List Blk) (ps : List (Nat × Value)) : buildSliceA Try.prog h 49 1 ps = litR h 1 1 (fillK (fun i => some (i * 1, 1)) (some [.int .i64 0]) ps) := bs_cells Try.underlying49 T2.sz T2.ze rfl rfl h (by decide) ps
theorem T49.ei : elemInfo Try.prog 49 = some (2, 1, 8) := by kernel_rfl
@[go_sem] theorem T49.app (h : List Blk) (s : Value) (b o m : Nat) : appendA Try.prog h 49 49 s (sl b o m 1) = appR h 1 8 s (srcR (h[b]?) o m 1) := by rw [append_of T49.ei]; simp only [srcA_sl]
@[go_sem] theorem T49.bs4 (h : List Blk) (ps : List (Nat × Value)) : buildSliceA Try.prog h 49 4 ps = litR h 4 1 (fillK (fun i => some (i * 1, 1)) (some [.int .i64 0, .int .i64 0, .int .i64 0, .int .i64 0]) ps) := bs_cells Try.underlying49 T2.sz T2.ze rfl rfl h (by decide) ps
@[go_sem] theorem T2.store_int (h : List Blk) (b o : Nat) (n : Int) : storeP Try.prog h 2 (.int .i64 n) (pt b o) = storeCell h b (h[b]?) o (.int .i64 n) := storeP_int T2.sz .i64 n h b o
theorem T26.ag : tagg Try.prog 26 = some true := by kernel_rfl
@[go_sem] theorem T26.load (h : List Blk) (b o : Nat) : loadP Try.prog h 26 (pt b o) = loadRow (h[b]?) o 4 := loadP_row T26.ag T26.sz h b o
@[go_sem] theorem T26.store (h : List Blk) (b o : Nat) (cs : Array Value) : storeP Try.prog h 26 (.agg cs) (pt b o) = storeRow h b (h[b]?) o 4 cs.toList := storeP_row T26.sz cs h b o
theorem T5.ze : tzero Try.prog 5 = some (B 0) := by kernel_rfl
@[go_sem] theorem T22.bs3 (h : List Blk) (ps : List (Nat × Value)) : buildSliceA Try.prog h 22 3 ps = litR h 3 1 (fillK (fun i => some (i * 1, 1)) (some [B 0, B 0, B 0]) ps) := bs_cells Try.underlying22 T5.sz T5.ze rfl rfl h (by decide) ps
theorem T4.ag : tagg Try.prog 4 = some false := by kernel_rfl
@[go_sem] theorem T4.load (h : List Blk) (b o : Nat) : loadP Try.prog h 4 (pt b o) = loadCell (h[b]?) o := loadP_cell T4.ag h b o
theorem T129.ze : tzero Try.prog 129 = some (.agg (Vs 16 (fun _ => .bool false)).toArray) := by kernel_rfl
theorem T129.pl : (Vs 16 (fun _ => .bool false)).all plainC = true := by kernel_rfl
@[go_sem] theorem T129.bld0 : buildA Try.prog 129 [] = some (.agg (Vs 16 (fun _ => .bool false)).toArray) := build_nil T129.ze T129.pl Try.underlying129 T4.sz
@[go_sem] theorem T129.alloc (h : List Blk) : allocA Try.prog h 129 = some (pt h.length 0, h ++ [⟨Vs 16 (fun _ => .bool false), true⟩]) := alloc_of T129.ze rfl (by kernel_rfl) h
theorem T129.sz : tsz Try.prog 129 = some 16 := by kernel_rfl
@[go_sem] theorem T129.store (h : List Blk) (b o : Nat) (cs : Array Value) : storeP Try.prog h 129 (.agg cs) (pt b o) = storeRow h b (h[b]?) o 16 cs.toList := storeP_row T129.sz cs h b o
@[go_sem] theorem T129.ixa (b o : Nat) (k : IntKind) (n : Int) : idxAddrA Try.prog 129 (pt b o) (.int k n) = ixR (aidx n 16) b o 1 := ixa_arr Try.underlying129 T4.sz b o k n
@[go_sem] theorem T129.ixaB (b o : Nat) (x : UInt8) : idxAddrA Try.prog 129 (pt b o) (B x) = ixR (aidx x.toNat 16) b o 1 := ixa_arr_B Try.underlying129 T4.sz b o x
theorem T28.pl : (Bs 16 (fun _ => 0)).all plainC = true := by kernel_rfl
@[go_sem] theorem T28.bld0 : buildA Try.prog 28 [] = some (.agg (Bs 16 (fun _ => 0)).toArray) := build_nil T28.ze T28.pl Try.underlying28 T26.sz
@[go_sem] theorem T22.slaN (h : List Blk) (lo hi : Option Value) : aslice Try.prog h 22 (.slice none 0 0) lo hi = slcNil (lowA lo) (highA 0 hi) := sla_nil Try.underlying22 T5.sz h lo hi
@[go_sem] theorem T22.sla (h : List Blk) (b o len : Nat) (lo hi : Option Value) : aslice Try.prog h 22 (sl b o len 1) lo hi = slcSl b o 1 (lowA lo) (highA len hi) := sla_sl Try.underlying22 T5.sz h b o len lo hi
theorem T25.pl : (Bs 256 (fun _ => 0)).all plainC = true := by kernel_rfl
@[go_sem] theorem T25.bld0 : buildA Try.prog 25 [] = some (.agg (Bs 256 (fun _ => 0)).toArray) := build_nil T25.ze T25.pl Try.underlying25 T5.sz
theorem T30.ze : tzero Try.prog 30 = some (.agg (Bs 16 (fun _ => 0)).toArray) := by kernel_rfl
@[go_sem] theorem T30.alloc (h : List Blk) : allocA Try.prog h 30 = some (pt h.length 0, h ++ [⟨Bs 16 (fun _ => 0), true⟩]) := alloc_of T30.ze rfl (by kernel_rfl) h
theorem T30.pl : (Bs 16 (fun _ => 0)).all plainC = true := by kernel_rfl
@[go_sem] theorem T30.bld0 : buildA Try.prog 30 [] = some (.agg (Bs 16 (fun _ => 0)).toArray) := build_nil T30.ze T30.pl Try.underlying30 T5.sz
@[go_sem] theorem T30.store (h : List Blk) (b o : Nat) (cs : Array Value) : storeP Try.prog h 30 (.agg cs) (pt b o) = storeRow h b (h[b]?) o 16 cs.toList := storeP_row T30.sz cs h b o
theorem T140.ze : tzero Try.prog 140 = some (.agg (Bs 4096 (fun _ => 0)).toArray) := by kernel_rfl
theorem T140.pl : (Bs 4096 (fun _ => 0)).all plainC = true := by kernel_rfl
theorem T138.sz : tsz Try.prog 138 = some 1024 := by kernel_rfl
@[go_sem] theorem T140.bld0 : buildA Try.prog 140 [] = some (.agg (Bs 4096 (fun _ => 0)).toArray) := build_nil T140.ze T140.pl Try.underlying140 T138.sz
@[go_sem] theorem T26.ix (l : List Value) (k : IntKind) (n : Int) : indexA Try.prog 26 (.agg l.toArray) (.int k n) = ixC (aidx n 4) l := ix_arr_cell Try.underlying26 T5.sz T5.ag l k n
@[go_sem] theorem T26.ixB (l : List Value) (x : UInt8) : indexA Try.prog 26 (.agg l.toArray) (B x) = ixC (aidx x.toNat 4) l := ix_arr_cell_B Try.underlying26 T5.sz T5.ag l x
@[go_sem] theorem T140.ixa (b o : Nat) (k : IntKind) (n : Int) : idxAddrA Try.prog 140 (pt b o) (.int k n) = ixR (aidx n 4) b o 1024 := ixa_arr Try.underlying140 T138.sz b o k n
@[go_sem] theorem T140.ixaB (b o : Nat) (x : UInt8) : idxAddrA Try.prog 140 (pt b o) (B x) = ixR (aidx x.toNat 4) b o 1024 := ixa_arr_B Try.underlying140 T138.sz b o x
theorem T24.sz : tsz Try.prog 24 = some 256 := by kernel_rfl
@[go_sem] theorem T138.ixa (b o : Nat) (k : IntKind) (n : Int) : idxAddrA Try.prog 138 (pt b o) (.int k n) = ixR (aidx n 4) b o 256 := ixa_arr Try.underlying138 T24.sz b o k n
@[go_sem] theorem T138.ixaB (b o : Nat) (x : UInt8) : idxAddrA Try.prog 138 (pt b o) (B x) = ixR (aidx x.toNat 4) b o 256 := ixa_arr_B Try.underlying138 T24.sz b o x
@[go_sem] theorem T24.ixa (b o : Nat) (k : IntKind) (n : Int) : idxAddrA Try.prog 24 (pt b o) (.int k n) = ixR (aidx n 256) b o 1 := ixa_arr Try.underlying24 T5.sz b o k n
@[go_sem] theorem T24.ixaB (b o : Nat) (x : UInt8) : idxAddrA Try.prog 24 (pt b o) (B x) = ixR (aidx x.toNat 256) b o 1 := ixa_arr_B Try.underlying24 T5.sz b o x
@[go_sem] theorem T3.conv88 (h : List Blk) (k : IntKind) (n : Int) : convS Try.prog h 3 88 (.int k n) = some (.int .u64 (IntKind.u64.wrap n)) := conv_int Try.underlying3 Try.underlying88 h k n
theorem T2.by' : tbytes Try.prog 2 = some 8 := by kernel_rfl
@[go_sem] theorem T49.ms (h : List Blk) (k k' : IntKind) {n : Int} (h0 : 0 ≤ n) (hr : n * 8 ≤ 140737488355328) : makeSliceA Try.prog h 49 (.int k n) (.int k' n) = some (sl h.length 0 n.toNat 1, h ++ [⟨Is n.toNat (fun _ => 0), true⟩]) := by rw [← repA_I]; exact ms_of Try.underlying49 T2.sz T2.by' (by decide) T2.ze rfl (by kernel_rfl) (by kernel_rfl) h k k' h0 hr
@[go_sem] theorem T49.bs7 (h : List Blk) (ps : List (Nat × Value)) : buildSliceA Try.prog h 49 7 ps = litR h 7 1 (fillK (fun i => some (i * 1, 1)) (some [.int .i64 0, .int .i64 0, .int .i64 0, .int .i64 0, .int .i64 0, .int .i64 0, .int .i64 0]) ps) := bs_cells Try.underlying49 T2.sz T2.ze rfl rfl h (by decide) ps
theorem T26.ze : tzero Try.prog 26 = some (.agg (Bs 4 (fun _ => 0)).toArray) := by kernel_rfl
theorem T26.pl : (Bs 4 (fun _ => 0)).all plainC = true := by kernel_rfl
@[go_sem] theorem T26.bld (p : Nat × Value) (ps : List (Nat × Value)) : buildA Try.prog 26 (p :: ps) = bldR (fillK (fun i => some (i * 1, 1)) (some (Bs 4 (fun _ => 0))) (p :: ps)) := build_parts T26.ze T26.pl Try.underlying26 T5.sz _
@[go_sem] theorem T28.bld (p : Nat × Value) (ps : List (Nat × Value)) : buildA Try.prog 28 (p :: ps) = bldR (fillK (fun i => some (i * 4, 4)) (some (Bs 16 (fun _ => 0))) (p :: ps)) := build_parts T28.ze T28.pl Try.underlying28 T26.sz _
@[go_sem] theorem T2.conv57 (h : List Blk) (k : IntKind) (n : Int) : convS Try.prog h 2 57 (.int k n) = some (.int .u64 (IntKind.u64.wrap n)) := conv_int Try.underlying2 Try.underlying57 h k n
@[go_sem] theorem T26.alloc (h : List Blk) : allocA Try.prog h 26 = some (pt h.length 0, h ++ [⟨Bs 4 (fun _ => 0), true⟩]) := alloc_of T26.ze rfl (by kernel_rfl) h
@[go_sem] theorem T100.len (b o n es : Nat) : alen Try.prog 100 (sl b o n es) = some (.int .i64 n) := len_sl Try.underlying100 b o n es
@[go_sem] theorem T100.lenN (n c : Nat) : alen Try.prog 100 (.slice none n c) = some (.int .i64 n) := len_nilS Try.underlying100 n c
@[go_sem] theorem T100.ixa (b o len : Nat) (k : IntKind) (n : Int) : idxAddrA Try.prog 100 (sl b o len 1) (.int k n) = ixR (aidx n len) b o 1 := ixa_sl Try.underlying100 T4.sz b o len k n
@[go_sem] theorem T100.ixaB (b o len : Nat) (x : UInt8) : idxAddrA Try.prog 100 (sl b o len 1) (B x) = ixR (aidx x.toNat len) b o 1 := ixa_sl_B Try.underlying100 T4.sz b o len x
theorem mixedOk : Try.prog.follows .mixedOrders = true := by kernel_rfl

end Go.Proofs.Ytcfpninklbnifaa
