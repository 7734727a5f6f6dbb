/- The operations at the types of this seat, as a walk reckons them; written by a program of the prover's. -/
import Derived.Test.YtohcpednhmadkaaRows
import Derived.Test.YtohcpednhmadkaaAbsI
import Derived.Test.YtohcpednhmadkaaAbsN
namespace Go.Proofs.Ytohcpednhmadkaa
set_option linter.unusedSimpArgs false
set_option linter.unusedVariables false
open Go.Abs
set_option maxRecDepth 100000

theorem T26.ag : tagg Try.prog 26 = some true := by kernel_rfl
theorem T26.sz : tsz Try.prog 26 = some 275 := by kernel_rfl
@[go_sem] theorem T26.load (h : List Blk) (b o : Nat) : loadP Try.prog h 26 (pt b o) = loadRow (h[b]?) o 275 := loadP_row T26.ag T26.sz h b o
theorem T4.isb : isBoolT Try.prog 4 = true := by kernel_rfl
@[go_sem] theorem T4.eql (a b : Bool) : abin Try.prog .eql 4 (.bool a) (.bool b) = some (.bool (a == b)) := eql_bool T4.isb a b
@[go_sem] theorem T4.neq (a b : Bool) : abin Try.prog .neq 4 (.bool a) (.bool b) = some (.bool (!(a == b))) := neq_bool T4.isb a b
theorem T24.ag : tagg Try.prog 24 = some true := by kernel_rfl
theorem T24.sz : tsz Try.prog 24 = some 16 := by kernel_rfl
@[go_sem] theorem T24.load (h : List Blk) (b o : Nat) : loadP Try.prog h 24 (pt b o) = loadRow (h[b]?) o 16 := loadP_row T24.ag T24.sz h b o
theorem T40.ag : tagg Try.prog 40 = some true := by kernel_rfl
theorem T40.sz : tsz Try.prog 40 = some 290 := by kernel_rfl
@[go_sem] theorem T40.load (h : List Blk) (b o : Nat) : loadP Try.prog h 40 (pt b o) = loadRow (h[b]?) o 290 := loadP_row T40.ag T40.sz h b o
theorem T38.ag : tagg Try.prog 38 = some true := by kernel_rfl
theorem T38.sz : tsz Try.prog 38 = some 16 := by kernel_rfl
@[go_sem] theorem T38.load (h : List Blk) (b o : Nat) : loadP Try.prog h 38 (pt b o) = loadRow (h[b]?) o 16 := loadP_row T38.ag T38.sz h b o
theorem T55.ag : tagg Try.prog 55 = some true := by kernel_rfl
theorem T55.sz : tsz Try.prog 55 = some 8 := by kernel_rfl
@[go_sem] theorem T55.load (h : List Blk) (b o : Nat) : loadP Try.prog h 55 (pt b o) = loadRow (h[b]?) o 8 := loadP_row T55.ag T55.sz h b o
theorem T56.ze : tzero Try.prog 56 = some (.agg (Bs 8 (fun _ => 0)).toArray) := by kernel_rfl
@[go_sem] theorem T56.alloc (h : List Blk) : allocA Try.prog h 56 = some (pt h.length 0, h ++ [⟨Bs 8 (fun _ => 0), true⟩]) := alloc_of T56.ze rfl (by kernel_rfl) h
theorem T56.sz : tsz Try.prog 56 = some 8 := by kernel_rfl
@[go_sem] theorem T56.store (h : List Blk) (b o : Nat) (cs : Array Value) : storeP Try.prog h 56 (.agg cs) (pt b o) = storeRow h b (h[b]?) o 8 cs.toList := storeP_row T56.sz cs h b o
theorem T56.ag : tagg Try.prog 56 = some true := by kernel_rfl
@[go_sem] theorem T56.load (h : List Blk) (b o : Nat) : loadP Try.prog h 56 (pt b o) = loadRow (h[b]?) o 8 := loadP_row T56.ag T56.sz h b o
theorem T50.ze : tzero Try.prog 50 = some (.agg (Bs 16 (fun _ => 0)).toArray) := by kernel_rfl
@[go_sem] theorem T50.alloc (h : List Blk) : allocA Try.prog h 50 = some (pt h.length 0, h ++ [⟨Bs 16 (fun _ => 0), true⟩]) := alloc_of T50.ze rfl (by kernel_rfl) h
theorem T50.sz : tsz Try.prog 50 = some 16 := by kernel_rfl
@[go_sem] theorem T50.store (h : List Blk) (b o : Nat) (cs : Array Value) : storeP Try.prog h 50 (.agg cs) (pt b o) = storeRow h b (h[b]?) o 16 cs.toList := storeP_row T50.sz cs h b o
theorem T50.ag : tagg Try.prog 50 = some true := by kernel_rfl
@[go_sem] theorem T50.load (h : List Blk) (b o : Nat) : loadP Try.prog h 50 (pt b o) = loadRow (h[b]?) o 16 := loadP_row T50.ag T50.sz h b o
theorem T31.ag : tagg Try.prog 31 = some true := by kernel_rfl
theorem T31.sz : tsz Try.prog 31 = some 275 := by kernel_rfl
@[go_sem] theorem T31.load (h : List Blk) (b o : Nat) : loadP Try.prog h 31 (pt b o) = loadRow (h[b]?) o 275 := loadP_row T31.ag T31.sz h b o
theorem T31.ze : tzero Try.prog 31 = some (.agg (Nw 0 (fun _ => 0) (fun _ => 0) 0 0).toArray) := by kernel_rfl
@[go_sem] theorem T31.alloc (h : List Blk) : allocA Try.prog h 31 = some (pt h.length 0, h ++ [⟨Nw 0 (fun _ => 0) (fun _ => 0) 0 0, true⟩]) := alloc_of T31.ze rfl (by kernel_rfl) h
theorem T2.sz : tsz Try.prog 2 = some 1 := by kernel_rfl
@[go_sem] theorem T26.fla0 (b o : Nat) : fieldAddrA Try.prog 26 0 (pt b o) = some (pt b (o + 0)) := fla (f := 0) (o' := 0) (ft := 2) (z := 1) Try.underlying26 rfl rfl rfl T2.sz (by decide) b o
theorem T2.ag : tagg Try.prog 2 = some false := by kernel_rfl
@[go_sem] theorem T2.load (h : List Blk) (b o : Nat) : loadP Try.prog h 2 (pt b o) = loadCell (h[b]?) o := loadP_cell T2.ag h b o
@[go_sem] theorem T31.fla0 (b o : Nat) : fieldAddrA Try.prog 31 0 (pt b o) = some (pt b (o + 0)) := fla (f := 0) (o' := 0) (ft := 2) (z := 1) Try.underlying31 rfl rfl rfl T2.sz (by decide) b o
@[go_sem] theorem T2.store_int (h : List Blk) (b o : Nat) (n : Int) : storeP Try.prog h 2 (.int .i64 n) (pt b o) = storeCell h b (h[b]?) o (.int .i64 n) := storeP_int T2.sz .i64 n h b o
theorem T22.sz : tsz Try.prog 22 = some 256 := by kernel_rfl
@[go_sem] theorem T26.fla1 (b o : Nat) : fieldAddrA Try.prog 26 1 (pt b o) = some (pt b (o + 1)) := fla (f := 1) (o' := 1) (ft := 22) (z := 256) Try.underlying26 rfl rfl rfl T22.sz (by decide) b o
theorem T22.ag : tagg Try.prog 22 = some true := by kernel_rfl
@[go_sem] theorem T22.load (h : List Blk) (b o : Nat) : loadP Try.prog h 22 (pt b o) = loadRow (h[b]?) o 256 := loadP_row T22.ag T22.sz h b o
theorem T28.sz : tsz Try.prog 28 = some 256 := by kernel_rfl
@[go_sem] theorem T31.fla1 (b o : Nat) : fieldAddrA Try.prog 31 1 (pt b o) = some (pt b (o + 1)) := fla (f := 1) (o' := 1) (ft := 28) (z := 256) Try.underlying31 rfl rfl rfl T28.sz (by decide) b o
@[go_sem] theorem T28.store (h : List Blk) (b o : Nat) (cs : Array Value) : storeP Try.prog h 28 (.agg cs) (pt b o) = storeRow h b (h[b]?) o 256 cs.toList := storeP_row T28.sz cs h b o
@[go_sem] theorem T26.fla2 (b o : Nat) : fieldAddrA Try.prog 26 2 (pt b o) = some (pt b (o + 257)) := fla (f := 2) (o' := 257) (ft := 24) (z := 16) Try.underlying26 rfl rfl rfl T24.sz (by decide) b o
theorem T29.sz : tsz Try.prog 29 = some 16 := by kernel_rfl
@[go_sem] theorem T31.fla2 (b o : Nat) : fieldAddrA Try.prog 31 2 (pt b o) = some (pt b (o + 257)) := fla (f := 2) (o' := 257) (ft := 29) (z := 16) Try.underlying31 rfl rfl rfl T29.sz (by decide) b o
@[go_sem] theorem T29.store (h : List Blk) (b o : Nat) (cs : Array Value) : storeP Try.prog h 29 (.agg cs) (pt b o) = storeRow h b (h[b]?) o 16 cs.toList := storeP_row T29.sz cs h b o
@[go_sem] theorem T26.fla3 (b o : Nat) : fieldAddrA Try.prog 26 3 (pt b o) = some (pt b (o + 273)) := fla (f := 3) (o' := 273) (ft := 2) (z := 1) Try.underlying26 rfl rfl rfl T2.sz (by decide) b o
@[go_sem] theorem T31.fla3 (b o : Nat) : fieldAddrA Try.prog 31 3 (pt b o) = some (pt b (o + 273)) := fla (f := 3) (o' := 273) (ft := 2) (z := 1) Try.underlying31 rfl rfl rfl T2.sz (by decide) b o
@[go_sem] theorem T26.fla4 (b o : Nat) : fieldAddrA Try.prog 26 4 (pt b o) = some (pt b (o + 274)) := fla (f := 4) (o' := 274) (ft := 2) (z := 1) Try.underlying26 rfl rfl rfl T2.sz (by decide) b o
@[go_sem] theorem T31.fla4 (b o : Nat) : fieldAddrA Try.prog 31 4 (pt b o) = some (pt b (o + 274)) := fla (f := 4) (o' := 274) (ft := 2) (z := 1) Try.underlying31 rfl rfl rfl T2.sz (by decide) b o
@[go_sem] theorem T31.store (h : List Blk) (b o : Nat) (cs : Array Value) : storeP Try.prog h 31 (.agg cs) (pt b o) = storeRow h b (h[b]?) o 275 cs.toList := storeP_row T31.sz cs h b o
theorem T28.ag : tagg Try.prog 28 = some true := by kernel_rfl
@[go_sem] theorem T28.load (h : List Blk) (b o : Nat) : loadP Try.prog h 28 (pt b o) = loadRow (h[b]?) o 256 := loadP_row T28.ag T28.sz h b o
theorem T29.ag : tagg Try.prog 29 = some true := by kernel_rfl
@[go_sem] theorem T29.load (h : List Blk) (b o : Nat) : loadP Try.prog h 29 (pt b o) = loadRow (h[b]?) o 16 := loadP_row T29.ag T29.sz h b o
theorem T29.ze : tzero Try.prog 29 = some (.agg (Bs 16 (fun _ => 0)).toArray) := by kernel_rfl
@[go_sem] theorem T29.alloc (h : List Blk) : allocA Try.prog h 29 = some (pt h.length 0, h ++ [⟨Bs 16 (fun _ => 0), true⟩]) := alloc_of T29.ze rfl (by kernel_rfl) h
theorem T29.aeq (f g : Nat → UInt8) : aeq Try.prog 29 (Bs 16 f) (Bs 16 g) = some (eqB 16 f g) := aeq_bytes (by kernel_rfl) (by kernel_rfl) (by kernel_rfl) (by kernel_rfl) (by kernel_rfl) f g
@[go_sem] theorem T29.eqa (f g : Nat → UInt8) : abin Try.prog .eql 29 (.agg (Bs 16 f).toArray) (.agg (Bs 16 g).toArray) = some (.bool (eqB 16 f g)) := eql_bytes (T29.aeq f g)
@[go_sem] theorem T29.nea (f g : Nat → UInt8) : abin Try.prog .neq 29 (.agg (Bs 16 f).toArray) (.agg (Bs 16 g).toArray) = some (.bool (!eqB 16 f g)) := neq_bytes (T29.aeq f g)
theorem T23.sz : tsz Try.prog 23 = some 4 := by kernel_rfl
@[go_sem] theorem T24.ixa (b o : Nat) (k : IntKind) (n : Int) : idxAddrA Try.prog 24 (pt b o) (.int k n) = ixR (aidx n 4) b o 4 := ixa_arr Try.underlying24 T23.sz b o k n
@[go_sem] theorem T24.ixaB (b o : Nat) (x : UInt8) : idxAddrA Try.prog 24 (pt b o) (B x) = ixR (aidx x.toNat 4) b o 4 := ixa_arr_B Try.underlying24 T23.sz b o x
theorem T23.ag : tagg Try.prog 23 = some true := by kernel_rfl
@[go_sem] theorem T23.load (h : List Blk) (b o : Nat) : loadP Try.prog h 23 (pt b o) = loadRow (h[b]?) o 4 := loadP_row T23.ag T23.sz h b o
@[go_sem] theorem T29.ixa (b o : Nat) (k : IntKind) (n : Int) : idxAddrA Try.prog 29 (pt b o) (.int k n) = ixR (aidx n 4) b o 4 := ixa_arr Try.underlying29 T23.sz b o k n
@[go_sem] theorem T29.ixaB (b o : Nat) (x : UInt8) : idxAddrA Try.prog 29 (pt b o) (B x) = ixR (aidx x.toNat 4) b o 4 := ixa_arr_B Try.underlying29 T23.sz b o x
@[go_sem] theorem T23.store (h : List Blk) (b o : Nat) (cs : Array Value) : storeP Try.prog h 23 (.agg cs) (pt b o) = storeRow h b (h[b]?) o 4 cs.toList := storeP_row T23.sz cs h b o
@[go_sem] theorem T3.conv91 (h : List Blk) (k : IntKind) (n : Int) : convS Try.prog h 3 91 (.int k n) = some (.int .u64 (IntKind.u64.wrap n)) := conv_int Try.underlying3 Try.underlying91 h k n
theorem T44.ag : tagg Try.prog 44 = some true := by kernel_rfl
theorem T44.sz : tsz Try.prog 44 = some 290 := by kernel_rfl
@[go_sem] theorem T44.load (h : List Blk) (b o : Nat) : loadP Try.prog h 44 (pt b o) = loadRow (h[b]?) o 290 := loadP_row T44.ag T44.sz h b o
theorem T44.ze : tzero Try.prog 44 = some (.agg (Ci 0 (fun _ => 0) (fun _ => 0) (fun _ => 0) 0).toArray) := by kernel_rfl
@[go_sem] theorem T44.alloc (h : List Blk) : allocA Try.prog h 44 = some (pt h.length 0, h ++ [⟨Ci 0 (fun _ => 0) (fun _ => 0) (fun _ => 0) 0, true⟩]) := alloc_of T44.ze rfl (by kernel_rfl) h
@[go_sem] theorem T40.fla0 (b o : Nat) : fieldAddrA Try.prog 40 0 (pt b o) = some (pt b (o + 0)) := fla (f := 0) (o' := 0) (ft := 2) (z := 1) Try.underlying40 rfl rfl rfl T2.sz (by decide) b o
@[go_sem] theorem T44.fla0 (b o : Nat) : fieldAddrA Try.prog 44 0 (pt b o) = some (pt b (o + 0)) := fla (f := 0) (o' := 0) (ft := 2) (z := 1) Try.underlying44 rfl rfl rfl T2.sz (by decide) b o
@[go_sem] theorem T40.fla1 (b o : Nat) : fieldAddrA Try.prog 40 1 (pt b o) = some (pt b (o + 1)) := fla (f := 1) (o' := 1) (ft := 22) (z := 256) Try.underlying40 rfl rfl rfl T22.sz (by decide) b o
@[go_sem] theorem T44.fla1 (b o : Nat) : fieldAddrA Try.prog 44 1 (pt b o) = some (pt b (o + 1)) := fla (f := 1) (o' := 1) (ft := 28) (z := 256) Try.underlying44 rfl rfl rfl T28.sz (by decide) b o
@[go_sem] theorem T40.fla2 (b o : Nat) : fieldAddrA Try.prog 40 2 (pt b o) = some (pt b (o + 257)) := fla (f := 2) (o' := 257) (ft := 24) (z := 16) Try.underlying40 rfl rfl rfl T24.sz (by decide) b o
@[go_sem] theorem T44.fla2 (b o : Nat) : fieldAddrA Try.prog 44 2 (pt b o) = some (pt b (o + 257)) := fla (f := 2) (o' := 257) (ft := 29) (z := 16) Try.underlying44 rfl rfl rfl T29.sz (by decide) b o
@[go_sem] theorem T40.fla3 (b o : Nat) : fieldAddrA Try.prog 40 3 (pt b o) = some (pt b (o + 273)) := fla (f := 3) (o' := 273) (ft := 38) (z := 16) Try.underlying40 rfl rfl rfl T38.sz (by decide) b o
theorem T42.sz : tsz Try.prog 42 = some 16 := by kernel_rfl
@[go_sem] theorem T44.fla3 (b o : Nat) : fieldAddrA Try.prog 44 3 (pt b o) = some (pt b (o + 273)) := fla (f := 3) (o' := 273) (ft := 42) (z := 16) Try.underlying44 rfl rfl rfl T42.sz (by decide) b o
@[go_sem] theorem T42.store (h : List Blk) (b o : Nat) (cs : Array Value) : storeP Try.prog h 42 (.agg cs) (pt b o) = storeRow h b (h[b]?) o 16 cs.toList := storeP_row T42.sz cs h b o
@[go_sem] theorem T40.fla4 (b o : Nat) : fieldAddrA Try.prog 40 4 (pt b o) = some (pt b (o + 289)) := fla (f := 4) (o' := 289) (ft := 2) (z := 1) Try.underlying40 rfl rfl rfl T2.sz (by decide) b o
@[go_sem] theorem T44.fla4 (b o : Nat) : fieldAddrA Try.prog 44 4 (pt b o) = some (pt b (o + 289)) := fla (f := 4) (o' := 289) (ft := 2) (z := 1) Try.underlying44 rfl rfl rfl T2.sz (by decide) b o
@[go_sem] theorem T44.store (h : List Blk) (b o : Nat) (cs : Array Value) : storeP Try.prog h 44 (.agg cs) (pt b o) = storeRow h b (h[b]?) o 290 cs.toList := storeP_row T44.sz cs h b o
theorem T42.ag : tagg Try.prog 42 = some true := by kernel_rfl
@[go_sem] theorem T42.load (h : List Blk) (b o : Nat) : loadP Try.prog h 42 (pt b o) = loadRow (h[b]?) o 16 := loadP_row T42.ag T42.sz h b o
theorem T5.sz : tsz Try.prog 5 = some 1 := by kernel_rfl
@[go_sem] theorem T38.ixa (b o : Nat) (k : IntKind) (n : Int) : idxAddrA Try.prog 38 (pt b o) (.int k n) = ixR (aidx n 16) b o 1 := ixa_arr Try.underlying38 T5.sz b o k n
@[go_sem] theorem T38.ixaB (b o : Nat) (x : UInt8) : idxAddrA Try.prog 38 (pt b o) (B x) = ixR (aidx x.toNat 16) b o 1 := ixa_arr_B Try.underlying38 T5.sz b o x
theorem T5.ag : tagg Try.prog 5 = some false := by kernel_rfl
@[go_sem] theorem T5.load (h : List Blk) (b o : Nat) : loadP Try.prog h 5 (pt b o) = loadCell (h[b]?) o := loadP_cell T5.ag h b o
@[go_sem] theorem T50.ixa (b o : Nat) (k : IntKind) (n : Int) : idxAddrA Try.prog 50 (pt b o) (.int k n) = ixR (aidx n 16) b o 1 := ixa_arr Try.underlying50 T5.sz b o k n
@[go_sem] theorem T50.ixaB (b o : Nat) (x : UInt8) : idxAddrA Try.prog 50 (pt b o) (B x) = ixR (aidx x.toNat 16) b o 1 := ixa_arr_B Try.underlying50 T5.sz b o x
@[go_sem] theorem T5.store_B (h : List Blk) (b o : Nat) (x : UInt8) : storeP Try.prog h 5 (B x) (pt b o) = storeCell h b (h[b]?) o (B x) := storeP_B T5.sz x h b o
@[go_sem] theorem T47.bs0 (h : List Blk) : buildSliceA Try.prog h 47 0 [] = some (sl h.length 0 0 8, h ++ [⟨[], true⟩]) := bs_nil Try.underlying47 T56.sz T56.ze rfl (by kernel_rfl) (by kernel_rfl) h
@[go_sem] theorem T56.ixa (b o : Nat) (k : IntKind) (n : Int) : idxAddrA Try.prog 56 (pt b o) (.int k n) = ixR (aidx n 8) b o 1 := ixa_arr Try.underlying56 T5.sz b o k n
@[go_sem] theorem T56.ixaB (b o : Nat) (x : UInt8) : idxAddrA Try.prog 56 (pt b o) (B x) = ixR (aidx x.toNat 8) b o 1 := ixa_arr_B Try.underlying56 T5.sz b o x
@[go_sem] theorem T2.conv5 (h : List Blk) (k : IntKind) (n : Int) : convS Try.prog h 2 5 (.int k n) = some (.int .u8 (IntKind.u8.wrap n)) := conv_int Try.underlying2 Try.underlying5 h k n
@[go_sem] theorem T47.bs1 (h : List Blk) (ps : List (Nat × Value)) : buildSliceA Try.prog h 47 1 ps = litR h 1 8 (fillK (fun i => some (i * 8, 8)) (some (repA (Bs 8 (fun _ => 0)) 1)) ps) := bs_parts Try.underlying47 T56.sz T56.ze rfl (by kernel_rfl) (by kernel_rfl) h (by decide) ps
theorem T47.ei : elemInfo Try.prog 47 = some (56, 8, 8) := by kernel_rfl
@[go_sem] theorem T47.app (h : List Blk) (s : Value) (b o m : Nat) : appendA Try.prog h 47 47 s (sl b o m 8) = appR h 8 8 s (srcR (h[b]?) o m 8) := by rw [append_of T47.ei]; simp only [srcA_sl]
@[go_sem] theorem T47.len (b o n es : Nat) : alen Try.prog 47 (sl b o n es) = some (.int .i64 n) := len_sl Try.underlying47 b o n es
@[go_sem] theorem T47.lenN (n c : Nat) : alen Try.prog 47 (.slice none n c) = some (.int .i64 n) := len_nilS Try.underlying47 n c
@[go_sem] theorem T47.ixa (b o len : Nat) (k : IntKind) (n : Int) : idxAddrA Try.prog 47 (sl b o len 8) (.int k n) = ixR (aidx n len) b o 8 := ixa_sl Try.underlying47 T56.sz b o len k n
@[go_sem] theorem T47.ixaB (b o len : Nat) (x : UInt8) : idxAddrA Try.prog 47 (sl b o len 8) (B x) = ixR (aidx x.toNat len) b o 8 := ixa_sl_B Try.underlying47 T56.sz b o len x
@[go_sem] theorem T3.conv5 (h : List Blk) (k : IntKind) (n : Int) : convS Try.prog h 3 5 (.int k n) = some (.int .u8 (IntKind.u8.wrap n)) := conv_int Try.underlying3 Try.underlying5 h k n
theorem T56.pl : (Bs 8 (fun _ => 0)).all plainC = true := by kernel_rfl
@[go_sem] theorem T56.bld0 : buildA Try.prog 56 [] = some (.agg (Bs 8 (fun _ => 0)).toArray) := build_nil T56.ze T56.pl Try.underlying56 T5.sz
@[go_sem] theorem T55.ixa (b o : Nat) (k : IntKind) (n : Int) : idxAddrA Try.prog 55 (pt b o) (.int k n) = ixR (aidx n 8) b o 1 := ixa_arr Try.underlying55 T5.sz b o k n
@[go_sem] theorem T55.ixaB (b o : Nat) (x : UInt8) : idxAddrA Try.prog 55 (pt b o) (B x) = ixR (aidx x.toNat 8) b o 1 := ixa_arr_B Try.underlying55 T5.sz b o x
theorem T50.pl : (Bs 16 (fun _ => 0)).all plainC = true := by kernel_rfl
@[go_sem] theorem T50.bld0 : buildA Try.prog 50 [] = some (.agg (Bs 16 (fun _ => 0)).toArray) := build_nil T50.ze T50.pl Try.underlying50 T5.sz
@[go_sem] theorem T68.len (b o n es : Nat) : alen Try.prog 68 (sl b o n es) = some (.int .i64 n) := len_sl Try.underlying68 b o n es
@[go_sem] theorem T68.lenN (n c : Nat) : alen Try.prog 68 (.slice none n c) = some (.int .i64 n) := len_nilS Try.underlying68 n c
@[go_sem] theorem T68.ixa (b o len : Nat) (k : IntKind) (n : Int) : idxAddrA Try.prog 68 (sl b o len 16) (.int k n) = ixR (aidx n len) b o 16 := ixa_sl Try.underlying68 T50.sz b o len k n
@[go_sem] theorem T68.ixaB (b o len : Nat) (x : UInt8) : idxAddrA Try.prog 68 (sl b o len 16) (B x) = ixR (aidx x.toNat len) b o 16 := ixa_sl_B Try.underlying68 T50.sz b o len x
theorem T50.aeq (f g : Nat → UInt8) : aeq Try.prog 50 (Bs 16 f) (Bs 16 g) = some (eqB 16 f g) := aeq_bytes (by kernel_rfl) (by kernel_rfl) (by kernel_rfl) (by kernel_rfl) (by kernel_rfl) f g
@[go_sem] theorem T50.eqa (f g : Nat → UInt8) : abin Try.prog .eql 50 (.agg (Bs 16 f).toArray) (.agg (Bs 16 g).toArray) = some (.bool (eqB 16 f g)) := eql_bytes (T50.aeq f g)
@[go_sem] theorem T50.nea (f g : Nat → UInt8) : abin Try.prog .neq 50 (.agg (Bs 16 f).toArray) (.agg (Bs 16 g).toArray) = some (.bool (!eqB 16 f g)) := neq_bytes (T50.aeq f g)
theorem T28.ze : tzero Try.prog 28 = some (.agg (Bs 256 (fun _ => 0)).toArray) := by kernel_rfl
@[go_sem] theorem T28.alloc (h : List Blk) : allocA Try.prog h 28 = some (pt h.length 0, h ++ [⟨Bs 256 (fun _ => 0), true⟩]) := alloc_of T28.ze rfl (by kernel_rfl) h
@[go_sem] theorem T22.ixa (b o : Nat) (k : IntKind) (n : Int) : idxAddrA Try.prog 22 (pt b o) (.int k n) = ixR (aidx n 256) b o 1 := ixa_arr Try.underlying22 T5.sz b o k n
@[go_sem] theorem T22.ixaB (b o : Nat) (x : UInt8) : idxAddrA Try.prog 22 (pt b o) (B x) = ixR (aidx x.toNat 256) b o 1 := ixa_arr_B Try.underlying22 T5.sz b o x
@[go_sem] theorem T28.ixa (b o : Nat) (k : IntKind) (n : Int) : idxAddrA Try.prog 28 (pt b o) (.int k n) = ixR (aidx n 256) b o 1 := ixa_arr Try.underlying28 T5.sz b o k n
@[go_sem] theorem T28.ixaB (b o : Nat) (x : UInt8) : idxAddrA Try.prog 28 (pt b o) (B x) = ixR (aidx x.toNat 256) b o 1 := ixa_arr_B Try.underlying28 T5.sz b o x
theorem T113.ze : tzero Try.prog 113 = some (.agg (Vs 256 (fun _ => .bool false)).toArray) := by kernel_rfl
theorem T113.pl : (Vs 256 (fun _ => .bool false)).all plainC = true := by kernel_rfl
theorem T4.sz : tsz Try.prog 4 = some 1 := by kernel_rfl
@[go_sem] theorem T113.bld0 : buildA Try.prog 113 [] = some (.agg (Vs 256 (fun _ => .bool false)).toArray) := build_nil T113.ze T113.pl Try.underlying113 T4.sz
@[go_sem] theorem T113.alloc (h : List Blk) : allocA Try.prog h 113 = some (pt h.length 0, h ++ [⟨Vs 256 (fun _ => .bool false), true⟩]) := alloc_of T113.ze rfl (by kernel_rfl) h
theorem T113.sz : tsz Try.prog 113 = some 256 := by kernel_rfl
@[go_sem] theorem T113.store (h : List Blk) (b o : Nat) (cs : Array Value) : storeP Try.prog h 113 (.agg cs) (pt b o) = storeRow h b (h[b]?) o 256 cs.toList := storeP_row T113.sz cs h b o
@[go_sem] theorem T28.ix (l : List Value) (k : IntKind) (n : Int) : indexA Try.prog 28 (.agg l.toArray) (.int k n) = ixC (aidx n 256) l := ix_arr_cell Try.underlying28 T5.sz T5.ag l k n
@[go_sem] theorem T28.ixB (l : List Value) (x : UInt8) : indexA Try.prog 28 (.agg l.toArray) (B x) = ixC (aidx x.toNat 256) l := ix_arr_cell_B Try.underlying28 T5.sz T5.ag l x
@[go_sem] theorem T113.ixa (b o : Nat) (k : IntKind) (n : Int) : idxAddrA Try.prog 113 (pt b o) (.int k n) = ixR (aidx n 256) b o 1 := ixa_arr Try.underlying113 T4.sz b o k n
@[go_sem] theorem T113.ixaB (b o : Nat) (x : UInt8) : idxAddrA Try.prog 113 (pt b o) (B x) = ixR (aidx x.toNat 256) b o 1 := ixa_arr_B Try.underlying113 T4.sz b o x
@[go_sem] theorem T4.store_bool (h : List Blk) (b o : Nat) (x : Bool) : storeP Try.prog h 4 (.bool x) (pt b o) = storeCell h b (h[b]?) o (.bool x) := storeP_bool T4.sz x h b o
@[go_sem] theorem T113.sla (h : List Blk) (b o : Nat) (lo hi : Option Value) : aslice Try.prog h 113 (pt b o) lo hi = slcArr (h[b]?) b o 256 1 (lowA lo) (highA 256 hi) := sla_arr Try.underlying113 T4.sz h b o lo hi
theorem T29.pl : (Bs 16 (fun _ => 0)).all plainC = true := by kernel_rfl
@[go_sem] theorem T29.bld0 : buildA Try.prog 29 [] = some (.agg (Bs 16 (fun _ => 0)).toArray) := build_nil T29.ze T29.pl Try.underlying29 T23.sz
@[go_sem] theorem T23.ixa (b o : Nat) (k : IntKind) (n : Int) : idxAddrA Try.prog 23 (pt b o) (.int k n) = ixR (aidx n 4) b o 1 := ixa_arr Try.underlying23 T5.sz b o k n
@[go_sem] theorem T23.ixaB (b o : Nat) (x : UInt8) : idxAddrA Try.prog 23 (pt b o) (B x) = ixR (aidx x.toNat 4) b o 1 := ixa_arr_B Try.underlying23 T5.sz b o x
theorem T23.ze : tzero Try.prog 23 = some (.agg (Bs 4 (fun _ => 0)).toArray) := by kernel_rfl
@[go_sem] theorem T23.alloc (h : List Blk) : allocA Try.prog h 23 = some (pt h.length 0, h ++ [⟨Bs 4 (fun _ => 0), true⟩]) := alloc_of T23.ze rfl (by kernel_rfl) h
@[go_sem] theorem T91.conv125 (h : List Blk) (k : IntKind) (n : Int) : convS Try.prog h 91 125 (.int k n) = some (.int .u32 (IntKind.u32.wrap n)) := conv_int Try.underlying91 Try.underlying125 h k n
theorem T129.sz : tsz Try.prog 129 = some 1 := by kernel_rfl
theorem T129.ze : tzero Try.prog 129 = some (.slice none 0 0) := by kernel_rfl
@[go_sem] theorem T128.bs0 (h : List Blk) : buildSliceA Try.prog h 128 0 [] = some (sl h.length 0 0 1, h ++ [⟨[], true⟩]) := bs_nil Try.underlying128 T129.sz T129.ze rfl (by kernel_rfl) (by kernel_rfl) h
theorem T5.ze : tzero Try.prog 5 = some (B 0) := by kernel_rfl
@[go_sem] theorem T129.bs0 (h : List Blk) : buildSliceA Try.prog h 129 0 [] = some (sl h.length 0 0 1, h ++ [⟨[], true⟩]) := bs_nil Try.underlying129 T5.sz T5.ze rfl (by kernel_rfl) (by kernel_rfl) h
@[go_sem] theorem T129.bs1 (h : List Blk) (ps : List (Nat × Value)) : buildSliceA Try.prog h 129 1 ps = litR h 1 1 (fillK (fun i => some (i * 1, 1)) (some [B 0]) ps) := bs_cells Try.underlying129 T5.sz T5.ze rfl rfl h (by decide) ps
theorem T129.ei : elemInfo Try.prog 129 = some (5, 1, 1) := by kernel_rfl
@[go_sem] theorem T129.app (h : List Blk) (s : Value) (b o m : Nat) : appendA Try.prog h 129 129 s (sl b o m 1) = appR h 1 1 s (srcR (h[b]?) o m 1) := by rw [append_of T129.ei]; simp only [srcA_sl]
@[go_sem] theorem T128.bs1 (h : List Blk) (ps : List (Nat × Value)) : buildSliceA Try.prog h 128 1 ps = litR h 1 1 (fillK (fun i => some (i * 1, 1)) (some [.slice none 0 0]) ps) := bs_cells Try.underlying128 T129.sz T129.ze rfl rfl h (by decide) ps
theorem T128.ei : elemInfo Try.prog 128 = some (129, 1, 24) := by kernel_rfl
@[go_sem] theorem T128.app (h : List Blk) (s : Value) (b o m : Nat) : appendA Try.prog h 128 128 s (sl b o m 1) = appR h 1 24 s (srcR (h[b]?) o m 1) := by rw [append_of T128.ei]; simp only [srcA_sl]
@[go_sem] theorem T128.len (b o n es : Nat) : alen Try.prog 128 (sl b o n es) = some (.int .i64 n) := len_sl Try.underlying128 b o n es
@[go_sem] theorem T128.lenN (n c : Nat) : alen Try.prog 128 (.slice none n c) = some (.int .i64 n) := len_nilS Try.underlying128 n c
@[go_sem] theorem T128.ixa (b o len : Nat) (k : IntKind) (n : Int) : idxAddrA Try.prog 128 (sl b o len 1) (.int k n) = ixR (aidx n len) b o 1 := ixa_sl Try.underlying128 T129.sz b o len k n
@[go_sem] theorem T128.ixaB (b o len : Nat) (x : UInt8) : idxAddrA Try.prog 128 (sl b o len 1) (B x) = ixR (aidx x.toNat len) b o 1 := ixa_sl_B Try.underlying128 T129.sz b o len x
theorem T129.ag : tagg Try.prog 129 = some false := by kernel_rfl
@[go_sem] theorem T129.load (h : List Blk) (b o : Nat) : loadP Try.prog h 129 (pt b o) = loadCell (h[b]?) o := loadP_cell T129.ag h b o
@[go_sem] theorem T129.ixa (b o len : Nat) (k : IntKind) (n : Int) : idxAddrA Try.prog 129 (sl b o len 1) (.int k n) = ixR (aidx n len) b o 1 := ixa_sl Try.underlying129 T5.sz b o len k n
@[go_sem] theorem T129.ixaB (b o len : Nat) (x : UInt8) : idxAddrA Try.prog 129 (sl b o len 1) (B x) = ixR (aidx x.toNat len) b o 1 := ixa_sl_B Try.underlying129 T5.sz b o len x
@[go_sem] theorem T129.store_sl (h : List Blk) (b o : Nat) (c q n es : Nat) : storeP Try.prog h 129 (sl c q n es) (pt b o) = storeCell h b (h[b]?) o (sl c q n es) := storeP_sl T129.sz c q n es h b o
@[go_sem] theorem T129.store_nil (h : List Blk) (b o : Nat) (n c : Nat) : storeP Try.prog h 129 (.slice none n c) (pt b o) = storeCell h b (h[b]?) o (.slice none n c) := storeP_nil T129.sz n c h b o
@[go_sem] theorem T129.len (b o n es : Nat) : alen Try.prog 129 (sl b o n es) = some (.int .i64 n) := len_sl Try.underlying129 b o n es
@[go_sem] theorem T129.lenN (n c : Nat) : alen Try.prog 129 (.slice none n c) = some (.int .i64 n) := len_nilS Try.underlying129 n c
theorem T42.ze : tzero Try.prog 42 = some (.agg (Bs 16 (fun _ => 0)).toArray) := by kernel_rfl
@[go_sem] theorem T42.alloc (h : List Blk) : allocA Try.prog h 42 = some (pt h.length 0, h ++ [⟨Bs 16 (fun _ => 0), true⟩]) := alloc_of T42.ze rfl (by kernel_rfl) h
@[go_sem] theorem T42.ixa (b o : Nat) (k : IntKind) (n : Int) : idxAddrA Try.prog 42 (pt b o) (.int k n) = ixR (aidx n 16) b o 1 := ixa_arr Try.underlying42 T5.sz b o k n
@[go_sem] theorem T42.ixaB (b o : Nat) (x : UInt8) : idxAddrA Try.prog 42 (pt b o) (B x) = ixR (aidx x.toNat 16) b o 1 := ixa_arr_B Try.underlying42 T5.sz b o x
@[go_sem] theorem T42.ix (l : List Value) (k : IntKind) (n : Int) : indexA Try.prog 42 (.agg l.toArray) (.int k n) = ixC (aidx n 16) l := ix_arr_cell Try.underlying42 T5.sz T5.ag l k n
@[go_sem] theorem T42.ixB (l : List Value) (x : UInt8) : indexA Try.prog 42 (.agg l.toArray) (B x) = ixC (aidx x.toNat 16) l := ix_arr_cell_B Try.underlying42 T5.sz T5.ag l x
@[go_sem] theorem T42.sla (h : List Blk) (b o : Nat) (lo hi : Option Value) : aslice Try.prog h 42 (pt b o) lo hi = slcArr (h[b]?) b o 16 1 (lowA lo) (highA 16 hi) := sla_arr Try.underlying42 T5.sz h b o lo hi
@[go_sem] theorem T50.sla (h : List Blk) (b o : Nat) (lo hi : Option Value) : aslice Try.prog h 50 (pt b o) lo hi = slcArr (h[b]?) b o 16 1 (lowA lo) (highA 16 hi) := sla_arr Try.underlying50 T5.sz h b o lo hi
@[go_sem] theorem T56.tap {b o len es : Nat} (hl : 8 ≤ len) : toArrPtrA Try.prog 56 (sl b o len es) = some (pt b o) := tapG Try.underlying56 (by decide) hl
theorem T139.ze : tzero Try.prog 139 = some (.agg (Ne (fun _ => 0) (fun _ => 0) (.pointer none) (.pointer none) 0).toArray) := by kernel_rfl
theorem T139.pl : (Ne (fun _ => 0) (fun _ => 0) (.pointer none) (.pointer none) 0).all plainC = true := by kernel_rfl
theorem T139.places : placesA Try.prog 139 = some [(0, 256), (256, 256), (512, 1), (513, 1), (514, 1)] := by kernel_rfl
@[go_sem] theorem T139.bld (p : Nat × Value) (ps : List (Nat × Value)) : buildA Try.prog 139 (p :: ps) = bldR (fillK (fun i => [(0, 256), (256, 256), (512, 1), (513, 1), (514, 1)][i]?) (some (Ne (fun _ => 0) (fun _ => 0) (.pointer none) (.pointer none) 0)) (p :: ps)) := build_parts_struct T139.ze T139.pl Try.underlying139 T139.places _
@[go_sem] theorem T139.fla0 (b o : Nat) : fieldAddrA Try.prog 139 0 (pt b o) = some (pt b (o + 0)) := fla (f := 0) (o' := 0) (ft := 28) (z := 256) Try.underlying139 rfl rfl rfl T28.sz (by decide) b o
theorem T136.sz : tsz Try.prog 136 = some 1 := by kernel_rfl
@[go_sem] theorem T139.fla2 (b o : Nat) : fieldAddrA Try.prog 139 2 (pt b o) = some (pt b (o + 512)) := fla (f := 2) (o' := 512) (ft := 136) (z := 1) Try.underlying139 rfl rfl rfl T136.sz (by decide) b o
theorem T136.ag : tagg Try.prog 136 = some false := by kernel_rfl
@[go_sem] theorem T136.load (h : List Blk) (b o : Nat) : loadP Try.prog h 136 (pt b o) = loadCell (h[b]?) o := loadP_cell T136.ag h b o
@[go_sem] theorem T56.sla (h : List Blk) (b o : Nat) (lo hi : Option Value) : aslice Try.prog h 56 (pt b o) lo hi = slcArr (h[b]?) b o 8 1 (lowA lo) (highA 8 hi) := sla_arr Try.underlying56 T5.sz h b o lo hi
@[go_sem] theorem T139.fla3 (b o : Nat) : fieldAddrA Try.prog 139 3 (pt b o) = some (pt b (o + 513)) := fla (f := 3) (o' := 513) (ft := 136) (z := 1) Try.underlying139 rfl rfl rfl T136.sz (by decide) b o
@[go_sem] theorem T139.fla1 (b o : Nat) : fieldAddrA Try.prog 139 1 (pt b o) = some (pt b (o + 256)) := fla (f := 1) (o' := 256) (ft := 28) (z := 256) Try.underlying139 rfl rfl rfl T28.sz (by decide) b o
theorem T144.ze : tzero Try.prog 144 = some (.agg (En (fun _ => 0) (fun _ => 0) (fun _ => 0) (fun _ => 0) (.pointer none) (.pointer none) 0).toArray) := by kernel_rfl
theorem T144.pl : (En (fun _ => 0) (fun _ => 0) (fun _ => 0) (fun _ => 0) (.pointer none) (.pointer none) 0).all plainC = true := by kernel_rfl
theorem T144.places : placesA Try.prog 144 = some [(0, 256), (256, 256), (512, 16), (528, 16), (544, 1), (545, 1), (546, 1)] := by kernel_rfl
@[go_sem] theorem T144.bld (p : Nat × Value) (ps : List (Nat × Value)) : buildA Try.prog 144 (p :: ps) = bldR (fillK (fun i => [(0, 256), (256, 256), (512, 16), (528, 16), (544, 1), (545, 1), (546, 1)][i]?) (some (En (fun _ => 0) (fun _ => 0) (fun _ => 0) (fun _ => 0) (.pointer none) (.pointer none) 0)) (p :: ps)) := build_parts_struct T144.ze T144.pl Try.underlying144 T144.places _
@[go_sem] theorem T144.fla0 (b o : Nat) : fieldAddrA Try.prog 144 0 (pt b o) = some (pt b (o + 0)) := fla (f := 0) (o' := 0) (ft := 28) (z := 256) Try.underlying144 rfl rfl rfl T28.sz (by decide) b o
@[go_sem] theorem T144.fla2 (b o : Nat) : fieldAddrA Try.prog 144 2 (pt b o) = some (pt b (o + 512)) := fla (f := 2) (o' := 512) (ft := 42) (z := 16) Try.underlying144 rfl rfl rfl T42.sz (by decide) b o
@[go_sem] theorem T144.fla4 (b o : Nat) : fieldAddrA Try.prog 144 4 (pt b o) = some (pt b (o + 544)) := fla (f := 4) (o' := 544) (ft := 136) (z := 1) Try.underlying144 rfl rfl rfl T136.sz (by decide) b o
@[go_sem] theorem T144.fla5 (b o : Nat) : fieldAddrA Try.prog 144 5 (pt b o) = some (pt b (o + 545)) := fla (f := 5) (o' := 545) (ft := 136) (z := 1) Try.underlying144 rfl rfl rfl T136.sz (by decide) b o
@[go_sem] theorem T144.fla3 (b o : Nat) : fieldAddrA Try.prog 144 3 (pt b o) = some (pt b (o + 528)) := fla (f := 3) (o' := 528) (ft := 42) (z := 16) Try.underlying144 rfl rfl rfl T42.sz (by decide) b o
@[go_sem] theorem T68.bs1 (h : List Blk) (ps : List (Nat × Value)) : buildSliceA Try.prog h 68 1 ps = litR h 1 16 (fillK (fun i => some (i * 16, 16)) (some (repA (Bs 16 (fun _ => 0)) 1)) ps) := bs_parts Try.underlying68 T50.sz T50.ze rfl (by kernel_rfl) (by kernel_rfl) h (by decide) ps
theorem T68.ei : elemInfo Try.prog 68 = some (50, 16, 16) := by kernel_rfl
@[go_sem] theorem T68.app (h : List Blk) (s : Value) (b o m : Nat) : appendA Try.prog h 68 68 s (sl b o m 16) = appR h 16 16 s (srcR (h[b]?) o m 16) := by rw [append_of T68.ei]; simp only [srcA_sl]
@[go_sem] theorem T139.fla4 (b o : Nat) : fieldAddrA Try.prog 139 4 (pt b o) = some (pt b (o + 514)) := fla (f := 4) (o' := 514) (ft := 2) (z := 1) Try.underlying139 rfl rfl rfl T2.sz (by decide) b o
theorem T4.ag : tagg Try.prog 4 = some false := by kernel_rfl
@[go_sem] theorem T4.load (h : List Blk) (b o : Nat) : loadP Try.prog h 4 (pt b o) = loadCell (h[b]?) o := loadP_cell T4.ag h b o
@[go_sem] theorem T2.conv127 (h : List Blk) (k : IntKind) (n : Int) : convS Try.prog h 2 127 (.int k n) = some (.int .u64 (IntKind.u64.wrap n)) := conv_int Try.underlying2 Try.underlying127 h k n
@[go_sem] theorem T5.conv2 (h : List Blk) (x : UInt8) : convS Try.prog h 5 2 (B x) = some (.int .i64 (IntKind.i64.wrap x.toNat)) := conv_B Try.underlying5 Try.underlying2 h x
theorem T2.ze : tzero Try.prog 2 = some (.int .i64 0) := by kernel_rfl
@[go_sem] theorem T152.bs0 (h : List Blk) : buildSliceA Try.prog h 152 0 [] = some (sl h.length 0 0 1, h ++ [⟨[], true⟩]) := bs_nil Try.underlying152 T2.sz T2.ze rfl (by kernel_rfl) (by kernel_rfl) h
@[go_sem] theorem T152.bs1 (h : List Blk) (ps : List (Nat × Value)) : buildSliceA Try.prog h 152 1 ps = litR h 1 1 (fillK (fun i => some (i * 1, 1)) (some [.int .i64 0]) ps) := bs_cells Try.underlying152 T2.sz T2.ze rfl rfl h (by decide) ps
theorem T152.ei : elemInfo Try.prog 152 = some (2, 1, 8) := by kernel_rfl
@[go_sem] theorem T152.app (h : List Blk) (s : Value) (b o m : Nat) : appendA Try.prog h 152 152 s (sl b o m 1) = appR h 1 8 s (srcR (h[b]?) o m 1) := by rw [append_of T152.ei]; simp only [srcA_sl]
@[go_sem] theorem T152.len (b o n es : Nat) : alen Try.prog 152 (sl b o n es) = some (.int .i64 n) := len_sl Try.underlying152 b o n es
@[go_sem] theorem T152.lenN (n c : Nat) : alen Try.prog 152 (.slice none n c) = some (.int .i64 n) := len_nilS Try.underlying152 n c
@[go_sem] theorem T152.ixa (b o len : Nat) (k : IntKind) (n : Int) : idxAddrA Try.prog 152 (sl b o len 1) (.int k n) = ixR (aidx n len) b o 1 := ixa_sl Try.underlying152 T2.sz b o len k n
@[go_sem] theorem T152.ixaB (b o len : Nat) (x : UInt8) : idxAddrA Try.prog 152 (sl b o len 1) (B x) = ixR (aidx x.toNat len) b o 1 := ixa_sl_B Try.underlying152 T2.sz b o len x
@[go_sem] theorem T9.ix (s : ByteArray) (k : IntKind) (n : Int) : indexA Try.prog 9 (.string s) (.int k n) = chrC (aidx n s.size) s := ix_str Try.underlying9 s k n
@[go_sem] theorem T5.conv3 (h : List Blk) (x : UInt8) : convS Try.prog h 5 3 (B x) = some (.int .i64 (IntKind.i64.wrap x.toNat)) := conv_B Try.underlying5 Try.underlying3 h x
@[go_sem] theorem T127.conv3 (h : List Blk) (k : IntKind) (n : Int) : convS Try.prog h 127 3 (.int k n) = some (.int .i64 (IntKind.i64.wrap n)) := conv_int Try.underlying127 Try.underlying3 h k n
theorem T154.ze : tzero Try.prog 154 = some (.agg (Vs 16 (fun _ => .bool false)).toArray) := by kernel_rfl
theorem T154.pl : (Vs 16 (fun _ => .bool false)).all plainC = true := by kernel_rfl
@[go_sem] theorem T154.bld0 : buildA Try.prog 154 [] = some (.agg (Vs 16 (fun _ => .bool false)).toArray) := build_nil T154.ze T154.pl Try.underlying154 T4.sz
@[go_sem] theorem T154.alloc (h : List Blk) : allocA Try.prog h 154 = some (pt h.length 0, h ++ [⟨Vs 16 (fun _ => .bool false), true⟩]) := alloc_of T154.ze rfl (by kernel_rfl) h
theorem T154.sz : tsz Try.prog 154 = some 16 := by kernel_rfl
@[go_sem] theorem T154.store (h : List Blk) (b o : Nat) (cs : Array Value) : storeP Try.prog h 154 (.agg cs) (pt b o) = storeRow h b (h[b]?) o 16 cs.toList := storeP_row T154.sz cs h b o
@[go_sem] theorem T154.ixa (b o : Nat) (k : IntKind) (n : Int) : idxAddrA Try.prog 154 (pt b o) (.int k n) = ixR (aidx n 16) b o 1 := ixa_arr Try.underlying154 T4.sz b o k n
@[go_sem] theorem T154.ixaB (b o : Nat) (x : UInt8) : idxAddrA Try.prog 154 (pt b o) (B x) = ixR (aidx x.toNat 16) b o 1 := ixa_arr_B Try.underlying154 T4.sz b o x
@[go_sem] theorem T129.slaN (h : List Blk) (lo hi : Option Value) : aslice Try.prog h 129 (.slice none 0 0) lo hi = slcNil (lowA lo) (highA 0 hi) := sla_nil Try.underlying129 T5.sz h lo hi
@[go_sem] theorem T129.sla (h : List Blk) (b o len : Nat) (lo hi : Option Value) : aslice Try.prog h 129 (sl b o len 1) lo hi = slcSl b o 1 (lowA lo) (highA len hi) := sla_sl Try.underlying129 T5.sz h b o len lo hi
theorem T28.pl : (Bs 256 (fun _ => 0)).all plainC = true := by kernel_rfl
@[go_sem] theorem T28.bld0 : buildA Try.prog 28 [] = some (.agg (Bs 256 (fun _ => 0)).toArray) := build_nil T28.ze T28.pl Try.underlying28 T5.sz
theorem T158.ze : tzero Try.prog 158 = some (.agg (Bs 4096 (fun _ => 0)).toArray) := by kernel_rfl
theorem T158.pl : (Bs 4096 (fun _ => 0)).all plainC = true := by kernel_rfl
theorem T156.sz : tsz Try.prog 156 = some 1024 := by kernel_rfl
@[go_sem] theorem T158.bld0 : buildA Try.prog 158 [] = some (.agg (Bs 4096 (fun _ => 0)).toArray) := build_nil T158.ze T158.pl Try.underlying158 T156.sz
@[go_sem] theorem T23.ix (l : List Value) (k : IntKind) (n : Int) : indexA Try.prog 23 (.agg l.toArray) (.int k n) = ixC (aidx n 4) l := ix_arr_cell Try.underlying23 T5.sz T5.ag l k n
@[go_sem] theorem T23.ixB (l : List Value) (x : UInt8) : indexA Try.prog 23 (.agg l.toArray) (B x) = ixC (aidx x.toNat 4) l := ix_arr_cell_B Try.underlying23 T5.sz T5.ag l x
@[go_sem] theorem T158.ixa (b o : Nat) (k : IntKind) (n : Int) : idxAddrA Try.prog 158 (pt b o) (.int k n) = ixR (aidx n 4) b o 1024 := ixa_arr Try.underlying158 T156.sz b o k n
@[go_sem] theorem T158.ixaB (b o : Nat) (x : UInt8) : idxAddrA Try.prog 158 (pt b o) (B x) = ixR (aidx x.toNat 4) b o 1024 := ixa_arr_B Try.underlying158 T156.sz b o x
@[go_sem] theorem T156.ixa (b o : Nat) (k : IntKind) (n : Int) : idxAddrA Try.prog 156 (pt b o) (.int k n) = ixR (aidx n 4) b o 256 := ixa_arr Try.underlying156 T22.sz b o k n
@[go_sem] theorem T156.ixaB (b o : Nat) (x : UInt8) : idxAddrA Try.prog 156 (pt b o) (B x) = ixR (aidx x.toNat 4) b o 256 := ixa_arr_B Try.underlying156 T22.sz b o x
theorem T42.pl : (Bs 16 (fun _ => 0)).all plainC = true := by kernel_rfl
@[go_sem] theorem T42.bld0 : buildA Try.prog 42 [] = some (.agg (Bs 16 (fun _ => 0)).toArray) := build_nil T42.ze T42.pl Try.underlying42 T5.sz
@[go_sem] theorem T128.bs2 (h : List Blk) (ps : List (Nat × Value)) : buildSliceA Try.prog h 128 2 ps = litR h 2 1 (fillK (fun i => some (i * 1, 1)) (some [.slice none 0 0, .slice none 0 0]) ps) := bs_cells Try.underlying128 T129.sz T129.ze rfl rfl h (by decide) ps
@[go_sem] theorem T50.tap {b o len es : Nat} (hl : 16 ≤ len) : toArrPtrA Try.prog 50 (sl b o len es) = some (pt b o) := tapG Try.underlying50 (by decide) hl
@[go_sem] theorem T115.len (b o n es : Nat) : alen Try.prog 115 (sl b o n es) = some (.int .i64 n) := len_sl Try.underlying115 b o n es
@[go_sem] theorem T115.lenN (n c : Nat) : alen Try.prog 115 (.slice none n c) = some (.int .i64 n) := len_nilS Try.underlying115 n c
@[go_sem] theorem T115.ixa (b o len : Nat) (k : IntKind) (n : Int) : idxAddrA Try.prog 115 (sl b o len 1) (.int k n) = ixR (aidx n len) b o 1 := ixa_sl Try.underlying115 T4.sz b o len k n
@[go_sem] theorem T115.ixaB (b o len : Nat) (x : UInt8) : idxAddrA Try.prog 115 (sl b o len 1) (B x) = ixR (aidx x.toNat len) b o 1 := ixa_sl_B Try.underlying115 T4.sz b o len x
@[go_sem] theorem T129.cap (c : Nat) : acap Try.prog 129 (.slice none 0 c) = some (.int .i64 c) := cap_nil Try.underlying129 c
@[go_sem] theorem T129.appz3 (h : List Blk) {n : Int} (h0 : 0 < n) (hr : n * 1 ≤ 140737488355328) : appendA Try.prog h 129 3 (.slice none 0 0) (.int .i64 n) = some (sl h.length 0 n.toNat 1, h ++ [⟨Bs n.toNat (fun _ => 0), true⟩]) := by rw [← repA_B]; exact append_zeros T129.ei (by decide) Try.underlying3 T5.sz T5.ze rfl (by kernel_rfl) (by kernel_rfl) h h0 hr
theorem mixedOk : Try.prog.follows .mixedOrders = true := by kernel_rfl

end Go.Proofs.Ytohcpednhmadkaa
