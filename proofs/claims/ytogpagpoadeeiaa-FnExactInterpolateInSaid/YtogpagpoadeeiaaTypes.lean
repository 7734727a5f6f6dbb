/- The operations at the types of this seat, as a walk reckons them; written by a program of the prover's. -/
import Derived.Test.YtogpagpoadeeiaaRows
import Derived.Test.YtogpagpoadeeiaaAbsI
import Derived.Test.YtogpagpoadeeiaaAbsN
namespace Go.Proofs.Ytogpagpoadeeiaa
set_option linter.unusedSimpArgs false
set_option linter.unusedVariables false
open Go.Abs
set_option maxRecDepth 100000

theorem T22.ag : tagg Try.prog 22 = some true := by kernel_rfl
theorem T22.sz : tsz Try.prog 22 = some 16 := by kernel_rfl
@[go_sem] theorem T22.load (h : List Blk) (b o : Nat) : loadP Try.prog h 22 (pt b o) = loadRow (h[b]?) o 16 := loadP_row T22.ag T22.sz h b o
theorem T24.ze : tzero Try.prog 24 = some (.agg (Bs 16 (fun _ => 0)).toArray) := by kernel_rfl
@[go_sem] theorem T24.alloc (h : List Blk) : allocA Try.prog h 24 = some (pt h.length 0, h ++ [⟨Bs 16 (fun _ => 0), true⟩]) := alloc_of T24.ze rfl (by kernel_rfl) h
theorem T24.sz : tsz Try.prog 24 = some 16 := by kernel_rfl
@[go_sem] theorem T24.store (h : List Blk) (b o : Nat) (cs : Array Value) : storeP Try.prog h 24 (.agg cs) (pt b o) = storeRow h b (h[b]?) o 16 cs.toList := storeP_row T24.sz cs h b o
theorem T24.ag : tagg Try.prog 24 = some true := by kernel_rfl
@[go_sem] theorem T24.load (h : List Blk) (b o : Nat) : loadP Try.prog h 24 (pt b o) = loadRow (h[b]?) o 16 := loadP_row T24.ag T24.sz h b o
theorem T4.isb : isBoolT Try.prog 4 = true := by kernel_rfl
@[go_sem] theorem T4.eql (a b : Bool) : abin Try.prog .eql 4 (.bool a) (.bool b) = some (.bool (a == b)) := eql_bool T4.isb a b
@[go_sem] theorem T4.neq (a b : Bool) : abin Try.prog .neq 4 (.bool a) (.bool b) = some (.bool (!(a == b))) := neq_bool T4.isb a b
theorem T41.ag : tagg Try.prog 41 = some true := by kernel_rfl
theorem T41.sz : tsz Try.prog 41 = some 16 := by kernel_rfl
@[go_sem] theorem T41.load (h : List Blk) (b o : Nat) : loadP Try.prog h 41 (pt b o) = loadRow (h[b]?) o 16 := loadP_row T41.ag T41.sz h b o
theorem T50.ze : tzero Try.prog 50 = some (.agg (Nw 0 (fun _ => 0) (fun _ => 0) 0 0).toArray) := by kernel_rfl
@[go_sem] theorem T50.alloc (h : List Blk) : allocA Try.prog h 50 = some (pt h.length 0, h ++ [⟨Nw 0 (fun _ => 0) (fun _ => 0) 0 0, true⟩]) := alloc_of T50.ze rfl (by kernel_rfl) h
theorem T50.sz : tsz Try.prog 50 = some 275 := by kernel_rfl
@[go_sem] theorem T50.store (h : List Blk) (b o : Nat) (cs : Array Value) : storeP Try.prog h 50 (.agg cs) (pt b o) = storeRow h b (h[b]?) o 275 cs.toList := storeP_row T50.sz cs h b o
theorem T50.ag : tagg Try.prog 50 = some true := by kernel_rfl
@[go_sem] theorem T50.load (h : List Blk) (b o : Nat) : loadP Try.prog h 50 (pt b o) = loadRow (h[b]?) o 275 := loadP_row T50.ag T50.sz h b o
theorem T57.ze : tzero Try.prog 57 = some (.agg (Ci 0 (fun _ => 0) (fun _ => 0) (fun _ => 0) 0).toArray) := by kernel_rfl
@[go_sem] theorem T57.alloc (h : List Blk) : allocA Try.prog h 57 = some (pt h.length 0, h ++ [⟨Ci 0 (fun _ => 0) (fun _ => 0) (fun _ => 0) 0, true⟩]) := alloc_of T57.ze rfl (by kernel_rfl) h
theorem T57.sz : tsz Try.prog 57 = some 290 := by kernel_rfl
@[go_sem] theorem T57.store (h : List Blk) (b o : Nat) (cs : Array Value) : storeP Try.prog h 57 (.agg cs) (pt b o) = storeRow h b (h[b]?) o 290 cs.toList := storeP_row T57.sz cs h b o
theorem T57.ag : tagg Try.prog 57 = some true := by kernel_rfl
@[go_sem] theorem T57.load (h : List Blk) (b o : Nat) : loadP Try.prog h 57 (pt b o) = loadRow (h[b]?) o 290 := loadP_row T57.ag T57.sz h b o
@[go_sem] theorem T65.len (b o n es : Nat) : alen Try.prog 65 (sl b o n es) = some (.int .i64 n) := len_sl Try.underlying65 b o n es
@[go_sem] theorem T65.lenN (n c : Nat) : alen Try.prog 65 (.slice none n c) = some (.int .i64 n) := len_nilS Try.underlying65 n c
theorem T44.ze : tzero Try.prog 44 = some (.agg (Bs 16 (fun _ => 0)).toArray) := by kernel_rfl
@[go_sem] theorem T44.alloc (h : List Blk) : allocA Try.prog h 44 = some (pt h.length 0, h ++ [⟨Bs 16 (fun _ => 0), true⟩]) := alloc_of T44.ze rfl (by kernel_rfl) h
theorem T44.sz : tsz Try.prog 44 = some 16 := by kernel_rfl
@[go_sem] theorem T44.store (h : List Blk) (b o : Nat) (cs : Array Value) : storeP Try.prog h 44 (.agg cs) (pt b o) = storeRow h b (h[b]?) o 16 cs.toList := storeP_row T44.sz cs h b o
theorem T44.ag : tagg Try.prog 44 = some true := by kernel_rfl
@[go_sem] theorem T44.load (h : List Blk) (b o : Nat) : loadP Try.prog h 44 (pt b o) = loadRow (h[b]?) o 16 := loadP_row T44.ag T44.sz h b o
theorem T5.sz : tsz Try.prog 5 = some 1 := by kernel_rfl
@[go_sem] theorem T24.ixa (b o : Nat) (k : IntKind) (n : Int) : idxAddrA Try.prog 24 (pt b o) (.int k n) = ixR (aidx n 16) b o 1 := ixa_arr Try.underlying24 T5.sz b o k n
@[go_sem] theorem T24.ixaB (b o : Nat) (x : UInt8) : idxAddrA Try.prog 24 (pt b o) (B x) = ixR (aidx x.toNat 16) b o 1 := ixa_arr_B Try.underlying24 T5.sz b o x
theorem T5.ag : tagg Try.prog 5 = some false := by kernel_rfl
@[go_sem] theorem T5.load (h : List Blk) (b o : Nat) : loadP Try.prog h 5 (pt b o) = loadCell (h[b]?) o := loadP_cell T5.ag h b o
@[go_sem] theorem T22.ixa (b o : Nat) (k : IntKind) (n : Int) : idxAddrA Try.prog 22 (pt b o) (.int k n) = ixR (aidx n 16) b o 1 := ixa_arr Try.underlying22 T5.sz b o k n
@[go_sem] theorem T22.ixaB (b o : Nat) (x : UInt8) : idxAddrA Try.prog 22 (pt b o) (B x) = ixR (aidx x.toNat 16) b o 1 := ixa_arr_B Try.underlying22 T5.sz b o x
@[go_sem] theorem T5.store_B (h : List Blk) (b o : Nat) (x : UInt8) : storeP Try.prog h 5 (B x) (pt b o) = storeCell h b (h[b]?) o (B x) := storeP_B T5.sz x h b o
@[go_sem] theorem T24.ix (l : List Value) (k : IntKind) (n : Int) : indexA Try.prog 24 (.agg l.toArray) (.int k n) = ixC (aidx n 16) l := ix_arr_cell Try.underlying24 T5.sz T5.ag l k n
@[go_sem] theorem T24.ixB (l : List Value) (x : UInt8) : indexA Try.prog 24 (.agg l.toArray) (B x) = ixC (aidx x.toNat 16) l := ix_arr_cell_B Try.underlying24 T5.sz T5.ag l x
theorem T77.ze : tzero Try.prog 77 = some (.agg (Bs 8 (fun _ => 0)).toArray) := by kernel_rfl
@[go_sem] theorem T77.alloc (h : List Blk) : allocA Try.prog h 77 = some (pt h.length 0, h ++ [⟨Bs 8 (fun _ => 0), true⟩]) := alloc_of T77.ze rfl (by kernel_rfl) h
theorem T77.sz : tsz Try.prog 77 = some 8 := by kernel_rfl
@[go_sem] theorem T77.store (h : List Blk) (b o : Nat) (cs : Array Value) : storeP Try.prog h 77 (.agg cs) (pt b o) = storeRow h b (h[b]?) o 8 cs.toList := storeP_row T77.sz cs h b o
theorem T77.ag : tagg Try.prog 77 = some true := by kernel_rfl
@[go_sem] theorem T77.load (h : List Blk) (b o : Nat) : loadP Try.prog h 77 (pt b o) = loadRow (h[b]?) o 8 := loadP_row T77.ag T77.sz h b o
theorem T77.aeq (f g : Nat → UInt8) : aeq Try.prog 77 (Bs 8 f) (Bs 8 g) = some (eqB 8 f g) := aeq_bytes (by kernel_rfl) (by kernel_rfl) (by kernel_rfl) (by kernel_rfl) (by kernel_rfl) f g
@[go_sem] theorem T77.eqa (f g : Nat → UInt8) : abin Try.prog .eql 77 (.agg (Bs 8 f).toArray) (.agg (Bs 8 g).toArray) = some (.bool (eqB 8 f g)) := eql_bytes (T77.aeq f g)
@[go_sem] theorem T77.nea (f g : Nat → UInt8) : abin Try.prog .neq 77 (.agg (Bs 8 f).toArray) (.agg (Bs 8 g).toArray) = some (.bool (!eqB 8 f g)) := neq_bytes (T77.aeq f g)
@[go_sem] theorem T31.len (b o n es : Nat) : alen Try.prog 31 (sl b o n es) = some (.int .i64 n) := len_sl Try.underlying31 b o n es
@[go_sem] theorem T31.lenN (n c : Nat) : alen Try.prog 31 (.slice none n c) = some (.int .i64 n) := len_nilS Try.underlying31 n c
@[go_sem] theorem T33.len (b o n es : Nat) : alen Try.prog 33 (sl b o n es) = some (.int .i64 n) := len_sl Try.underlying33 b o n es
@[go_sem] theorem T33.lenN (n c : Nat) : alen Try.prog 33 (.slice none n c) = some (.int .i64 n) := len_nilS Try.underlying33 n c
@[go_sem] theorem T33.bs0 (h : List Blk) : buildSliceA Try.prog h 33 0 [] = some (sl h.length 0 0 8, h ++ [⟨[], true⟩]) := bs_nil Try.underlying33 T77.sz T77.ze rfl (by kernel_rfl) (by kernel_rfl) h
@[go_sem] theorem T33.ixa (b o len : Nat) (k : IntKind) (n : Int) : idxAddrA Try.prog 33 (sl b o len 8) (.int k n) = ixR (aidx n len) b o 8 := ixa_sl Try.underlying33 T77.sz b o len k n
@[go_sem] theorem T33.ixaB (b o len : Nat) (x : UInt8) : idxAddrA Try.prog 33 (sl b o len 8) (B x) = ixR (aidx x.toNat len) b o 8 := ixa_sl_B Try.underlying33 T77.sz b o len x
@[go_sem] theorem T33.bs1 (h : List Blk) (ps : List (Nat × Value)) : buildSliceA Try.prog h 33 1 ps = litR h 1 8 (fillK (fun i => some (i * 8, 8)) (some (repA (Bs 8 (fun _ => 0)) 1)) ps) := bs_parts Try.underlying33 T77.sz T77.ze rfl (by kernel_rfl) (by kernel_rfl) h (by decide) ps
theorem T33.ei : elemInfo Try.prog 33 = some (77, 8, 8) := by kernel_rfl
@[go_sem] theorem T33.app (h : List Blk) (s : Value) (b o m : Nat) : appendA Try.prog h 33 33 s (sl b o m 8) = appR h 8 8 s (srcR (h[b]?) o m 8) := by rw [append_of T33.ei]; simp only [srcA_sl]
theorem T77.by' : tbytes Try.prog 77 = some 8 := by kernel_rfl
@[go_sem] theorem T33.ms (h : List Blk) (k k' : IntKind) {n : Int} (h0 : 0 ≤ n) (hr : n * 8 ≤ 140737488355328) : makeSliceA Try.prog h 33 (.int k n) (.int k' n) = some (sl h.length 0 n.toNat 8, h ++ [⟨repA (Bs 8 (fun _ => 0)) n.toNat, true⟩]) := ms_of Try.underlying33 T77.sz T77.by' (by decide) T77.ze rfl (by kernel_rfl) (by kernel_rfl) h k k' h0 hr
theorem T76.sz : tsz Try.prog 76 = some 8 := by kernel_rfl
@[go_sem] theorem T31.ixa (b o len : Nat) (k : IntKind) (n : Int) : idxAddrA Try.prog 31 (sl b o len 8) (.int k n) = ixR (aidx n len) b o 8 := ixa_sl Try.underlying31 T76.sz b o len k n
@[go_sem] theorem T31.ixaB (b o len : Nat) (x : UInt8) : idxAddrA Try.prog 31 (sl b o len 8) (B x) = ixR (aidx x.toNat len) b o 8 := ixa_sl_B Try.underlying31 T76.sz b o len x
theorem T76.ag : tagg Try.prog 76 = some true := by kernel_rfl
@[go_sem] theorem T76.load (h : List Blk) (b o : Nat) : loadP Try.prog h 76 (pt b o) = loadRow (h[b]?) o 8 := loadP_row T76.ag T76.sz h b o
@[go_sem] theorem T3.conv5 (h : List Blk) (k : IntKind) (n : Int) : convS Try.prog h 3 5 (.int k n) = some (.int .u8 (IntKind.u8.wrap n)) := conv_int Try.underlying3 Try.underlying5 h k n
@[go_sem] theorem T77.ixa (b o : Nat) (k : IntKind) (n : Int) : idxAddrA Try.prog 77 (pt b o) (.int k n) = ixR (aidx n 8) b o 1 := ixa_arr Try.underlying77 T5.sz b o k n
@[go_sem] theorem T77.ixaB (b o : Nat) (x : UInt8) : idxAddrA Try.prog 77 (pt b o) (B x) = ixR (aidx x.toNat 8) b o 1 := ixa_arr_B Try.underlying77 T5.sz b o x
theorem T24.pl : (Bs 16 (fun _ => 0)).all plainC = true := by kernel_rfl
@[go_sem] theorem T24.bld0 : buildA Try.prog 24 [] = some (.agg (Bs 16 (fun _ => 0)).toArray) := build_nil T24.ze T24.pl Try.underlying24 T5.sz
theorem T40.sz : tsz Try.prog 40 = some 4 := by kernel_rfl
@[go_sem] theorem T41.ixa (b o : Nat) (k : IntKind) (n : Int) : idxAddrA Try.prog 41 (pt b o) (.int k n) = ixR (aidx n 4) b o 4 := ixa_arr Try.underlying41 T40.sz b o k n
@[go_sem] theorem T41.ixaB (b o : Nat) (x : UInt8) : idxAddrA Try.prog 41 (pt b o) (B x) = ixR (aidx x.toNat 4) b o 4 := ixa_arr_B Try.underlying41 T40.sz b o x
theorem T40.ag : tagg Try.prog 40 = some true := by kernel_rfl
@[go_sem] theorem T40.load (h : List Blk) (b o : Nat) : loadP Try.prog h 40 (pt b o) = loadRow (h[b]?) o 4 := loadP_row T40.ag T40.sz h b o
@[go_sem] theorem T44.ixa (b o : Nat) (k : IntKind) (n : Int) : idxAddrA Try.prog 44 (pt b o) (.int k n) = ixR (aidx n 4) b o 4 := ixa_arr Try.underlying44 T40.sz b o k n
@[go_sem] theorem T44.ixaB (b o : Nat) (x : UInt8) : idxAddrA Try.prog 44 (pt b o) (B x) = ixR (aidx x.toNat 4) b o 4 := ixa_arr_B Try.underlying44 T40.sz b o x
@[go_sem] theorem T40.store (h : List Blk) (b o : Nat) (cs : Array Value) : storeP Try.prog h 40 (.agg cs) (pt b o) = storeRow h b (h[b]?) o 4 cs.toList := storeP_row T40.sz cs h b o
theorem T50.pl : (Nw 0 (fun _ => 0) (fun _ => 0) 0 0).all plainC = true := by kernel_rfl
theorem T50.places : placesA Try.prog 50 = some [(0, 1), (1, 256), (257, 16), (273, 1), (274, 1)] := by kernel_rfl
@[go_sem] theorem T50.bld0 : buildA Try.prog 50 [] = some (.agg (Nw 0 (fun _ => 0) (fun _ => 0) 0 0).toArray) := build_nil_struct T50.ze T50.pl Try.underlying50 T50.places
theorem T2.sz : tsz Try.prog 2 = some 1 := by kernel_rfl
@[go_sem] theorem T57.fla0 (b o : Nat) : fieldAddrA Try.prog 57 0 (pt b o) = some (pt b (o + 0)) := fla (f := 0) (o' := 0) (ft := 2) (z := 1) Try.underlying57 rfl rfl rfl T2.sz (by decide) b o
theorem T2.ag : tagg Try.prog 2 = some false := by kernel_rfl
@[go_sem] theorem T2.load (h : List Blk) (b o : Nat) : loadP Try.prog h 2 (pt b o) = loadCell (h[b]?) o := loadP_cell T2.ag h b o
theorem T48.sz : tsz Try.prog 48 = some 256 := by kernel_rfl
@[go_sem] theorem T57.fla1 (b o : Nat) : fieldAddrA Try.prog 57 1 (pt b o) = some (pt b (o + 1)) := fla (f := 1) (o' := 1) (ft := 48) (z := 256) Try.underlying57 rfl rfl rfl T48.sz (by decide) b o
theorem T48.ag : tagg Try.prog 48 = some true := by kernel_rfl
@[go_sem] theorem T48.load (h : List Blk) (b o : Nat) : loadP Try.prog h 48 (pt b o) = loadRow (h[b]?) o 256 := loadP_row T48.ag T48.sz h b o
@[go_sem] theorem T57.fla2 (b o : Nat) : fieldAddrA Try.prog 57 2 (pt b o) = some (pt b (o + 257)) := fla (f := 2) (o' := 257) (ft := 44) (z := 16) Try.underlying57 rfl rfl rfl T44.sz (by decide) b o
@[go_sem] theorem T50.bld (p : Nat × Value) (ps : List (Nat × Value)) : buildA Try.prog 50 (p :: ps) = bldR (fillK (fun i => [(0, 1), (1, 256), (257, 16), (273, 1), (274, 1)][i]?) (some (Nw 0 (fun _ => 0) (fun _ => 0) 0 0)) (p :: ps)) := build_parts_struct T50.ze T50.pl Try.underlying50 T50.places _
@[go_sem] theorem T50.fla0 (b o : Nat) : fieldAddrA Try.prog 50 0 (pt b o) = some (pt b (o + 0)) := fla (f := 0) (o' := 0) (ft := 2) (z := 1) Try.underlying50 rfl rfl rfl T2.sz (by decide) b o
@[go_sem] theorem T50.fla1 (b o : Nat) : fieldAddrA Try.prog 50 1 (pt b o) = some (pt b (o + 1)) := fla (f := 1) (o' := 1) (ft := 48) (z := 256) Try.underlying50 rfl rfl rfl T48.sz (by decide) b o
@[go_sem] theorem T50.fla2 (b o : Nat) : fieldAddrA Try.prog 50 2 (pt b o) = some (pt b (o + 257)) := fla (f := 2) (o' := 257) (ft := 44) (z := 16) Try.underlying50 rfl rfl rfl T44.sz (by decide) b o
@[go_sem] theorem T50.fla3 (b o : Nat) : fieldAddrA Try.prog 50 3 (pt b o) = some (pt b (o + 273)) := fla (f := 3) (o' := 273) (ft := 2) (z := 1) Try.underlying50 rfl rfl rfl T2.sz (by decide) b o
@[go_sem] theorem T50.fla4 (b o : Nat) : fieldAddrA Try.prog 50 4 (pt b o) = some (pt b (o + 274)) := fla (f := 4) (o' := 274) (ft := 2) (z := 1) Try.underlying50 rfl rfl rfl T2.sz (by decide) b o
theorem T57.pl : (Ci 0 (fun _ => 0) (fun _ => 0) (fun _ => 0) 0).all plainC = true := by kernel_rfl
theorem T57.places : placesA Try.prog 57 = some [(0, 1), (1, 256), (257, 16), (273, 16), (289, 1)] := by kernel_rfl
@[go_sem] theorem T57.bld0 : buildA Try.prog 57 [] = some (.agg (Ci 0 (fun _ => 0) (fun _ => 0) (fun _ => 0) 0).toArray) := build_nil_struct T57.ze T57.pl Try.underlying57 T57.places
theorem T55.sz : tsz Try.prog 55 = some 16 := by kernel_rfl
@[go_sem] theorem T57.fla3 (b o : Nat) : fieldAddrA Try.prog 57 3 (pt b o) = some (pt b (o + 273)) := fla (f := 3) (o' := 273) (ft := 55) (z := 16) Try.underlying57 rfl rfl rfl T55.sz (by decide) b o
theorem T55.ag : tagg Try.prog 55 = some true := by kernel_rfl
@[go_sem] theorem T55.load (h : List Blk) (b o : Nat) : loadP Try.prog h 55 (pt b o) = loadRow (h[b]?) o 16 := loadP_row T55.ag T55.sz h b o
@[go_sem] theorem T57.fla4 (b o : Nat) : fieldAddrA Try.prog 57 4 (pt b o) = some (pt b (o + 289)) := fla (f := 4) (o' := 289) (ft := 2) (z := 1) Try.underlying57 rfl rfl rfl T2.sz (by decide) b o
theorem T44.pl : (Bs 16 (fun _ => 0)).all plainC = true := by kernel_rfl
@[go_sem] theorem T44.bld0 : buildA Try.prog 44 [] = some (.agg (Bs 16 (fun _ => 0)).toArray) := build_nil T44.ze T44.pl Try.underlying44 T40.sz
theorem T65.ei : elemInfo Try.prog 65 = some (5, 1, 1) := by kernel_rfl
@[go_sem] theorem T65.app (h : List Blk) (s : Value) (b o m : Nat) : appendA Try.prog h 65 65 s (sl b o m 1) = appR h 1 1 s (srcR (h[b]?) o m 1) := by rw [append_of T65.ei]; simp only [srcA_sl]
theorem T5.by' : tbytes Try.prog 5 = some 1 := by kernel_rfl
theorem T5.ze : tzero Try.prog 5 = some (B 0) := by kernel_rfl
@[go_sem] theorem T65.ms (h : List Blk) (k k' : IntKind) {n : Int} (h0 : 0 ≤ n) (hr : n * 1 ≤ 140737488355328) : makeSliceA Try.prog h 65 (.int k n) (.int k' n) = some (sl h.length 0 n.toNat 1, h ++ [⟨Bs n.toNat (fun _ => 0), true⟩]) := by rw [← repA_B]; exact ms_of Try.underlying65 T5.sz T5.by' (by decide) T5.ze rfl (by kernel_rfl) (by kernel_rfl) h k k' h0 hr
@[go_sem] theorem T65.ixa (b o len : Nat) (k : IntKind) (n : Int) : idxAddrA Try.prog 65 (sl b o len 1) (.int k n) = ixR (aidx n len) b o 1 := ixa_sl Try.underlying65 T5.sz b o len k n
@[go_sem] theorem T65.ixaB (b o len : Nat) (x : UInt8) : idxAddrA Try.prog 65 (sl b o len 1) (B x) = ixR (aidx x.toNat len) b o 1 := ixa_sl_B Try.underlying65 T5.sz b o len x
theorem T65.sz : tsz Try.prog 65 = some 1 := by kernel_rfl
theorem T65.ze : tzero Try.prog 65 = some (.slice none 0 0) := by kernel_rfl
@[go_sem] theorem T119.bs2 (h : List Blk) (ps : List (Nat × Value)) : buildSliceA Try.prog h 119 2 ps = litR h 2 1 (fillK (fun i => some (i * 1, 1)) (some [.slice none 0 0, .slice none 0 0]) ps) := bs_cells Try.underlying119 T65.sz T65.ze rfl rfl h (by decide) ps
@[go_sem] theorem T40.ixa (b o : Nat) (k : IntKind) (n : Int) : idxAddrA Try.prog 40 (pt b o) (.int k n) = ixR (aidx n 4) b o 1 := ixa_arr Try.underlying40 T5.sz b o k n
@[go_sem] theorem T40.ixaB (b o : Nat) (x : UInt8) : idxAddrA Try.prog 40 (pt b o) (B x) = ixR (aidx x.toNat 4) b o 1 := ixa_arr_B Try.underlying40 T5.sz b o x
theorem T77.pl : (Bs 8 (fun _ => 0)).all plainC = true := by kernel_rfl
@[go_sem] theorem T77.bld0 : buildA Try.prog 77 [] = some (.agg (Bs 8 (fun _ => 0)).toArray) := build_nil T77.ze T77.pl Try.underlying77 T5.sz
@[go_sem] theorem T24.sla (h : List Blk) (b o : Nat) (lo hi : Option Value) : aslice Try.prog h 24 (pt b o) lo hi = slcArr (h[b]?) b o 16 1 (lowA lo) (highA 16 hi) := sla_arr Try.underlying24 T5.sz h b o lo hi
@[go_sem] theorem T77.tap {b o len es : Nat} (hl : 8 ≤ len) : toArrPtrA Try.prog 77 (sl b o len es) = some (pt b o) := tapG Try.underlying77 (by decide) hl
@[go_sem] theorem T77.sla (h : List Blk) (b o : Nat) (lo hi : Option Value) : aslice Try.prog h 77 (pt b o) lo hi = slcArr (h[b]?) b o 8 1 (lowA lo) (highA 8 hi) := sla_arr Try.underlying77 T5.sz h b o lo hi
@[go_sem] theorem T24.tap {b o len es : Nat} (hl : 16 ≤ len) : toArrPtrA Try.prog 24 (sl b o len es) = some (pt b o) := tapG Try.underlying24 (by decide) hl
@[go_sem] theorem T76.ixa (b o : Nat) (k : IntKind) (n : Int) : idxAddrA Try.prog 76 (pt b o) (.int k n) = ixR (aidx n 8) b o 1 := ixa_arr Try.underlying76 T5.sz b o k n
@[go_sem] theorem T76.ixaB (b o : Nat) (x : UInt8) : idxAddrA Try.prog 76 (pt b o) (B x) = ixR (aidx x.toNat 8) b o 1 := ixa_arr_B Try.underlying76 T5.sz b o x
@[go_sem] theorem T33.eqn (b o n es : Nat) : abin Try.prog .eql 33 (sl b o n es) (.slice none 0 0) = some (.bool false) := eqn_sl Try.underlying33 b o n es
@[go_sem] theorem T33.eqN (l c : Nat) : abin Try.prog .eql 33 (.slice none l c) (.slice none 0 0) = some (.bool true) := eqn_nil Try.underlying33 l c
@[go_sem] theorem T33.nen (b o n es : Nat) : abin Try.prog .neq 33 (sl b o n es) (.slice none 0 0) = some (.bool true) := nen_sl Try.underlying33 b o n es
@[go_sem] theorem T33.neN (l c : Nat) : abin Try.prog .neq 33 (.slice none l c) (.slice none 0 0) = some (.bool false) := nen_nil Try.underlying33 l c
theorem T40.ze : tzero Try.prog 40 = some (.agg (Bs 4 (fun _ => 0)).toArray) := by kernel_rfl
@[go_sem] theorem T40.alloc (h : List Blk) : allocA Try.prog h 40 = some (pt h.length 0, h ++ [⟨Bs 4 (fun _ => 0), true⟩]) := alloc_of T40.ze rfl (by kernel_rfl) h
@[go_sem] theorem T40.ix (l : List Value) (k : IntKind) (n : Int) : indexA Try.prog 40 (.agg l.toArray) (.int k n) = ixC (aidx n 4) l := ix_arr_cell Try.underlying40 T5.sz T5.ag l k n
@[go_sem] theorem T40.ixB (l : List Value) (x : UInt8) : indexA Try.prog 40 (.agg l.toArray) (B x) = ixC (aidx x.toNat 4) l := ix_arr_cell_B Try.underlying40 T5.sz T5.ag l x
@[go_sem] theorem T57.bld (p : Nat × Value) (ps : List (Nat × Value)) : buildA Try.prog 57 (p :: ps) = bldR (fillK (fun i => [(0, 1), (1, 256), (257, 16), (273, 16), (289, 1)][i]?) (some (Ci 0 (fun _ => 0) (fun _ => 0) (fun _ => 0) 0)) (p :: ps)) := build_parts_struct T57.ze T57.pl Try.underlying57 T57.places _
theorem T2.ze : tzero Try.prog 2 = some (.int .i64 0) := by kernel_rfl
@[go_sem] theorem T114.bs3 (h : List Blk) (ps : List (Nat × Value)) : buildSliceA Try.prog h 114 3 ps = litR h 3 1 (fillK (fun i => some (i * 1, 1)) (some [.int .i64 0, .int .i64 0, .int .i64 0]) ps) := bs_cells Try.underlying114 T2.sz T2.ze rfl rfl h (by decide) ps
@[go_sem] theorem T48.store (h : List Blk) (b o : Nat) (cs : Array Value) : storeP Try.prog h 48 (.agg cs) (pt b o) = storeRow h b (h[b]?) o 256 cs.toList := storeP_row T48.sz cs h b o
@[go_sem] theorem T55.ixa (b o : Nat) (k : IntKind) (n : Int) : idxAddrA Try.prog 55 (pt b o) (.int k n) = ixR (aidx n 16) b o 1 := ixa_arr Try.underlying55 T5.sz b o k n
@[go_sem] theorem T55.ixaB (b o : Nat) (x : UInt8) : idxAddrA Try.prog 55 (pt b o) (B x) = ixR (aidx x.toNat 16) b o 1 := ixa_arr_B Try.underlying55 T5.sz b o x
@[go_sem] theorem T48.ixa (b o : Nat) (k : IntKind) (n : Int) : idxAddrA Try.prog 48 (pt b o) (.int k n) = ixR (aidx n 256) b o 1 := ixa_arr Try.underlying48 T5.sz b o k n
@[go_sem] theorem T48.ixaB (b o : Nat) (x : UInt8) : idxAddrA Try.prog 48 (pt b o) (B x) = ixR (aidx x.toNat 256) b o 1 := ixa_arr_B Try.underlying48 T5.sz b o x
@[go_sem] theorem T65.bs0 (h : List Blk) : buildSliceA Try.prog h 65 0 [] = some (sl h.length 0 0 1, h ++ [⟨[], true⟩]) := bs_nil Try.underlying65 T5.sz T5.ze rfl (by kernel_rfl) (by kernel_rfl) h
@[go_sem] theorem T65.slaN (h : List Blk) (lo hi : Option Value) : aslice Try.prog h 65 (.slice none 0 0) lo hi = slcNil (lowA lo) (highA 0 hi) := sla_nil Try.underlying65 T5.sz h lo hi
@[go_sem] theorem T65.sla (h : List Blk) (b o len : Nat) (lo hi : Option Value) : aslice Try.prog h 65 (sl b o len 1) lo hi = slcSl b o 1 (lowA lo) (highA len hi) := sla_sl Try.underlying65 T5.sz h b o len lo hi
@[go_sem] theorem T119.len (b o n es : Nat) : alen Try.prog 119 (sl b o n es) = some (.int .i64 n) := len_sl Try.underlying119 b o n es
@[go_sem] theorem T119.lenN (n c : Nat) : alen Try.prog 119 (.slice none n c) = some (.int .i64 n) := len_nilS Try.underlying119 n c
@[go_sem] theorem T119.ixa (b o len : Nat) (k : IntKind) (n : Int) : idxAddrA Try.prog 119 (sl b o len 1) (.int k n) = ixR (aidx n len) b o 1 := ixa_sl Try.underlying119 T65.sz b o len k n
@[go_sem] theorem T119.ixaB (b o len : Nat) (x : UInt8) : idxAddrA Try.prog 119 (sl b o len 1) (B x) = ixR (aidx x.toNat len) b o 1 := ixa_sl_B Try.underlying119 T65.sz b o len x
theorem T65.ag : tagg Try.prog 65 = some false := by kernel_rfl
@[go_sem] theorem T65.load (h : List Blk) (b o : Nat) : loadP Try.prog h 65 (pt b o) = loadCell (h[b]?) o := loadP_cell T65.ag h b o
@[go_sem] theorem T65.bs1 (h : List Blk) (ps : List (Nat × Value)) : buildSliceA Try.prog h 65 1 ps = litR h 1 1 (fillK (fun i => some (i * 1, 1)) (some [B 0]) ps) := bs_cells Try.underlying65 T5.sz T5.ze rfl rfl h (by decide) ps
@[go_sem] theorem T2.conv123 (h : List Blk) (k : IntKind) (n : Int) : convS Try.prog h 2 123 (.int k n) = some (.int .u64 (IntKind.u64.wrap n)) := conv_int Try.underlying2 Try.underlying123 h k n
@[go_sem] theorem T5.conv2 (h : List Blk) (x : UInt8) : convS Try.prog h 5 2 (B x) = some (.int .i64 (IntKind.i64.wrap x.toNat)) := conv_B Try.underlying5 Try.underlying2 h x
@[go_sem] theorem T2.conv5 (h : List Blk) (k : IntKind) (n : Int) : convS Try.prog h 2 5 (.int k n) = some (.int .u8 (IntKind.u8.wrap n)) := conv_int Try.underlying2 Try.underlying5 h k n
theorem T48.ze : tzero Try.prog 48 = some (.agg (Bs 256 (fun _ => 0)).toArray) := by kernel_rfl
@[go_sem] theorem T48.alloc (h : List Blk) : allocA Try.prog h 48 = some (pt h.length 0, h ++ [⟨Bs 256 (fun _ => 0), true⟩]) := alloc_of T48.ze rfl (by kernel_rfl) h
theorem T48.pl : (Bs 256 (fun _ => 0)).all plainC = true := by kernel_rfl
@[go_sem] theorem T48.bld0 : buildA Try.prog 48 [] = some (.agg (Bs 256 (fun _ => 0)).toArray) := build_nil T48.ze T48.pl Try.underlying48 T5.sz
@[go_sem] theorem T114.len (b o n es : Nat) : alen Try.prog 114 (sl b o n es) = some (.int .i64 n) := len_sl Try.underlying114 b o n es
@[go_sem] theorem T114.lenN (n c : Nat) : alen Try.prog 114 (.slice none n c) = some (.int .i64 n) := len_nilS Try.underlying114 n c
@[go_sem] theorem T114.ixa (b o len : Nat) (k : IntKind) (n : Int) : idxAddrA Try.prog 114 (sl b o len 1) (.int k n) = ixR (aidx n len) b o 1 := ixa_sl Try.underlying114 T2.sz b o len k n
@[go_sem] theorem T114.ixaB (b o len : Nat) (x : UInt8) : idxAddrA Try.prog 114 (sl b o len 1) (B x) = ixR (aidx x.toNat len) b o 1 := ixa_sl_B Try.underlying114 T2.sz b o len x
@[go_sem] theorem T3.conv125 (h : List Blk) (k : IntKind) (n : Int) : convS Try.prog h 3 125 (.int k n) = some (.int .u64 (IntKind.u64.wrap n)) := conv_int Try.underlying3 Try.underlying125 h k n
@[go_sem] theorem T65.cap (c : Nat) : acap Try.prog 65 (.slice none 0 c) = some (.int .i64 c) := cap_nil Try.underlying65 c
@[go_sem] theorem T65.appz3 (h : List Blk) {n : Int} (h0 : 0 < n) (hr : n * 1 ≤ 140737488355328) : appendA Try.prog h 65 3 (.slice none 0 0) (.int .i64 n) = some (sl h.length 0 n.toNat 1, h ++ [⟨Bs n.toNat (fun _ => 0), true⟩]) := by rw [← repA_B]; exact append_zeros T65.ei (by decide) Try.underlying3 T5.sz T5.ze rfl (by kernel_rfl) (by kernel_rfl) h h0 hr
theorem mixedOk : Try.prog.follows .mixedOrders = true := by kernel_rfl

end Go.Proofs.Ytogpagpoadeeiaa
