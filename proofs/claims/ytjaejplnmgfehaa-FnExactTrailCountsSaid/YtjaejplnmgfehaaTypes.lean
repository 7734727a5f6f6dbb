/- The operations at the types of this seat, as a walk reckons them; written by a program of the prover's. -/
import Derived.Test.YtjaejplnmgfehaaRows
import Derived.Test.YtjaejplnmgfehaaAbsI
import Derived.Test.YtjaejplnmgfehaaAbsN
namespace Go.Proofs.Ytjaejplnmgfehaa
set_option linter.unusedSimpArgs false
set_option linter.unusedVariables false
open Go.Abs
set_option maxRecDepth 100000

theorem T26.ag : tagg Try.prog 26 = some true := by kernel_rfl
theorem T26.sz : tsz Try.prog 26 = some 275 := by kernel_rfl
@[go_sem] theorem T26.load (h : List Blk) (b o : Nat) : loadP Try.prog h 26 (pt b o) = loadRow (h[b]?) o 275 := loadP_row T26.ag T26.sz h b o
theorem T27.ag : tagg Try.prog 27 = some true := by kernel_rfl
theorem T27.sz : tsz Try.prog 27 = some 8 := by kernel_rfl
@[go_sem] theorem T27.load (h : List Blk) (b o : Nat) : loadP Try.prog h 27 (pt b o) = loadRow (h[b]?) o 8 := loadP_row T27.ag T27.sz h b o
theorem T28.ag : tagg Try.prog 28 = some true := by kernel_rfl
theorem T28.sz : tsz Try.prog 28 = some 16 := by kernel_rfl
@[go_sem] theorem T28.load (h : List Blk) (b o : Nat) : loadP Try.prog h 28 (pt b o) = loadRow (h[b]?) o 16 := loadP_row T28.ag T28.sz h b o
theorem T29.ze : tzero Try.prog 29 = some (.agg (Bs 16 (fun _ => 0)).toArray) := by kernel_rfl
@[go_sem] theorem T29.alloc (h : List Blk) : allocA Try.prog h 29 = some (pt h.length 0, h ++ [⟨Bs 16 (fun _ => 0), true⟩]) := alloc_of T29.ze rfl (by kernel_rfl) h
theorem T29.sz : tsz Try.prog 29 = some 16 := by kernel_rfl
@[go_sem] theorem T29.store (h : List Blk) (b o : Nat) (cs : Array Value) : storeP Try.prog h 29 (.agg cs) (pt b o) = storeRow h b (h[b]?) o 16 cs.toList := storeP_row T29.sz cs h b o
theorem T29.ag : tagg Try.prog 29 = some true := by kernel_rfl
@[go_sem] theorem T29.load (h : List Blk) (b o : Nat) : loadP Try.prog h 29 (pt b o) = loadRow (h[b]?) o 16 := loadP_row T29.ag T29.sz h b o
theorem T43.ag : tagg Try.prog 43 = some true := by kernel_rfl
theorem T43.sz : tsz Try.prog 43 = some 290 := by kernel_rfl
@[go_sem] theorem T43.load (h : List Blk) (b o : Nat) : loadP Try.prog h 43 (pt b o) = loadRow (h[b]?) o 290 := loadP_row T43.ag T43.sz h b o
theorem T35.ag : tagg Try.prog 35 = some true := by kernel_rfl
theorem T35.sz : tsz Try.prog 35 = some 275 := by kernel_rfl
@[go_sem] theorem T35.load (h : List Blk) (b o : Nat) : loadP Try.prog h 35 (pt b o) = loadRow (h[b]?) o 275 := loadP_row T35.ag T35.sz h b o
theorem T29.pl : (Bs 16 (fun _ => 0)).all plainC = true := by kernel_rfl
theorem T5.sz : tsz Try.prog 5 = some 1 := by kernel_rfl
@[go_sem] theorem T29.bld0 : buildA Try.prog 29 [] = some (.agg (Bs 16 (fun _ => 0)).toArray) := build_nil T29.ze T29.pl Try.underlying29 T5.sz
theorem T37.ag : tagg Try.prog 37 = some true := by kernel_rfl
theorem T37.sz : tsz Try.prog 37 = some 8 := by kernel_rfl
@[go_sem] theorem T37.load (h : List Blk) (b o : Nat) : loadP Try.prog h 37 (pt b o) = loadRow (h[b]?) o 8 := loadP_row T37.ag T37.sz h b o
theorem T35.ze : tzero Try.prog 35 = some (.agg (Nw 0 (fun _ => 0) (fun _ => 0) 0 0).toArray) := by kernel_rfl
@[go_sem] theorem T35.alloc (h : List Blk) : allocA Try.prog h 35 = some (pt h.length 0, h ++ [⟨Nw 0 (fun _ => 0) (fun _ => 0) 0 0, true⟩]) := alloc_of T35.ze rfl (by kernel_rfl) h
theorem T2.sz : tsz Try.prog 2 = some 1 := by kernel_rfl
@[go_sem] theorem T26.fla0 (b o : Nat) : fieldAddrA Try.prog 26 0 (pt b o) = some (pt b (o + 0)) := fla (f := 0) (o' := 0) (ft := 2) (z := 1) Try.underlying26 rfl rfl rfl T2.sz (by decide) b o
theorem T2.ag : tagg Try.prog 2 = some false := by kernel_rfl
@[go_sem] theorem T2.load (h : List Blk) (b o : Nat) : loadP Try.prog h 2 (pt b o) = loadCell (h[b]?) o := loadP_cell T2.ag h b o
@[go_sem] theorem T35.fla0 (b o : Nat) : fieldAddrA Try.prog 35 0 (pt b o) = some (pt b (o + 0)) := fla (f := 0) (o' := 0) (ft := 2) (z := 1) Try.underlying35 rfl rfl rfl T2.sz (by decide) b o
@[go_sem] theorem T2.store_int (h : List Blk) (b o : Nat) (n : Int) : storeP Try.prog h 2 (.int .i64 n) (pt b o) = storeCell h b (h[b]?) o (.int .i64 n) := storeP_int T2.sz .i64 n h b o
theorem T22.sz : tsz Try.prog 22 = some 256 := by kernel_rfl
@[go_sem] theorem T26.fla1 (b o : Nat) : fieldAddrA Try.prog 26 1 (pt b o) = some (pt b (o + 1)) := fla (f := 1) (o' := 1) (ft := 22) (z := 256) Try.underlying26 rfl rfl rfl T22.sz (by decide) b o
theorem T22.ag : tagg Try.prog 22 = some true := by kernel_rfl
@[go_sem] theorem T22.load (h : List Blk) (b o : Nat) : loadP Try.prog h 22 (pt b o) = loadRow (h[b]?) o 256 := loadP_row T22.ag T22.sz h b o
theorem T32.sz : tsz Try.prog 32 = some 256 := by kernel_rfl
@[go_sem] theorem T35.fla1 (b o : Nat) : fieldAddrA Try.prog 35 1 (pt b o) = some (pt b (o + 1)) := fla (f := 1) (o' := 1) (ft := 32) (z := 256) Try.underlying35 rfl rfl rfl T32.sz (by decide) b o
@[go_sem] theorem T32.store (h : List Blk) (b o : Nat) (cs : Array Value) : storeP Try.prog h 32 (.agg cs) (pt b o) = storeRow h b (h[b]?) o 256 cs.toList := storeP_row T32.sz cs h b o
theorem T24.sz : tsz Try.prog 24 = some 16 := by kernel_rfl
@[go_sem] theorem T26.fla2 (b o : Nat) : fieldAddrA Try.prog 26 2 (pt b o) = some (pt b (o + 257)) := fla (f := 2) (o' := 257) (ft := 24) (z := 16) Try.underlying26 rfl rfl rfl T24.sz (by decide) b o
theorem T24.ag : tagg Try.prog 24 = some true := by kernel_rfl
@[go_sem] theorem T24.load (h : List Blk) (b o : Nat) : loadP Try.prog h 24 (pt b o) = loadRow (h[b]?) o 16 := loadP_row T24.ag T24.sz h b o
theorem T33.sz : tsz Try.prog 33 = some 16 := by kernel_rfl
@[go_sem] theorem T35.fla2 (b o : Nat) : fieldAddrA Try.prog 35 2 (pt b o) = some (pt b (o + 257)) := fla (f := 2) (o' := 257) (ft := 33) (z := 16) Try.underlying35 rfl rfl rfl T33.sz (by decide) b o
@[go_sem] theorem T33.store (h : List Blk) (b o : Nat) (cs : Array Value) : storeP Try.prog h 33 (.agg cs) (pt b o) = storeRow h b (h[b]?) o 16 cs.toList := storeP_row T33.sz cs h b o
@[go_sem] theorem T26.fla3 (b o : Nat) : fieldAddrA Try.prog 26 3 (pt b o) = some (pt b (o + 273)) := fla (f := 3) (o' := 273) (ft := 2) (z := 1) Try.underlying26 rfl rfl rfl T2.sz (by decide) b o
@[go_sem] theorem T35.fla3 (b o : Nat) : fieldAddrA Try.prog 35 3 (pt b o) = some (pt b (o + 273)) := fla (f := 3) (o' := 273) (ft := 2) (z := 1) Try.underlying35 rfl rfl rfl T2.sz (by decide) b o
@[go_sem] theorem T26.fla4 (b o : Nat) : fieldAddrA Try.prog 26 4 (pt b o) = some (pt b (o + 274)) := fla (f := 4) (o' := 274) (ft := 2) (z := 1) Try.underlying26 rfl rfl rfl T2.sz (by decide) b o
@[go_sem] theorem T35.fla4 (b o : Nat) : fieldAddrA Try.prog 35 4 (pt b o) = some (pt b (o + 274)) := fla (f := 4) (o' := 274) (ft := 2) (z := 1) Try.underlying35 rfl rfl rfl T2.sz (by decide) b o
@[go_sem] theorem T35.store (h : List Blk) (b o : Nat) (cs : Array Value) : storeP Try.prog h 35 (.agg cs) (pt b o) = storeRow h b (h[b]?) o 275 cs.toList := storeP_row T35.sz cs h b o
theorem T37.ze : tzero Try.prog 37 = some (.agg (Bs 8 (fun _ => 0)).toArray) := by kernel_rfl
@[go_sem] theorem T37.alloc (h : List Blk) : allocA Try.prog h 37 = some (pt h.length 0, h ++ [⟨Bs 8 (fun _ => 0), true⟩]) := alloc_of T37.ze rfl (by kernel_rfl) h
@[go_sem] theorem T27.ixa (b o : Nat) (k : IntKind) (n : Int) : idxAddrA Try.prog 27 (pt b o) (.int k n) = ixR (aidx n 8) b o 1 := ixa_arr Try.underlying27 T5.sz b o k n
@[go_sem] theorem T27.ixaB (b o : Nat) (x : UInt8) : idxAddrA Try.prog 27 (pt b o) (B x) = ixR (aidx x.toNat 8) b o 1 := ixa_arr_B Try.underlying27 T5.sz b o x
theorem T5.ag : tagg Try.prog 5 = some false := by kernel_rfl
@[go_sem] theorem T5.load (h : List Blk) (b o : Nat) : loadP Try.prog h 5 (pt b o) = loadCell (h[b]?) o := loadP_cell T5.ag h b o
@[go_sem] theorem T37.ixa (b o : Nat) (k : IntKind) (n : Int) : idxAddrA Try.prog 37 (pt b o) (.int k n) = ixR (aidx n 8) b o 1 := ixa_arr Try.underlying37 T5.sz b o k n
@[go_sem] theorem T37.ixaB (b o : Nat) (x : UInt8) : idxAddrA Try.prog 37 (pt b o) (B x) = ixR (aidx x.toNat 8) b o 1 := ixa_arr_B Try.underlying37 T5.sz b o x
@[go_sem] theorem T5.store_B (h : List Blk) (b o : Nat) (x : UInt8) : storeP Try.prog h 5 (B x) (pt b o) = storeCell h b (h[b]?) o (B x) := storeP_B T5.sz x h b o
@[go_sem] theorem T37.store (h : List Blk) (b o : Nat) (cs : Array Value) : storeP Try.prog h 37 (.agg cs) (pt b o) = storeRow h b (h[b]?) o 8 cs.toList := storeP_row T37.sz cs h b o
@[go_sem] theorem T28.ixa (b o : Nat) (k : IntKind) (n : Int) : idxAddrA Try.prog 28 (pt b o) (.int k n) = ixR (aidx n 16) b o 1 := ixa_arr Try.underlying28 T5.sz b o k n
@[go_sem] theorem T28.ixaB (b o : Nat) (x : UInt8) : idxAddrA Try.prog 28 (pt b o) (B x) = ixR (aidx x.toNat 16) b o 1 := ixa_arr_B Try.underlying28 T5.sz b o x
@[go_sem] theorem T29.ixa (b o : Nat) (k : IntKind) (n : Int) : idxAddrA Try.prog 29 (pt b o) (.int k n) = ixR (aidx n 16) b o 1 := ixa_arr Try.underlying29 T5.sz b o k n
@[go_sem] theorem T29.ixaB (b o : Nat) (x : UInt8) : idxAddrA Try.prog 29 (pt b o) (B x) = ixR (aidx x.toNat 16) b o 1 := ixa_arr_B Try.underlying29 T5.sz b o x
theorem T47.ag : tagg Try.prog 47 = some true := by kernel_rfl
theorem T47.sz : tsz Try.prog 47 = some 290 := by kernel_rfl
@[go_sem] theorem T47.load (h : List Blk) (b o : Nat) : loadP Try.prog h 47 (pt b o) = loadRow (h[b]?) o 290 := loadP_row T47.ag T47.sz h b o
theorem T47.ze : tzero Try.prog 47 = some (.agg (Ci 0 (fun _ => 0) (fun _ => 0) (fun _ => 0) 0).toArray) := by kernel_rfl
@[go_sem] theorem T47.alloc (h : List Blk) : allocA Try.prog h 47 = some (pt h.length 0, h ++ [⟨Ci 0 (fun _ => 0) (fun _ => 0) (fun _ => 0) 0, true⟩]) := alloc_of T47.ze rfl (by kernel_rfl) h
@[go_sem] theorem T43.fla0 (b o : Nat) : fieldAddrA Try.prog 43 0 (pt b o) = some (pt b (o + 0)) := fla (f := 0) (o' := 0) (ft := 2) (z := 1) Try.underlying43 rfl rfl rfl T2.sz (by decide) b o
@[go_sem] theorem T47.fla0 (b o : Nat) : fieldAddrA Try.prog 47 0 (pt b o) = some (pt b (o + 0)) := fla (f := 0) (o' := 0) (ft := 2) (z := 1) Try.underlying47 rfl rfl rfl T2.sz (by decide) b o
@[go_sem] theorem T43.fla1 (b o : Nat) : fieldAddrA Try.prog 43 1 (pt b o) = some (pt b (o + 1)) := fla (f := 1) (o' := 1) (ft := 22) (z := 256) Try.underlying43 rfl rfl rfl T22.sz (by decide) b o
@[go_sem] theorem T47.fla1 (b o : Nat) : fieldAddrA Try.prog 47 1 (pt b o) = some (pt b (o + 1)) := fla (f := 1) (o' := 1) (ft := 32) (z := 256) Try.underlying47 rfl rfl rfl T32.sz (by decide) b o
@[go_sem] theorem T43.fla2 (b o : Nat) : fieldAddrA Try.prog 43 2 (pt b o) = some (pt b (o + 257)) := fla (f := 2) (o' := 257) (ft := 24) (z := 16) Try.underlying43 rfl rfl rfl T24.sz (by decide) b o
@[go_sem] theorem T47.fla2 (b o : Nat) : fieldAddrA Try.prog 47 2 (pt b o) = some (pt b (o + 257)) := fla (f := 2) (o' := 257) (ft := 33) (z := 16) Try.underlying47 rfl rfl rfl T33.sz (by decide) b o
@[go_sem] theorem T43.fla3 (b o : Nat) : fieldAddrA Try.prog 43 3 (pt b o) = some (pt b (o + 273)) := fla (f := 3) (o' := 273) (ft := 28) (z := 16) Try.underlying43 rfl rfl rfl T28.sz (by decide) b o
theorem T45.sz : tsz Try.prog 45 = some 16 := by kernel_rfl
@[go_sem] theorem T47.fla3 (b o : Nat) : fieldAddrA Try.prog 47 3 (pt b o) = some (pt b (o + 273)) := fla (f := 3) (o' := 273) (ft := 45) (z := 16) Try.underlying47 rfl rfl rfl T45.sz (by decide) b o
@[go_sem] theorem T45.store (h : List Blk) (b o : Nat) (cs : Array Value) : storeP Try.prog h 45 (.agg cs) (pt b o) = storeRow h b (h[b]?) o 16 cs.toList := storeP_row T45.sz cs h b o
@[go_sem] theorem T43.fla4 (b o : Nat) : fieldAddrA Try.prog 43 4 (pt b o) = some (pt b (o + 289)) := fla (f := 4) (o' := 289) (ft := 2) (z := 1) Try.underlying43 rfl rfl rfl T2.sz (by decide) b o
@[go_sem] theorem T47.fla4 (b o : Nat) : fieldAddrA Try.prog 47 4 (pt b o) = some (pt b (o + 289)) := fla (f := 4) (o' := 289) (ft := 2) (z := 1) Try.underlying47 rfl rfl rfl T2.sz (by decide) b o
@[go_sem] theorem T47.store (h : List Blk) (b o : Nat) (cs : Array Value) : storeP Try.prog h 47 (.agg cs) (pt b o) = storeRow h b (h[b]?) o 290 cs.toList := storeP_row T47.sz cs h b o
@[go_sem] theorem T50.eqn (b o n es : Nat) : abin Try.prog .eql 50 (sl b o n es) (.slice none 0 0) = some (.bool false) := eqn_sl Try.underlying50 b o n es
@[go_sem] theorem T50.eqN (l c : Nat) : abin Try.prog .eql 50 (.slice none l c) (.slice none 0 0) = some (.bool true) := eqn_nil Try.underlying50 l c
@[go_sem] theorem T50.nen (b o n es : Nat) : abin Try.prog .neq 50 (sl b o n es) (.slice none 0 0) = some (.bool true) := nen_sl Try.underlying50 b o n es
@[go_sem] theorem T50.neN (l c : Nat) : abin Try.prog .neq 50 (.slice none l c) (.slice none 0 0) = some (.bool false) := nen_nil Try.underlying50 l c
@[go_sem] theorem T50.len (b o n es : Nat) : alen Try.prog 50 (sl b o n es) = some (.int .i64 n) := len_sl Try.underlying50 b o n es
@[go_sem] theorem T50.lenN (n c : Nat) : alen Try.prog 50 (.slice none n c) = some (.int .i64 n) := len_nilS Try.underlying50 n c
@[go_sem] theorem T50.ixa (b o len : Nat) (k : IntKind) (n : Int) : idxAddrA Try.prog 50 (sl b o len 1) (.int k n) = ixR (aidx n len) b o 1 := ixa_sl Try.underlying50 T2.sz b o len k n
@[go_sem] theorem T50.ixaB (b o len : Nat) (x : UInt8) : idxAddrA Try.prog 50 (sl b o len 1) (B x) = ixR (aidx x.toNat len) b o 1 := ixa_sl_B Try.underlying50 T2.sz b o len x
@[go_sem] theorem T60.bs1 (h : List Blk) (ps : List (Nat × Value)) : buildSliceA Try.prog h 60 1 ps = litR h 1 16 (fillK (fun i => some (i * 16, 16)) (some (repA (Bs 16 (fun _ => 0)) 1)) ps) := bs_parts Try.underlying60 T29.sz T29.ze rfl (by kernel_rfl) (by kernel_rfl) h (by decide) ps
theorem T60.ei : elemInfo Try.prog 60 = some (29, 16, 16) := by kernel_rfl
@[go_sem] theorem T60.app (h : List Blk) (s : Value) (b o m : Nat) : appendA Try.prog h 60 60 s (sl b o m 16) = appR h 16 16 s (srcR (h[b]?) o m 16) := by rw [append_of T60.ei]; simp only [srcA_sl]
@[go_sem] theorem T60.len (b o n es : Nat) : alen Try.prog 60 (sl b o n es) = some (.int .i64 n) := len_sl Try.underlying60 b o n es
@[go_sem] theorem T60.lenN (n c : Nat) : alen Try.prog 60 (.slice none n c) = some (.int .i64 n) := len_nilS Try.underlying60 n c
@[go_sem] theorem T60.ixa (b o len : Nat) (k : IntKind) (n : Int) : idxAddrA Try.prog 60 (sl b o len 16) (.int k n) = ixR (aidx n len) b o 16 := ixa_sl Try.underlying60 T29.sz b o len k n
@[go_sem] theorem T60.ixaB (b o len : Nat) (x : UInt8) : idxAddrA Try.prog 60 (sl b o len 16) (B x) = ixR (aidx x.toNat len) b o 16 := ixa_sl_B Try.underlying60 T29.sz b o len x
@[go_sem] theorem T3.conv5 (h : List Blk) (k : IntKind) (n : Int) : convS Try.prog h 3 5 (.int k n) = some (.int .u8 (IntKind.u8.wrap n)) := conv_int Try.underlying3 Try.underlying5 h k n
theorem T29.aeq (f g : Nat → UInt8) : aeq Try.prog 29 (Bs 16 f) (Bs 16 g) = some (eqB 16 f g) := aeq_bytes (by kernel_rfl) (by kernel_rfl) (by kernel_rfl) (by kernel_rfl) (by kernel_rfl) f g
@[go_sem] theorem T29.eqa (f g : Nat → UInt8) : abin Try.prog .eql 29 (.agg (Bs 16 f).toArray) (.agg (Bs 16 g).toArray) = some (.bool (eqB 16 f g)) := eql_bytes (T29.aeq f g)
@[go_sem] theorem T29.nea (f g : Nat → UInt8) : abin Try.prog .neq 29 (.agg (Bs 16 f).toArray) (.agg (Bs 16 g).toArray) = some (.bool (!eqB 16 f g)) := neq_bytes (T29.aeq f g)
@[go_sem] theorem T69.len (b o n es : Nat) : alen Try.prog 69 (sl b o n es) = some (.int .i64 n) := len_sl Try.underlying69 b o n es
@[go_sem] theorem T69.lenN (n c : Nat) : alen Try.prog 69 (.slice none n c) = some (.int .i64 n) := len_nilS Try.underlying69 n c
@[go_sem] theorem T60.bs0 (h : List Blk) : buildSliceA Try.prog h 60 0 [] = some (sl h.length 0 0 16, h ++ [⟨[], true⟩]) := bs_nil Try.underlying60 T29.sz T29.ze rfl (by kernel_rfl) (by kernel_rfl) h
theorem T29.by' : tbytes Try.prog 29 = some 16 := by kernel_rfl
@[go_sem] theorem T60.ms (h : List Blk) (k k' : IntKind) {n : Int} (h0 : 0 ≤ n) (hr : n * 16 ≤ 140737488355328) : makeSliceA Try.prog h 60 (.int k n) (.int k' n) = some (sl h.length 0 n.toNat 16, h ++ [⟨repA (Bs 16 (fun _ => 0)) n.toNat, true⟩]) := ms_of Try.underlying60 T29.sz T29.by' (by decide) T29.ze rfl (by kernel_rfl) (by kernel_rfl) h k k' h0 hr
@[go_sem] theorem T69.ixa (b o len : Nat) (k : IntKind) (n : Int) : idxAddrA Try.prog 69 (sl b o len 16) (.int k n) = ixR (aidx n len) b o 16 := ixa_sl Try.underlying69 T28.sz b o len k n
@[go_sem] theorem T69.ixaB (b o len : Nat) (x : UInt8) : idxAddrA Try.prog 69 (sl b o len 16) (B x) = ixR (aidx x.toNat len) b o 16 := ixa_sl_B Try.underlying69 T28.sz b o len x
theorem T2.ze : tzero Try.prog 2 = some (.int .i64 0) := by kernel_rfl
@[go_sem] theorem T50.bs0 (h : List Blk) : buildSliceA Try.prog h 50 0 [] = some (sl h.length 0 0 1, h ++ [⟨[], true⟩]) := bs_nil Try.underlying50 T2.sz T2.ze rfl (by kernel_rfl) (by kernel_rfl) h
@[go_sem] theorem T3.conv103 (h : List Blk) (k : IntKind) (n : Int) : convS Try.prog h 3 103 (.int k n) = some (.int .u64 (IntKind.u64.wrap n)) := conv_int Try.underlying3 Try.underlying103 h k n
@[go_sem] theorem T50.bs1 (h : List Blk) (ps : List (Nat × Value)) : buildSliceA Try.prog h 50 1 ps = litR h 1 1 (fillK (fun i => some (i * 1, 1)) (some [.int .i64 0]) ps) := bs_cells Try.underlying50 T2.sz T2.ze rfl rfl h (by decide) ps
theorem T50.ei : elemInfo Try.prog 50 = some (2, 1, 8) := by kernel_rfl
@[go_sem] theorem T50.app (h : List Blk) (s : Value) (b o m : Nat) : appendA Try.prog h 50 50 s (sl b o m 1) = appR h 1 8 s (srcR (h[b]?) o m 1) := by rw [append_of T50.ei]; simp only [srcA_sl]
theorem T50.sz : tsz Try.prog 50 = some 1 := by kernel_rfl
theorem T50.ze : tzero Try.prog 50 = some (.slice none 0 0) := by kernel_rfl
@[go_sem] theorem T75.bs0 (h : List Blk) : buildSliceA Try.prog h 75 0 [] = some (sl h.length 0 0 1, h ++ [⟨[], true⟩]) := bs_nil Try.underlying75 T50.sz T50.ze rfl (by kernel_rfl) (by kernel_rfl) h
@[go_sem] theorem T75.bs1 (h : List Blk) (ps : List (Nat × Value)) : buildSliceA Try.prog h 75 1 ps = litR h 1 1 (fillK (fun i => some (i * 1, 1)) (some [.slice none 0 0]) ps) := bs_cells Try.underlying75 T50.sz T50.ze rfl rfl h (by decide) ps
theorem T75.ei : elemInfo Try.prog 75 = some (50, 1, 24) := by kernel_rfl
@[go_sem] theorem T75.app (h : List Blk) (s : Value) (b o m : Nat) : appendA Try.prog h 75 75 s (sl b o m 1) = appR h 1 24 s (srcR (h[b]?) o m 1) := by rw [append_of T75.ei]; simp only [srcA_sl]
@[go_sem] theorem T75.len (b o n es : Nat) : alen Try.prog 75 (sl b o n es) = some (.int .i64 n) := len_sl Try.underlying75 b o n es
@[go_sem] theorem T75.lenN (n c : Nat) : alen Try.prog 75 (.slice none n c) = some (.int .i64 n) := len_nilS Try.underlying75 n c
@[go_sem] theorem T75.ixa (b o len : Nat) (k : IntKind) (n : Int) : idxAddrA Try.prog 75 (sl b o len 1) (.int k n) = ixR (aidx n len) b o 1 := ixa_sl Try.underlying75 T50.sz b o len k n
@[go_sem] theorem T75.ixaB (b o len : Nat) (x : UInt8) : idxAddrA Try.prog 75 (sl b o len 1) (B x) = ixR (aidx x.toNat len) b o 1 := ixa_sl_B Try.underlying75 T50.sz b o len x
theorem T50.ag : tagg Try.prog 50 = some false := by kernel_rfl
@[go_sem] theorem T50.load (h : List Blk) (b o : Nat) : loadP Try.prog h 50 (pt b o) = loadCell (h[b]?) o := loadP_cell T50.ag h b o
theorem T32.ag : tagg Try.prog 32 = some true := by kernel_rfl
@[go_sem] theorem T32.load (h : List Blk) (b o : Nat) : loadP Try.prog h 32 (pt b o) = loadRow (h[b]?) o 256 := loadP_row T32.ag T32.sz h b o
theorem T33.ag : tagg Try.prog 33 = some true := by kernel_rfl
@[go_sem] theorem T33.load (h : List Blk) (b o : Nat) : loadP Try.prog h 33 (pt b o) = loadRow (h[b]?) o 16 := loadP_row T33.ag T33.sz h b o
theorem T32.ze : tzero Try.prog 32 = some (.agg (Bs 256 (fun _ => 0)).toArray) := by kernel_rfl
@[go_sem] theorem T32.alloc (h : List Blk) : allocA Try.prog h 32 = some (pt h.length 0, h ++ [⟨Bs 256 (fun _ => 0), true⟩]) := alloc_of T32.ze rfl (by kernel_rfl) h
@[go_sem] theorem T22.ixa (b o : Nat) (k : IntKind) (n : Int) : idxAddrA Try.prog 22 (pt b o) (.int k n) = ixR (aidx n 256) b o 1 := ixa_arr Try.underlying22 T5.sz b o k n
@[go_sem] theorem T22.ixaB (b o : Nat) (x : UInt8) : idxAddrA Try.prog 22 (pt b o) (B x) = ixR (aidx x.toNat 256) b o 1 := ixa_arr_B Try.underlying22 T5.sz b o x
@[go_sem] theorem T32.ixa (b o : Nat) (k : IntKind) (n : Int) : idxAddrA Try.prog 32 (pt b o) (.int k n) = ixR (aidx n 256) b o 1 := ixa_arr Try.underlying32 T5.sz b o k n
@[go_sem] theorem T32.ixaB (b o : Nat) (x : UInt8) : idxAddrA Try.prog 32 (pt b o) (B x) = ixR (aidx x.toNat 256) b o 1 := ixa_arr_B Try.underlying32 T5.sz b o x
theorem T33.ze : tzero Try.prog 33 = some (.agg (Bs 16 (fun _ => 0)).toArray) := by kernel_rfl
@[go_sem] theorem T33.alloc (h : List Blk) : allocA Try.prog h 33 = some (pt h.length 0, h ++ [⟨Bs 16 (fun _ => 0), true⟩]) := alloc_of T33.ze rfl (by kernel_rfl) h
theorem T23.sz : tsz Try.prog 23 = some 4 := by kernel_rfl
@[go_sem] theorem T24.ixa (b o : Nat) (k : IntKind) (n : Int) : idxAddrA Try.prog 24 (pt b o) (.int k n) = ixR (aidx n 4) b o 4 := ixa_arr Try.underlying24 T23.sz b o k n
@[go_sem] theorem T24.ixaB (b o : Nat) (x : UInt8) : idxAddrA Try.prog 24 (pt b o) (B x) = ixR (aidx x.toNat 4) b o 4 := ixa_arr_B Try.underlying24 T23.sz b o x
theorem T23.ag : tagg Try.prog 23 = some true := by kernel_rfl
@[go_sem] theorem T23.load (h : List Blk) (b o : Nat) : loadP Try.prog h 23 (pt b o) = loadRow (h[b]?) o 4 := loadP_row T23.ag T23.sz h b o
@[go_sem] theorem T33.ixa (b o : Nat) (k : IntKind) (n : Int) : idxAddrA Try.prog 33 (pt b o) (.int k n) = ixR (aidx n 4) b o 4 := ixa_arr Try.underlying33 T23.sz b o k n
@[go_sem] theorem T33.ixaB (b o : Nat) (x : UInt8) : idxAddrA Try.prog 33 (pt b o) (B x) = ixR (aidx x.toNat 4) b o 4 := ixa_arr_B Try.underlying33 T23.sz b o x
@[go_sem] theorem T23.store (h : List Blk) (b o : Nat) (cs : Array Value) : storeP Try.prog h 23 (.agg cs) (pt b o) = storeRow h b (h[b]?) o 4 cs.toList := storeP_row T23.sz cs h b o
theorem T123.ze : tzero Try.prog 123 = some (.agg (Ne (fun _ => 0) (fun _ => 0) (.pointer none) (.pointer none) 0).toArray) := by kernel_rfl
theorem T123.pl : (Ne (fun _ => 0) (fun _ => 0) (.pointer none) (.pointer none) 0).all plainC = true := by kernel_rfl
theorem T123.places : placesA Try.prog 123 = some [(0, 256), (256, 256), (512, 1), (513, 1), (514, 1)] := by kernel_rfl
@[go_sem] theorem T123.bld (p : Nat × Value) (ps : List (Nat × Value)) : buildA Try.prog 123 (p :: ps) = bldR (fillK (fun i => [(0, 256), (256, 256), (512, 1), (513, 1), (514, 1)][i]?) (some (Ne (fun _ => 0) (fun _ => 0) (.pointer none) (.pointer none) 0)) (p :: ps)) := build_parts_struct T123.ze T123.pl Try.underlying123 T123.places _
@[go_sem] theorem T123.fla4 (b o : Nat) : fieldAddrA Try.prog 123 4 (pt b o) = some (pt b (o + 514)) := fla (f := 4) (o' := 514) (ft := 2) (z := 1) Try.underlying123 rfl rfl rfl T2.sz (by decide) b o
theorem T45.ag : tagg Try.prog 45 = some true := by kernel_rfl
@[go_sem] theorem T45.load (h : List Blk) (b o : Nat) : loadP Try.prog h 45 (pt b o) = loadRow (h[b]?) o 16 := loadP_row T45.ag T45.sz h b o
theorem T45.ze : tzero Try.prog 45 = some (.agg (Bs 16 (fun _ => 0)).toArray) := by kernel_rfl
@[go_sem] theorem T45.alloc (h : List Blk) : allocA Try.prog h 45 = some (pt h.length 0, h ++ [⟨Bs 16 (fun _ => 0), true⟩]) := alloc_of T45.ze rfl (by kernel_rfl) h
@[go_sem] theorem T45.ixa (b o : Nat) (k : IntKind) (n : Int) : idxAddrA Try.prog 45 (pt b o) (.int k n) = ixR (aidx n 16) b o 1 := ixa_arr Try.underlying45 T5.sz b o k n
@[go_sem] theorem T45.ixaB (b o : Nat) (x : UInt8) : idxAddrA Try.prog 45 (pt b o) (B x) = ixR (aidx x.toNat 16) b o 1 := ixa_arr_B Try.underlying45 T5.sz b o x
theorem T130.ze : tzero Try.prog 130 = some (.agg (En (fun _ => 0) (fun _ => 0) (fun _ => 0) (fun _ => 0) (.pointer none) (.pointer none) 0).toArray) := by kernel_rfl
theorem T130.pl : (En (fun _ => 0) (fun _ => 0) (fun _ => 0) (fun _ => 0) (.pointer none) (.pointer none) 0).all plainC = true := by kernel_rfl
theorem T130.places : placesA Try.prog 130 = some [(0, 256), (256, 256), (512, 16), (528, 16), (544, 1), (545, 1), (546, 1)] := by kernel_rfl
@[go_sem] theorem T130.bld (p : Nat × Value) (ps : List (Nat × Value)) : buildA Try.prog 130 (p :: ps) = bldR (fillK (fun i => [(0, 256), (256, 256), (512, 16), (528, 16), (544, 1), (545, 1), (546, 1)][i]?) (some (En (fun _ => 0) (fun _ => 0) (fun _ => 0) (fun _ => 0) (.pointer none) (.pointer none) 0)) (p :: ps)) := build_parts_struct T130.ze T130.pl Try.underlying130 T130.places _
@[go_sem] theorem T130.fla0 (b o : Nat) : fieldAddrA Try.prog 130 0 (pt b o) = some (pt b (o + 0)) := fla (f := 0) (o' := 0) (ft := 32) (z := 256) Try.underlying130 rfl rfl rfl T32.sz (by decide) b o
@[go_sem] theorem T29.ix (l : List Value) (k : IntKind) (n : Int) : indexA Try.prog 29 (.agg l.toArray) (.int k n) = ixC (aidx n 16) l := ix_arr_cell Try.underlying29 T5.sz T5.ag l k n
@[go_sem] theorem T29.ixB (l : List Value) (x : UInt8) : indexA Try.prog 29 (.agg l.toArray) (B x) = ixC (aidx x.toNat 16) l := ix_arr_cell_B Try.underlying29 T5.sz T5.ag l x
@[go_sem] theorem T130.fla2 (b o : Nat) : fieldAddrA Try.prog 130 2 (pt b o) = some (pt b (o + 512)) := fla (f := 2) (o' := 512) (ft := 45) (z := 16) Try.underlying130 rfl rfl rfl T45.sz (by decide) b o
theorem T120.sz : tsz Try.prog 120 = some 1 := by kernel_rfl
@[go_sem] theorem T130.fla4 (b o : Nat) : fieldAddrA Try.prog 130 4 (pt b o) = some (pt b (o + 544)) := fla (f := 4) (o' := 544) (ft := 120) (z := 1) Try.underlying130 rfl rfl rfl T120.sz (by decide) b o
theorem T120.ag : tagg Try.prog 120 = some false := by kernel_rfl
@[go_sem] theorem T120.load (h : List Blk) (b o : Nat) : loadP Try.prog h 120 (pt b o) = loadCell (h[b]?) o := loadP_cell T120.ag h b o
@[go_sem] theorem T29.sla (h : List Blk) (b o : Nat) (lo hi : Option Value) : aslice Try.prog h 29 (pt b o) lo hi = slcArr (h[b]?) b o 16 1 (lowA lo) (highA 16 hi) := sla_arr Try.underlying29 T5.sz h b o lo hi
@[go_sem] theorem T130.fla5 (b o : Nat) : fieldAddrA Try.prog 130 5 (pt b o) = some (pt b (o + 545)) := fla (f := 5) (o' := 545) (ft := 120) (z := 1) Try.underlying130 rfl rfl rfl T120.sz (by decide) b o
@[go_sem] theorem T130.fla3 (b o : Nat) : fieldAddrA Try.prog 130 3 (pt b o) = some (pt b (o + 528)) := fla (f := 3) (o' := 528) (ft := 45) (z := 16) Try.underlying130 rfl rfl rfl T45.sz (by decide) b o
@[go_sem] theorem T130.fla1 (b o : Nat) : fieldAddrA Try.prog 130 1 (pt b o) = some (pt b (o + 256)) := fla (f := 1) (o' := 256) (ft := 32) (z := 256) Try.underlying130 rfl rfl rfl T32.sz (by decide) b o
@[go_sem] theorem T5.conv2 (h : List Blk) (x : UInt8) : convS Try.prog h 5 2 (B x) = some (.int .i64 (IntKind.i64.wrap x.toNat)) := conv_B Try.underlying5 Try.underlying2 h x
theorem T144.ze : tzero Try.prog 144 = some (.agg (Vs 256 (fun _ => .bool false)).toArray) := by kernel_rfl
theorem T144.pl : (Vs 256 (fun _ => .bool false)).all plainC = true := by kernel_rfl
theorem T4.sz : tsz Try.prog 4 = some 1 := by kernel_rfl
@[go_sem] theorem T144.bld0 : buildA Try.prog 144 [] = some (.agg (Vs 256 (fun _ => .bool false)).toArray) := build_nil T144.ze T144.pl Try.underlying144 T4.sz
@[go_sem] theorem T144.alloc (h : List Blk) : allocA Try.prog h 144 = some (pt h.length 0, h ++ [⟨Vs 256 (fun _ => .bool false), true⟩]) := alloc_of T144.ze rfl (by kernel_rfl) h
theorem T144.sz : tsz Try.prog 144 = some 256 := by kernel_rfl
@[go_sem] theorem T144.store (h : List Blk) (b o : Nat) (cs : Array Value) : storeP Try.prog h 144 (.agg cs) (pt b o) = storeRow h b (h[b]?) o 256 cs.toList := storeP_row T144.sz cs h b o
@[go_sem] theorem T144.ixa (b o : Nat) (k : IntKind) (n : Int) : idxAddrA Try.prog 144 (pt b o) (.int k n) = ixR (aidx n 256) b o 1 := ixa_arr Try.underlying144 T4.sz b o k n
@[go_sem] theorem T144.ixaB (b o : Nat) (x : UInt8) : idxAddrA Try.prog 144 (pt b o) (B x) = ixR (aidx x.toNat 256) b o 1 := ixa_arr_B Try.underlying144 T4.sz b o x
theorem T4.ag : tagg Try.prog 4 = some false := by kernel_rfl
@[go_sem] theorem T4.load (h : List Blk) (b o : Nat) : loadP Try.prog h 4 (pt b o) = loadCell (h[b]?) o := loadP_cell T4.ag h b o
@[go_sem] theorem T4.store_bool (h : List Blk) (b o : Nat) (x : Bool) : storeP Try.prog h 4 (.bool x) (pt b o) = storeCell h b (h[b]?) o (.bool x) := storeP_bool T4.sz x h b o
theorem T37.pl : (Bs 8 (fun _ => 0)).all plainC = true := by kernel_rfl
@[go_sem] theorem T37.bld0 : buildA Try.prog 37 [] = some (.agg (Bs 8 (fun _ => 0)).toArray) := build_nil T37.ze T37.pl Try.underlying37 T5.sz
theorem T23.ze : tzero Try.prog 23 = some (.agg (Bs 4 (fun _ => 0)).toArray) := by kernel_rfl
@[go_sem] theorem T23.alloc (h : List Blk) : allocA Try.prog h 23 = some (pt h.length 0, h ++ [⟨Bs 4 (fun _ => 0), true⟩]) := alloc_of T23.ze rfl (by kernel_rfl) h
@[go_sem] theorem T23.ixa (b o : Nat) (k : IntKind) (n : Int) : idxAddrA Try.prog 23 (pt b o) (.int k n) = ixR (aidx n 4) b o 1 := ixa_arr Try.underlying23 T5.sz b o k n
@[go_sem] theorem T23.ixaB (b o : Nat) (x : UInt8) : idxAddrA Try.prog 23 (pt b o) (B x) = ixR (aidx x.toNat 4) b o 1 := ixa_arr_B Try.underlying23 T5.sz b o x
@[go_sem] theorem T32.ix (l : List Value) (k : IntKind) (n : Int) : indexA Try.prog 32 (.agg l.toArray) (.int k n) = ixC (aidx n 256) l := ix_arr_cell Try.underlying32 T5.sz T5.ag l k n
@[go_sem] theorem T32.ixB (l : List Value) (x : UInt8) : indexA Try.prog 32 (.agg l.toArray) (B x) = ixC (aidx x.toNat 256) l := ix_arr_cell_B Try.underlying32 T5.sz T5.ag l x
@[go_sem] theorem T144.sla (h : List Blk) (b o : Nat) (lo hi : Option Value) : aslice Try.prog h 144 (pt b o) lo hi = slcArr (h[b]?) b o 256 1 (lowA lo) (highA 256 hi) := sla_arr Try.underlying144 T4.sz h b o lo hi
theorem T33.pl : (Bs 16 (fun _ => 0)).all plainC = true := by kernel_rfl
@[go_sem] theorem T33.bld0 : buildA Try.prog 33 [] = some (.agg (Bs 16 (fun _ => 0)).toArray) := build_nil T33.ze T33.pl Try.underlying33 T23.sz
theorem T32.pl : (Bs 256 (fun _ => 0)).all plainC = true := by kernel_rfl
@[go_sem] theorem T32.bld0 : buildA Try.prog 32 [] = some (.agg (Bs 256 (fun _ => 0)).toArray) := build_nil T32.ze T32.pl Try.underlying32 T5.sz
theorem T155.ze : tzero Try.prog 155 = some (.agg (Bs 4096 (fun _ => 0)).toArray) := by kernel_rfl
theorem T155.pl : (Bs 4096 (fun _ => 0)).all plainC = true := by kernel_rfl
theorem T153.sz : tsz Try.prog 153 = some 1024 := by kernel_rfl
@[go_sem] theorem T155.bld0 : buildA Try.prog 155 [] = some (.agg (Bs 4096 (fun _ => 0)).toArray) := build_nil T155.ze T155.pl Try.underlying155 T153.sz
@[go_sem] theorem T23.ix (l : List Value) (k : IntKind) (n : Int) : indexA Try.prog 23 (.agg l.toArray) (.int k n) = ixC (aidx n 4) l := ix_arr_cell Try.underlying23 T5.sz T5.ag l k n
@[go_sem] theorem T23.ixB (l : List Value) (x : UInt8) : indexA Try.prog 23 (.agg l.toArray) (B x) = ixC (aidx x.toNat 4) l := ix_arr_cell_B Try.underlying23 T5.sz T5.ag l x
@[go_sem] theorem T155.ixa (b o : Nat) (k : IntKind) (n : Int) : idxAddrA Try.prog 155 (pt b o) (.int k n) = ixR (aidx n 4) b o 1024 := ixa_arr Try.underlying155 T153.sz b o k n
@[go_sem] theorem T155.ixaB (b o : Nat) (x : UInt8) : idxAddrA Try.prog 155 (pt b o) (B x) = ixR (aidx x.toNat 4) b o 1024 := ixa_arr_B Try.underlying155 T153.sz b o x
@[go_sem] theorem T153.ixa (b o : Nat) (k : IntKind) (n : Int) : idxAddrA Try.prog 153 (pt b o) (.int k n) = ixR (aidx n 4) b o 256 := ixa_arr Try.underlying153 T22.sz b o k n
@[go_sem] theorem T153.ixaB (b o : Nat) (x : UInt8) : idxAddrA Try.prog 153 (pt b o) (B x) = ixR (aidx x.toNat 4) b o 256 := ixa_arr_B Try.underlying153 T22.sz b o x
@[go_sem] theorem T37.tap {b o len es : Nat} (hl : 8 ≤ len) : toArrPtrA Try.prog 37 (sl b o len es) = some (pt b o) := tapG Try.underlying37 (by decide) hl
@[go_sem] theorem T37.sla (h : List Blk) (b o : Nat) (lo hi : Option Value) : aslice Try.prog h 37 (pt b o) lo hi = slcArr (h[b]?) b o 8 1 (lowA lo) (highA 8 hi) := sla_arr Try.underlying37 T5.sz h b o lo hi
theorem T139.sz : tsz Try.prog 139 = some 1 := by kernel_rfl
theorem T139.ze : tzero Try.prog 139 = some (.slice none 0 0) := by kernel_rfl
@[go_sem] theorem T167.bs2 (h : List Blk) (ps : List (Nat × Value)) : buildSliceA Try.prog h 167 2 ps = litR h 2 1 (fillK (fun i => some (i * 1, 1)) (some [.slice none 0 0, .slice none 0 0]) ps) := bs_cells Try.underlying167 T139.sz T139.ze rfl rfl h (by decide) ps
@[go_sem] theorem T29.tap {b o len es : Nat} (hl : 16 ≤ len) : toArrPtrA Try.prog 29 (sl b o len es) = some (pt b o) := tapG Try.underlying29 (by decide) hl
@[go_sem] theorem T123.fla0 (b o : Nat) : fieldAddrA Try.prog 123 0 (pt b o) = some (pt b (o + 0)) := fla (f := 0) (o' := 0) (ft := 32) (z := 256) Try.underlying123 rfl rfl rfl T32.sz (by decide) b o
@[go_sem] theorem T123.fla2 (b o : Nat) : fieldAddrA Try.prog 123 2 (pt b o) = some (pt b (o + 512)) := fla (f := 2) (o' := 512) (ft := 120) (z := 1) Try.underlying123 rfl rfl rfl T120.sz (by decide) b o
theorem T157.ze : tzero Try.prog 157 = some (.agg (Vs 16 (fun _ => .bool false)).toArray) := by kernel_rfl
theorem T157.pl : (Vs 16 (fun _ => .bool false)).all plainC = true := by kernel_rfl
@[go_sem] theorem T157.bld0 : buildA Try.prog 157 [] = some (.agg (Vs 16 (fun _ => .bool false)).toArray) := build_nil T157.ze T157.pl Try.underlying157 T4.sz
@[go_sem] theorem T157.alloc (h : List Blk) : allocA Try.prog h 157 = some (pt h.length 0, h ++ [⟨Vs 16 (fun _ => .bool false), true⟩]) := alloc_of T157.ze rfl (by kernel_rfl) h
theorem T157.sz : tsz Try.prog 157 = some 16 := by kernel_rfl
@[go_sem] theorem T157.store (h : List Blk) (b o : Nat) (cs : Array Value) : storeP Try.prog h 157 (.agg cs) (pt b o) = storeRow h b (h[b]?) o 16 cs.toList := storeP_row T157.sz cs h b o
@[go_sem] theorem T157.ixa (b o : Nat) (k : IntKind) (n : Int) : idxAddrA Try.prog 157 (pt b o) (.int k n) = ixR (aidx n 16) b o 1 := ixa_arr Try.underlying157 T4.sz b o k n
@[go_sem] theorem T157.ixaB (b o : Nat) (x : UInt8) : idxAddrA Try.prog 157 (pt b o) (B x) = ixR (aidx x.toNat 16) b o 1 := ixa_arr_B Try.underlying157 T4.sz b o x
theorem T2.by' : tbytes Try.prog 2 = some 8 := by kernel_rfl
@[go_sem] theorem T50.ms (h : List Blk) (k k' : IntKind) {n : Int} (h0 : 0 ≤ n) (hr : n * 8 ≤ 140737488355328) : makeSliceA Try.prog h 50 (.int k n) (.int k' n) = some (sl h.length 0 n.toNat 1, h ++ [⟨Is n.toNat (fun _ => 0), true⟩]) := by rw [← repA_I]; exact ms_of Try.underlying50 T2.sz T2.by' (by decide) T2.ze rfl (by kernel_rfl) (by kernel_rfl) h k k' h0 hr
@[go_sem] theorem T45.ix (l : List Value) (k : IntKind) (n : Int) : indexA Try.prog 45 (.agg l.toArray) (.int k n) = ixC (aidx n 16) l := ix_arr_cell Try.underlying45 T5.sz T5.ag l k n
@[go_sem] theorem T45.ixB (l : List Value) (x : UInt8) : indexA Try.prog 45 (.agg l.toArray) (B x) = ixC (aidx x.toNat 16) l := ix_arr_cell_B Try.underlying45 T5.sz T5.ag l x
@[go_sem] theorem T45.sla (h : List Blk) (b o : Nat) (lo hi : Option Value) : aslice Try.prog h 45 (pt b o) lo hi = slcArr (h[b]?) b o 16 1 (lowA lo) (highA 16 hi) := sla_arr Try.underlying45 T5.sz h b o lo hi
theorem T45.pl : (Bs 16 (fun _ => 0)).all plainC = true := by kernel_rfl
@[go_sem] theorem T45.bld0 : buildA Try.prog 45 [] = some (.agg (Bs 16 (fun _ => 0)).toArray) := build_nil T45.ze T45.pl Try.underlying45 T5.sz
@[go_sem] theorem T139.len (b o n es : Nat) : alen Try.prog 139 (sl b o n es) = some (.int .i64 n) := len_sl Try.underlying139 b o n es
@[go_sem] theorem T139.lenN (n c : Nat) : alen Try.prog 139 (.slice none n c) = some (.int .i64 n) := len_nilS Try.underlying139 n c
@[go_sem] theorem T139.ixa (b o len : Nat) (k : IntKind) (n : Int) : idxAddrA Try.prog 139 (sl b o len 1) (.int k n) = ixR (aidx n len) b o 1 := ixa_sl Try.underlying139 T5.sz b o len k n
@[go_sem] theorem T139.ixaB (b o len : Nat) (x : UInt8) : idxAddrA Try.prog 139 (sl b o len 1) (B x) = ixR (aidx x.toNat len) b o 1 := ixa_sl_B Try.underlying139 T5.sz b o len x
@[go_sem] theorem T2.conv5 (h : List Blk) (k : IntKind) (n : Int) : convS Try.prog h 2 5 (.int k n) = some (.int .u8 (IntKind.u8.wrap n)) := conv_int Try.underlying2 Try.underlying5 h k n
@[go_sem] theorem T9.ix (s : ByteArray) (k : IntKind) (n : Int) : indexA Try.prog 9 (.string s) (.int k n) = chrC (aidx n s.size) s := ix_str Try.underlying9 s k n
@[go_sem] theorem T5.conv3 (h : List Blk) (x : UInt8) : convS Try.prog h 5 3 (B x) = some (.int .i64 (IntKind.i64.wrap x.toNat)) := conv_B Try.underlying5 Try.underlying3 h x
@[go_sem] theorem T2.conv163 (h : List Blk) (k : IntKind) (n : Int) : convS Try.prog h 2 163 (.int k n) = some (.int .u64 (IntKind.u64.wrap n)) := conv_int Try.underlying2 Try.underlying163 h k n
@[go_sem] theorem T167.len (b o n es : Nat) : alen Try.prog 167 (sl b o n es) = some (.int .i64 n) := len_sl Try.underlying167 b o n es
@[go_sem] theorem T167.lenN (n c : Nat) : alen Try.prog 167 (.slice none n c) = some (.int .i64 n) := len_nilS Try.underlying167 n c
@[go_sem] theorem T167.ixa (b o len : Nat) (k : IntKind) (n : Int) : idxAddrA Try.prog 167 (sl b o len 1) (.int k n) = ixR (aidx n len) b o 1 := ixa_sl Try.underlying167 T139.sz b o len k n
@[go_sem] theorem T167.ixaB (b o len : Nat) (x : UInt8) : idxAddrA Try.prog 167 (sl b o len 1) (B x) = ixR (aidx x.toNat len) b o 1 := ixa_sl_B Try.underlying167 T139.sz b o len x
theorem T139.ag : tagg Try.prog 139 = some false := by kernel_rfl
@[go_sem] theorem T139.load (h : List Blk) (b o : Nat) : loadP Try.prog h 139 (pt b o) = loadCell (h[b]?) o := loadP_cell T139.ag h b o
theorem T139.ei : elemInfo Try.prog 139 = some (5, 1, 1) := by kernel_rfl
@[go_sem] theorem T139.app (h : List Blk) (s : Value) (b o m : Nat) : appendA Try.prog h 139 139 s (sl b o m 1) = appR h 1 1 s (srcR (h[b]?) o m 1) := by rw [append_of T139.ei]; simp only [srcA_sl]
@[go_sem] theorem T139.slaN (h : List Blk) (lo hi : Option Value) : aslice Try.prog h 139 (.slice none 0 0) lo hi = slcNil (lowA lo) (highA 0 hi) := sla_nil Try.underlying139 T5.sz h lo hi
@[go_sem] theorem T139.sla (h : List Blk) (b o len : Nat) (lo hi : Option Value) : aslice Try.prog h 139 (sl b o len 1) lo hi = slcSl b o 1 (lowA lo) (highA len hi) := sla_sl Try.underlying139 T5.sz h b o len lo hi
@[go_sem] theorem T149.len (b o n es : Nat) : alen Try.prog 149 (sl b o n es) = some (.int .i64 n) := len_sl Try.underlying149 b o n es
@[go_sem] theorem T149.lenN (n c : Nat) : alen Try.prog 149 (.slice none n c) = some (.int .i64 n) := len_nilS Try.underlying149 n c
@[go_sem] theorem T149.ixa (b o len : Nat) (k : IntKind) (n : Int) : idxAddrA Try.prog 149 (sl b o len 1) (.int k n) = ixR (aidx n len) b o 1 := ixa_sl Try.underlying149 T4.sz b o len k n
@[go_sem] theorem T149.ixaB (b o len : Nat) (x : UInt8) : idxAddrA Try.prog 149 (sl b o len 1) (B x) = ixR (aidx x.toNat len) b o 1 := ixa_sl_B Try.underlying149 T4.sz b o len x
theorem T4.isb : isBoolT Try.prog 4 = true := by kernel_rfl
@[go_sem] theorem T4.eql (a b : Bool) : abin Try.prog .eql 4 (.bool a) (.bool b) = some (.bool (a == b)) := eql_bool T4.isb a b
@[go_sem] theorem T4.neq (a b : Bool) : abin Try.prog .neq 4 (.bool a) (.bool b) = some (.bool (!(a == b))) := neq_bool T4.isb a b
@[go_sem] theorem T139.cap (c : Nat) : acap Try.prog 139 (.slice none 0 c) = some (.int .i64 c) := cap_nil Try.underlying139 c
theorem T5.ze : tzero Try.prog 5 = some (B 0) := by kernel_rfl
@[go_sem] theorem T139.appz3 (h : List Blk) {n : Int} (h0 : 0 < n) (hr : n * 1 ≤ 140737488355328) : appendA Try.prog h 139 3 (.slice none 0 0) (.int .i64 n) = some (sl h.length 0 n.toNat 1, h ++ [⟨Bs n.toNat (fun _ => 0), true⟩]) := by rw [← repA_B]; exact append_zeros T139.ei (by decide) Try.underlying3 T5.sz T5.ze rfl (by kernel_rfl) (by kernel_rfl) h h0 hr
theorem mixedOk : Try.prog.follows .mixedOrders = true := by kernel_rfl

end Go.Proofs.Ytjaejplnmgfehaa
