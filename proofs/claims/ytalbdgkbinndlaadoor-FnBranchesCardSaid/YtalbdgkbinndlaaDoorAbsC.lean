/- The abstract machine, part C: each operation that only looks, run in the model, gives what the abstract one gives. Generic: no program in sight. -/
import Derived.Test.YtalbdgkbinndlaaDoorAbsB
namespace Go.Abs
set_option linter.unusedSimpArgs false
set_option linter.unusedVariables false
set_option maxRecDepth 20000
set_option maxHeartbeats 1000000
section
variable {P : Program} {E : Emb} {t : List Value} {h : List Blk} {w : World} {a : Act}

theorem aidx_spec {n : Int} {len i : Nat} (h : aidx n len = some i) : 0 ≤ n ∧ n < len ∧ i = n.toNat ∧ i < len := by
  unfold aidx at h
  split at h
  · rename_i hn; cases h; exact ⟨hn.1, hn.2, rfl, by omega⟩
  · cases h

theorem VR.agg {n : Nat} {cs : Array Value} {v : Value} (h : VR E n (.agg cs) v) : ∃ ds, v = .agg ds ∧ P2 (CR E n) cs.toList ds.toList := h

theorem VR.slice {n : Nat} {p : Addr} {len es : Nat} {v : Value} (h : VR E n (.slice (some p) len es) v) : p.spot = none ∧ p.block < n ∧ ∃ a' cap, v = .slice (some a') len cap ∧ len ≤ cap ∧
      (cap = 0 ∨ (a' = E.at p.block p.off ∧ p.off + cap * es ≤ E.room p.block)) := h

theorem bind_some' {α β : Type} {x : Option α} {f : α → Option β} {b : β} (h : x.bind f = some b) : ∃ a, x = some a ∧ f a = some b := by
  cases x with
  | none => cases h
  | some a => exact ⟨a, rfl, h⟩

theorem map_some' {α β : Type} {x : Option α} {f : α → β} {b : β} (h : x.map f = some b) : ∃ a, x = some a ∧ f a = b := by
  cases x with
  | none => cases h
  | some a => exact ⟨a, rfl, by simpa using h⟩

theorem ite_some {α : Type} {c : Prop} [Decidable c] {x : α} {b : α} (h : (if c then some x else none) = some b) : c ∧ x = b := by
  split at h
  · rename_i hc; exact ⟨hc, by simpa using h⟩
  · cases h

theorem ptrA_spec {v : Value} {p : Addr} (h : ptrA v = some p) : v = .pointer (some p) := by
  unfold ptrA at h; split at h <;> simp_all
theorem intA_spec {v : Value} {n : Int} (h : intA v = some n) : ∃ k, v = .int k n := by
  unfold intA at h; split at h <;> simp_all
theorem boolG_some {v : Value} {b : Bool} (h : boolG v = some (some b)) : v = .bool b := by
  unfold boolG at h
  split at h
  · cases h; rfl
  · split at h <;> cases h
  · cases h
theorem boolG_none {v : Value} (h : boolG v = some none) : v = .tuple #[] := by
  unfold boolG at h
  split at h
  · cases h
  · split at h
    · rename_i vs hz; rw [Array.size_eq_zero_iff.1 hz]
    · cases h
  · cases h
theorem boolA_spec {v : Value} {b : Bool} (h : boolA v = some b) : v = .bool b := by
  unfold boolA at h; split at h <;> simp_all
theorem aggA_spec {v : Value} {cs : List Value} (h : aggA v = some cs) : ∃ xs, v = .agg xs ∧ xs.toList = cs := by
  unfold aggA at h; split at h <;> simp_all
theorem strA_spec {v : Value} {s : ByteArray} (h : strA v = some s) : v = .string s := by
  unfold strA at h; split at h <;> simp_all
theorem slA_spec {v : Value} {s : Addr × Nat × Nat} (h : slA v = some s) : v = .slice (some s.1) s.2.1 s.2.2 := by
  unfold slA at h; split at h
  · cases h; rfl
  · cases h
theorem fieldsA_spec {S : TypeId} {fs : Array Field} (h : fieldsA P S = some fs) : P.underlying S = some (.struct fs) := by
  unfold fieldsA at h; split at h <;> simp_all

theorem run_low {x : Option Value} {x' : Option Value} {n l y : Nat} (hx : ∀ u, x = some u → ∃ u', x' = some u' ∧ VR E n u u') (hx0 : x = none → x' = none)
    (hi : lowA x = some l) (hl : l ≤ y) (code : BoundsCode) (w : World) :
    (match x' with | some v => Instr.sliceBound v y code | none => (pure 0 : Sem Nat)).run P w = .ok l w := by
  cases x with
  | none =>
    rw [hx0 rfl]
    cases hi; rfl
  | some u =>
    obtain ⟨u', rfl, hv⟩ := hx u rfl
    obtain ⟨m, hm, hi⟩ := bind_some' hi
    obtain ⟨k, rfl⟩ := intA_spec hm
    obtain ⟨h0, rfl⟩ := ite_some hi
    rw [hv.int]
    exact run_sliceBound w k m y code h0 (by omega)

theorem highA_le {x : Option Value} {d i : Nat} (h : highA d x = some i) : i ≤ d := by
  cases x with
  | none => cases h; exact Nat.le_refl _
  | some u =>
    obtain ⟨m, hm, hi⟩ := bind_some' h
    have := (aidx_spec hi).2.2.2
    omega

theorem run_high {x : Option Value} {x' : Option Value} {n d i y : Nat} (hx : ∀ u, x = some u → ∃ u', x' = some u' ∧ VR E n u u') (hx0 : x = none → x' = none)
    (hi : highA d x = some i) (hd : d ≤ y) (code : BoundsCode) (w : World) :
    (match x' with | some v => Instr.sliceBound v y code | none => (pure d : Sem Nat)).run P w = .ok i w := by
  cases x with
  | none => rw [hx0 rfl]; cases hi; rfl
  | some u =>
    obtain ⟨u', rfl, hv⟩ := hx u rfl
    obtain ⟨m, hm, hi⟩ := bind_some' hi
    obtain ⟨k, rfl⟩ := intA_spec hm
    obtain ⟨h0, h1, rfl, h3⟩ := aidx_spec hi
    rw [hv.int]
    exact run_sliceBound w k m y code h0 (by omega)

theorem run_bounds {isSlice : Bool} {lo hi lo' hi' : Option Value} {n len cap l i : Nat} (hlo : ∀ u, lo = some u → ∃ u', lo' = some u' ∧ VR E n u u') (hlo0 : lo = none → lo' = none)
    (hhi : ∀ u, hi = some u → ∃ u', hi' = some u' ∧ VR E n u u') (hhi0 : hi = none → hi' = none) (hc : len ≤ cap)
    (hl : lowA lo = some l) (hh : highA len hi = some i) (hle : l ≤ i) (w : World) :
    (Instr.sliceBounds isSlice len cap lo' hi' none).run P w = .ok (l, i, cap) w := by
  have h1 := fun code => run_high (P := P) hhi hhi0 hh hc code w
  have h2 := fun code => run_low (P := P) hlo hlo0 hl hle code w
  unfold Instr.sliceBounds
  cases hi' <;> cases lo' <;> simp only [Sem.run_bind, Sem.run_pure, Result.andThen_ok, Option.isSome_none, Bool.false_eq_true, if_false] at h1 h2 ⊢
  · cases h1 .index; cases h2 .index; rfl
  · cases h1 .index; simp only [h2, Result.andThen_ok]
  · cases h2 .index; simp only [h1, Result.andThen_ok]
  · simp only [h1, h2, Result.andThen_ok]

theorem opt_map {n : Nat} (ht : P2 (VR E n) t a.tmps.toList) (x : Option Operand) : (∀ u, x.map (ev t) = some u → ∃ u', x.map a.eval = some u' ∧ VR E n u u') ∧ (x.map (ev t) = none → x.map a.eval = none) := by
  cases x with
  | none => exact ⟨(fun u hu => by cases hu), fun _ => rfl⟩
  | some x => exact ⟨(fun u hu => by simp at hu; subst hu; exact ⟨_, rfl, ev_sound ht x⟩), (fun h => by cases h)⟩

theorem aslice_sound {T : TypeId} {x x' v : Value} {lo hi : Option Operand} (hr : HR E h w) (ht : P2 (VR E h.length) t a.tmps.toList) (hx : VR E h.length x x')
    (hs : aslice P h T x (lo.map (ev t)) (hi.map (ev t)) = some v) :
    ∃ v', VR E h.length v v' ∧ ∀ w', (Instr.sliceAt T x' (lo.map a.eval) (hi.map a.eval) none).run P w' = .ok v' w' := by
  obtain ⟨hlo, hlo0⟩ := opt_map ht lo
  obtain ⟨hhi, hhi0⟩ := opt_map ht hi
  unfold aslice at hs
  obtain ⟨l, hl, hs⟩ := bind_some' hs
  split at hs
  · rename_i n e hu
    obtain ⟨p, hp, hs⟩ := bind_some' hs
    obtain ⟨i, hi', hs⟩ := bind_some' hs
    obtain ⟨z, hz, hs⟩ := bind_some' hs
    obtain ⟨k, hk, hs⟩ := bind_some' hs
    obtain ⟨⟨hle, hfit⟩, rfl⟩ := ite_some hs
    rw [ptrA_spec hp] at hx
    obtain ⟨hb, rfl⟩ := hx.ptr
    have hroom := hr.room _ _ hk
    have hbd := fun w' => run_bounds (P := P) (isSlice := false) hlo hlo0 hhi hhi0 (Nat.le_refl n) hl hi' hle w'
    have hin := highA_le hi'
    refine ⟨.slice (some (if n = l then (E.at p.block p.off) else Addr.add (E.at p.block p.off) (l * z))) (i - l) (n - l), ⟨rfl, hb, _, _, rfl, by omega, ?_⟩, fun w' => ?_⟩
    · by_cases hnl : n = l
      · left; omega
      · right
        rw [if_neg hnl, at_add]
        refine ⟨rfl, ?_⟩
        have : (n - l) * z = n * z - l * z := Nat.sub_mul ..
        have : l * z ≤ n * z := Nat.mul_le_mul_right _ (by omega)
        simp only; omega
    · unfold Instr.sliceAt
      simp only [Sem.run_bind, run_underlying hu, Result.andThen_ok, Instr.sureAddr, Sem.run_pure, hbd, run_sizeOf' hz]
  · rename_i e hu
    split at hs
    · obtain ⟨i, hi', hs⟩ := bind_some' hs
      obtain ⟨z, hz, hs⟩ := bind_some' hs
      obtain ⟨hle, rfl⟩ := ite_some hs
      rw [show x' = .slice none 0 0 from hx]
      have hbd := fun w' => run_bounds (P := P) (isSlice := true) hlo hlo0 hhi hhi0 (Nat.le_refl 0) hl hi' hle w'
      have hin := highA_le hi'
      have hl0 : l = 0 := by omega
      have hi0 : i = 0 := by omega
      subst hl0 hi0
      refine ⟨.slice none 0 0, rfl, fun w' => ?_⟩
      unfold Instr.sliceAt
      simp only [Sem.run_bind, run_underlying hu, Result.andThen_ok]
      unfold Instr.slice
      simp only [Sem.run_bind, run_underlying hu, Result.andThen_ok, hbd, run_sizeOf' hz, Sem.run_pure]
      rfl
    · rename_i hno
      obtain ⟨⟨p, len, es⟩, hp, hs⟩ := bind_some' hs
      obtain ⟨i, hi', hs⟩ := bind_some' hs
      obtain ⟨z, hz, hs⟩ := bind_some' hs
      obtain ⟨⟨hle, rfl⟩, rfl⟩ := ite_some hs
      rw [slA_spec hp] at hx
      obtain ⟨_, hb, a', cap, rfl, hlc, hcap⟩ := hx.slice
      simp only at *
      have hbd := fun w' => run_bounds (P := P) (isSlice := true) hlo hlo0 hhi hhi0 hlc hl hi' hle w'
      have hin := highA_le hi'
      refine ⟨.slice (if cap = l then some a' else (some a').map (·.add (l * z))) (i - l) (cap - l), ⟨rfl, hb, (if cap = l then a' else a'.add (l * z)), cap - l, by split <;> rfl, by omega, ?_⟩, fun w' => ?_⟩
      · by_cases hnl : cap = l
        · left; omega
        · right
          rcases hcap with hcap | ⟨rfl, hroom⟩
          · omega
          · rw [if_neg hnl, at_add]
            refine ⟨rfl, ?_⟩
            have : (cap - l) * z = cap * z - l * z := Nat.sub_mul ..
            have : l * z ≤ cap * z := Nat.mul_le_mul_right _ (by omega)
            simp only; omega
      · unfold Instr.sliceAt
        simp only [Sem.run_bind, run_underlying hu, Result.andThen_ok]
        unfold Instr.slice
        simp only [Sem.run_bind, run_underlying hu, Result.andThen_ok, hbd, run_sizeOf' hz, Sem.run_pure]
  · rename_i hu
    obtain ⟨s, hp, hs⟩ := bind_some' hs
    obtain ⟨i, hi', hs⟩ := bind_some' hs
    obtain ⟨hle, rfl⟩ := ite_some hs
    rw [strA_spec hp] at hx
    rw [hx.string]
    have hbd := fun w' => run_bounds (P := P) (isSlice := false) hlo hlo0 hhi hhi0 (Nat.le_refl s.size) hl hi' hle w'
    refine ⟨_, rfl, fun w' => ?_⟩
    unfold Instr.sliceAt
    simp only [Sem.run_bind, run_underlying hu, Result.andThen_ok]
    unfold Instr.slice
    simp only [Sem.run_bind, run_underlying hu, Result.andThen_ok, Option.isSome_none, Bool.false_eq_true, if_false, hbd, Sem.run_pure]
  · cases hs

theorem alen_sound {T ty : TypeId} {n : Nat} {x x' v : Value} (hx : VR E n x x') (hl : alen P T x = some v) :
    VR E n v v ∧ ∀ w, (Builtin.len_ #[T] ty #[x']).run P w = .ok v w := by
  unfold alen at hl
  split at hl
  · rename_i hu
    obtain ⟨s, hs, rfl⟩ := map_some' hl
    rw [strA_spec hs] at hx
    rw [hx.string]; exact ⟨rfl, fun w => by simp [Builtin.len_, run_underlying hu, goInt]⟩
  · rename_i hu; cases hl; exact ⟨rfl, fun w => by simp [Builtin.len_, run_underlying hu, goInt]⟩
  · rename_i e hu
    obtain ⟨m, hm, rfl⟩ := map_some' hl
    unfold lenA at hm
    split at hm
    · rename_i b l c
      cases hm
      cases b with
      | none => rw [show x' = .slice none l c from hx]; exact ⟨rfl, fun w => by simp [Builtin.len_, run_underlying hu, goInt]⟩
      | some p =>
        obtain ⟨_, _, a', cap, rfl, _⟩ := hx.slice
        exact ⟨rfl, fun w => by simp [Builtin.len_, run_underlying hu, goInt]⟩
    · cases hm
  · cases hl

theorem run_wrap {x : Sem Value} {v : Value} {w : World} (h : x.run P w = .ok v w) : (do pure (Next.value (← x)) : Sem Next).run P w = .ok (.value v) w := by
  simp [h]

theorem minmax_sound {n : Nat} {k : IntKind} {p q : Int} {x' y' : Value} (hx : VR E n (.int k p) x') {k' : IntKind} (hy : VR E n (.int k' q) y') (ty : TypeId) (ts : Array TypeId) (w : World) :
    (Builtin.min_ ts ty #[x', y']).run P w = .ok (.int k (if q < p then q else p)) w ∧ (Builtin.max_ ts ty #[x', y']).run P w = .ok (.int k (if q > p then q else p)) w := by
  rw [hx.int, hy.int]
  exact ⟨by simp [Builtin.min_, Builtin.min2], by simp [Builtin.max_, Builtin.max2]⟩

theorem run_builtin {c : Call} {b : Builtin} {ty : TypeId} {v : Value} {w : World} {xs : List Operand} {ts : List TypeId} (hc : c.callee = .builtin b) (hxs : c.args.toList = xs) (hts : c.argTypes.toList = ts)
    (h : ∀ consts, (builtin b ts.toArray ty consts (xs.map a.eval).toArray).run P w = .ok (.value v) w) :
    ((do let d ← resolve a.eval c ty; invoke d.target d.args) : Sem Next).run P w = .ok (.value v) w := by
  obtain ⟨callee, ⟨args⟩, ⟨types⟩⟩ := c
  simp only at hc hxs hts
  subst hc hxs hts
  have := h ((args.toArray).map fun | .const _ => true | _ => false)
  simp only [resolve, Sem.run_bind, Sem.run_pure, Result.andThen_ok, invoke, List.map_toArray] at this ⊢
  exact this

theorem bop_sound {c : Call} {b : Builtin} {ty : TypeId} {n : Nat} {v : Value} (ht : P2 (VR E n) t a.tmps.toList) (hc : c.callee = .builtin b) (hq : bop P t b c.args.toList c.argTypes.toList = some v) :
    VR E n v v ∧ ∀ w, ((do let d ← resolve a.eval c ty; invoke d.target d.args) : Sem Next).run P w = .ok (.value v) w := by
  have evs := fun x => ev_sound ht x
  unfold bop at hq
  split at hq
  · split at hq
    · rename_i x T hx hT
      obtain ⟨hv, hrun⟩ := alen_sound (P := P) (ty := ty) (evs x) hq
      refine ⟨hv, fun w => run_builtin hc hx hT fun consts => ?_⟩
      exact run_wrap (hrun w)
    · cases hq
  · split at hq
    · rename_i x T hx hT
      unfold acap at hq
      split at hq
      · rename_i c' he
        split at hq
        · rename_i hb
          cases hq
          obtain ⟨e, hu⟩ := isSliceT_spec hb
          have hv := evs x
          rw [he] at hv
          have hv' : a.eval x = .slice none 0 c' := hv
          refine ⟨rfl, fun w => run_builtin hc hx hT fun consts => ?_⟩
          simp only [List.map_cons, List.map_nil, hv']
          exact run_wrap (show (Builtin.cap_ #[T] ty #[.slice none 0 c']).run P w = _ by simp [Builtin.cap_, run_underlying hu, goInt])
        · cases hq
      · cases hq
    · cases hq
  · split at hq
    · rename_i x y hx
      unfold amin at hq
      split at hq
      · rename_i k p h1
        obtain ⟨q, h2, rfl⟩ := map_some' hq
        obtain ⟨k', h2⟩ := intA_spec h2
        refine ⟨rfl, fun w => run_builtin hc hx rfl fun consts => ?_⟩
        exact run_wrap (minmax_sound (h1 ▸ evs x) (h2 ▸ evs y) ty _ w).1
      · cases hq
    · cases hq
  · split at hq
    · rename_i x y hx
      unfold amax at hq
      split at hq
      · rename_i k p h1
        obtain ⟨q, h2, rfl⟩ := map_some' hq
        obtain ⟨k', h2⟩ := intA_spec h2
        refine ⟨rfl, fun w => run_builtin hc hx rfl fun consts => ?_⟩
        exact run_wrap (minmax_sound (h1 ▸ evs x) (h2 ▸ evs y) ty _ w).2
      · cases hq
    · cases hq
  · cases hq

theorem aun_sound {op : UnOp} {n : Nat} {x x' v : Value} (hx : VR E n x x') (h : aun op x = some v) : VR E n v v ∧ ∀ w, (Op.unary op x').run P w = .ok v w := by
  unfold aun at h
  split at h
  · cases h; rw [hx.int]; exact ⟨rfl, fun w => by simp [Op.unary, Op.intArith]⟩
  · cases h; rw [hx.int]; exact ⟨rfl, fun w => by simp [Op.unary, Op.intBits, bits]⟩
  · cases h; rw [hx.bool]; exact ⟨rfl, fun w => by simp [Op.unary]⟩
  · cases h

theorem convA_sound {src dst : TypeId} {n : Nat} {x x' v : Value} (hx : VR E n x x') (h : convA P src dst x = some v) : VR E n v v ∧ ∀ w, (convert src dst x').run P w = .ok v w := by
  unfold convA at h
  obtain ⟨d, hs, h⟩ := bind_some' h
  split at h
  · rename_i k hd
    obtain ⟨m, hm, rfl⟩ := map_some' h
    obtain ⟨k', rfl⟩ := intA_spec hm
    rw [hx.int]
    exact ⟨rfl, fun w => by simp [convert, run_underlying hs, run_underlying hd, Conv.intToInt]⟩
  · cases h

theorem idxAddrA_sound {T : TypeId} {n : Nat} {x x' i i' v : Value} (hx : VR E n x x') (hi : VR E n i i') (h : idxAddrA P T x i = some v) :
    ∃ v', VR E n v v' ∧ ∀ w, (Instr.indexAt T x' i').run P w = .ok v' w := by
  unfold idxAddrA at h
  split at h
  · rename_i len e hu
    obtain ⟨p, hp, h⟩ := bind_some' h
    obtain ⟨m, hm, h⟩ := bind_some' h
    obtain ⟨j, hj, h⟩ := bind_some' h
    obtain ⟨z, hz, rfl⟩ := map_some' h
    obtain ⟨k, rfl⟩ := intA_spec hm
    rw [ptrA_spec hp] at hx
    obtain ⟨hb, rfl⟩ := hx.ptr
    rw [hi.int]
    obtain ⟨h0, h1, rfl, _⟩ := aidx_spec hj
    exact ⟨.pointer (some (E.at p.block (p.off + m.toNat * z))), ⟨rfl, hb, rfl⟩, fun w' => by simp [Instr.indexAt, run_underlying hu, asIntOf, Instr.sureAddr, h0, h1, run_sizeOf' hz, at_add]⟩
  · rename_i e hu
    obtain ⟨⟨p, len, es⟩, hp, h⟩ := bind_some' h
    obtain ⟨m, hm, h⟩ := bind_some' h
    obtain ⟨j, hj, h⟩ := bind_some' h
    obtain ⟨z, hz, h⟩ := bind_some' h
    obtain ⟨rfl, rfl⟩ := ite_some h
    obtain ⟨k, rfl⟩ := intA_spec hm
    rw [slA_spec hp] at hx
    obtain ⟨_, hb, a', cap, rfl, hlc, hcap⟩ := hx.slice
    rw [hi.int]
    obtain ⟨h0, h1, rfl, _⟩ := aidx_spec hj
    simp only at *
    rcases hcap with hcap | ⟨rfl, _⟩
    · omega
    · exact ⟨.pointer (some (E.at p.block (p.off + m.toNat * z))), ⟨rfl, hb, rfl⟩, fun w' => by simp [Instr.indexAt, run_underlying hu, asIntOf, h0, h1, run_sizeOf' hz, at_add]⟩
  · cases h

theorem indexA_sound {T : TypeId} {n : Nat} {x x' i i' v : Value} (hx : VR E n x x') (hi : VR E n i i') (h : indexA P T x i = some v) :
    ∃ v', VR E n v v' ∧ ∀ w, (Instr.index T x' i').run P w = .ok v' w := by
  unfold indexA at h
  split at h
  · rename_i len e hu
    obtain ⟨cs, hp, h⟩ := bind_some' h
    obtain ⟨m, hm, h⟩ := bind_some' h
    obtain ⟨j, hj, h⟩ := bind_some' h
    obtain ⟨z, hz, h⟩ := bind_some' h
    obtain ⟨k, rfl⟩ := intA_spec hm
    obtain ⟨xs, rfl, rfl⟩ := aggA_spec hp
    obtain ⟨ds, rfl, hp⟩ := hx.agg
    rw [hi.int]
    obtain ⟨h0, h1, rfl, _⟩ := aidx_spec hj
    obtain ⟨v', hv, hrun⟩ := partA_sound hp h
    exact ⟨v', hv, fun w' => by simp [Instr.index, run_underlying hu, asIntOf, h0, h1, run_sizeOf' hz, hrun]⟩
  · rename_i hu
    obtain ⟨s, hp, h⟩ := bind_some' h
    obtain ⟨m, hm, h⟩ := bind_some' h
    obtain ⟨j, hj, h⟩ := bind_some' h
    obtain ⟨b, hb, rfl⟩ := map_some' h
    obtain ⟨k, rfl⟩ := intA_spec hm
    rw [strA_spec hp] at hx
    rw [hx.string, hi.int]
    obtain ⟨h0, h1, rfl, h3⟩ := aidx_spec hj
    have hb' : s[m.toNat]? = some b := by
      rw [getElem?_pos s m.toNat h3]
      exact congrArg some (Array.getElem?_eq_some_iff.1 hb).2
    exact ⟨_, rfl, fun w' => by simp [Instr.index, run_underlying hu, asIntOf, h0, hb']⟩
  · cases h

theorem toArrPtrA_sound {T : TypeId} {n : Nat} {x x' v : Value} (hx : VR E n x x') (h : toArrPtrA P T x = some v) :
    ∃ v', VR E n v v' ∧ ∀ w, (Instr.arrayAt T x').run P w = .ok v' w := by
  unfold toArrPtrA at h
  split at h
  · rename_i m e hu
    obtain ⟨⟨p, len, es⟩, hp, h⟩ := bind_some' h
    obtain ⟨⟨h0, h1⟩, rfl⟩ := ite_some h
    rw [slA_spec hp] at hx
    obtain ⟨hs, hb, a', cap, rfl, hlc, hcap⟩ := hx.slice
    simp only at *
    rcases hcap with hcap | ⟨rfl, _⟩
    · omega
    · exact ⟨_, ⟨hs, hb, rfl⟩, fun w' => by simp [Instr.arrayAt, run_underlying hu, Nat.not_lt.2 h1]⟩
  · cases h

theorem cellsA_sound {n : Nat} {u v : Value} {cs : List Value} (hv : VR E n u v) (hc : cellsA u = some cs) : P2 (CR E n) cs v.cells.toList := by
  cases u with
  | agg xs => obtain ⟨ds, rfl, hp⟩ := hv.agg; cases hc; exact hp
  | tuple _ => cases hc
  | chan r => cases r with
    | none => cases hc
    | some r => cases hc; rw [show v = .chan (some r) from hv]; exact P2.cons rfl P2.nil
  | bool _ => cases hc; rw [show v = _ from hv]; exact P2.cons rfl P2.nil
  | int _ _ => cases hc; rw [show v = _ from hv]; exact P2.cons rfl P2.nil
  | float _ _ => cases hc; rw [show v = _ from hv]; exact P2.cons rfl P2.nil
  | complex _ _ _ => cases hc; rw [show v = _ from hv]; exact P2.cons rfl P2.nil
  | string _ => cases hc; rw [show v = _ from hv]; exact P2.cons rfl P2.nil
  | map _ => cases hc; rw [show v = _ from hv]; exact P2.cons rfl P2.nil
  | func _ _ _ => cases hc; rw [show v = _ from hv]; exact P2.cons rfl P2.nil
  | nilFunc => cases hc; rw [show v = _ from hv]; exact P2.cons rfl P2.nil
  | iface _ _ => cases hc; rw [show v = _ from hv]; exact P2.cons rfl P2.nil
  | nilIface => cases hc; rw [show v = _ from hv]; exact P2.cons rfl P2.nil
  | pointer a => cases a with
    | none => cases hc; rw [show v = _ from hv]; exact P2.cons rfl P2.nil
    | some a => cases hc; obtain ⟨_, rfl⟩ := hv.ptr; exact P2.cons hv P2.nil
  | slice a l c => cases a with
    | none => cases hc; rw [show v = _ from hv]; exact P2.cons rfl P2.nil
    | some a => cases hc; obtain ⟨_, _, a', cap, rfl, _⟩ := hv.slice; exact P2.cons hv P2.nil

theorem foldl_splice (off : Nat) : ∀ (l : List Value) (k : Nat) (cells : Array Value), off + k + l.length ≤ cells.size →
    ((l.zipIdx k).foldl (fun cs (x : Value × Nat) => cs.setIfInBounds (off + x.2) x.1) cells).toList = splice cells.toList (off + k) l
  | [], k, cells, h => by simp [splice]
  | c :: l, k, cells, h => by
    simp only [List.length_cons] at h
    simp only [List.zipIdx_cons, List.foldl_cons]
    rw [foldl_splice off l (k + 1) _ (by simp; omega)]
    apply List.ext_getElem?
    intro i
    rw [splice_get (by simp; omega), splice_get (by simp; omega), Array.toList_setIfInBounds, List.getElem?_set]
    by_cases h1 : off + (k + 1) ≤ i ∧ i < off + (k + 1) + l.length
    · rw [if_pos h1, if_pos (by simp; omega)]
      rw [show i - (off + k) = (i - (off + (k + 1))) + 1 by omega]
      simp
    · rw [if_neg h1]
      by_cases h2 : off + k = i
      · subst h2
        rw [if_pos rfl, if_pos (by simp; omega), if_pos (by simp)]
        simp
      · rw [if_neg h2, if_neg (by simp; omega)]

theorem fill_eq (off : Nat) (v : Value) (cells : Array Value) (h : off + v.cells.size ≤ cells.size) :
    (v.cells.zipIdx.foldl (fun cs (x : Value × Nat) => cs.setIfInBounds (off + x.2) x.1) cells).toList = splice cells.toList off v.cells.toList := by
  rw [← Array.foldl_toList, Array.toList_zipIdx]
  have := foldl_splice off v.cells.toList 0 cells (by simpa using h)
  simpa using this

theorem fillA_sound {n : Nat} {place place' : Nat → Option (Nat × Nat)} (hpl : ∀ i os, place i = some os → place' i = some os) : ∀ (ps : List (Nat × Value)) (ps' : List (Nat × Value)) (cells cs : List Value) (ds : Array Value),
    P2 (CR E n) cells ds.toList → ps.length = ps'.length → (∀ (i : Nat) p p', ps[i]? = some p → ps'[i]? = some p' → p'.1 = p.1 ∧ VR E n p.2 p'.2) → fillA place cells ps = some cs →
    ∃ ds', Instr.fill place' ds ps' = some ds' ∧ P2 (CR E n) cs ds'.toList
  | [], ps', cells, cs, ds, hc, hl, hp, hf => by
    have : ps' = [] := List.eq_nil_of_length_eq_zero (by simpa using hl.symm)
    subst this
    cases hf
    exact ⟨ds, rfl, hc⟩
  | p :: ps, [], cells, cs, ds, hc, hl, hp, hf => by simp at hl
  | p :: ps, (i, v) :: ps', cells, cs, ds, hc, hl, hp, hf => by
    obtain ⟨os, ho, hf⟩ := bind_some' hf
    obtain ⟨vc, hv, hf⟩ := bind_some' hf
    split at hf
    · rename_i hcond
      obtain ⟨h1, h2⟩ := hcond
      obtain ⟨e1, e2⟩ := hp 0 _ _ rfl rfl
      simp only at e1 e2
      have hvc := cellsA_sound e2 hv
      have hs : v.cells.size = os.2 := by have := hvc.1; simp at this; omega
      have hcs : cells.length = ds.size := by have := hc.1; simpa using this
      have hfill := fill_eq os.1 v ds (by omega)
      have hnew : P2 (CR E n) (splice cells os.1 vc) (v.cells.zipIdx.foldl (fun cs (x : Value × Nat) => cs.setIfInBounds (os.1 + x.2) x.1) ds).toList := by
        rw [hfill]
        unfold splice
        have hvl := hvc.1
        rw [← hvl]
        exact ((hc.take _).append hvc).append (hc.drop _)
      obtain ⟨ds', h3, h4⟩ := fillA_sound hpl ps ps' _ cs _ hnew (by simpa using hl) (fun j q q' hq hq' => hp (j + 1) q q' hq hq') hf
      refine ⟨ds', ?_, h4⟩
      unfold Instr.fill
      rw [e1, hpl _ _ ho]
      simp only
      rw [if_neg (by simp [hs]; omega)]
      exact h3
    · cases hf

theorem mapO_run {α β : Type} {f : α → Option β} {g : α → Sem β} (hfg : ∀ x y, f x = some y → ∀ w, (g x).run P w = .ok y w) : ∀ (l : List α) (r : List β), mapO f l = some r → ∀ w, (l.mapM g).run P w = .ok r w
  | [], r, h, w => by cases h; rfl
  | x :: l, r, h, w => by
    obtain ⟨y, hy, h⟩ := bind_some' h
    obtain ⟨r', hr, rfl⟩ := map_some' h
    simp only [List.mapM_cons, Sem.run_bind, hfg x y hy w, Result.andThen_ok, mapO_run hfg l r' hr w, Sem.run_pure]

theorem buildA_sound {T : TypeId} {n : Nat} {v : Value} {parts : Array (Nat × Operand)} (ht : P2 (VR E n) t a.tmps.toList) (hq : buildA P T (parts.toList.map fun p => (p.1, ev t p.2)) = some v) :
    ∃ v', VR E n v v' ∧ ∀ w', (Instr.build T (parts.map fun (i, x) => (i, a.eval x))).run P w' = .ok v' w' := by
  unfold buildA at hq
  obtain ⟨z, hz, hq⟩ := bind_some' hq
  obtain ⟨zs, hzs, hq⟩ := bind_some' hq
  obtain ⟨xs, rfl, rfl⟩ := aggA_spec hzs
  split at hq
  · rename_i hp
    have hzp : P2 (CR E n) xs.toList xs.toList := P2.of_plain hp fun _ h => CR.of_plain h
    have hparts : ∀ (i : Nat) p p', (parts.toList.map fun p => (p.1, ev t p.2))[i]? = some p → ((parts.map fun (i, x) => (i, a.eval x)).toList)[i]? = some p' → p'.1 = p.1 ∧ VR E n p.2 p'.2 := fun i p p' h1 h2 => by
      simp only [List.getElem?_map, Array.toList_map] at h1 h2
      cases hi : parts.toList[i]? with
      | none => simp [hi] at h1
      | some q => simp only [hi, Option.map_some, Option.some.injEq] at h1 h2; subst h1; subst h2; exact ⟨rfl, ev_sound ht _⟩
    have hlen : (parts.toList.map fun p => (p.1, ev t p.2)).length = (parts.map fun (i, x) => (i, a.eval x)).toList.length := by simp
    obtain ⟨cs, hq2, rfl⟩ := map_some' hq
    clear hq
    split at hq2
    · rename_i fs hu
      obtain ⟨pl, hpl, hq3⟩ := bind_some' hq2
      obtain ⟨fs', hfs, hpl⟩ := bind_some' hpl
      have : fs' = fs := by have := fieldsA_spec hfs; rw [hu] at this; cases this; rfl
      subst this
      obtain ⟨ds', h1, h2⟩ := fillA_sound (place' := (pl.toArray[·]?)) (fun i os h => by simpa using h) _ _ _ cs xs hzp hlen hparts hq3
      refine ⟨.agg ds', ⟨_, rfl, by simpa using h2⟩, fun w' => ?_⟩
      have hrun := mapO_run (P := P) (f := fun f : Field => (tsz P f.type).map fun n => (f.offset, n)) (g := fun f : Field => do pure (f.offset, ← sizeOf f.type)) (fun f y hy w => by
        obtain ⟨m, hm, rfl⟩ := map_some' hy
        simp [run_sizeOf' hm]) fs'.toList pl hpl w'
      have hrun' : (fs'.mapM fun f : Field => (do pure (f.offset, ← sizeOf f.type) : Sem (Nat × Nat))).run P w' = .ok pl.toArray w' := by
        obtain ⟨l⟩ := fs'
        simp only [List.mapM_toArray, Sem.run_map, hrun, Result.andThen_ok]
      unfold Instr.build
      simp only [Sem.run_bind, run_zeroValue' hz, Result.andThen_ok, Value.cells, run_underlying hu, hrun', h1, Sem.run_pure]
    · rename_i m e hu
      obtain ⟨z', hz', hq3⟩ := bind_some' hq2
      obtain ⟨ds', h1, h2⟩ := fillA_sound (place' := fun i => some (i * z', z')) (fun i os h => h) _ _ _ cs xs hzp hlen hparts hq3
      refine ⟨.agg ds', ⟨_, rfl, by simpa using h2⟩, fun w' => ?_⟩
      unfold Instr.build
      simp only [Sem.run_bind, run_zeroValue' hz, Result.andThen_ok, Value.cells, run_underlying hu, run_sizeOf' hz', h1, Sem.run_pure]
    · cases hq2
  · cases hq

theorem bytesA_spec : ∀ (l : List Value) (bs : List UInt8), bytesA l = some bs → ∃ ns : List Int, l = ns.map (Value.int .u8) ∧ bs = ns.map fun n => UInt8.ofNat n.toNat
  | [], bs, h => by cases h; exact ⟨[], rfl, rfl⟩
  | .int .u8 n :: l, bs, h => by
    obtain ⟨bs', hb, rfl⟩ := map_some' h
    obtain ⟨ns, rfl, rfl⟩ := bytesA_spec l bs' hb
    exact ⟨n :: ns, rfl, rfl⟩

theorem foldl_push (ns : List Int) : ∀ (s : ByteArray), (ns.foldl (fun r n => r.push (UInt8.ofNat n.toNat)) s) = ⟨s.data ++ (ns.map fun n => UInt8.ofNat n.toNat).toArray⟩ := by
  induction ns with
  | nil => intro s; simp
  | cons n ns ih =>
    intro s
    rw [List.foldl_cons, ih]
    apply ByteArray.ext
    simp [ByteArray.push]

theorem isU8T_spec {T : TypeId} (h : isU8T P T = true) : P.underlying T = some (.int .u8) := by
  unfold isU8T at h
  split at h
  · assumption
  · cases h

theorem CR.int {n : Nat} {k : IntKind} {x : Int} {v : Value} (h : CR E n (.int k x) v) : v = .int k x := h

theorem convS_sound {src dst : TypeId} {x x' v : Value} (hr : HR E h w) (hx : VR E h.length x x') (hq : convS P h src dst x = some v) :
    VR E h.length v v ∧ ∀ w', SOn E h w w' → (convert src dst x').run P w' = .ok v w' := by
  unfold convS at hq
  split at hq
  · rename_i hd
    unfold strOfA at hq
    split at hq
    · rename_i e hs
      split at hq
      · rename_i he
        obtain ⟨⟨p, len, es⟩, hp, hq⟩ := bind_some' hq
        obtain ⟨k, hk, hq⟩ := bind_some' hq
        split at hq
        · rename_i hle
          obtain ⟨bs, hbs, rfl⟩ := map_some' hq
          simp only at *
          rw [slA_spec hp] at hx
          obtain ⟨_, hb, a', cap, rfl, hlc, hcap⟩ := hx.slice
          replace hlc : len ≤ cap := hlc
          obtain ⟨ns, hns, rfl⟩ := bytesA_spec _ _ hbs
          refine ⟨rfl, fun w' hsame => ?_⟩
          rw [run_convert_bytes_string w' src dst e _ _ _ hs (isU8T_spec he) hd]
          have hlen : ns.length = len := by have := congrArg List.length hns; rw [sub_length hle] at this; simpa using this.symm
          have hload : (loadCells a' len).run P w' = .ok (ns.map (Value.int .u8)).toArray w' := by
            have h1 := run_loadCells_list (P := P) w' a' (ns.map (Value.int .u8)) (fun j u hu => by
              have hj : j < len := by have := (List.getElem?_eq_some_iff.1 hu).1; simpa [hlen] using this
              rw [← hns, sub_get hj] at hu
              obtain ⟨y, hy, hc⟩ := hr.cell _ _ _ _ hk hu
              have hyu : y = u := by
                have : u ∈ ns.map (Value.int .u8) := by
                  rw [← hns]; exact List.mem_of_getElem? (by rw [sub_get hj]; exact hu)
                obtain ⟨m, _, rfl⟩ := List.mem_map.1 this
                exact hc.int
              subst hyu
              rcases hcap with hcap | ⟨rfl, _⟩
              · omega
              · rw [at_add]; exact hsame.cell hk (List.getElem?_eq_some_iff.1 hu).1 hy)
            simpa [hlen] using h1
          rw [run_bytesToString w' a' len cap ns hload, foldl_push]
          simp
        · cases hq
      · cases hq
    · cases hq
  · obtain ⟨h1, h2⟩ := convA_sound hx hq
    exact ⟨h1, fun w' _ => h2 w'⟩

/-- Whatever only looks: one value, in every world that has what was there. -/
theorem qop_sound {o : Oper} {v : Value} (hr : HR E h w) (ht : P2 (VR E h.length) t a.tmps.toList) (hq : qop P t h o.op = some v) :
    ∃ v', VR E h.length v v' ∧ ∀ w', SOn E h w w' → (execOp a.eval o).run P w' = .ok (.value v') w' := by
  obtain ⟨dst, op, ty, pos, after, guard⟩ := o
  have evs := fun x => ev_sound ht x
  simp only at hq
  unfold qop at hq
  split at hq
  · rename_i x; cases hq; exact ⟨_, evs x, fun w' _ => rfl⟩
  · rename_i x; cases hq; exact ⟨_, evs x, fun w' _ => rfl⟩
  · rename_i c x y
    obtain ⟨b, hb, rfl⟩ := map_some' hq
    have hc := evs c
    rw [boolA_spec hb] at hc
    have := hc.bool
    refine ⟨if b then a.eval x else a.eval y, by cases b; exact evs y; exact evs x, fun w' _ => by cases b <;> simp [execOp, this, asBool]⟩
  · rename_i T x
    obtain ⟨p, hp, hq⟩ := bind_some' hq
    have hx := evs x
    rw [ptrA_spec hp] at hx
    obtain ⟨_, hp⟩ := hx.ptr
    obtain ⟨v', hv, hrun⟩ := loadA_sound hr hq
    refine ⟨v', hv, fun w' hs => ?_⟩
    simp only [execOp, hp]
    exact run_wrap (by simp [Instr.loadAt, Instr.sureAddr, hrun w' hs])
  · rename_i x
    obtain ⟨p, hp, rfl⟩ := map_some' hq
    have hx := evs x
    rw [ptrA_spec hp] at hx
    obtain ⟨_, hp⟩ := hx.ptr
    refine ⟨_, hx, fun w' hs => ?_⟩
    simp only [execOp, hp]
    rfl
  · rename_i op T x y _
    obtain ⟨v', hv, hrun⟩ := abin_sound hq (evs x) (evs y)
    refine ⟨v', hv, fun w' _ => ?_⟩
    simp only [execOp]
    exact run_wrap (hrun x y w')
  · rename_i op T x
    obtain ⟨hv, hrun⟩ := aun_sound (P := P) (evs x) hq
    refine ⟨v, hv, fun w' _ => ?_⟩
    simp only [execOp]
    exact run_wrap (hrun w')
  · rename_i src dst x
    obtain ⟨hv, hrun⟩ := convS_sound hr (evs x) hq
    refine ⟨v, hv, fun w' hs => ?_⟩
    simp only [execOp]
    exact run_wrap (hrun w' hs)
  · rename_i T parts
    obtain ⟨v', hv, hrun⟩ := buildA_sound (P := P) ht hq
    refine ⟨v', hv, fun w' _ => ?_⟩
    simp only [execOp]
    exact run_wrap (hrun w')
  · rename_i S x f
    obtain ⟨fs, hu, hq⟩ := bind_some' hq
    obtain ⟨p, hp, hq⟩ := bind_some' hq
    obtain ⟨fl, hf, hq⟩ := bind_some' hq
    obtain ⟨z, hz, hq⟩ := bind_some' hq
    split at hq
    · cases hq
    · rename_i hz0
      cases hq
      have hx := evs x
      rw [ptrA_spec hp] at hx
      obtain ⟨hb, hp⟩ := hx.ptr
      refine ⟨.pointer (some (E.at p.block (p.off + fl.offset))), ⟨rfl, hb, rfl⟩, fun w' _ => ?_⟩
      simp only [execOp, hp]
      exact run_wrap (by simp [Instr.fieldAt, run_underlying (fieldsA_spec hu), hf, Instr.sureAddr, fieldPlace, run_sizeOf' hz, hz0, at_add])
  · rename_i S x f
    obtain ⟨fs, hu, hq⟩ := bind_some' hq
    obtain ⟨cs, hp, hq⟩ := bind_some' hq
    obtain ⟨fl, hf, hq⟩ := bind_some' hq
    obtain ⟨xs, hx, rfl⟩ := aggA_spec hp
    obtain ⟨ds, hd, hp⟩ := (hx ▸ evs x).agg
    obtain ⟨v', hv, hrun⟩ := partA_sound hp hq
    refine ⟨v', hv, fun w' _ => ?_⟩
    simp only [execOp, hd]
    exact run_wrap (by simp [Instr.field, run_underlying (fieldsA_spec hu), hf, asAgg, hrun])
  · rename_i T x ix
    obtain ⟨v', hv, hrun⟩ := idxAddrA_sound (evs x) (evs ix) hq
    refine ⟨v', hv, fun w' _ => ?_⟩
    simp only [execOp]
    exact run_wrap (hrun w')
  · rename_i T x ix
    obtain ⟨v', hv, hrun⟩ := indexA_sound (evs x) (evs ix) hq
    refine ⟨v', hv, fun w' _ => ?_⟩
    simp only [execOp]
    exact run_wrap (hrun w')
  · rename_i T x lo hi
    obtain ⟨v', hv, hrun⟩ := aslice_sound hr ht (evs x) hq
    refine ⟨v', hv, fun w' _ => ?_⟩
    simp only [execOp]
    exact run_wrap (hrun w')
  · rename_i x i
    unfold extractA at hq
    split at hq
    · rename_i vs hx
      have hv := (hx ▸ evs x)
      obtain ⟨us, hus, hp⟩ := (show ∃ us, a.eval x = .tuple us ∧ P2 (VR1 E h.length) vs.toList us.toList from hv)
      obtain ⟨y, hy, hr1⟩ := hp.get (i := i) hq
      simp only [Array.getElem?_toList] at hy
      exact ⟨y, hr1.to_VR, fun w' _ => by simp [execOp, hus, Instr.extract, hy]⟩
    · cases hq
  · rename_i T x
    obtain ⟨v', hv, hrun⟩ := toArrPtrA_sound (evs x) hq
    refine ⟨v', hv, fun w' _ => ?_⟩
    simp only [execOp]
    exact run_wrap (hrun w')
  · rename_i c
    split at hq
    · rename_i b hc
      obtain ⟨hv, hrun⟩ := bop_sound (ty := ty) ht hc hq
      exact ⟨v, hv, fun w' _ => hrun w'⟩
    · cases hq
  · cases hq

end
end Go.Abs
