/- The abstract machine, part O: a call that writes one block, which no one looks at, in regions that draw their order. Generic: no program in sight. -/
import Derived.Test.YtenkjbkcdcionaaGreatAbsU
namespace Go.Abs
set_option linter.unusedSimpArgs false
set_option linter.unusedVariables false
set_option maxRecDepth 20000
set_option maxHeartbeats 1000000

theorem AC_but {P : Program} {f : FuncId} {args : List Value} {h : List Blk} {v : Value} {b : Nat} {k k' : Blk} (hb : h[b]? = some k) (hk : k.rw = true) (hc : AC P f args (roBut b h) v ((roBut b h).set b k')) {E : Emb} {w : World} {args' : Array Value} (hr : HR E h w) (ha : P2 (VR E h.length) args args'.toList) :
    Calls P f args' w (fun e w' => ∃ E' v', e = .returned v' ∧ VR E' (h.set b k').length v v' ∧ HR E' (h.set b k') w' ∧ Link E h w E' (h.set b k') w' ∧ (∀ c kc, h[c]? = some kc → c ≠ b → kc.cells ≠ [] → w'.heap[E.loc c]? = w.heap[E.loc c]?)) := by
  refine (hc.2 E w args' (hr.roBut b) (by rw [roBut_length]; exact ha)).mono ?_
  rintro e w' ⟨E', v', rfl, h1, h2, h3⟩
  have hlen : ((roBut b h).set b k').length = (h.set b k').length := by simp [roBut_length]
  have hlen0 : (h.set b k').length = h.length := by simp
  have loc : ∀ c, c < h.length → E'.loc c = E.loc c := fun c hc => h3.loc c (by rwa [roBut_length])
  have room : ∀ c, c < h.length → E'.room c = E.room c ∧ E'.base c = E.base c := fun c hc => h3.room c (by rwa [roBut_length])
  have hfr : ∀ i, i < w.heap.size → E.loc b ≠ i → w'.heap[i]? = w.heap[i]? := fun i hi hne => h3.frame i hi fun c kc hc hkc => by
    rcases roBut_get hc with ⟨_, _, _, _, h4⟩ | ⟨rfl, _⟩
    · rw [h4] at hkc; cases hkc
    · exact hne
  have old : ∀ (c : Nat) (kc : Blk), h[c]? = some kc → c ≠ b → ((roBut b h).set b k')[c]? = some ⟨kc.cells, false⟩ := fun c kc hc hne => by
    rw [List.getElem?_set_ne (Ne.symm hne)]
    unfold roBut
    rw [List.getElem?_set_ne (Ne.symm hne)]
    exact ro_of hc
  have hbl : b < h.length := (List.getElem?_eq_some_iff.1 hb).1
  have here : ((roBut b h).set b k')[b]? = some k' := by rw [List.getElem?_set_self (by rw [roBut_length]; exact hbl)]
  have same : ∀ (c : Nat) (kc : Blk), h[c]? = some kc → c ≠ b → (kc.rw = true ∨ kc.cells ≠ []) → w'.heap[E.loc c]? = w.heap[E.loc c]? := fun c kc hc hne hl =>
    hfr _ (hr.lt c kc hc) fun e => hr.sep b k hb hk c kc hc hne hl e.symm
  refine ⟨E', v', rfl, by rw [← hlen]; exact h1, ⟨fun c kc hc => ?_, fun c kc i x hc hx => ?_, fun c kc hc => ?_, fun c kc hc hkc => ?_, fun c kc hc hkc c' kc' hc' hne hlive => ?_, h2.door, fun c kc hc hkc => by
      rcases get_set hc with ⟨hne, hc⟩ | ⟨rfl, _, _⟩
      · rw [loc c (List.getElem?_eq_some_iff.1 hc).1]; exact hr.away c kc hc hkc
      · rw [loc c hbl]; exact hr.away c k hb hk⟩,
    ⟨by simp, loc, room, h3.size, h3.os, h3.tape, h3.output, fun i hi hn => hfr i hi (hn b k hb hk), fun c kc hc hkc => ?_⟩, fun c kc hc hne hl => same c kc hc hne (.inr hl)⟩
  · rcases get_set hc with ⟨hne, hc⟩ | ⟨rfl, rfl, _⟩
    · exact h2.lt c _ (old c kc hc hne)
    · exact h2.lt c _ here
  · rw [← hlen]
    rcases get_set hc with ⟨hne, hc⟩ | ⟨rfl, rfl, _⟩
    · exact h2.cell c _ i x (old c kc hc hne) hx
    · exact h2.cell c _ i x here hx
  · rcases get_set hc with ⟨hne, hc⟩ | ⟨rfl, rfl, _⟩
    · exact (h2.room c _ (old c kc hc hne) :)
    · exact h2.room c _ here
  · rcases get_set hc with ⟨hne, hc⟩ | ⟨rfl, rfl, _⟩
    · obtain ⟨h6, cs, e, h7, h8⟩ := hr.own c kc hc hkc
      have hl := (List.getElem?_eq_some_iff.1 hc).1
      exact ⟨(room c hl).2.trans h6, cs, e, by rw [loc c hl, same c kc hc hne (.inl hkc)]; exact h7, by rw [(room c hl).1]; exact h8⟩
    · exact h2.own c _ here hkc
  · rcases get_set hc with ⟨hn1, hcx⟩ | ⟨hn1, _, _⟩
    · have hl := (List.getElem?_eq_some_iff.1 hcx).1
      rcases get_set hc' with ⟨hn2, hcy⟩ | ⟨hn2, _, _⟩
      · have hl' := (List.getElem?_eq_some_iff.1 hcy).1
        rw [loc c hl, loc c' hl']; exact hr.sep c kc hcx hkc c' kc' hcy hne hlive
      · rw [loc c hl, hn2, loc b hbl]; exact hr.sep c kc hcx hkc b k hb (fun e => hn1 e.symm) (.inl hk)
    · rcases get_set hc' with ⟨hn2, hcy⟩ | ⟨hn2, _, _⟩
      · have hl' := (List.getElem?_eq_some_iff.1 hcy).1
        rw [hn1, loc b hbl, loc c' hl']; exact hr.sep b k hb hk c' kc' hcy hn2 hlive
      · exact absurd (hn2.trans hn1.symm) hne
  · rcases get_set hc with ⟨hn1, hc⟩ | ⟨rfl, rfl, _⟩
    · exact .inr ⟨c, kc, hc, hkc, (loc c (List.getElem?_eq_some_iff.1 hc).1).symm⟩
    · exact .inr ⟨c, k, hb, hk, (loc c hbl).symm⟩

def callN (P : Program) (b : Nat) (f : FuncId) (args : List Value) (h : List Blk) (K : Value → List Blk → Prop) : Prop :=
  ∃ v k k', h[b]? = some k ∧ k.rw = true ∧ AC P f args (roBut b h) v ((roBut b h).set b k') ∧ K v (h.set b k')
theorem callN_i {P : Program} {b : Nat} {f : FuncId} {args : List Value} {h : List Blk} {v : Value} {k k' : Blk} {K : Value → List Blk → Prop} (hb : h[b]? = some k) (hr : k.rw = true) (hc : AC P f args (roBut b h) v ((roBut b h).set b k')) (hk : K v (h.set b k')) : callN P b f args h K := ⟨v, k, k', hb, hr, hc, hk⟩
@[congr] theorem callN_congr {P : Program} {b : Nat} {f : FuncId} {args args' : List Value} {h h' : List Blk} {K : Value → List Blk → Prop} (ha : args = args') (hh : h = h') : callN P b f args h K = callN P b f args' h' K := by rw [ha, hh]
def opN (P : Program) (b : Nat) (o : Oper) (s : AS) (K : AS → Prop) : Prop :=
  match o.op with
  | .call c =>
    match c.callee with
    | .value (.func f) => callN P b f (c.args.toList.map (ev s.t)) s.h (contK K s.t o.dst)
    | _ => False
  | _ => False
def execN (P : Program) (b : Nat) (s : AS) (K : AS → Prop) : Option Oper → Prop
  | some o => o.guard = none ∧ opN P b o s K
  | none => False

section
variable {P : Program} {ops : Array Oper} {K : AS → Prop} {s : AS} {d : Option Tmp} {op : Op} {ty : TypeId} {pos : String} {af : Array Edge} {b : Nat}
@[go_sem] theorem execN_none : execN P b s K (some ⟨d, op, ty, pos, af, none⟩) = opN P b ⟨d, op, ty, pos, af, none⟩ s K := nr (by simp [execN])
@[go_sem] theorem opN_call1 {f : FuncId} {ts : Array TypeId} {a : Operand} {g : Option (Nat × Bool)} : opN P b ⟨d, .call ⟨.value (.func f), #[a], ts⟩, ty, pos, af, g⟩ s K = callN P b f [ev s.t a] s.h (contK K s.t d) := nr rfl
@[go_sem] theorem opN_call2 {f : FuncId} {ts : Array TypeId} {a a' : Operand} {g : Option (Nat × Bool)} : opN P b ⟨d, .call ⟨.value (.func f), #[a, a'], ts⟩, ty, pos, af, g⟩ s K = callN P b f [ev s.t a, ev s.t a'] s.h (contK K s.t d) := nr rfl
@[congr] theorem execN_congr {s' : AS} {o o' : Option Oper} (h : o = o') (hs : s = s') : execN P b s K o = execN P b s' K o' := by rw [h, hs]
@[congr] theorem opN_congr {s' : AS} {o : Oper} (h : s = s') : opN P b o s K = opN P b o s' K := by rw [h]
end

section
variable {P : Program} {ops : Array Oper} {Q : Exit → AS → Prop} {s : AS} {n0 : Nat} {ks : List Nat} {hS : List Blk}

theorem opN_sound {b : Nat} {o : Oper} {E : Emb} {a : Act} {w : World} {Es : Emb} {ws : World} (hs : SR E s a w) (hh : Held Es hS ws E s.h.length) (hsb : SB Es hS ws w) (hal : Alive hS s.h) (hd : deadAt hS[b]?)
    {K : AS → Prop} (h : opN P b o s K) {next : Act → World → Prop} {Q' : Exit → Act → World → Prop}
    (hn : ∀ E' s' a' w', K s' → SR E' s' a' w' → Link E s.h w E' s'.h w' → SB Es hS ws w' → Alive hS s'.h → next a' w') : o.wp P a w next Q' := by
  obtain ⟨dst, op, ty, pos, after, guard⟩ := o
  cases op with
  | call c =>
    obtain ⟨callee, args, types⟩ := c
    cases callee with
    | value x =>
      cases x with
      | func f =>
        obtain ⟨v, k, k', hb, hrw, hac, hk⟩ := (show callN P b f (args.toList.map (ev s.t)) s.h (contK K s.t dst) from h)
        have hrun : (execOp a.eval { dst, op := .call { callee := .value (.func f), args, argTypes := types }, type := ty, pos, after, guard }).run P w = .ok (.enter f (args.map a.eval)) w := by
          simp [execOp, resolve, Act.eval, Deferred.ofValue, invoke]
          exact hac.1 _ _
        have hneb : ∀ (c : Nat) (kc : Blk), hS[c]? = some kc → kc.cells ≠ [] → c ≠ b := fun c kc hc hne e => by
          subst e; rw [hc] at hd; exact hne hd
        unfold Oper.wp
        rw [hrun, Oper.upon_enter]
        refine (AC_but (args' := args.map a.eval) hb hrw hac hs.mem ?_).mono ?_
        · refine P2.of_get (by simp) fun i x hx => ?_
          rw [List.getElem?_map] at hx
          cases hi : args.toList[i]? with
          | none => rw [hi] at hx; cases hx
          | some y =>
            rw [hi] at hx
            cases hx
            exact ⟨a.eval y, by rw [Array.toList_map, List.getElem?_map, hi]; rfl, ev_sound hs.tmps y⟩
        · rintro e w' ⟨E', v', rfl, h1, h2, h3, h4⟩
          have hsh : ∀ v0, (AS.put ⟨s.t, s.h.set b k'⟩ dst v0).h = s.h.set b k' := fun v0 => by cases dst <;> rfl
          refine hn E' _ _ w' hk ((hs.step h2 h3).put dst h1) (by rw [hsh]; exact h3) ?_ ?_
          · refine ⟨fun c kc i hc hi => ?_, Nat.le_trans hsb.2.1 h3.size, h2.door⟩
            have hne : kc.cells ≠ [] := fun e => by rw [e] at hi; cases hi
            obtain ⟨y, hy, _⟩ := hh.cell hc (List.getElem?_eq_getElem hi)
            have h5 := hsb.1.cell hc hi hy
            obtain ⟨k2, h6, h7⟩ := hal c kc hc hne
            have h8 := h4 c k2 h6 (hneb c kc hc hne) h7
            rw [hh.loc c (List.getElem?_eq_some_iff.1 hc).1] at h8
            rw [World.cell?_of_block h8, h5, hy]
          · rw [hsh]
            exact fun c kc hc hne => by
              obtain ⟨k2, h5, h6⟩ := hal c kc hc hne
              exact ⟨k2, by rw [List.getElem?_set_ne (Ne.symm (hneb c kc hc hne))]; exact h5, h6⟩
      | _ => exact (show False from h).elim
    | _ => exact (show False from h).elim
  | _ => exact (show False from h).elim

theorem RB_keepN (b i n : Nat) {m : Nat} {listed : Array Bool} (hm : m = n + 1) (hr : Region.ready .any ops listed = [i]) (hd : deadAt hS[b]?) (h : execN P b s (RB P n0 ops ks hS Q true n (listed.setIfInBounds i true)) (ops[i]?)) : RB P n0 ops ks hS Q true m listed s := fun E a w E0 h0 w0 Es ws hc hs hl hh hk => by
  subst hm
  refine ⟨fun h0 => (by rw [hr] at h0; cases h0), fun j hj w' hw' => ?_⟩
  have hi : i ∈ Region.ready .any ops listed := by rw [hr]; simp
  have : j = i := by rw [hr] at hj; simpa using hj
  subst this
  have hc' := hc.set hi
  have hs' := hs.bel hw'
  have hl' := hl.trans ((Link.bel (E := E) (h := s.h) hw').toN hl.len)
  obtain ⟨hk1, hk2⟩ := hk rfl
  have hk1' := hk1.bel hh hw'
  unfold wpOp
  cases ho : ops[j]? with
  | none => rw [ho] at h; exact h.elim
  | some o =>
    rw [ho] at h
    unfold execN at h
    simp only
    rw [if_pos (by simp [Region.wanted, h.1])]
    exact .inl (opN_sound hs' hh hk1' hk2 hd h.2 fun E' s' a' w2 hK hs2 hl2 hsb hal => ⟨fun _ _ => hsb, hK E' a' w2 E0 h0 w0 Es ws hc' hs2 (hl'.trans (hl2.toN hl'.len)) (hh.step hl2) (fun _ => ⟨hsb, hal⟩)⟩)
end
end Go.Abs
