/- Short forms for the proof of FnBranches. -/
import Derived.Test.YtalbdgkbinndlaaDoorW64
import Derived.Test.YtalbdgkbinndlaaDoorW16
import Derived.Test.YtalbdgkbinndlaaDoorAbsQ
import Derived.Test.YtalbdgkbinndlaaDoorAbsP
import Derived.Test.YtalbdgkbinndlaaDoorShelf
import Derived.Test.YtalbdgkbinndlaaDoorAbsY
import Derived.Test.YtalbdgkbinndlaaDoorArgs
namespace Go.Abs
theorem LV : type_of% @Bs_length ∧ type_of% @Is_length ∧ type_of% @Vs_length ∧ type_of% @Bl_length ∧ type_of% @Il_length := ⟨@Bs_length, @Is_length, @Vs_length, @Bl_length, @Il_length⟩
theorem ret_nA {P : Program} {rs : List ResultVar} {h0 : List Blk} {t : List Value} {v : Value} {e : Exit} (hr : aresults P rs ⟨t, h0⟩ = some v) (he : e = .normal ∨ e = .ret := by first | exact .inr rfl | exact .inl rfl) : Ret P rs h0 v h0 e ⟨t, h0⟩ := ret_none he hr
theorem ret_sA {P : Program} {rs : List ResultVar} {h0 L : List Blk} {t : List Value} {v : Value} {e : Exit} (hr : aresults P rs ⟨t, h0 ++ L⟩ = some v) (he : e = .normal ∨ e = .ret := by first | exact .inr rfl | exact .inl rfl) (hv : plainV v = true := by first | rfl | exact plain_agg (by simp only [go_sem]) | exact plain_two (by first | exact plain_agg (by simp only [go_sem]) | rfl) (by first | exact plain_agg (by simp only [go_sem]) | rfl)) : Ret P rs h0 v h0 e ⟨t, h0 ++ L⟩ := ret_same he hr hv
theorem ret_fA {P : Program} {rs : List ResultVar} {h0 h' : List Blk} {t : List Value} {v : Value} {e : Exit} (hr : aresults P rs ⟨t, h'⟩ = some v) (he : e = .normal ∨ e = .ret := by first | exact .inr rfl | exact .inl rfl) (hn : h0.length ≤ h'.length := by simp) : Ret P rs h0 v h' e ⟨t, h'⟩ := ret_full he hn hr
theorem WA_ct {P : Program} {Q : Exit → AS → Prop} {s : AS} {n0 : Nat} {c : Operand} {x y : Code} {b : Bool} (hc : ev s.t c = .bool b) (h : WA P n0 x Q s) (hb : b = true := by first | with_reducible rfl | with_reducible exact beq_self_eq_true _ | exact decide_eq_true (by omega) | exact beq_t (by omega) | exact bne_t (by omega) | assumption) : WA P n0 (.cond c x y) Q s := WA_cond_t hc hb h
theorem WA_cf {P : Program} {Q : Exit → AS → Prop} {s : AS} {n0 : Nat} {c : Operand} {x y : Code} {b : Bool} (hc : ev s.t c = .bool b) (h : WA P n0 y Q s) (hb : b = false := by first | with_reducible rfl | with_reducible exact bne_self_eq_false _ | exact decide_eq_false (by omega) | exact beq_f (by omega) | exact bne_f (by omega) | assumption) : WA P n0 (.cond c x y) Q s := WA_cond_f hc hb h
theorem WP_au {w : Prop} {v : Value} (hw : w := by (repeat (first | exact trivial | (refine And.intro ?_ ?_; (focus first | exact plainV_wf rfl | (refine plainV_wf (plain_agg ?_); simp only [go_sem]; done) | (simp only [wfV, wf1, wfC, List.length_append, List.length_cons, List.length_nil]; omega)))))) (hp : plainV v = true := by first | rfl | (refine plain_agg ?_; simp only [go_sem]; done) | (refine plain_two ?_ ?_ <;> first | rfl | (refine plain_agg ?_; simp only [go_sem]; done))) : WP w v := ⟨hw, hp⟩
theorem PLA {a : Prop} (h : a := by first | exact plain_agg (by simp only [go_sem]) | exact plain_two (by first | exact plain_agg (by simp only [go_sem]) | rfl) rfl | rfl) : a := h
end Go.Abs
