/- Short forms for the proof of FnTrails. -/
import Derived.Test.YtenkjbkcdcionaaGreatAbsSk
import Derived.Test.YtenkjbkcdcionaaGreatTypes
import Derived.Test.YtenkjbkcdcionaaGreatAbsX
import Derived.Test.YtenkjbkcdcionaaGreatAbsZ
import Derived.Test.YtenkjbkcdcionaaGreatAbsP
import Derived.Test.YtenkjbkcdcionaaGreatAbsO
import Derived.Test.YtenkjbkcdcionaaGreatAbsVw
import Derived.Test.YtenkjbkcdcionaaGreatAbsQ
import Derived.Test.YtenkjbkcdcionaaGreatAbsY
namespace Go.Abs
theorem LV : type_of% @Bs_length ∧ type_of% @Is_length ∧ type_of% @Vs_length ∧ type_of% @Bl_length ∧ type_of% @Il_length := ⟨@Bs_length, @Is_length, @Vs_length, @Bl_length, @Il_length⟩
theorem ret_nA {P : Program} {rs : List ResultVar} {h0 : List Blk} {t : List Value} {v : Value} {e : Exit} (hr : aresults P rs ⟨t, h0⟩ = some v) (he : e = .normal ∨ e = .ret := by first | exact .inr rfl | exact .inl rfl) : Ret P rs h0 v h0 e ⟨t, h0⟩ := ret_none he hr
theorem ret_sA {P : Program} {rs : List ResultVar} {h0 L : List Blk} {t : List Value} {v : Value} {e : Exit} (hr : aresults P rs ⟨t, h0 ++ L⟩ = some v) (he : e = .normal ∨ e = .ret := by first | exact .inr rfl | exact .inl rfl) (hv : plainV v = true := by first | rfl | exact plain_agg (by simp only [go_sem]) | exact plain_two (by first | exact plain_agg (by simp only [go_sem]) | rfl) (by first | exact plain_agg (by simp only [go_sem]) | rfl)) : Ret P rs h0 v h0 e ⟨t, h0 ++ L⟩ := ret_same he hr hv
theorem ret_fA {P : Program} {rs : List ResultVar} {h0 h' : List Blk} {t : List Value} {v : Value} {e : Exit} (hr : aresults P rs ⟨t, h'⟩ = some v) (he : e = .normal ∨ e = .ret := by first | exact .inr rfl | exact .inl rfl) (hn : h0.length ≤ h'.length := by simp) : Ret P rs h0 v h' e ⟨t, h'⟩ := ret_full he hn hr
theorem WA_ct {P : Program} {Q : Exit → AS → Prop} {s : AS} {n0 : Nat} {c : Operand} {x y : Code} {b : Bool} (hc : ev s.t c = .bool b) (h : WA P n0 x Q s) (hb : b = true := by first | with_reducible rfl | with_reducible exact beq_self_eq_true _ | exact decide_eq_true (by omega) | exact beq_t (by omega) | exact bne_t (by omega) | assumption) : WA P n0 (.cond c x y) Q s := WA_cond_t hc hb h
theorem WA_cf {P : Program} {Q : Exit → AS → Prop} {s : AS} {n0 : Nat} {c : Operand} {x y : Code} {b : Bool} (hc : ev s.t c = .bool b) (h : WA P n0 y Q s) (hb : b = false := by first | with_reducible rfl | with_reducible exact bne_self_eq_false _ | exact decide_eq_false (by omega) | exact beq_f (by omega) | exact bne_f (by omega) | assumption) : WA P n0 (.cond c x y) Q s := WA_cond_f hc hb h
theorem WP_au {w : Prop} {v : Value} (hw : w := by (repeat (first | exact trivial | (refine And.intro ?_ ?_; (focus first | exact plainV_wf rfl | (refine plainV_wf (plain_agg ?_); simp only [go_sem]; done) | (simp only [wfV, wf1, wfC, List.length_append, List.length_cons, List.length_nil]; omega)))))) (hp : plainV v = true := by first | rfl | (refine plain_agg ?_; simp only [go_sem]; done) | (refine plain_two ?_ ?_ <;> first | rfl | (refine plain_agg ?_; simp only [go_sem]; done))) : WP w v := ⟨hw, hp⟩
theorem PLA {a : Prop} (h : a := by first | exact plain_agg (by simp only [go_sem]) | exact plain_two (by first | exact plain_agg (by simp only [go_sem]) | rfl) rfl | rfl) : a := h
theorem LX : type_of% @List.length_cons.{0} ∧ type_of% @List.length_nil.{0} ∧ type_of% @List.length_append.{0} ∧ type_of% @LV := ⟨@List.length_cons.{0}, @List.length_nil.{0}, @List.length_append.{0}, @LV⟩
theorem PTS : type_of% @patT_cons ∧ type_of% @patT_nil ∧ type_of% @patL_cons ∧ type_of% @patL_nil ∧ type_of% @list_set_zero ∧ type_of% @list_set_succ ∧ type_of% @blk_set_zero ∧ type_of% @blk_set_succ := ⟨@patT_cons, @patT_nil, @patL_cons, @patL_nil, @list_set_zero, @list_set_succ, @blk_set_zero, @blk_set_succ⟩
theorem ICS : type_of% @Int.natCast_add ∧ type_of% @Int.natCast_one ∧ type_of% @Int.natCast_zero ∧ type_of% @Int.cast_ofNat_Int ∧ type_of% @Nat.add_zero := ⟨@Int.natCast_add, @Int.natCast_one, @Int.natCast_zero, @Int.cast_ofNat_Int, @Nat.add_zero⟩
theorem ALS : type_of% @List.all_append.{0} ∧ type_of% @List.all_cons.{0} ∧ type_of% @List.all_nil.{0} ∧ type_of% @Bool.and_self := ⟨@List.all_append.{0}, @List.all_cons.{0}, @List.all_nil.{0}, @Bool.and_self⟩
theorem LSZ : type_of% @List.size_toArray.{0} ∧ type_of% @List.length_cons.{0} ∧ type_of% @List.length_nil.{0} := ⟨@List.size_toArray.{0}, @List.length_cons.{0}, @List.length_nil.{0}⟩
theorem LRP : type_of% @List.length_append.{0} ∧ type_of% @List.length_cons.{0} ∧ type_of% @List.length_nil.{0} ∧ type_of% @List.length_replicate.{0} := ⟨@List.length_append.{0}, @List.length_cons.{0}, @List.length_nil.{0}, @List.length_replicate.{0}⟩
theorem LAC : type_of% @List.length_append.{0} ∧ type_of% @List.length_cons.{0} ∧ type_of% @List.length_nil.{0} := ⟨@List.length_append.{0}, @List.length_cons.{0}, @List.length_nil.{0}⟩
theorem LCN : type_of% @List.length_cons.{0} ∧ type_of% @List.length_nil.{0} ∧ type_of% @List.cons_append.{0} ∧ type_of% @List.nil_append.{0} := ⟨@List.length_cons.{0}, @List.length_nil.{0}, @List.cons_append.{0}, @List.nil_append.{0}⟩
theorem BNS : type_of% @Bool.not_true ∧ type_of% @Bool.not_false := ⟨@Bool.not_true, @Bool.not_false⟩
section
variable {P : Program} {ops : Array Oper} {Q : Exit → AS → Prop} {s : AS} {n0 : Nat} {ks : List Nat} {hS : List Blk} {ok : Bool}
theorem RTk (deep : Bool) (is : List Nat) (n : Nat) {m : Nat} {listed : Array Bool} (h : takeI P ops deep (deepM deep hS) (RB P n0 ops ks hS Q ok n (setAll listed is)) is s) (hm : m = is.length + n := by rfl) (hsel : Region.noSelect ops = true := by kernel_rfl) (hok : deep = true → ok = true := by decide) (hB : takeB ops ks deep listed is = true := by decide +kernel) : RB P n0 ops ks hS Q ok m listed s := RB_take deep is n hm hsel hok hB h
theorem REx (i : Nat) {n m : Nat} {listed : Array Bool} (h : execI P ops s (RB P n0 ops ks hS Q false n (listed.setIfInBounds i true)) (ops[i]?)) (hm : m = n + 1 := by rfl) (hks : ks.contains i = true := by decide +kernel) (hr : Region.ready .any ops listed = [i] := by decide +kernel) : RB P n0 ops ks hS Q ok m listed s := RB_exec i n hm hks hr h
end
end Go.Abs
