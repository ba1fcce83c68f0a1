/- Short names for facts of the library. -/
import Derived.Test.YtdgbnaignpploaaDoorSy
namespace Go.Sym
theorem Ya : type_of% @List.set_cons_zero := @List.set_cons_zero
theorem Yb : type_of% @List.set_cons_succ := @List.set_cons_succ
theorem Yc : type_of% @List.forall_mem_cons := @List.forall_mem_cons
theorem Yd : type_of% @Option.isNone_some := @Option.isNone_some
theorem Ye : type_of% @Option.isNone_none := @Option.isNone_none
theorem Yf : type_of% @Option.isSome_some := @Option.isSome_some
theorem Yg : type_of% @Option.isSome_none := @Option.isSome_none
theorem Yh : type_of% @List.drop_zero := @List.drop_zero
theorem Yi : type_of% @List.take_succ_cons := @List.take_succ_cons
theorem Yj : type_of% @List.drop_succ_cons := @List.drop_succ_cons
theorem Yk : type_of% @List.take_zero := @List.take_zero
theorem Yl : type_of% @List.take_nil := @List.take_nil
theorem Ym : type_of% @List.append_nil := @List.append_nil
theorem Yn : type_of% @List.nil_append := @List.nil_append
theorem Yo : type_of% @if_true := @if_true
theorem Yp : type_of% @if_false := @if_false
theorem Yq : type_of% @ite_true := @ite_true
theorem Yr : type_of% @ite_false := @ite_false
theorem Ys : type_of% @Bool.false_eq_true := @Bool.false_eq_true
theorem Yu : type_of% @Bool.true_eq_false := @Bool.true_eq_false
theorem Yv : type_of% @decide_eq_true_eq := @decide_eq_true_eq
theorem Yw : type_of% @eq_self := @eq_self
theorem Yx : type_of% @true_and := @true_and
theorem Yy : type_of% @and_true := @and_true
theorem Yz : type_of% @Option.map_some := @Option.map_some
theorem YA : type_of% @Option.map_none := @Option.map_none
theorem YB : type_of% @Nat.add_zero := @Nat.add_zero
theorem YC : type_of% @Nat.zero_add := @Nat.zero_add
theorem YD : type_of% @Bool.not_true := @Bool.not_true
theorem YE : type_of% @Bool.not_false := @Bool.not_false
theorem YF : type_of% @List.getElem?_cons_zero := @List.getElem?_cons_zero
theorem YG : type_of% @List.getElem?_cons_succ := @List.getElem?_cons_succ
theorem YH : type_of% @and_self := @and_self
theorem YI : type_of% @exists_eq_left' := @exists_eq_left'
theorem YJ : type_of% @exists_eq_left := @exists_eq_left
theorem YK : type_of% @List.length_cons := @List.length_cons
theorem YL : type_of% @List.length_nil := @List.length_nil
theorem YM : type_of% @decide_true := @decide_true
theorem YN : type_of% @decide_false := @decide_false
theorem YO : type_of% @Int.natCast_zero := @Int.natCast_zero
theorem YP : type_of% @Int.cast_ofNat_Int := @Int.cast_ofNat_Int
theorem YQ : type_of% @Int.toNat_natCast := @Int.toNat_natCast
theorem YR : type_of% @ge_iff_le := @ge_iff_le
theorem YS : type_of% @gt_iff_lt := @gt_iff_lt
end Go.Sym
