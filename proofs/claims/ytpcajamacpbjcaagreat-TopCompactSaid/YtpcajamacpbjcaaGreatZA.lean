/- Short names for laws of the library: no laws of its own. -/
import Derived.Test.YtpcajamacpbjcaaGreatRows
import Derived.WalkKit
import Derived.Deep.RegionHeld
import Derived.Laws.Rows
import Derived.Deep.MidRow
import Derived.Deep.OwnRows
set_option linter.all false
namespace Go.Proofs.YtpcajamacpbjcaaGreat
open Go.RowKit
theorem xq{α:Sort _}(a:α):∃b,a=b:=⟨a,rfl⟩
section
variable {P:Program} {ops:Array Oper} {Q:Exit->Act->World->Prop} {md:Region.Mode} {S:World->Prop} {oi:Oper} {fuel:Nat} {listed:Array Bool} {a:Act} {w:World}
theorem tk(i:Nat)(v:Value)(hy:∀w,S w->(execOp a.eval oi).run P w=.ok (.value v) w)(h:wpAnyH P md ops Q S fuel (listed.setIfInBounds i true) (a.put oi.dst v) w)(hi:ops[i]? = some oi:=by rfl)(hs:Region.noSelect ops=true:=by kernel_rfl)(hf:Region.free md ops listed i=true:=by kernel_rfl)(hr:(Region.ready md ops listed).contains i=true:=by kernel_rfl)(hw:Region.wanted oi (yielded ops a.tmps)=true:=by kernel_rfl)(hQ:∀c a w,Q (.panic c) (a.put oi.dst v) w->Q (.panic c) a w:=by exact λ_ _ _ h=>h)(hS:S w:=by assumption): wpAnyH P md ops Q S (fuel+1) listed a w := wpAnyH_take hi hs hf hr hQ (.inl ⟨hw,hy⟩) hS h
theorem tj(i:Nat)(v:Value)(h:wpAnyH P md ops Q S fuel (listed.setIfInBounds i true) (a.put oi.dst v) w)(hi:ops[i]? = some oi:=by rfl)(hs:Region.noSelect ops=true:=by kernel_rfl)(hf:Region.free md ops listed i=true:=by kernel_rfl)(hr:(Region.ready md ops listed).contains i=true:=by kernel_rfl)(hw:Region.wanted oi (yielded ops a.tmps)=true:=by kernel_rfl)(hQ:∀c a w,Q (.panic c) (a.put oi.dst v) w->Q (.panic c) a w:=by exact λ_ _ _ h=>h)(hS:S w:=by assumption)(hy:∀w,S w->(execOp a.eval oi).run P w=.ok (.value v) w:=by (intro X b;(try dsimp only at b);go_simp)): wpAnyH P md ops Q S (fuel+1) listed a w := wpAnyH_take hi hs hf hr hQ (.inl ⟨hw,hy⟩) hS h
theorem sk(i:Nat)(h:wpAnyH P md ops Q S fuel (listed.setIfInBounds i true) (a.put oi.dst undef) w)(hi:ops[i]? = some oi:=by rfl)(hs:Region.noSelect ops=true:=by kernel_rfl)(hf:Region.free md ops listed i=true:=by kernel_rfl)(hr:(Region.ready md ops listed).contains i=true:=by kernel_rfl)(hw:Region.wanted oi (yielded ops a.tmps)=false:=by kernel_rfl)(hQ:∀c a w,Q (.panic c) (a.put oi.dst undef) w->Q (.panic c) a w:=by exact λ_ _ _ h=>h)(hS:S w:=by assumption): wpAnyH P md ops Q S (fuel+1) listed a w := wpAnyH_take hi hs hf hr hQ (.inr ⟨hw,rfl⟩) hS h
end
theorem kqa : type_of% @Nat.le_refl := @Nat.le_refl
theorem kqb : type_of% @List.setIfInBounds_toArray := @List.setIfInBounds_toArray
theorem kqc{A:Type _}(a:A)(l:List A)(i:Nat)(h:i+1<(a::l).length):(a::l)[i+1]=l[i]'(Nat.lt_of_succ_lt_succ h):=rfl
theorem kqd{A:Type _}(a:A)(l:List A)(h:0<(a::l).length):(a::l)[0]=a:=rfl
theorem kqe{A:Type _}(xs:List A)(i:Nat)(h:i<xs.toArray.size):xs.toArray[i]=xs[i]'(by simpa using h):=rfl
theorem kqf{A:Type _}(x:A)(xs:List A)(n:Nat)(a:A):(x::xs).set (n+1) a=x::xs.set n a:=rfl
theorem kqg{A:Type _}(x:A)(xs:List A)(a:A):(x::xs).set 0 a=a::xs:=rfl
theorem kqh : type_of% @decide_eq_false_iff_not := @decide_eq_false_iff_not
theorem kqi : type_of% @beq_eq_false_iff_ne := @beq_eq_false_iff_ne
theorem kqj : type_of% @Int.toNat_natCast := @Int.toNat_natCast
theorem kqk : type_of% @Go.RowKit.Below.refl := @Go.RowKit.Below.refl
theorem kql : type_of% @List.getElem?_eq_getElem := @List.getElem?_eq_getElem
theorem kqm : type_of% @Go.World.size_alloc := @Go.World.size_alloc
theorem kqn : type_of% @List.getElem_mem := @List.getElem_mem
theorem kqo : type_of% @decide_eq_true_iff := @decide_eq_true_iff
theorem kqp : type_of% @List.take_succ_eq_append_getElem := @List.take_succ_eq_append_getElem
theorem kqq : type_of% @Go.bodyPost_ret := @Go.bodyPost_ret
theorem kqr : type_of% @bne_eq_false_iff_eq := @bne_eq_false_iff_eq
theorem kqs : type_of% @List.length_append := @List.length_append
theorem kqt : type_of% @Go.IntWalk.i64_in := @Go.IntWalk.i64_in
theorem kqu : type_of% @Bool.and_eq_true := @Bool.and_eq_true
theorem kqv : type_of% @bne_iff_ne := @bne_iff_ne
theorem kqw : type_of% @List.mem_cons := @List.mem_cons
theorem kqx : type_of% @beq_iff_eq := @beq_iff_eq
theorem kqy : type_of% @List.mem_singleton := @List.mem_singleton
theorem kqz : type_of% @Nat.zero_le := @Nat.zero_le
theorem kq0 : type_of% @List.getElem_of_mem := @List.getElem_of_mem
theorem kq1 : type_of% @Int.eq_ofNat_of_zero_le := @Int.eq_ofNat_of_zero_le
theorem kq2 : type_of% @List.length_cons := @List.length_cons
theorem kq3 : type_of% @List.length_set := @List.length_set
theorem kq4 : type_of% @List.length_take := @List.length_take
theorem kq5 : type_of% @Option.getD_some := @Option.getD_some
theorem kq6 : type_of% @Go.World.ownsRow_nil := @Go.World.ownsRow_nil
theorem kq7 : type_of% @Nat.lt_or_ge := @Nat.lt_or_ge
theorem kq8 : type_of% @List.take_of_length_le := @List.take_of_length_le
theorem kq9 : type_of% @Go.RowKit.Below.setCell := @Go.RowKit.Below.setCell
theorem kza : type_of% @List.getElem?_eq_some_iff := @List.getElem?_eq_some_iff
theorem kzb : type_of% @Int.cast_ofNat_Int := @Int.cast_ofNat_Int
theorem kzc : type_of% @List.getElem?_eq_none := @List.getElem?_eq_none
theorem kzd : type_of% @decide_eq_true_eq := @decide_eq_true_eq
theorem kze : type_of% @Go.World.cell?_alloc_lt := @Go.World.cell?_alloc_lt
theorem kzf : type_of% @List.take_length := @List.take_length
theorem kzg : type_of% @List.length_map := @List.length_map
theorem kzh : type_of% @Go.wpList_append_own := @Go.wpList_append_own
theorem kzi : type_of% @List.mem_range := @List.mem_range
theorem kzj : type_of% @List.pairwise_iff_getElem := @List.pairwise_iff_getElem
theorem kzk : type_of% @List.not_mem_nil := @List.not_mem_nil
theorem kzl : type_of% @Bool.eq_iff_iff := @Bool.eq_iff_iff
theorem kzm : type_of% @Bool.false_eq_true := @Bool.false_eq_true
theorem kzn : type_of% @List.cons_append := @List.cons_append
theorem kzo : type_of% @List.mem_append := @List.mem_append
theorem kzp : type_of% @List.length_drop := @List.length_drop
theorem kzq : type_of% @Bool.true_and := @Bool.true_and
theorem kzr : type_of% @Go.info_parts := @Go.info_parts
theorem kzs : type_of% @Bool.or_eq_false_iff := @Bool.or_eq_false_iff
theorem kzt : type_of% @List.append_nil := @List.append_nil
theorem kzu : type_of% @List.mem_filter := @List.mem_filter
theorem kzv : type_of% @List.all_eq_true := @List.all_eq_true
theorem kzw : type_of% @Go.IntWalk.u64_in := @Go.IntWalk.u64_in
theorem kzx : type_of% @List.mem_map := @List.mem_map
theorem kzy : type_of% @List.flatMap_cons := @List.flatMap_cons
theorem kzz : type_of% @Option.map_some := @Option.map_some
theorem kz0 : type_of% @Nat.mod_lt := @Nat.mod_lt
theorem kz1 : type_of% @List.mem_cons_of_mem := @List.mem_cons_of_mem
theorem kz2 : type_of% @List.nil_append := @List.nil_append
theorem kz3 : type_of% @Go.wpAnyH_ready := @Go.wpAnyH_ready
theorem kz4 : type_of% @List.getElem?_set_self := @List.getElem?_set_self
theorem kz5 : type_of% @List.map_congr_left := @List.map_congr_left
theorem kz6 : type_of% @Go.World.size_setCell := @Go.World.size_setCell
theorem kz7 : type_of% @Nat.le_trans := @Nat.le_trans
theorem kz8 : type_of% @Nat.le_succ := @Nat.le_succ
theorem kz9 : type_of% @Go.wp_region_held_drew := @Go.wp_region_held_drew
theorem kxa : type_of% @Nat.add_zero := @Nat.add_zero
theorem kxb : type_of% @List.take_append_drop := @List.take_append_drop
theorem kxc : type_of% @List.flatMap_append := @List.flatMap_append
theorem kxd : type_of% @Nat.zero_add := @Nat.zero_add
theorem kxe : type_of% @Nat.div_div_eq_div_mul := @Nat.div_div_eq_div_mul
theorem kxf : type_of% @List.length_nil := @List.length_nil
theorem kxg : type_of% @Nat.min_eq_left := @Nat.min_eq_left
theorem kxh : type_of% @List.getElem?_map := @List.getElem?_map
theorem kxi : type_of% @List.getElem?_set := @List.getElem?_set
theorem kxj : type_of% @Go.wpList_load_row := @Go.wpList_load_row
theorem kxk : type_of% @Nat.and_two_pow_sub_one_eq_mod := @Nat.and_two_pow_sub_one_eq_mod
theorem kxl : type_of% @List.getElem?_append_right := @List.getElem?_append_right
theorem kxm : type_of% @List.map_cons := @List.map_cons
theorem kxn : type_of% @List.take_append_of_le_length := @List.take_append_of_le_length
theorem kxo : type_of% @List.append_assoc := @List.append_assoc
theorem kxp : type_of% @List.mem_of_mem_take := @List.mem_of_mem_take
theorem kxq : type_of% @Nat.mul_one := @Nat.mul_one
theorem kxr : type_of% @List.getElem?_drop := @List.getElem?_drop
theorem kxs : type_of% @List.take_succ_cons := @List.take_succ_cons
theorem kxt : type_of% @Array.getD_eq_getD_getElem? := @Array.getD_eq_getD_getElem?
theorem kxu : type_of% @List.map_append := @List.map_append
theorem kxv : type_of% @List.foldl_cons := @List.foldl_cons
theorem kxw : type_of% @Go.wpAnyH_done := @Go.wpAnyH_done
theorem kxx : type_of% @List.drop_drop := @List.drop_drop
theorem kxy : type_of% @Nat.mul_le_mul_right := @Nat.mul_le_mul_right
theorem kxz : type_of% @List.mem_of_mem_drop := @List.mem_of_mem_drop
theorem kx0 : type_of% @List.getElem?_set_ne := @List.getElem?_set_ne
theorem kx1 : type_of% @Bool.or_eq_true := @Bool.or_eq_true
theorem kx2 : type_of% @Bool.false_and := @Bool.false_and
theorem kx3 : type_of% @List.drop_eq_getElem_cons := @List.drop_eq_getElem_cons
theorem kx4 : type_of% @List.eq_nil_of_length_eq_zero := @List.eq_nil_of_length_eq_zero
theorem kx5 : type_of% @List.any_eq_true := @List.any_eq_true
theorem kx6 : type_of% @List.mem_map_of_mem := @List.mem_map_of_mem
theorem kx7 : type_of% @Bool.not_eq_true' := @Bool.not_eq_true'
theorem kx8 : type_of% @List.ext_getElem? := @List.ext_getElem?
theorem kx9 : type_of% @Go.World.cell?_setCells_out := @Go.World.cell?_setCells_out
theorem kja : type_of% @Array.getElem?_setIfInBounds := @Array.getElem?_setIfInBounds
theorem kjb : type_of% @Nat.eq_zero_or_pos := @Nat.eq_zero_or_pos
theorem kjc : type_of% @List.filter_append := @List.filter_append
theorem kjd : type_of% @Nat.pow_le_pow_right := @Nat.pow_le_pow_right
theorem kje : type_of% @Nat.mul_comm := @Nat.mul_comm
theorem kjf : type_of% @Array.getElem?_eq_none := @Array.getElem?_eq_none
theorem kjg : type_of% @List.drop_of_length_le := @List.drop_of_length_le
theorem kjh : type_of% @Nat.add_mul := @Nat.add_mul
theorem kji : type_of% @Go.RowKit.Below.drew := @Go.RowKit.Below.drew
theorem kjj : type_of% @Go.RowKit.Below.alloc := @Go.RowKit.Below.alloc
theorem kjk : type_of% @List.any_eq_false := @List.any_eq_false
theorem kjl : type_of% @Array.getElem?_eq_getElem := @Array.getElem?_eq_getElem
theorem kjm : type_of% @Nat.pow_succ := @Nat.pow_succ
theorem kjn : type_of% @Int.natCast_add := @Int.natCast_add
theorem kjo : type_of% @List.length_filter_le := @List.length_filter_le
theorem kjp : type_of% @List.length_replicate := @List.length_replicate
theorem kjq : type_of% @Nat.lt_of_lt_of_le := @Nat.lt_of_lt_of_le
theorem kjr : type_of% @List.pairwise_cons := @List.pairwise_cons
theorem kjs : type_of% @Nat.lt_succ_self := @Nat.lt_succ_self
theorem kjt : type_of% @List.filter_cons := @List.filter_cons
theorem kju : type_of% @Go.wpList_store_mid := @Go.wpList_store_mid
theorem kjv : type_of% @Nat.le_of_lt := @Nat.le_of_lt
theorem kjw : type_of% @Nat.add_comm := @Nat.add_comm
theorem kjx : type_of% @List.size_toArray := @List.size_toArray
theorem kjy : type_of% @List.pairwise_map := @List.pairwise_map
theorem kjz : type_of% @List.take_sublist := @List.take_sublist
theorem kj0 : type_of% @Int.toNat_of_nonneg := @Int.toNat_of_nonneg
theorem kj1 : type_of% @List.replicate_succ := @List.replicate_succ
theorem kj2 : type_of% @Array.getElem?_eq_some_iff := @Array.getElem?_eq_some_iff
theorem kj3 : type_of% @Nat.add_assoc := @Nat.add_assoc
theorem kj4 : type_of% @Option.isSome_none := @Option.isSome_none
theorem kj5 : type_of% @List.mem_filterMap := @List.mem_filterMap
theorem kj6 : type_of% @List.mem_iff_getElem? := @List.mem_iff_getElem?
theorem kj7 : type_of% @Go.World.cell?_setCell_other := @Go.World.cell?_setCell_other
theorem kj8 : type_of% @List.getElem?_append_left := @List.getElem?_append_left
theorem kj9 : type_of% @Bool.and_false := @Bool.and_false
theorem kka : type_of% @Nat.pow_add := @Nat.pow_add
theorem kkb : type_of% @List.getElem_drop := @List.getElem_drop
theorem kkc : type_of% @Nat.lt_trichotomy := @Nat.lt_trichotomy
theorem kkd : type_of% @List.getElem?_cons_succ := @List.getElem?_cons_succ
theorem kke : type_of% @List.getElem?_replicate := @List.getElem?_replicate
theorem kkf : type_of% @List.drop_length := @List.drop_length
theorem kkg : type_of% @List.take_take := @List.take_take
theorem kkh : type_of% @List.filter_eq_nil_iff := @List.filter_eq_nil_iff
theorem kki : type_of% @Nat.lt_of_le_of_lt := @Nat.lt_of_le_of_lt
theorem kkj : type_of% @Option.isSome_some := @Option.isSome_some
theorem kkk : type_of% @Bool.and_eq_false_iff := @Bool.and_eq_false_iff
theorem kkl : type_of% @List.getElem_take := @List.getElem_take
theorem kkm : type_of% @Bool.or_false := @Bool.or_false
theorem kkn : type_of% @List.length_range := @List.length_range
theorem kko : type_of% @Array.replicate_succ := @Array.replicate_succ
theorem kkp : type_of% @Array.replicate_zero := @Array.replicate_zero
theorem kkq : type_of% @List.mem_append_left := @List.mem_append_left
theorem kkr : type_of% @Option.getD_none := @Option.getD_none
theorem kks : type_of% @Int.le_refl := @Int.le_refl
theorem kkt : type_of% @List.append_toArray := @List.append_toArray
theorem kku : type_of% @Array.length_toList := @Array.length_toList
theorem kkv : type_of% @Go.wpAnyH_take := @Go.wpAnyH_take
theorem kkw : type_of% @Bool.true_or := @Bool.true_or
theorem kkx : type_of% @Array.size_setIfInBounds := @Array.size_setIfInBounds
theorem kky : type_of% @List.length_filterMap_le := @List.length_filterMap_le
theorem kkz : type_of% @Go.RowKit.Below.heap_setCell := @Go.RowKit.Below.heap_setCell
theorem kk0 : type_of% @Array.ext_getElem? := @Array.ext_getElem?
theorem kk1 : type_of% @Int.natCast_mul := @Int.natCast_mul
theorem kk2 : type_of% @Bool.not_eq_false' := @Bool.not_eq_false'
theorem kk3 : type_of% @Nat.div_le_self := @Nat.div_le_self
theorem kk4 : type_of% @List.range_succ := @List.range_succ
theorem kk5 : type_of% @List.getElem?_take := @List.getElem?_take
theorem kk6 : type_of% @List.filter_cons_of_pos := @List.filter_cons_of_pos
theorem kk7 : type_of% @List.drop_eq_nil_of_le := @List.drop_eq_nil_of_le
theorem kk8 : type_of% @Array.all_eq_true := @Array.all_eq_true
theorem kk9 : type_of% @List.push_toArray := @List.push_toArray
theorem kva : type_of% @Nat.le_succ_of_le := @Nat.le_succ_of_le
theorem kvb : type_of% @Bool.or_true := @Bool.or_true
theorem kvc : type_of% @List.set_append_right := @List.set_append_right
theorem kvd : type_of% @List.filterMap_append := @List.filterMap_append
theorem kve : type_of% @Array.getElem?_toList := @Array.getElem?_toList
theorem kvf : type_of% @List.mem_flatMap := @List.mem_flatMap
theorem kvg : type_of% @Nat.min_eq_right := @Nat.min_eq_right
theorem kvh : type_of% @List.pairwise_append := @List.pairwise_append
theorem kvi : type_of% @List.mem_iff_getElem := @List.mem_iff_getElem
theorem kvj : type_of% @Nat.mul_assoc := @Nat.mul_assoc
theorem kvk : type_of% @Bool.false_or := @Bool.false_or
theorem kvl : type_of% @Nat.div_add_mod := @Nat.div_add_mod
theorem kvm : type_of% @List.filterMap_cons := @List.filterMap_cons
theorem kvn : type_of% @List.getElem?_range := @List.getElem?_range
theorem kvo : type_of% @List.filter_eq_self := @List.filter_eq_self
theorem kvp : type_of% @List.take_set_of_le := @List.take_set_of_le
theorem kvq : type_of% @List.drop_set_of_lt := @List.drop_set_of_lt
theorem kvr : type_of% @Nat.sub_self := @Nat.sub_self
theorem kvs : type_of% @Nat.zero_mul := @Nat.zero_mul
theorem kvt : type_of% @List.filterMap_nil := @List.filterMap_nil
theorem kvu : type_of% @Bool.not_false := @Bool.not_false
theorem kvv : type_of% @List.foldl_nil := @List.foldl_nil
theorem kvw : type_of% @Nat.pow_pos := @Nat.pow_pos
theorem kvx : type_of% @Bool.not_true := @Bool.not_true
end Go.Proofs.YtpcajamacpbjcaaGreat
