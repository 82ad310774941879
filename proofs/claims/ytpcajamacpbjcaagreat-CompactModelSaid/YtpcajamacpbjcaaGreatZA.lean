/- Short names for laws of the library: no laws of its own. -/
import Derived.Test.YtpcajamacpbjcaaGreatRows
import Derived.WalkKit
import Derived.Deep.RegionHeld
import Derived.Laws.Rows
import Derived.Deep.MidRow
import Derived.Deep.OwnRows
set_option linter.all false
namespace Go.Proofs.YtpcajamacpbjcaaGreat
open Go.RowKit
theorem xq{α:Sort _}(a:α):∃b,a=b:=⟨a,rfl⟩
section
variable {P:Program} {ops:Array Oper} {Q:Exit->Act->World->Prop} {md:Region.Mode} {S:World->Prop} {oi:Oper} {fuel:Nat} {listed:Array Bool} {a:Act} {w:World}
theorem tk(i:Nat)(v:Value)(hy:∀w,S w->(execOp a.eval oi).run P w=.ok (.value v) w)(h:wpAnyH P md ops Q S fuel (listed.setIfInBounds i true) (a.put oi.dst v) w)(hi:ops[i]? = some oi:=by rfl)(hs:Region.noSelect ops=true:=by kernel_rfl)(hf:Region.free md ops listed i=true:=by kernel_rfl)(hr:(Region.ready md ops listed).contains i=true:=by kernel_rfl)(hw:Region.wanted oi (yielded ops a.tmps)=true:=by kernel_rfl)(hQ:∀c a w,Q (.panic c) (a.put oi.dst v) w->Q (.panic c) a w:=by exact λ_ _ _ h=>h)(hS:S w:=by assumption): wpAnyH P md ops Q S (fuel+1) listed a w := wpAnyH_take hi hs hf hr hQ (.inl ⟨hw,hy⟩) hS h
theorem tj(i:Nat)(v:Value)(h:wpAnyH P md ops Q S fuel (listed.setIfInBounds i true) (a.put oi.dst v) w)(hi:ops[i]? = some oi:=by rfl)(hs:Region.noSelect ops=true:=by kernel_rfl)(hf:Region.free md ops listed i=true:=by kernel_rfl)(hr:(Region.ready md ops listed).contains i=true:=by kernel_rfl)(hw:Region.wanted oi (yielded ops a.tmps)=true:=by kernel_rfl)(hQ:∀c a w,Q (.panic c) (a.put oi.dst v) w->Q (.panic c) a w:=by exact λ_ _ _ h=>h)(hS:S w:=by assumption)(hy:∀w,S w->(execOp a.eval oi).run P w=.ok (.value v) w:=by (intro X b;(try dsimp only at b);go_simp)): wpAnyH P md ops Q S (fuel+1) listed a w := wpAnyH_take hi hs hf hr hQ (.inl ⟨hw,hy⟩) hS h
theorem sk(i:Nat)(h:wpAnyH P md ops Q S fuel (listed.setIfInBounds i true) (a.put oi.dst undef) w)(hi:ops[i]? = some oi:=by rfl)(hs:Region.noSelect ops=true:=by kernel_rfl)(hf:Region.free md ops listed i=true:=by kernel_rfl)(hr:(Region.ready md ops listed).contains i=true:=by kernel_rfl)(hw:Region.wanted oi (yielded ops a.tmps)=false:=by kernel_rfl)(hQ:∀c a w,Q (.panic c) (a.put oi.dst undef) w->Q (.panic c) a w:=by exact λ_ _ _ h=>h)(hS:S w:=by assumption): wpAnyH P md ops Q S (fuel+1) listed a w := wpAnyH_take hi hs hf hr hQ (.inr ⟨hw,rfl⟩) hS h
end
theorem kqa : type_of% @List.setIfInBounds_toArray := @List.setIfInBounds_toArray
theorem kqb{A:Type _}(a:A)(l:List A)(i:Nat)(h:i+1<(a::l).length):(a::l)[i+1]=l[i]'(Nat.lt_of_succ_lt_succ h):=rfl
theorem kqc{A:Type _}(a:A)(l:List A)(h:0<(a::l).length):(a::l)[0]=a:=rfl
theorem kqd{A:Type _}(x:A)(xs:List A)(n:Nat)(a:A):(x::xs).set (n+1) a=x::xs.set n a:=rfl
theorem kqe{A:Type _}(xs:List A)(i:Nat)(h:i<xs.toArray.size):xs.toArray[i]=xs[i]'(by simpa using h):=rfl
theorem kqf{A:Type _}(x:A)(xs:List A)(a:A):(x::xs).set 0 a=a::xs:=rfl
theorem kqg : type_of% @Nat.le_refl := @Nat.le_refl
theorem kqh : type_of% @decide_eq_false_iff_not := @decide_eq_false_iff_not
theorem kqi : type_of% @beq_eq_false_iff_ne := @beq_eq_false_iff_ne
theorem kqj : type_of% @List.getElem?_eq_getElem := @List.getElem?_eq_getElem
theorem kqk : type_of% @Int.toNat_natCast := @Int.toNat_natCast
theorem kql : type_of% @Go.RowKit.Below.refl := @Go.RowKit.Below.refl
theorem kqm : type_of% @List.getElem_mem := @List.getElem_mem
theorem kqn : type_of% @Go.World.size_alloc := @Go.World.size_alloc
theorem kqo : type_of% @decide_eq_true_iff := @decide_eq_true_iff
theorem kqp : type_of% @List.take_succ_eq_append_getElem := @List.take_succ_eq_append_getElem
theorem kqq : type_of% @bne_eq_false_iff_eq := @bne_eq_false_iff_eq
theorem kqr : type_of% @Go.IntWalk.i64_in := @Go.IntWalk.i64_in
theorem kqs : type_of% @List.length_map := @List.length_map
theorem kqt : type_of% @bne_iff_ne := @bne_iff_ne
theorem kqu : type_of% @List.getElem_of_mem := @List.getElem_of_mem
theorem kqv : type_of% @Go.bodyPost_ret := @Go.bodyPost_ret
theorem kqw : type_of% @List.length_append := @List.length_append
theorem kqx : type_of% @beq_iff_eq := @beq_iff_eq
theorem kqy : type_of% @Nat.zero_le := @Nat.zero_le
theorem kqz : type_of% @Bool.and_eq_true := @Bool.and_eq_true
theorem kq0 : type_of% @List.mem_cons := @List.mem_cons
theorem kq1 : type_of% @List.mem_singleton := @List.mem_singleton
theorem kq2 : type_of% @Option.getD_some := @Option.getD_some
theorem kq3 : type_of% @Go.World.ownsRow_nil := @Go.World.ownsRow_nil
theorem kq4 : type_of% @Go.World.cell?_alloc_lt := @Go.World.cell?_alloc_lt
theorem kq5 : type_of% @Int.eq_ofNat_of_zero_le := @Int.eq_ofNat_of_zero_le
theorem kq6 : type_of% @List.length_take := @List.length_take
theorem kq7 : type_of% @List.getElem?_eq_some_iff := @List.getElem?_eq_some_iff
theorem kq8 : type_of% @List.mem_range := @List.mem_range
theorem kq9 : type_of% @Nat.lt_or_ge := @Nat.lt_or_ge
theorem kza : type_of% @Nat.le_trans := @Nat.le_trans
theorem kzb : type_of% @Int.cast_ofNat_Int := @Int.cast_ofNat_Int
theorem kzc : type_of% @List.length_cons := @List.length_cons
theorem kzd : type_of% @List.getElem?_eq_none := @List.getElem?_eq_none
theorem kze : type_of% @List.length_set := @List.length_set
theorem kzf : type_of% @List.pairwise_iff_getElem := @List.pairwise_iff_getElem
theorem kzg : type_of% @List.take_of_length_le := @List.take_of_length_le
theorem kzh : type_of% @List.getElem?_map := @List.getElem?_map
theorem kzi : type_of% @List.mem_map := @List.mem_map
theorem kzj : type_of% @List.mem_cons_of_mem := @List.mem_cons_of_mem
theorem kzk : type_of% @Option.map_some := @Option.map_some
theorem kzl : type_of% @Go.RowKit.Below.setCell := @Go.RowKit.Below.setCell
theorem kzm : type_of% @List.map_congr_left := @List.map_congr_left
theorem kzn : type_of% @Go.wpList_append_own := @Go.wpList_append_own
theorem kzo : type_of% @List.mem_append := @List.mem_append
theorem kzp : type_of% @Bool.false_eq_true := @Bool.false_eq_true
theorem kzq : type_of% @List.all_eq_true := @List.all_eq_true
theorem kzr : type_of% @Bool.eq_iff_iff := @Bool.eq_iff_iff
theorem kzs : type_of% @Go.IntWalk.u64_in := @Go.IntWalk.u64_in
theorem kzt : type_of% @Go.info_parts := @Go.info_parts
theorem kzu : type_of% @List.not_mem_nil := @List.not_mem_nil
theorem kzv : type_of% @List.mem_filter := @List.mem_filter
theorem kzw : type_of% @Bool.or_eq_false_iff := @Bool.or_eq_false_iff
theorem kzx : type_of% @Bool.true_and := @Bool.true_and
theorem kzy : type_of% @List.flatMap_cons := @List.flatMap_cons
theorem kzz : type_of% @decide_eq_true_eq := @decide_eq_true_eq
theorem kz0 : type_of% @List.cons_append := @List.cons_append
theorem kz1 : type_of% @List.append_nil := @List.append_nil
theorem kz2 : type_of% @List.take_length := @List.take_length
theorem kz3 : type_of% @Nat.mod_lt := @Nat.mod_lt
theorem kz4 : type_of% @List.getElem?_set := @List.getElem?_set
theorem kz5 : type_of% @List.nil_append := @List.nil_append
theorem kz6 : type_of% @Go.wp_region_held_drew := @Go.wp_region_held_drew
theorem kz7 : type_of% @List.ext_getElem? := @List.ext_getElem?
theorem kz8 : type_of% @Array.getElem?_eq_none := @Array.getElem?_eq_none
theorem kz9 : type_of% @List.mem_map_of_mem := @List.mem_map_of_mem
theorem kxa : type_of% @List.map_append := @List.map_append
theorem kxb : type_of% @Nat.min_eq_left := @Nat.min_eq_left
theorem kxc : type_of% @List.length_drop := @List.length_drop
theorem kxd : type_of% @Nat.add_zero := @Nat.add_zero
theorem kxe : type_of% @Nat.le_succ := @Nat.le_succ
theorem kxf : type_of% @Go.World.grownBy_alloc := @Go.World.grownBy_alloc
theorem kxg : type_of% @Nat.div_div_eq_div_mul := @Nat.div_div_eq_div_mul
theorem kxh : type_of% @List.getElem?_set_self := @List.getElem?_set_self
theorem kxi : type_of% @List.length_filter_le := @List.length_filter_le
theorem kxj : type_of% @List.getElem?_append_right := @List.getElem?_append_right
theorem kxk : type_of% @List.map_cons := @List.map_cons
theorem kxl : type_of% @List.flatMap_append := @List.flatMap_append
theorem kxm : type_of% @Nat.zero_add := @Nat.zero_add
theorem kxn : type_of% @Nat.mul_one := @Nat.mul_one
theorem kxo : type_of% @List.take_append_drop := @List.take_append_drop
theorem kxp : type_of% @Array.getD_eq_getD_getElem? := @Array.getD_eq_getD_getElem?
theorem kxq : type_of% @List.getElem?_range := @List.getElem?_range
theorem kxr : type_of% @Go.wpAnyH_ready := @Go.wpAnyH_ready
theorem kxs : type_of% @Nat.lt_succ_self := @Nat.lt_succ_self
theorem kxt : type_of% @List.pairwise_map := @List.pairwise_map
theorem kxu : type_of% @List.mem_of_mem_take := @List.mem_of_mem_take
theorem kxv : type_of% @Nat.lt_of_lt_of_le := @Nat.lt_of_lt_of_le
theorem kxw : type_of% @Go.World.size_setCell := @Go.World.size_setCell
theorem kxx : type_of% @List.length_nil := @List.length_nil
theorem kxy : type_of% @Bool.false_and := @Bool.false_and
theorem kxz : type_of% @List.drop_drop := @List.drop_drop
theorem kx0 : type_of% @List.eq_nil_of_length_eq_zero := @List.eq_nil_of_length_eq_zero
theorem kx1 : type_of% @List.any_eq_true := @List.any_eq_true
theorem kx2 : type_of% @Int.toNat_of_nonneg := @Int.toNat_of_nonneg
theorem kx3 : type_of% @Go.wpAnyH_done := @Go.wpAnyH_done
theorem kx4 : type_of% @List.length_range := @List.length_range
theorem kx5 : type_of% @List.any_eq_false := @List.any_eq_false
theorem kx6 : type_of% @Nat.eq_zero_or_pos := @Nat.eq_zero_or_pos
theorem kx7 : type_of% @Bool.or_eq_true := @Bool.or_eq_true
theorem kx8 : type_of% @List.getElem?_drop := @List.getElem?_drop
theorem kx9 : type_of% @Go.World.block_lt_of_cell? := @Go.World.block_lt_of_cell?
theorem kja : type_of% @Go.wpList_load_row := @Go.wpList_load_row
theorem kjb : type_of% @Nat.mul_le_mul_right := @Nat.mul_le_mul_right
theorem kjc : type_of% @Nat.pow_le_pow_right := @Nat.pow_le_pow_right
theorem kjd : type_of% @Nat.mul_comm := @Nat.mul_comm
theorem kje : type_of% @Nat.add_mul := @Nat.add_mul
theorem kjf : type_of% @Bool.not_eq_true' := @Bool.not_eq_true'
theorem kjg : type_of% @List.take_succ_cons := @List.take_succ_cons
theorem kjh : type_of% @List.drop_eq_getElem_cons := @List.drop_eq_getElem_cons
theorem kji : type_of% @Nat.pow_succ := @Nat.pow_succ
theorem kjj : type_of% @Nat.and_two_pow_sub_one_eq_mod := @Nat.and_two_pow_sub_one_eq_mod
theorem kjk : type_of% @List.length_replicate := @List.length_replicate
theorem kjl : type_of% @List.filter_append := @List.filter_append
theorem kjm : type_of% @List.mem_filterMap := @List.mem_filterMap
theorem kjn : type_of% @List.pairwise_cons := @List.pairwise_cons
theorem kjo : type_of% @List.getElem?_set_ne := @List.getElem?_set_ne
theorem kjp : type_of% @Array.getElem?_setIfInBounds := @Array.getElem?_setIfInBounds
theorem kjq : type_of% @Nat.le_of_lt := @Nat.le_of_lt
theorem kjr : type_of% @List.size_toArray := @List.size_toArray
theorem kjs : type_of% @List.take_sublist := @List.take_sublist
theorem kjt : type_of% @Nat.lt_trichotomy := @Nat.lt_trichotomy
theorem kju : type_of% @Int.natCast_add := @Int.natCast_add
theorem kjv : type_of% @List.replicate_succ := @List.replicate_succ
theorem kjw : type_of% @List.filterMap_cons := @List.filterMap_cons
theorem kjx : type_of% @Array.getElem?_eq_some_iff := @Array.getElem?_eq_some_iff
theorem kjy : type_of% @List.filter_cons := @List.filter_cons
theorem kjz : type_of% @Nat.add_assoc := @Nat.add_assoc
theorem kj0 : type_of% @Nat.add_comm := @Nat.add_comm
theorem kj1 : type_of% @List.mem_iff_getElem? := @List.mem_iff_getElem?
theorem kj2 : type_of% @List.getElem?_append_left := @List.getElem?_append_left
theorem kj3 : type_of% @Bool.and_false := @Bool.and_false
theorem kj4 : type_of% @Nat.pow_add := @Nat.pow_add
theorem kj5 : type_of% @List.mem_of_mem_drop := @List.mem_of_mem_drop
theorem kj6 : type_of% @List.getElem_drop := @List.getElem_drop
theorem kj7 : type_of% @List.range_succ := @List.range_succ
theorem kj8 : type_of% @Go.World.cell?_setCells_out := @Go.World.cell?_setCells_out
theorem kj9 : type_of% @List.getElem_map := @List.getElem_map
theorem kka : type_of% @Go.RowKit.Below.heap_setCell := @Go.RowKit.Below.heap_setCell
theorem kkb : type_of% @Nat.add_sub_cancel := @Nat.add_sub_cancel
theorem kkc : type_of% @Nat.lt_of_le_of_lt := @Nat.lt_of_le_of_lt
theorem kkd : type_of% @Option.isSome_none := @Option.isSome_none
theorem kke : type_of% @Option.isSome_some := @Option.isSome_some
theorem kkf : type_of% @List.set_append_right := @List.set_append_right
theorem kkg : type_of% @List.foldl_cons := @List.foldl_cons
theorem kkh : type_of% @List.filterMap_append := @List.filterMap_append
theorem kki : type_of% @Array.getElem?_toList := @Array.getElem?_toList
theorem kkj : type_of% @List.append_assoc := @List.append_assoc
theorem kkk : type_of% @Array.replicate_succ := @Array.replicate_succ
theorem kkl : type_of% @Array.replicate_zero := @Array.replicate_zero
theorem kkm : type_of% @List.pairwise_append := @List.pairwise_append
theorem kkn : type_of% @Array.getElem?_eq_getElem := @Array.getElem?_eq_getElem
theorem kko : type_of% @Go.World.cell?_setCell_other := @Go.World.cell?_setCell_other
theorem kkp : type_of% @Option.getD_none := @Option.getD_none
theorem kkq : type_of% @Go.wpList_store_mid := @Go.wpList_store_mid
theorem kkr : type_of% @List.append_toArray := @List.append_toArray
theorem kks : type_of% @Array.length_toList := @Array.length_toList
theorem kkt : type_of% @Go.wpAnyH_take := @Go.wpAnyH_take
theorem kku : type_of% @List.length_filterMap_le := @List.length_filterMap_le
theorem kkv : type_of% @List.getElem?_cons_succ := @List.getElem?_cons_succ
theorem kkw : type_of% @Array.ext_getElem? := @Array.ext_getElem?
theorem kkx : type_of% @Int.natCast_mul := @Int.natCast_mul
theorem kky : type_of% @Bool.not_eq_false' := @Bool.not_eq_false'
theorem kkz : type_of% @Nat.div_le_self := @Nat.div_le_self
theorem kk0 : type_of% @List.getElem?_replicate := @List.getElem?_replicate
theorem kk1 : type_of% @List.filterMap_nil := @List.filterMap_nil
theorem kk2 : type_of% @List.getElem?_cons_zero := @List.getElem?_cons_zero
theorem kk3 : type_of% @Option.isNone_some := @Option.isNone_some
theorem kk4 : type_of% @List.getElem_range := @List.getElem_range
theorem kk5 : type_of% @List.getElem_take := @List.getElem_take
theorem kk6 : type_of% @Int.le_refl := @Int.le_refl
theorem kk7 : type_of% @List.push_toArray := @List.push_toArray
theorem kk8 : type_of% @Nat.le_succ_of_le := @Nat.le_succ_of_le
theorem kk9 : type_of% @Bool.true_or := @Bool.true_or
theorem kva : type_of% @Bool.and_eq_false_iff := @Bool.and_eq_false_iff
theorem kvb : type_of% @List.map_map := @List.map_map
theorem kvc : type_of% @List.drop_length := @List.drop_length
theorem kvd : type_of% @Nat.min_eq_right := @Nat.min_eq_right
theorem kve : type_of% @List.mem_iff_getElem := @List.mem_iff_getElem
theorem kvf : type_of% @Nat.mul_assoc := @Nat.mul_assoc
theorem kvg : type_of% @Nat.div_add_mod := @Nat.div_add_mod
theorem kvh : type_of% @Nat.lt_or_gt_of_ne := @Nat.lt_or_gt_of_ne
theorem kvi : type_of% @Nat.zero_mul := @Nat.zero_mul
theorem kvj : type_of% @Bool.or_true := @Bool.or_true
theorem kvk : type_of% @Option.isNone_none := @Option.isNone_none
theorem kvl : type_of% @List.take_zero := @List.take_zero
theorem kvm : type_of% @Bool.not_false := @Bool.not_false
theorem kvn : type_of% @Nat.pow_pos := @Nat.pow_pos
theorem kvo : type_of% @Bool.not_true := @Bool.not_true
theorem kvp : type_of% @Bool.or_false := @Bool.or_false
end Go.Proofs.YtpcajamacpbjcaaGreat
