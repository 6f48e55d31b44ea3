/- Short names for laws of the library. -/
import Derived.Lib.Hide
import Derived.KernelRfl
import Derived.IntWalk
import Derived.Laws.World
namespace Go.Proofs.YtioamkekjjkigaaGreatDoor
theorem Ab {p : Prop} (h : p := by kernel_rfl) : p := h
theorem Ac {p : Prop} (h : p := by intro _;kernel_rfl) : p := h
theorem Ad {p : Prop} (h : p := by omega) : p := h
theorem Ae {p : Prop} (h : p := by decide) : p := h
theorem Af {p : Prop} (h : p := by simp) : p := h
theorem Al : type_of% @decide_eq_false := @decide_eq_false
theorem Am : type_of% @beq_eq_false_iff_ne := @beq_eq_false_iff_ne
theorem Ao : type_of% @ByteArray.ext := @ByteArray.ext
theorem Ap : type_of% @Bool.and_eq_true := @Bool.and_eq_true
theorem Aq : type_of% @decide_eq_true_eq := @decide_eq_true_eq
theorem Ar : type_of% @Bool.not_eq_true' := @Bool.not_eq_true'
theorem As : type_of% @List.any_eq_false := @List.any_eq_false
theorem Au : type_of% @Bool.or_eq_true := @Bool.or_eq_true
theorem Av : type_of% @Classical.byContradiction := @Classical.byContradiction
theorem Aw : type_of% @List.mem_cons := @List.mem_cons
theorem Ax : type_of% @List.getElem?_eq_getElem := @List.getElem?_eq_getElem
theorem Ay : type_of% @List.mem_of_getElem? := @List.mem_of_getElem?
theorem Az : type_of% @Int.toNat_natCast := @Int.toNat_natCast
theorem AA : type_of% @List.all_eq_false := @List.all_eq_false
theorem AB : type_of% @List.mem_range := @List.mem_range
theorem AE : type_of% @List.all_eq_true := @List.all_eq_true
theorem AF : type_of% @decide_eq_true := @decide_eq_true
theorem AG : type_of% @Int.natCast_mul := @Int.natCast_mul
theorem AI : type_of% @Int.mul_le_mul := @Int.mul_le_mul
theorem AJ : type_of% @Int.mul_le_mul_of_nonneg_right := @Int.mul_le_mul_of_nonneg_right
theorem AK : type_of% @Int.le_trans := @Int.le_trans
theorem AL : type_of% @Int.mul_assoc := @Int.mul_assoc
theorem AM : type_of% @Int.mul_comm := @Int.mul_comm
theorem AN : type_of% @List.getElem_mem := @List.getElem_mem
theorem AO : type_of% @Nat.zero_le := @Nat.zero_le
theorem AP : type_of% @if_neg := @if_neg
theorem AQ : type_of% @List.getElem?_map := @List.getElem?_map
theorem AR : type_of% @List.getElem?_range := @List.getElem?_range
theorem AS : type_of% @Bool.true_and := @Bool.true_and
theorem AU : type_of% @if_pos := @if_pos
theorem AV : type_of% @List.mem_map := @List.mem_map
theorem AW : type_of% @List.mem_iff_getElem := @List.mem_iff_getElem
theorem AX : type_of% @Bool.and_self := @Bool.and_self
theorem AY : type_of% @Nat.mul_one := @Nat.mul_one
theorem AZ : type_of% @List.range_succ := @List.range_succ
theorem B3 : type_of% @List.mem_singleton := @List.mem_singleton
theorem B4 : type_of% @Option.some.inj := @Option.some.inj
theorem B6 : type_of% @Iff.rfl := @Iff.rfl
theorem B7 : type_of% @Int.one_mul := @Int.one_mul
theorem Bc : type_of% @Nat.le_trans := @Nat.le_trans
theorem Bg : type_of% @List.map_append := @List.map_append
theorem Bh : type_of% @Go.World.size_alloc := @Go.World.size_alloc
theorem Bi : type_of% @Int.tmod_eq_emod_of_nonneg := @Int.tmod_eq_emod_of_nonneg
theorem Bj : type_of% @List.not_mem_nil := @List.not_mem_nil
theorem Bl : type_of% @or_false := @or_false
theorem Bo : type_of% @List.eq_nil_of_length_eq_zero := @List.eq_nil_of_length_eq_zero
theorem Bp : type_of% @List.pairwise_cons := @List.pairwise_cons
theorem Bq : type_of% @List.mem_append_right := @List.mem_append_right
theorem Br : type_of% @List.mem_cons_self := @List.mem_cons_self
theorem Bt : type_of% @List.pairwise_append := @List.pairwise_append
theorem Bu : type_of% @List.mem_append_left := @List.mem_append_left
theorem Bw : type_of% @List.mem_cons_of_mem := @List.mem_cons_of_mem
theorem Bz : type_of% @List.mem_append := @List.mem_append
theorem BA : type_of% @List.sublist_cons_self := @List.sublist_cons_self
theorem BB : type_of% @List.length_take := @List.length_take
theorem BC : type_of% @Array.length_toList := @Array.length_toList
theorem BE : type_of% @Nat.min_eq_left := @Nat.min_eq_left
theorem BF : type_of% @Nat.mul_le_mul_right := @Nat.mul_le_mul_right
theorem BG : type_of% @List.take_of_length_le := @List.take_of_length_le
theorem BH : type_of% @List.size_toArray := @List.size_toArray
theorem BI : type_of% @List.mem_iff_getElem? := @List.mem_iff_getElem?
theorem BJ : type_of% @List.getElem?_set_ne := @List.getElem?_set_ne
theorem BK : type_of% @congrArg := @congrArg
theorem BM : type_of% @List.getElem?_take := @List.getElem?_take
theorem BN : type_of% @Nat.zero_add := @Nat.zero_add
theorem BO : type_of% @Array.getElem?_eq_some_iff := @Array.getElem?_eq_some_iff
theorem BP : type_of% @Array.getElem?_eq_none := @Array.getElem?_eq_none
theorem BR : type_of% @List.getElem?_eq_some_iff := @List.getElem?_eq_some_iff
theorem BS : type_of% @Int.mul_pos := @Int.mul_pos
theorem BT : type_of% @Go.IntWalk.i64_in := @Go.IntWalk.i64_in
theorem BU : type_of% @Array.getElem?_toList := @Array.getElem?_toList
theorem BV : type_of% @List.getElem?_append_left := @List.getElem?_append_left
theorem BW : type_of% @List.getElem?_append_right := @List.getElem?_append_right
theorem BX : type_of% @List.getElem?_eq_none := @List.getElem?_eq_none
theorem BY : type_of% @List.nil_append := @List.nil_append
theorem BZ : type_of% @Int.mul_nonneg := @Int.mul_nonneg
theorem C0 : type_of% @Int.mul_neg_of_pos_of_neg := @Int.mul_neg_of_pos_of_neg
theorem C4 : type_of% @beq_iff_eq := @beq_iff_eq
theorem C5 : type_of% @Int.tdiv_eq_ediv_of_nonneg := @Int.tdiv_eq_ediv_of_nonneg
theorem C6 : type_of% @List.forall_mem_cons := @List.forall_mem_cons
theorem C7 : type_of% @List.length_set := @List.length_set
theorem C8 : type_of% @Array.toList_setIfInBounds := @Array.toList_setIfInBounds
theorem Ca : type_of% @List.getElem?_set_self := @List.getElem?_set_self
theorem Cb : type_of% @List.append_assoc := @List.append_assoc
theorem Cc : type_of% @List.cons_append := @List.cons_append
theorem Cd : type_of% @List.take_length := @List.take_length
theorem Ce : type_of% @List.foldl_cons := @List.foldl_cons
theorem Cg : type_of% @List.foldl_nil := @List.foldl_nil
theorem Ch : type_of% @List.length_replicate := @List.length_replicate
theorem Ci : type_of% @List.length_append := @List.length_append
theorem Cj : type_of% @List.length_map := @List.length_map
theorem Ck : type_of% @List.getElem?_toArray := @List.getElem?_toArray
theorem Cl : type_of% @Array.getElem?_eq_getElem := @Array.getElem?_eq_getElem
theorem Cm : type_of% @List.toList_toArray := @List.toList_toArray
theorem Cn : type_of% @Option.mem_toList := @Option.mem_toList
theorem Co : type_of% @cond_false := @cond_false
theorem Cp : type_of% @Int.not_lt := @Int.not_lt
theorem Cq : type_of% @Int.add_zero := @Int.add_zero
theorem Cr : type_of% @Nat.le_succ := @Nat.le_succ
theorem Cs : type_of% @of_decide_eq_true := @of_decide_eq_true
theorem Ct : type_of% @Int.ediv_nonneg := @Int.ediv_nonneg
theorem Cu : type_of% @Int.emod_lt_of_pos := @Int.emod_lt_of_pos
theorem Cv : type_of% @Int.pow_add := @Int.pow_add
theorem Cw : type_of% @Int.mul_le_mul_of_nonneg_left := @Int.mul_le_mul_of_nonneg_left
theorem Cx : type_of% @Int.pow_succ := @Int.pow_succ
theorem Cy : type_of% @Int.emod_nonneg := @Int.emod_nonneg
theorem Cz : type_of% @Int.ediv_lt_of_lt_mul := @Int.ediv_lt_of_lt_mul
theorem CA : type_of% @Int.ediv_le_self := @Int.ediv_le_self
theorem CB : type_of% @decide_eq_true_iff := @decide_eq_true_iff
theorem CD : type_of% @Nat.pow_le_pow_right := @Nat.pow_le_pow_right
theorem CF : type_of% @Int.ediv_eq_zero_of_lt := @Int.ediv_eq_zero_of_lt
theorem CG : type_of% @List.length_cons := @List.length_cons
theorem CH : type_of% @List.replicate_succ := @List.replicate_succ
theorem CJ : type_of% @List.contains_iff_mem := @List.contains_iff_mem
theorem CL : type_of% @Bool.or_eq_true_iff := @Bool.or_eq_true_iff
theorem CM : type_of% @Int.mul_add := @Int.mul_add
theorem CN : type_of% @Int.mul_zero := @Int.mul_zero
theorem CQ : type_of% @Int.mul_sub := @Int.mul_sub
theorem CR : type_of% @Int.mul_one := @Int.mul_one
theorem CT : type_of% @Int.add_mul := @Int.add_mul
theorem CU : type_of% @Int.le_refl := @Int.le_refl
theorem CX : type_of% @Int.eq_ofNat_of_zero_le := @Int.eq_ofNat_of_zero_le
theorem CY : type_of% @Int.le_of_lt := @Int.le_of_lt
theorem CZ : type_of% @List.length_nil := @List.length_nil
theorem D3 : type_of% @Array.replicate_succ := @Array.replicate_succ
theorem D4 : type_of% @Array.replicate_zero := @Array.replicate_zero
theorem D5 : type_of% @List.push_toArray := @List.push_toArray
theorem D6 : type_of% @List.append_toArray := @List.append_toArray
theorem D7 : type_of% @Go.World.block_lt_of_cell? := @Go.World.block_lt_of_cell?
theorem D8 : type_of% @List.foldl_append := @List.foldl_append
theorem D9 : type_of% @List.getElem?_cons_zero := @List.getElem?_cons_zero
theorem Da : type_of% @List.getElem?_cons_succ := @List.getElem?_cons_succ
theorem Db : type_of% @List.drop_zero := @List.drop_zero
theorem Dc : type_of% @List.drop_eq_getElem_cons := @List.drop_eq_getElem_cons
theorem Dd : type_of% @Nat.le_add_right := @Nat.le_add_right
theorem De : type_of% @Int.lt_trichotomy := @Int.lt_trichotomy
theorem Df : type_of% @Int.neg_mul := @Int.neg_mul
theorem Dg : type_of% @Int.emod_add_mul_ediv := @Int.emod_add_mul_ediv
theorem Dh : type_of% @of_decide_eq_false := @of_decide_eq_false
theorem Di : type_of% @Int.add_mul_ediv_left := @Int.add_mul_ediv_left
theorem Dj : type_of% @Int.add_mul_emod_self_left := @Int.add_mul_emod_self_left
theorem Ag {α : Type} : (∀ {l : List α} {i : Nat} (h : i < l.toArray.size), l.toArray[i] = l[i]'(by simpa using h)) ∧ (∀ {a : α} {l : List α} {i : Nat} (h : i + 1 < (a :: l).length), (a :: l)[i + 1] = l[i]'(Nat.lt_of_succ_lt_succ h)) ∧ (∀ {a : α} {l : List α} (h : 0 < (a :: l).length), (a :: l)[0] = a) ∧ (∀ (l : List α) (i : Nat) (a : α), l.toArray.setIfInBounds i a = (l.set i a).toArray) ∧ (∀ {x : α} {l : List α} {i : Nat} {a : α}, (x :: l).set (i + 1) a = x :: l.set i a) ∧ (∀ {x : α} {l : List α} {a : α}, (x :: l).set 0 a = a :: l) := ⟨fun _ => rfl, fun _ => rfl, fun _ => rfl, List.setIfInBounds_toArray, rfl, rfl⟩
theorem Ah {α : Type _} {a : α} {l : List α} : a ∈ a :: l := .head _
theorem Ai {α : Type _} {a b0 : α} {l : List α} : a ∈ b0 :: a :: l := .tail _ (.head _)
theorem Aj {α : Type _} {a b0 b1 : α} {l : List α} : a ∈ b0 :: b1 :: a :: l := .tail _ (.tail _ (.head _))
theorem Ak {α : Type _} {a b0 b1 b2 : α} {l : List α} : a ∈ b0 :: b1 :: b2 :: a :: l := .tail _ (.tail _ (.tail _ (.head _)))
theorem A0 {α : Type _} (l : List α) (i : Nat) (a : α) : l.toArray.setIfInBounds i a = (l.set i a).toArray := List.setIfInBounds_toArray l i a
theorem A3 {α : Type _} (a : α) (l : List α) (h : 0 < (a :: l).length) : (a :: l)[0] = a := rfl
theorem A4 {α : Type _} (a : α) (l : List α) (i : Nat) (h : i + 1 < (a :: l).length) : (a :: l)[i + 1] = l[i]'(Nat.lt_of_succ_lt_succ h) := rfl
theorem A5 {α : Type _} {x : α} {l : List α} {i : Nat} {a : α} : (x :: l).set (i + 1) a = x :: l.set i a := rfl
theorem A6 {α : Type _} {x : α} {l : List α} {a : α} : (x :: l).set 0 a = a :: l := rfl
theorem A7 {α : Type _} {l : List α} {i : Nat} (h : i < l.toArray.size) : l.toArray[i] = l[i]'(by simpa using h) := rfl
theorem A8 {p : Prop} (h : p) : Go.RowKit.Hid p := Lib.hid h
theorem A9 {a b c : Nat} : a < b → b ≤ c → a < c := Nat.lt_of_lt_of_le
theorem Aa (n : Nat) : n ≤ n := Nat.le_refl n
end Go.Proofs.YtioamkekjjkigaaGreatDoor
