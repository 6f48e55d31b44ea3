/- Short names for laws of the library. -/
import Derived.Lib.Hide
import Derived.KernelRfl
import Derived.IntWalk
import Derived.Laws.World
namespace Go.Proofs.YtdkonnnmkceagaaGreatDoor
theorem Ab {p : Prop} (h : p := by kernel_rfl) : p := h
theorem Ac {p : Prop} (h : p := by intro _;kernel_rfl) : p := h
theorem Ad {p : Prop} (h : p := by omega) : p := h
theorem Ae {p : Prop} (h : p := by decide) : p := h
theorem Af {p : Prop} (h : p := by simp) : p := h
theorem Al : type_of% @decide_eq_false := @decide_eq_false
theorem Am : type_of% @beq_eq_false_iff_ne := @beq_eq_false_iff_ne
theorem An : type_of% @ByteArray.ext := @ByteArray.ext
theorem Ao : type_of% @Bool.and_eq_true := @Bool.and_eq_true
theorem Ap : type_of% @decide_eq_true_eq := @decide_eq_true_eq
theorem Aq : type_of% @Bool.not_eq_true' := @Bool.not_eq_true'
theorem Ar : type_of% @Bool.or_eq_true := @Bool.or_eq_true
theorem As : type_of% @List.mem_cons := @List.mem_cons
theorem Au : type_of% @List.getElem?_eq_getElem := @List.getElem?_eq_getElem
theorem Av : type_of% @List.mem_of_getElem? := @List.mem_of_getElem?
theorem Aw : type_of% @List.mem_range := @List.mem_range
theorem Ax : type_of% @List.all_eq_true := @List.all_eq_true
theorem Ay : type_of% @decide_eq_true := @decide_eq_true
theorem Az : type_of% @Int.mul_le_mul_of_nonneg_right := @Int.mul_le_mul_of_nonneg_right
theorem AA : type_of% @Int.mul_assoc := @Int.mul_assoc
theorem AB : type_of% @Int.mul_comm := @Int.mul_comm
theorem AC : type_of% @List.getElem_mem := @List.getElem_mem
theorem AE : type_of% @Nat.zero_le := @Nat.zero_le
theorem AF : type_of% @if_neg := @if_neg
theorem AG : type_of% @List.getElem?_map := @List.getElem?_map
theorem AH : type_of% @Bool.true_and := @Bool.true_and
theorem AI : type_of% @if_pos := @if_pos
theorem AJ : type_of% @List.mem_map := @List.mem_map
theorem AK : type_of% @List.mem_singleton := @List.mem_singleton
theorem AL : type_of% @Option.some.inj := @Option.some.inj
theorem AM : type_of% @Int.one_mul := @Int.one_mul
theorem AN : type_of% @Nat.le_trans := @Nat.le_trans
theorem AO : type_of% @List.map_append := @List.map_append
theorem AP : type_of% @Go.World.size_alloc := @Go.World.size_alloc
theorem AQ : type_of% @List.not_mem_nil := @List.not_mem_nil
theorem AS : type_of% @List.eq_nil_of_length_eq_zero := @List.eq_nil_of_length_eq_zero
theorem AU : type_of% @List.pairwise_cons := @List.pairwise_cons
theorem AV : type_of% @List.mem_append_right := @List.mem_append_right
theorem AW : type_of% @List.mem_cons_self := @List.mem_cons_self
theorem AX : type_of% @List.pairwise_append := @List.pairwise_append
theorem AY : type_of% @List.mem_append_left := @List.mem_append_left
theorem AZ : type_of% @List.mem_cons_of_mem := @List.mem_cons_of_mem
theorem B7 : type_of% @List.mem_append := @List.mem_append
theorem B9 : type_of% @List.length_take := @List.length_take
theorem Bc : type_of% @Array.length_toList := @Array.length_toList
theorem Be : type_of% @Nat.min_eq_left := @Nat.min_eq_left
theorem Bf : type_of% @List.take_of_length_le := @List.take_of_length_le
theorem Bg : type_of% @List.size_toArray := @List.size_toArray
theorem Bi : type_of% @List.mem_iff_getElem? := @List.mem_iff_getElem?
theorem Bj : type_of% @List.getElem?_set_ne := @List.getElem?_set_ne
theorem Bk : type_of% @congrArg := @congrArg
theorem Br : type_of% @Nat.zero_add := @Nat.zero_add
theorem Bu : type_of% @Array.getElem?_eq_some_iff := @Array.getElem?_eq_some_iff
theorem Bv : type_of% @List.getElem?_eq_some_iff := @List.getElem?_eq_some_iff
theorem Bw : type_of% @Int.mul_pos := @Int.mul_pos
theorem Bz : type_of% @Go.IntWalk.i64_in := @Go.IntWalk.i64_in
theorem BA : type_of% @List.getElem?_append_right := @List.getElem?_append_right
theorem BB : type_of% @List.getElem?_eq_none := @List.getElem?_eq_none
theorem BC : type_of% @List.nil_append := @List.nil_append
theorem BF : type_of% @Int.mul_nonneg := @Int.mul_nonneg
theorem BG : type_of% @beq_iff_eq := @beq_iff_eq
theorem BH : type_of% @List.forall_mem_cons := @List.forall_mem_cons
theorem BJ : type_of% @List.length_set := @List.length_set
theorem BK : type_of% @List.cons_append := @List.cons_append
theorem BM : type_of% @List.take_length := @List.take_length
theorem BN : type_of% @List.foldl_cons := @List.foldl_cons
theorem BO : type_of% @List.foldl_nil := @List.foldl_nil
theorem BP : type_of% @List.length_append := @List.length_append
theorem BR : type_of% @List.getElem?_toArray := @List.getElem?_toArray
theorem BS : type_of% @of_decide_eq_true := @of_decide_eq_true
theorem BT : type_of% @Int.ediv_nonneg := @Int.ediv_nonneg
theorem BU : type_of% @Int.emod_lt_of_pos := @Int.emod_lt_of_pos
theorem BV : type_of% @Int.mul_le_mul_of_nonneg_left := @Int.mul_le_mul_of_nonneg_left
theorem BW : type_of% @Int.pow_succ := @Int.pow_succ
theorem BY : type_of% @Int.emod_nonneg := @Int.emod_nonneg
theorem BZ : type_of% @Int.ediv_le_self := @Int.ediv_le_self
theorem C0 : type_of% @decide_eq_true_iff := @decide_eq_true_iff
theorem C3 : type_of% @Nat.pow_le_pow_right := @Nat.pow_le_pow_right
theorem C4 : type_of% @List.length_cons := @List.length_cons
theorem C5 : type_of% @List.replicate_succ := @List.replicate_succ
theorem C6 : type_of% @List.contains_iff_mem := @List.contains_iff_mem
theorem C7 : type_of% @Bool.or_eq_true_iff := @Bool.or_eq_true_iff
theorem C8 : type_of% @Int.mul_add := @Int.mul_add
theorem C9 : type_of% @Int.mul_sub := @Int.mul_sub
theorem Ca : type_of% @Int.mul_one := @Int.mul_one
theorem Cb : type_of% @Int.add_mul := @Int.add_mul
theorem Cc : type_of% @Int.le_refl := @Int.le_refl
theorem Cd : type_of% @Int.eq_ofNat_of_zero_le := @Int.eq_ofNat_of_zero_le
theorem Ce : type_of% @Int.le_of_lt := @Int.le_of_lt
theorem Cf : type_of% @List.length_nil := @List.length_nil
theorem Cg : type_of% @Array.replicate_succ := @Array.replicate_succ
theorem Ch : type_of% @Array.replicate_zero := @Array.replicate_zero
theorem Ci : type_of% @List.push_toArray := @List.push_toArray
theorem Cj : type_of% @List.append_toArray := @List.append_toArray
theorem Ck : type_of% @Go.World.block_lt_of_cell? := @Go.World.block_lt_of_cell?
theorem Cl : type_of% @List.foldl_append := @List.foldl_append
theorem Cm : type_of% @List.getElem?_cons_zero := @List.getElem?_cons_zero
theorem Cn : type_of% @List.getElem?_cons_succ := @List.getElem?_cons_succ
theorem Co : type_of% @List.drop_zero := @List.drop_zero
theorem Cp : type_of% @List.drop_eq_getElem_cons := @List.drop_eq_getElem_cons
theorem Cq : type_of% @Nat.le_add_right := @Nat.le_add_right
theorem Cr : type_of% @Int.lt_trichotomy := @Int.lt_trichotomy
theorem Cs : type_of% @Int.neg_mul := @Int.neg_mul
theorem Ct : type_of% @Int.emod_add_mul_ediv := @Int.emod_add_mul_ediv
theorem Cu : type_of% @of_decide_eq_false := @of_decide_eq_false
theorem Ag {α : Type} : (∀ {l : List α} {i : Nat} (h : i < l.toArray.size), l.toArray[i] = l[i]'(by simpa using h)) ∧ (∀ {a : α} {l : List α} {i : Nat} (h : i + 1 < (a :: l).length), (a :: l)[i + 1] = l[i]'(Nat.lt_of_succ_lt_succ h)) ∧ (∀ {a : α} {l : List α} (h : 0 < (a :: l).length), (a :: l)[0] = a) ∧ (∀ (l : List α) (i : Nat) (a : α), l.toArray.setIfInBounds i a = (l.set i a).toArray) ∧ (∀ {x : α} {l : List α} {i : Nat} {a : α}, (x :: l).set (i + 1) a = x :: l.set i a) ∧ (∀ {x : α} {l : List α} {a : α}, (x :: l).set 0 a = a :: l) := ⟨fun _ => rfl, fun _ => rfl, fun _ => rfl, List.setIfInBounds_toArray, rfl, rfl⟩
theorem Ah {α : Type _} {a : α} {l : List α} : a ∈ a :: l := .head _
theorem Ai {α : Type _} {a b0 : α} {l : List α} : a ∈ b0 :: a :: l := .tail _ (.head _)
theorem Aj {α : Type _} {a b0 b1 : α} {l : List α} : a ∈ b0 :: b1 :: a :: l := .tail _ (.tail _ (.head _))
theorem Ak {α : Type _} {a b0 b1 b2 : α} {l : List α} : a ∈ b0 :: b1 :: b2 :: a :: l := .tail _ (.tail _ (.tail _ (.head _)))
theorem A0 {α : Type _} (l : List α) (i : Nat) (a : α) : l.toArray.setIfInBounds i a = (l.set i a).toArray := List.setIfInBounds_toArray l i a
theorem A3 {α : Type _} (a : α) (l : List α) (h : 0 < (a :: l).length) : (a :: l)[0] = a := rfl
theorem A4 {α : Type _} (a : α) (l : List α) (i : Nat) (h : i + 1 < (a :: l).length) : (a :: l)[i + 1] = l[i]'(Nat.lt_of_succ_lt_succ h) := rfl
theorem A5 {α : Type _} {x : α} {l : List α} {i : Nat} {a : α} : (x :: l).set (i + 1) a = x :: l.set i a := rfl
theorem A6 {α : Type _} {x : α} {l : List α} {a : α} : (x :: l).set 0 a = a :: l := rfl
theorem A7 {α : Type _} {l : List α} {i : Nat} (h : i < l.toArray.size) : l.toArray[i] = l[i]'(by simpa using h) := rfl
theorem A8 {p : Prop} (h : p) : Go.RowKit.Hid p := Lib.hid h
theorem A9 {a b c : Nat} : a < b → b ≤ c → a < c := Nat.lt_of_lt_of_le
theorem Aa (n : Nat) : n ≤ n := Nat.le_refl n
end Go.Proofs.YtdkonnnmkceagaaGreatDoor
