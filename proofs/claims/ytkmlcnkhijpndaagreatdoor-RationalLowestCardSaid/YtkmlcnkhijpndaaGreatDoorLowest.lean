/- RationalLowest: the walk. -/
import Derived.Test.YtkmlcnkhijpndaaGreatDoorIsQ
namespace Go.Proofs.YtkmlcnkhijpndaaGreatDoor
open Go.RowKit
attribute [local go_sem] Oper.semAt_some

theorem of_scaled (r : Rat) {k : Int} (hk : k ≠ 0) : oOf (r.num * k) ((r.den : Int) * k) = some r := by
  unfold oOf oIf
  rw [if_pos (by simp; exact ⟨den_ne r |> fun h => by omega, hk⟩), Rat.divInt_mul_right hk, divInt_self_parts]
theorem of_self (r : Rat) : oOf r.num (r.den : Int) = some r := by
  unfold oOf oIf
  rw [if_pos (by simp; exact den_ne r |> fun h => by omega), divInt_self_parts]
theorem of_zero {k : Int} (hk : k ≠ 0) : oOf 0 k = some (Rat.divInt 0 1) := by
  unfold oOf oIf
  rw [if_pos (by simpa using hk), Rat.zero_divInt, Rat.zero_divInt]

set_option maxRecDepth 100000 in
set_option maxHeartbeats 16000000 in
theorem lowest_law (x0 x1 x2 x3 f : Int) (s : Bool) (F0 : Fits x0) (F1 : Fits x1) (F2 : Fits x2) (F3 : Fits x3) (Ff : Fits f) (w : World) (hE : EnvQ w) :
    Calls Tryz.prog 4 #[.agg #[.int .i64 x0, .int .i64 x1, .int .i64 x2, .int .i64 x3], .int .i64 f, .bool s] w (Rets w (.bool true)) := by
  have S0 := BL.start w
  obtain ⟨V1, e1, S1, z1⟩ := S0.add' #[.int .i64 x0, .int .i64 x1, .int .i64 x2, .int .i64 x3] 24
  have hV : V1 = (w.alloc (.cells #[.int .i64 x0, .int .i64 x1, .int .i64 x2, .int .i64 x3] 24)) := by rw [e1]
  have hS : BL w [(w.heap.size, #[.int .i64 x0, .int .i64 x1, .int .i64 x2, .int .i64 x3], 24)] V1 := S1
  clear e1 z1 S0 S1
  have k0 := pkv_nonneg (c := f) (m := 1000000) (by decide)
  have k1 := pkv_lt (c := f) (m := 1000000) (by decide)
  have PK := Lib.hid (fun W => pick4_any f 1000000 Ff (by decide) (by decide) W)
  generalize pkv f 1000000 = kk at *
  go_enter Tryz.func4, Tryz.ntmps4
  go_wp2_with fail
  rw [← hV]
  clear hV
  refine Calls.mono (saneQ_any _ (hS.envQ hE)) ?_
  rintro e w1 ⟨rfl, hb⟩
  have hS := hS.call hb
  clear hb
  obtain ⟨c_x_0, c_x_1, c_x_2, c_x_3⟩ := hS.c4 (w.heap.size) _ _ _ _ _ (.head _)
  go_wp2_with fail
  refine Calls.mono (long_v x0 x1 x2 x3 F0 F1 F2 F3 _) ?_
  rintro e w2 ⟨r, n, d, rfl, I1, B1, hb⟩
  clear c_x_0 c_x_1 c_x_2 c_x_3
  have hS := hS.call hb
  clear hb
  obtain ⟨W0, hW0, hS, hz0⟩ := hS.add' #[.string n, .string d] 23
  obtain ⟨W, hW⟩ : ∃ W, W = (w2.alloc (.cells #[.string n, .string d] 23)) := ⟨_, rfl⟩
  have hS : BL w [(w2.heap.size, #[.string n, .string d], 23), (w.heap.size, #[.int .i64 x0, .int .i64 x1, .int .i64 x2, .int .i64 x3], 24)] W := by rw [hW, ← hW0]; exact hS
  clear hz0 hW0
  go_wp2_with fail
  rw [← hW]
  clear hW
  refine Calls.mono (PK.out _) ?_
  rintro e w' ⟨rfl, rfl⟩
  obtain ⟨k, hk, hk0, hkb⟩ : ∃ k : Int, k = (if s then -(1 + kk) else 1 + kk) ∧ k ≠ 0 ∧ Bd 7 k := ⟨_, rfl, by split <;> omega, by unfold Bd; split <;> omega⟩
  have hkh := Lib.hid hk
  clear hk
  have hk := hkh
  clear hkh
  go_upto_if 27 with (fail)
  go_cut [9] (fun s9 wx => s9 = .int .i64 k ∧ BL w [(w2.heap.size, #[.string n, .string d], 23), (w.heap.size, #[.int .i64 x0, .int .i64 x1, .int .i64 x2, .int .i64 x3], 24)] wx)
  case first =>
    cases s <;> (go_wp2_with fail; go_meet; exact ⟨by rw [hk.out]; rfl, hS⟩)
  case rest =>
    clear hS
    obtain ⟨rfl, hS⟩ := hcut
    obtain ⟨sb, hsb⟩ : ∃ sb : ByteArray, Hid (sb = I k) := ⟨_, rfl⟩
    have FK := fun W => rfrom_any k (by unfold Bd at hkb; omega) (by unfold Bd at hkb; omega) W
    rw [← hsb.out] at FK
    have FKh := Lib.hid FK
    clear FK
    have FK := FKh
    clear FKh
    have hkn := Lib.hid hk0
    have HK := Lib.hid hkb
    clear hk0 hkb
    obtain ⟨a, ha⟩ : ∃ a : ByteArray, Hid (a = I (r.num * k)) := ⟨_, rfl⟩
    obtain ⟨b, hb0⟩ : ∃ b : ByteArray, Hid (b = I ((r.den : Int) * k)) := ⟨_, rfl⟩
    have sA := Lib.hid ((B1.1.mul HK.out).small (by decide))
    have sB := Lib.hid ((B1.2.mul HK.out).small (by decide))
    have MA := fun W => rmul_is I1.num.1 hsb.out (B1.1.small (by decide)) (HK.out.small (by decide)) sA.out W
    have MB := fun W => rmul_is I1.num.2 hsb.out (B1.2.small (by decide)) (HK.out.small (by decide)) sB.out W
    rw [← ha.out] at MA
    rw [← hb0.out] at MB
    have MAh := Lib.hid MA
    clear MA
    have MA := MAh
    clear MAh
    have MBh := Lib.hid MB
    clear MB
    have MB := MBh
    clear MBh
    have o1 : oOf (r.num * k) ((r.den : Int) * k) = some r := of_scaled r hkn.out
    have o2 : oOf r.num (r.den : Int) = some r := of_self r
    have o3 : oOf 0 k = some (Rat.divInt 0 1) := of_zero hkn.out
    have IE : IsE (some r) n d 0 := ⟨I1, rfl⟩
    have IZ : IsE (some (Rat.divInt 0 1)) ⟨#[48]⟩ ⟨#[49]⟩ 0 := ⟨⟨zero_texts.1, zero_texts.2, OkO.some (by decide +kernel)⟩, rfl⟩
    have K1 := fun W hE => make_v ha.out hb0.out sA.out sB.out (by rw [o1]; exact IE) W hE
    have K1h := Lib.hid K1
    clear K1
    have K1 := K1h
    clear K1h
    have K2 := fun W hE => make_v I1.num.1 I1.num.2 (B1.1.small (by decide)) (B1.2.small (by decide)) (by rw [o2]; exact IE) W hE
    have K2h := Lib.hid K2
    clear K2
    have K2 := K2h
    clear K2h
    have K3 := fun W hE => make_v (a := ⟨#[48]⟩) (lit_I [48] 0 (by decide +kernel) (by decide +kernel)) hsb.out small_zero (HK.out.small (by decide)) (by rw [o3]; exact IZ) W hE
    have K3h := Lib.hid K3
    clear K3
    have K3 := K3h
    clear K3h
    clear o1 o2 o3
    go_wp2_with fail
    refine Calls.mono ((FK.out _)) ?_
    rintro e w3 ⟨⟨_, rfl, rfl⟩, hb⟩
    have hS := hS.call hb
    clear hb
    obtain ⟨c_r_0, c_r_1⟩ := hS.c2 (w2.heap.size) _ _ _ (.head _)
    go_wp2_with fail
    refine Calls.mono (MA.out _) ?_
    rintro e w4 ⟨rfl, hb⟩
    clear c_r_0 c_r_1
    have hS := hS.call hb
    clear hb
    obtain ⟨c_r_0, c_r_1⟩ := hS.c2 (w2.heap.size) _ _ _ (.head _)
    go_wp2_with fail
    refine Calls.mono (MB.out _) ?_
    rintro e w5 ⟨rfl, hb⟩
    clear c_r_0 c_r_1
    have hS := hS.call hb
    clear hb
    go_wp2_with fail
    refine Calls.mono (K1.out _ (hS.envQ hE).env) ?_
    rintro e w6 ⟨rfl, hb⟩
    have hS := hS.call hb
    clear hb
    obtain ⟨W0, hW0, hS, hz0⟩ := hS.add' #[.string n, .string d] 23
    obtain ⟨W, hW⟩ : ∃ W, W = (w6.alloc (.cells #[.string n, .string d] 23)) := ⟨_, rfl⟩
    have hS : BL w [(w6.heap.size, #[.string n, .string d], 23), (w2.heap.size, #[.string n, .string d], 23), (w.heap.size, #[.int .i64 x0, .int .i64 x1, .int .i64 x2, .int .i64 x3], 24)] W := by rw [hW, ← hW0]; exact hS
    clear hz0 hW0
    go_upto_region 10 with fail
    rw [← hW]
    clear hW
    obtain ⟨c_r_0, c_r_1⟩ := hS.c2 (w2.heap.size) _ _ _ (.tail _ (.head _))
    go_wp2_with fail
    refine Calls.mono (K2.out _ (hS.envQ hE).env) ?_
    rintro e w7 ⟨rfl, hb⟩
    clear c_r_0 c_r_1
    have hS := hS.call hb
    clear hb
    obtain ⟨W0, hW0, hS, hz0⟩ := hS.add' #[.string n, .string d] 23
    obtain ⟨W, hW⟩ : ∃ W, W = (w7.alloc (.cells #[.string n, .string d] 23)) := ⟨_, rfl⟩
    have hS : BL w [(w7.heap.size, #[.string n, .string d], 23), (w6.heap.size, #[.string n, .string d], 23), (w2.heap.size, #[.string n, .string d], 23), (w.heap.size, #[.int .i64 x0, .int .i64 x1, .int .i64 x2, .int .i64 x3], 24)] W := by rw [hW, ← hW0]; exact hS
    clear hz0 hW0
    go_wp2_with fail
    rw [← hW]
    clear hW
    refine Calls.mono (K3.out _ (hS.envQ hE).env) ?_
    rintro e w8 ⟨rfl, hb⟩
    have hS := hS.call hb
    clear hb
    obtain ⟨W0, hW0, hS, hz0⟩ := hS.add' #[.string ⟨#[48]⟩, .string ⟨#[49]⟩] 23
    obtain ⟨W, hW⟩ : ∃ W, W = (w8.alloc (.cells #[.string ⟨#[48]⟩, .string ⟨#[49]⟩] 23)) := ⟨_, rfl⟩
    have hS : BL w [(w8.heap.size, #[.string ⟨#[48]⟩, .string ⟨#[49]⟩], 23), (w7.heap.size, #[.string n, .string d], 23), (w6.heap.size, #[.string n, .string d], 23), (w2.heap.size, #[.string n, .string d], 23), (w.heap.size, #[.int .i64 x0, .int .i64 x1, .int .i64 x2, .int .i64 x3], 24)] W := by rw [hW, ← hW0]; exact hS
    clear hz0 hW0
    go_upto_region 12 with fail
    rw [← hW]
    clear hW
    have V1 := Lib.hid (fun W hE => valid_v I1 W hE true rfl)
    have C1 := fun W hE => cmp_v I1 W hE I1 0 (by show 0 = cmpQ r r; rw [cmpQ_eq])
    have C1h := Lib.hid C1
    clear C1
    have C1 := C1h
    clear C1h
    have P1 := fun W hE => qprint_any n d W hE
    generalize prt n d = pt at *
    have P1h := Lib.hid P1
    clear P1
    have P1 := P1h
    clear P1h
    clear K1 K2 K3 MA MB FK IE IZ
    have hC : ∀ W', BL w [(w8.heap.size, #[.string ⟨#[48]⟩, .string ⟨#[49]⟩], 23), (w7.heap.size, #[.string n, .string d], 23), (w6.heap.size, #[.string n, .string d], 23), (w2.heap.size, #[.string n, .string d], 23), (w.heap.size, #[.int .i64 x0, .int .i64 x1, .int .i64 x2, .int .i64 x3], 24)] W' → (W'.cell? ⟨w2.heap.size, 0, none⟩ = some (.string n) ∧ W'.cell? ⟨w2.heap.size, 1, none⟩ = some (.string d) ∧ W'.cell? ⟨w6.heap.size, 0, none⟩ = some (.string n) ∧ W'.cell? ⟨w6.heap.size, 1, none⟩ = some (.string d) ∧ W'.cell? ⟨w7.heap.size, 0, none⟩ = some (.string n) ∧ W'.cell? ⟨w7.heap.size, 1, none⟩ = some (.string d) ∧ W'.cell? ⟨w8.heap.size, 0, none⟩ = some (.string ⟨#[48]⟩) ∧ W'.cell? ⟨w8.heap.size, 1, none⟩ = some (.string ⟨#[49]⟩)) := fun W' h => ⟨(h.cell (w2.heap.size) _ _ (.tail _ (.tail _ (.tail _ (.head _)))) 0), (h.cell (w2.heap.size) _ _ (.tail _ (.tail _ (.tail _ (.head _)))) 1), (h.cell (w6.heap.size) _ _ (.tail _ (.tail _ (.head _))) 0), (h.cell (w6.heap.size) _ _ (.tail _ (.tail _ (.head _))) 1), (h.cell (w7.heap.size) _ _ (.tail _ (.head _)) 0), (h.cell (w7.heap.size) _ _ (.tail _ (.head _)) 1), (h.cell (w8.heap.size) _ _ (.head _) 0), (h.cell (w8.heap.size) _ _ (.head _) 1)⟩
    have hCh := Lib.hid hC
    clear hC
    have hC := hCh
    clear hCh
    obtain ⟨x0', x1', x2', x3', x4', x5', x6', x7'⟩ := hC.out _ hS
    have hS := hS.drew
    go_region_held3 (fun w' => w'.cell? ⟨w2.heap.size, 0, none⟩ = some (.string n) ∧ w'.cell? ⟨w2.heap.size, 1, none⟩ = some (.string d) ∧ w'.cell? ⟨w6.heap.size, 0, none⟩ = some (.string n) ∧ w'.cell? ⟨w6.heap.size, 1, none⟩ = some (.string d) ∧ w'.cell? ⟨w7.heap.size, 0, none⟩ = some (.string n) ∧ w'.cell? ⟨w7.heap.size, 1, none⟩ = some (.string d) ∧ w'.cell? ⟨w8.heap.size, 0, none⟩ = some (.string ⟨#[48]⟩) ∧ w'.cell? ⟨w8.heap.size, 1, none⟩ = some (.string ⟨#[49]⟩))
      (first | with_reducible exact hC.out _ hS | go_keep)
      (first | (go_at_call 17; (with_reducible refine Calls.mono (V1.out _ (hS.envQ hE).env) ?_); rintro e w' ⟨rfl, hb⟩; have hS := hS.call hb; clear hb) | (go_at_call 23; (with_reducible refine Calls.mono (C1.out _ (hS.envQ hE).env) ?_); rintro e w' ⟨rfl, hb⟩; have hS := hS.call hb; clear hb) | (go_at_call 24; (with_reducible refine Calls.mono (is_any _ _ _) ?_); rintro e w' ⟨rfl, hb⟩; have hS := hS.call hb; clear hb) | (go_at_call 14; (with_reducible refine Calls.mono (P1.out _ (hS.envQ hE).env) ?_); rintro e w' ⟨rfl, hb⟩; have hS := hS.call hb; clear hb))
    go_wp2
    go_ret
    exact ⟨rfl, hS.below⟩
end Go.Proofs.YtkmlcnkhijpndaaGreatDoor
