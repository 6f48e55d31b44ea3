/- IntegerMatchesReference: the walk. -/
import Derived.Test.YtbnilfjhalildaaGreatDoorRefK
import Derived.Test.YtbnilfjhalildaaGreatDoorTextL
namespace Go.Proofs.YtbnilfjhalildaaGreatDoor
open Go.RowKit
attribute [local go_sem] Oper.semAt_some

theorem resT_shape (c : Bool) (z : Int) : ∃ S E, resT c z = .tuple #[.string S, .int .i64 E] := by
  unfold resT; split <;> exact ⟨_, _, rfl⟩
theorem divT_shape (c : Bool) (x y : Int) : ∃ S T E, divT c x y = .tuple #[.string S, .string T, .int .i64 E] := by
  unfold divT; split <;> exact ⟨_, _, _, rfl⟩
theorem toT_shape (s : ByteArray) : ∃ n E, toT s = .tuple #[.int .i64 n, .int .i64 E] := by
  unfold toT; split <;> exact ⟨_, _, rfl⟩
theorem blk2 {W : World} {B : Nat} {v u : Value} {t : TypeId} (h : Blk W B #[v, u] t) : W.cell? ⟨B, 0, none⟩ = some v ∧ W.cell? ⟨B, 1, none⟩ = some u := ⟨h.cell 0, h.cell 1⟩

/-- In a round: nothing that was there has turned; the list's and the element's blocks are as they were. -/
structure MR (w : World) (B C : Nat) (cs ds : Array Value) (W : World) : Prop where
  below : Below w.heap.size w W
  big : Blk W B cs 37
  own : Blk W C ds 37
theorem MR.call {w W W' : World} {B C : Nat} {cs ds : Array Value} (h : MR w B C cs ds W) (hb : Below W.heap.size W W') : MR w B C cs ds W' := ⟨kb_call hb h.below (Nat.le_refl _), h.big.below hb, h.own.below hb⟩
theorem MR.drew {w W : World} {B C : Nat} {cs ds : Array Value} (h : MR w B C cs ds W) : MR w B C cs ds W.drew := h.call (below_drewN W 1)
theorem MR.c0 {w W : World} {B C : Nat} {cs : Array Value} {v u : Value} (h : MR w B C cs #[v, u] W) : W.cell? ⟨C, 0, none⟩ = some v := (blk2 h.own).1
theorem MR.c1 {w W : World} {B C : Nat} {cs : Array Value} {v u : Value} (h : MR w B C cs #[v, u] W) : W.cell? ⟨C, 1, none⟩ = some u := (blk2 h.own).2

theorem MR.sall {w W : World} {B C : Nat} {cs : Array Value} {v u : Value} (h : MR w B C cs #[v, u] W) : W.cell? ⟨C, 0, none⟩ = some v ∧ W.cell? ⟨C, 1, none⟩ = some u ∧ MR w B C cs #[v, u] W := ⟨h.c0, h.c1, h⟩

set_option maxRecDepth 100000 in
set_option maxHeartbeats 16000000 in
theorem match_law (a b : ByteArray) (n : Int) (ha : a.size ≤ 9223372036854775807) (hb : b.size ≤ 9223372036854775807) (hn0 : -9223372036854775808 ≤ n) (hn1 : n ≤ 9223372036854775807) (w : World) (hE : EnvT w) :
    Calls Tryz.prog 9 #[.string a, .string b, .int .i64 n] w (Rets w (.bool true)) := by
  obtain ⟨ka, hka, hka1, hka2⟩ : ∃ k : Nat, min (a.size : Int) 210 = (k : Int) ∧ k ≤ a.size ∧ k ≤ 210 := ⟨min a.size 210, by omega, by omega, by omega⟩
  obtain ⟨kb, hkb, hkb1, hkb2⟩ : ∃ k : Nat, min (b.size : Int) 210 = (k : Int) ∧ k ≤ b.size ∧ k ≤ 210 := ⟨min b.size 210, by omega, by omega, by omega⟩
  have hla : (a.extract 0 ka).size ≤ 210 := by simp; omega
  have hlb : (b.extract 0 kb).size ≤ 210 := by simp; omega
  have hF : Fits n := ⟨hn0, hn1⟩
  have hB0 := Below.refl w.heap.size w
  have hT0 := hE
  go_enter Tryz.func9, Tryz.ntmps9
  go_wp2_with fail
  refine (sane_any _ hT0.env).mono ?_
  rintro e w1 ⟨rfl, hb⟩
  have hB1 := kb_call hb hB0 (Nat.le_refl _)
  clear hb hB0 hT0
  go_wp2_with fail
  refine (made_is (a.extract 0 ka) (by omega) 70 (by decide) _).mono ?_
  rintro e w2 ⟨x1, rfl, X1, hb⟩
  have hB2 := kb_call hb hB1 (Nat.le_refl _)
  clear hb hB1
  go_wp2_with fail
  refine (made_is (b.extract 0 kb) (by omega) 30 (by decide) _).mono ?_
  rintro e w3 ⟨y1, rfl, Y1, hb⟩
  have hB3 := kb_call hb hB2 (Nat.le_refl _)
  clear hb hB2
  go_wp2_with fail
  refine (made_is (a.extract 0 ka) (by omega) 12 (by decide) _).mono ?_
  rintro e w4 ⟨x2, rfl, X2, hb⟩
  have hB4 := kb_call hb hB3 (Nat.le_refl _)
  clear hb hB3
  go_wp2_with fail
  refine (rfrom_any n hn0 hn1 _).mono ?_
  rintro e w5 ⟨⟨_, rfl, rfl⟩, hb⟩
  have hB5 := kb_call hb hB4 (Nat.le_refl _)
  clear hb hB4
  have l1 : (I x1).size ≤ 1000 := Nat.le_trans (I_size X1 (by decide)) (by decide)
  have l2 : (I y1).size ≤ 1000 := Nat.le_trans (I_size Y1 (by decide)) (by decide)
  have l3 : (I x2).size ≤ 1000 := Nat.le_trans (I_size X2 (by decide)) (by decide)
  have l4 : (I n).size ≤ 1000 := Nat.le_trans (I_size (k := 20) (by unfold Bd; omega) (by decide)) (by decide)
  generalize a.extract 0 ka = s0 at *
  generalize b.extract 0 kb = t0 at *
  generalize I x1 = s1 at *
  generalize I y1 = t1 at *
  generalize I x2 = s2 at *
  generalize hIn : I n = t2 at *
  have HIn := Lib.hid hIn
  clear hIn
  have hblk : Blk (w5.alloc (.cells #[.string s0, .string t0, .string s1, .string t1, .string s2, .string t2] 37)) w5.heap.size #[.string s0, .string t0, .string s1, .string t1, .string s2, .string t2] 37 := Blk.new _ _ _
  have hBs : Below w.heap.size w (w5.alloc (.cells #[.string s0, .string t0, .string s1, .string t1, .string s2, .string t2] 37)) := hB5.alloc hB5.size _
  have hle : w.heap.size ≤ w5.heap.size := hB5.size
  go_wp2_with fail
  go_loopw [50] (fun i wr => ∃ k : Nat, i = .int .i64 k ∧ k ≤ 3 ∧ Blk wr w5.heap.size #[.string s0, .string t0, .string s1, .string t1, .string s2, .string t2] 37 ∧ Below w.heap.size w wr) (fun i _ => 3 - (intOf i).toNat)
  case atStart => exact ⟨0, rfl, by omega, hblk, hBs⟩
  case round =>
    clear hblk hBs hB5
    obtain ⟨k, rfl, hk, hblk, hB⟩ := hrel
    by_cases hk3 : k < 3
    · have hcl : ∃ s t : ByteArray, wr.cell? ⟨w5.heap.size, k * 2, none⟩ = some (.string s) ∧ wr.cell? ⟨w5.heap.size, k * 2 + 1, none⟩ = some (.string t) ∧ s.size ≤ 1000 ∧ t.size ≤ 1000 := by
        match k, hk3 with
        | 0, _ => exact ⟨s0, t0, hblk.cell 0, hblk.cell 1, by omega, by omega⟩
        | 1, _ => exact ⟨s1, t1, hblk.cell 2, hblk.cell 3, by omega, by omega⟩
        | 2, _ => exact ⟨s2, t2, hblk.cell 4, hblk.cell 5, by omega, by omega⟩
      obtain ⟨s, t, d0, d1, hls, hlt⟩ := hcl
      have hM0 : MR w w5.heap.size wr.heap.size #[.string s0, .string t0, .string s1, .string t1, .string s2, .string t2] #[.string s, .string t] (wr.alloc (.cells #[.string s, .string t] 37)) := ⟨hB.alloc hB.size _, hblk.alloc _, Blk.new _ _ _⟩
      have hsI : s.size ≤ 9223372036854775807 := by omega
      have htI : t.size ≤ 9223372036854775807 := by omega
      have hsM : s.size ≤ 1000000 := by omega
      obtain ⟨S1, E1, h⟩ := resT_shape (okS s && okS t) (zS s + zS t)
      have H1 := Lib.hid h
      clear h
      obtain ⟨S2, E2, h⟩ := resT_shape (okS s && okS t) (zS s - zS t)
      have H2 := Lib.hid h
      clear h
      obtain ⟨S3, E3, h⟩ := resT_shape (okS s && okS t) (zS s * zS t)
      have H3 := Lib.hid h
      clear h
      obtain ⟨S4, R4, E4, h⟩ := divT_shape (okS s && okS t) (zS s) (zS t)
      have H4 := Lib.hid h
      clear h
      obtain ⟨S5, E5, h⟩ := resT_shape (okS s && okS t) (gcdZ (zS s) (zS t))
      have H5 := Lib.hid h
      clear h
      obtain ⟨S6, E6, h⟩ : ∃ S E, rootT (okS s) (zS s) = .tuple #[.string S, .int .i64 E] := resT_shape _ _
      have H6 := Lib.hid h
      clear h
      obtain ⟨N7, E7, h⟩ := toT_shape s
      have H7 := Lib.hid h
      clear h
      have V1 := fun W => Valid_any s W
      have V2 := fun W => rvalid_any s hsI W
      have C1 := fun W => Compare_any s t W
      have C2 := fun W => rcmp_any s t hsI htI W
      generalize hob : okS s = ob at V1 V2
      generalize hcm : cmpS s t = cm at C1 C2
      have Hob := Lib.hid hob
      have Hcm := Lib.hid hcm
      clear hob hcm hB hblk hls hlt
      have V1' := Lib.hid V1
      have V2' := Lib.hid V2
      have C1' := Lib.hid C1
      have C2' := Lib.hid C2
      clear V1 V2 C1 C2
      go_wp2_with fail
      refine (Rets.of (add_any s t _ (hE.below hM0.below (Nat.le_refl _)).env) H1.out).mono ?_
      rintro e w6 ⟨rfl, hb⟩
      have hM1 := hM0.call hb
      have c0 := hM1.c0
      have c1 := hM1.c1
      clear hb hM0 d0 d1
      go_wp2_with fail
      refine (Rets.of (radd_any s t hsI htI _) H1.out).mono ?_
      rintro e w6 ⟨rfl, hb⟩
      have hM2 := hM1.call hb
      have c0 := hM2.c0
      have c1 := hM2.c1
      clear hb hM1
      go_wp2_with fail
      refine (Rets.of (sub_any s t _ (hE.below hM2.below (Nat.le_refl _)).env) H2.out).mono ?_
      rintro e w6 ⟨rfl, hb⟩
      have hM3 := hM2.call hb
      have c0 := hM3.c0
      have c1 := hM3.c1
      clear hb hM2
      go_wp2_with fail
      refine (Rets.of (rsub_any s t hsI htI _) H2.out).mono ?_
      rintro e w6 ⟨rfl, hb⟩
      have hM4 := hM3.call hb
      have c0 := hM4.c0
      have c1 := hM4.c1
      clear hb hM3
      go_wp2_with fail
      refine (Rets.of (mul_any s t _ (hE.below hM4.below (Nat.le_refl _)).env) H3.out).mono ?_
      rintro e w6 ⟨rfl, hb⟩
      have hM5 := hM4.call hb
      have c0 := hM5.c0
      have c1 := hM5.c1
      clear hb hM4
      go_wp2_with fail
      refine (Rets.of (rmul_any s t hsI htI _) H3.out).mono ?_
      rintro e w6 ⟨rfl, hb⟩
      have hM6 := hM5.call hb
      have c0 := hM6.c0
      have c1 := hM6.c1
      clear hb hM5
      go_wp2_with fail
      refine (Rets.of (div_any s t _ (hE.below hM6.below (Nat.le_refl _)).env) H4.out).mono ?_
      rintro e w6 ⟨rfl, hb⟩
      have hM7 := hM6.call hb
      have c0 := hM7.c0
      have c1 := hM7.c1
      clear hb hM6
      go_wp2_with fail
      refine (Rets.of (rdiv_any s t hsI htI _) H4.out).mono ?_
      rintro e w6 ⟨rfl, hb⟩
      have hM8 := hM7.call hb
      have c0 := hM8.c0
      have c1 := hM8.c1
      clear hb hM7
      go_wp2_with fail
      refine (Rets.of (gcd_any s t _ (hE.below hM8.below (Nat.le_refl _)).env) H5.out).mono ?_
      rintro e w6 ⟨rfl, hb⟩
      have hM9 := hM8.call hb
      have c0 := hM9.c0
      have c1 := hM9.c1
      clear hb hM8
      go_wp2_with fail
      refine (Rets.of (rgcd_any s t hsI htI _) H5.out).mono ?_
      rintro e w6 ⟨rfl, hb⟩
      have hM10 := hM9.call hb
      have c0 := hM10.c0
      have c1 := hM10.c1
      clear hb hM9
      go_wp2_with fail
      refine (Rets.of (root_any s _ (hE.below hM10.below (Nat.le_refl _)).env) H6.out).mono ?_
      rintro e w6 ⟨rfl, hb⟩
      have hM11 := hM10.call hb
      have c0 := hM11.c0
      have c1 := hM11.c1
      clear hb hM10
      go_wp2_with fail
      refine (Rets.of (rroot_any s hsI _) H6.out).mono ?_
      rintro e w6 ⟨rfl, hb⟩
      have hM12 := hM11.call hb
      have c0 := hM12.c0
      have c1 := hM12.c1
      clear hb hM11
      go_wp2_with fail
      refine (Rets.of (toInt_any s hsM _ (hE.below hM12.below (Nat.le_refl _))) H7.out).mono ?_
      rintro e w6 ⟨rfl, hb⟩
      have hM13 := hM12.call hb
      have c0 := hM13.c0
      have c1 := hM13.c1
      clear hb hM12
      go_wp2_with fail
      refine (Rets.of (rto_any s hsI _) H7.out).mono ?_
      rintro e w6 ⟨rfl, hb⟩
      have hM14 := hM13.call hb
      have c0 := hM14.c0
      have c1 := hM14.c1
      clear hb hM13
      go_wp2_with fail
      have hMM := hM14
      clear H1 H2 H3 H4 H5 H6 H7 Hob Hcm HIn hE hF hM14 c0 c1 hsI htI hsM hla hlb l1 l2 l3 l4 ha hb hn0 hn1 hka hka1 hka2 hkb hkb1 hkb2 hle X1 Y1 X2
      go_region_held3 (fun w' => w'.cell? ⟨wr.heap.size, 0, none⟩ = some (.string s) ∧ w'.cell? ⟨wr.heap.size, 1, none⟩ = some (.string t) ∧ MR w w5.heap.size wr.heap.size #[.string s0, .string t0, .string s1, .string t1, .string s2, .string t2] #[.string s, .string t] w')
        (first | exact MR.sall (MR.call (MR.call (MR.call (MR.call (MR.drew hMM) hbV) hbR) hbC) hbD) | exact MR.sall (MR.call (MR.call (MR.call (MR.drew hMM) hbV) hbR) hbC) | exact MR.sall (MR.call (MR.call (MR.drew hMM) hbV) hbR) | exact MR.sall (MR.call (MR.drew hMM) hbV) | exact MR.sall (MR.drew hMM) | go_keep)
        (first | (go_at_call 19; refine (V1'.out _).mono ?_; rintro e w' ⟨rfl, hbV⟩) | (go_at_call 33; refine (V2'.out _).mono ?_; rintro e w' ⟨rfl, hbR⟩) | (go_at_call 18; refine (C1'.out _).mono ?_; rintro e w' ⟨rfl, hbC⟩) | (go_at_call 34; refine (C2'.out _).mono ?_; rintro e w' ⟨rfl, hbD⟩))
      have hM := MR.call (MR.call (MR.call (MR.call (MR.drew hMM) hbV) hbR) hbC) hbD
      go_wp2
      go_roundw
      case rel => exact ⟨k + 1, by go_num, by omega, hM.big, hM.below⟩
      case measure => simp [intOf]; omega
    · have hT := hE.below hB (Nat.le_refl _)
      have FI := fun W (hE : Env W) => fromInt_is n hF W hE
      have RF := fun W => Rets.of (rfrom_any n hn0 hn1 W) rfl
      rw [HIn.out] at FI RF
      have FI := Lib.hid FI
      have RF := Lib.hid RF
      go_wp2_with fail
      refine (FI.out _ hT.env).mono ?_
      rintro e w6 ⟨rfl, hb⟩
      have hB6 := kb_call hb hB (Nat.le_refl _)
      clear hb
      go_wp2_with fail
      refine (RF.out _).mono ?_
      rintro e w7 ⟨rfl, hb⟩
      have hB7 := kb_call hb hB6 (Nat.le_refl _)
      go_wp2
      go_ret
      exact ⟨rfl, hB7⟩
end Go.Proofs.YtbnilfjhalildaaGreatDoor
