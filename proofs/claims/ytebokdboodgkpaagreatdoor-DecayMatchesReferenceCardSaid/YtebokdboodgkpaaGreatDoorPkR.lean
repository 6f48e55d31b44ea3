/- PkR: RfG RfH MtA MtB MtC -/
import Derived.Test.YtebokdboodgkpaaGreatDoorRfD
import Derived.Test.YtebokdboodgkpaaGreatDoorRfE
import Derived.Test.YtebokdboodgkpaaGreatDoorRfF
import Derived.Test.YtebokdboodgkpaaGreatDoorDecZh
import Derived.Test.YtebokdboodgkpaaGreatDoorDecK
import Derived.Deep.RegionHeld3
import Derived.Test.YtebokdboodgkpaaGreatDoorDecX
import Derived.Deep.DeepCutAuto
import Derived.Deep.QuietTactic
import Derived.BigQuiet
/- putloglaw26.cut; the shapes of what package decay returns. -/
namespace Go.Proofs.YtebokdboodgkpaaGreatDoor
open Go.RowKit
open DecM (Dt okD fcst rts rch inDay)
attribute [local go_sem] Oper.semAt_some

theorem fv_shape (o : Option (Rat × Rat)) : ∃ an ad bn bd e, fV o = .tuple #[.agg #[.string an, .string ad], .agg #[.string bn, .string bd], .int .i64 e] ∧ (e = if o.isSome then 0 else 260) := by
  cases o with
  | none => exact ⟨_, _, _, _, _, rfl, rfl⟩
  | some x => exact ⟨_, _, _, _, _, rfl, rfl⟩
theorem ln_some (l : List Dt) (t : Int) (hi : Bool) : (lnO l t hi).isSome = (fcst l t).isSome := by
  unfold lnO
  rw [fcst_ex2, Option.isSome_map]
  have := ex_pair (l := l) (t := t)
  cases h1 : exO l t false <;> cases h2 : exO l t true
  · cases hi <;> simp [h1, h2]
  · rw [h1, h2] at this; exact absurd (this.1 rfl) (by simp)
  · rw [h1, h2] at this; exact absurd (this.2 rfl) (by simp)
  · cases hi <;> simp [h1, h2]
/-- Forecast and Line return errors together. -/
theorem fv_pair (l : List Dt) (t : Int) (hi : Bool) : ∃ an ad bn bd pn pd qn qd e, fV (fcst l t) = .tuple #[.agg #[.string an, .string ad], .agg #[.string bn, .string bd], .int .i64 e] ∧ fV (lnO l t hi) = .tuple #[.agg #[.string pn, .string pd], .agg #[.string qn, .string qd], .int .i64 e] := by
  obtain ⟨an, ad, bn, bd, e, h1, h2⟩ := fv_shape (fcst l t)
  obtain ⟨pn, pd, qn, qd, e', h3, h4⟩ := fv_shape (lnO l t hi)
  rw [ln_some, ← h2] at h4
  subst h4
  exact ⟨an, ad, bn, bd, pn, pd, qn, qd, e', h1, h3⟩
theorem rv_shape (o : Option Int) : ∃ z e, rV o = .tuple #[.int .i64 z, .int .i64 e] := by
  cases o with
  | none => exact ⟨_, _, rfl⟩
  | some x => exact ⟨_, _, rfl⟩
theorem SlD.take {W : World} {b off cap : Nat} {l : List Dt} (h1 : l.length ≤ cap) (h2 : cap ≤ maxLen) (hlt : b < W.heap.size) (hc : ∀ j, j < l.length → DCell W b (off + j * 3) (DecM.gd l j)) {k : Nat} (hk : k ≤ l.length) : SlD W (.slice (some ⟨b, off, none⟩) k cap) (l.take k) := by
  refine .inr ⟨b, off, cap, by rw [List.length_take, Nat.min_eq_left hk], by rw [List.length_take, Nat.min_eq_left hk]; omega, h2, hlt, fun j hj => ?_⟩
  rw [List.length_take, Nat.min_eq_left hk] at hj
  have e : DecM.gd (l.take k) j = DecM.gd l j := by unfold DecM.gd; rw [List.getElem?_take_of_lt hj]
  rw [e]; exact hc j (by omega)

set_option maxRecDepth 100000 in
set_option maxHeartbeats 16000000 in
/-- putloglaw26.cut. -/
theorem cut26_any (n d : ByteArray) (w : World) :
    Calls Tryz.prog 5 #[.agg #[.string n, .string d]] w fun e w' => ∃ a b : ByteArray, e = .returned (.agg #[.string a, .string b]) ∧ T63 a ∧ T63 b ∧ Below w.heap.size w w' := by
  obtain ⟨ka, hka, hka1, hka2⟩ : ∃ k : Nat, min (n.size : Int) 40 = (k : Int) ∧ k ≤ n.size ∧ k ≤ 40 := ⟨min n.size 40, by omega, by omega, by omega⟩
  obtain ⟨kb, hkb, hkb1, hkb2⟩ : ∃ k : Nat, min (d.size : Int) 40 = (k : Int) ∧ k ≤ d.size ∧ k ≤ 40 := ⟨min d.size 40, by omega, by omega, by omega⟩
  have hla : T63 (n.extract 0 ka) := by unfold T63; simp; omega
  have hlb : T63 (d.extract 0 kb) := by unfold T63; simp; omega
  have HA := Lib.hid hla
  have HB := Lib.hid hlb
  clear hla hlb
  obtain ⟨V1, e1, S1, z1⟩ := (BL.start w).add' #[.string n, .string d] 27
  obtain ⟨V2, e2, S2, z2⟩ := S1.add' #[.string ⟨#[]⟩, .string ⟨#[]⟩] 27
  rw [z1] at S2
  have hV : V2 = (w.alloc (.cells #[.string n, .string d] 27)).alloc (.cells #[.string ⟨#[]⟩, .string ⟨#[]⟩] 27) := by rw [e2, e1]
  clear e1 e2 z1 z2 S1
  obtain ⟨x0, x1⟩ := S2.c2 w.heap.size _ _ _ (.tail _ (.head _))
  obtain ⟨k0, k1, k2, k3, m0, m1, hfin⟩ := res_after (S2.blks _ (.head _)) (n.extract 0 ka) (d.extract 0 kb)
  have hfin := Lib.hid (hfin w S2.below (Nat.le_succ _))
  clear S2
  go_enter Tryz.func5, Tryz.ntmps5
  go_upto_region 1 with fail
  rw [← hV]
  clear hV
  go_region_held3 (fun w' => w'.cell? ⟨w.heap.size, 0, none⟩ = some (.string n) ∧ w'.cell? ⟨w.heap.size, 1, none⟩ = some (.string d))
    (go_keep)
    (fail)
  all_goals go_wp2
  all_goals exact bodyPost_ret (v := .agg #[.string (n.extract 0 ka), .string (d.extract 0 kb)]) (by simp [results, Tryz.results5, go_sem, m0, m1]) rfl ⟨_, _, rfl, HA.out, HB.out, by first | exact hfin.out | exact kb_drew hfin.out⟩
/-- The numbers of the blocks on a list: none of the caller's, each greater than those behind it. -/
structure Asc (w : World) (L : BLs) : Prop where
  ge : ∀ p ∈ L, w.heap.size ≤ p.1
  asc : L.Pairwise (fun p q => q.1 < p.1)
theorem Asc.nil (w : World) : Asc w [] := ⟨(fun p hp => by cases hp), List.Pairwise.nil⟩
theorem Asc.add {w W : World} {L : BLs} (h : Asc w L) (hS : BL w L W) (cs : Array Value) (t : TypeId) : Asc w ((W.heap.size, cs, t) :: L) :=
  ⟨fun p hp => by
    rcases List.mem_cons.1 hp with rfl | hp
    · exact hS.below.size
    · exact h.ge p hp, List.pairwise_cons.2 ⟨fun p hp => hS.lts p hp, h.asc⟩⟩
theorem Asc.put {w : World} {A C : BLs} {B : Nat} {cs ds : Array Value} {t : TypeId} (h : Asc w (A ++ (B, cs, t) :: C)) : Asc w (A ++ (B, ds, t) :: C) := by
  refine ⟨fun p hp => ?_, ?_⟩
  · rcases List.mem_append.1 hp with h1 | h1
    · exact h.ge p (List.mem_append_left _ h1)
    · rcases List.mem_cons.1 h1 with rfl | h1
      · exact h.ge (B, cs, t) (List.mem_append_right _ List.mem_cons_self)
      · exact h.ge p (List.mem_append_right _ (List.mem_cons_of_mem _ h1))
  · have h2 := List.pairwise_append.1 h.asc
    refine List.pairwise_append.2 ⟨h2.1, List.pairwise_cons.2 (List.pairwise_cons.1 h2.2.1), fun p hp q hq => ?_⟩
    rcases List.mem_cons.1 hq with rfl | hq
    · exact h2.2.2 p hp (B, cs, t) List.mem_cons_self
    · exact h2.2.2 p hp q (List.mem_cons_of_mem _ hq)
theorem Asc.ne {w : World} {A C : BLs} {B : Nat} {cs : Array Value} {t : TypeId} (h : Asc w (A ++ (B, cs, t) :: C)) : ∀ p ∈ A ++ C, p.1 ≠ B := by
  intro p hp
  have h2 := List.pairwise_append.1 h.asc
  rcases List.mem_append.1 hp with h1 | h1
  · have : B < p.1 := h2.2.2 p h1 (B, cs, t) List.mem_cons_self
    omega
  · have : p.1 < B := (List.pairwise_cons.1 h2.2.1).1 p h1
    omega
theorem Asc.base {w : World} {A C : BLs} {B : Nat} {cs : Array Value} {t : TypeId} (h : Asc w (A ++ (B, cs, t) :: C)) : w.heap.size ≤ B := h.ge (B, cs, t) (List.mem_append_right _ List.mem_cons_self)
/-- Two cells of a block on the list are set. -/
theorem BL.put {w W : World} {A C : BLs} {B : Nat} {a b : Value} {t : TypeId} (hO : Asc w (A ++ (B, #[a, b], t) :: C)) (h : BL w (A ++ (B, #[a, b], t) :: C) W) (x y : Value) :
    BL w (A ++ (B, #[x, y], t) :: C) ((W.setCell ⟨B, 0, none⟩ x).setCell ⟨B, 1, none⟩ y) := by
  have ho : Only [B] W ((W.setCell ⟨B, 0, none⟩ x).setCell ⟨B, 1, none⟩ y) := ((Only.refl [B] W).setCell (p := ⟨B, 0, none⟩) (by simp) x).setCell (p := ⟨B, 1, none⟩) (by simp) y
  have h1 := (h.drop (M := A ++ C) (fun p hp => by
    rcases List.mem_append.1 hp with h1 | h1
    · exact List.mem_append_left _ h1
    · exact List.mem_append_right _ (List.mem_cons_of_mem _ h1))).only ho (by simpa using hO.base) (fun p hp => by simpa using hO.ne p hp)
  refine ⟨h1.below, fun p hp => ?_⟩
  rcases List.mem_append.1 hp with h2 | h2
  · exact h1.blks p (List.mem_append_left _ h2)
  · rcases List.mem_cons.1 h2 with rfl | h2
    · exact ((h.blks (B, #[a, b], t) (List.mem_append_right _ List.mem_cons_self)).set 0 x).set 1 y
    · exact h1.blks p (List.mem_append_right _ h2)
theorem BL.last3 {w W : World} {L : BLs} {cs : Array Value} {t : TypeId} (h : BL w L W) {V : World} (e : V = W.alloc (.cells cs t)) :
    Value.slice (some ⟨W.heap.size, 0, none⟩) 3 3 = Value.slice (some ⟨V.heap.size - 1, 0, none⟩) 3 3 ∧ Value.int .i64 3 = Value.int .i64 3 ∧ Value.int .i64 0 = Value.int .i64 0 ∧ BL w ((V.heap.size - 1, cs, t) :: L) V := by
  subst e
  rw [World.size_alloc, Nat.add_sub_cancel]
  exact ⟨rfl, rfl, rfl, h.add _ _⟩
theorem BL.last3d {w W : World} {L : BLs} {cs : Array Value} {t : TypeId} (h : BL w L W) {V : World} (e : V = (W.alloc (.cells cs t)).drew) :
    Value.slice (some ⟨W.heap.size, 0, none⟩) 3 3 = Value.slice (some ⟨V.heap.size - 1, 0, none⟩) 3 3 ∧ Value.int .i64 3 = Value.int .i64 3 ∧ Value.int .i64 0 = Value.int .i64 0 ∧ BL w ((V.heap.size - 1, cs, t) :: L) V := by
  subst e
  have hz : (W.alloc (.cells cs t)).drew.heap.size = W.heap.size + 1 := World.size_alloc _ _
  rw [hz, Nat.add_sub_cancel]
  exact ⟨rfl, rfl, rfl, (h.add _ _).drew⟩
/-- Blocks on a list, and the world as a new base. -/
theorem BL.rebase {w W : World} {L : BLs} (h : BL w L W) : BL W L W := ⟨Below.refl _ _, h.blks⟩
end Go.Proofs.YtebokdboodgkpaaGreatDoor

/- putloglaw26: a region of DecayMatchesReference, by itself (three pairs of fractions are laid in a slice). -/
namespace Go.Proofs.YtebokdboodgkpaaGreatDoor
open Go.RowKit
attribute [local go_sem] Oper.semAt_some

/-- The operations of a region. -/
def opsIn : Code → Nat → Option (Array Oper)
  | .region id ops _, n => if id = n then some ops else none
  | .seq a b, n => match opsIn a n with
    | some x => some x
    | none => opsIn b n
  | .cond _ a b, n => match opsIn a n with
    | some x => some x
    | none => opsIn b n
  | .block _ a, n => opsIn a n
  | .loop a, n => opsIn a n
  | _, _ => none
def findOps (c : Option Code) (n : Nat) : Option (Array Oper) := match c with
  | some c => opsIn c n
  | none => none
set_option maxRecDepth 100000 in
set_option maxHeartbeats 16000000 in
theorem r32_any {Q : Exit → Act → World → Prop} {u0 u1 u2 u3 u4 u5 u7 u8 u9 u10 u11 u12 u13 u14 u15 u18 u19 u22 u23 u24 u25 u26 u27 u28 u29 u30 u31 u32 u33 u34 u35 u36 u37 u38 u39 u40 u41 u42 u43 u44 u45 u46 u47 u48 u49 u50 u51 u52 u53 u54 u55 u56 u57 u58 u59 u60 u61 u62 u63 u64 u65 u66 u67 u68 u69 u70 u71 u72 u73 u74 u75 u76 u77 u78 u79 u80 u81 u82 u83 u84 u85 u86 u87 u88 u89 u90 u91 u92 u93 u94 u95 u96 u97 u98 u99 u100 u101 u102 u103 u104 u105 u106 u107 u108 u109 u110 u111 u112 u113 u114 u115 u116 u117 u118 u119 u120 u121 u122 u123 u124 u125 u126 u127 u128 u129 u130 u131 u132 u133 u134 u135 u136 u137 u138 u139 u140 u141 u142 u143 u144 u145 u146 u147 u148 u149 u150 u151 u152 u153 u154 u155 u156 u157 u158 u159 u160 u161 u162 u163 u164 u165 u166 u167 u168 u169 u170 u171 u172 u173 u174 u175 u176 u177 u178 u179 u180 u181 u182 u183 u184 u185 u186 u187 u188 u189 u190 u191 u192 u193 u194 u195 u196 u197 u198 u199 u200 u201 u202 u203 u204 u205 u206 u207 u208 u209 u210 u211 u212 u213 u214 u215 u216 u217 u218 u219 u220 u221 u222 u223 u224 u225 u226 u227 u228 u229 u230 u231 u232 u233 u234 u235 u236 u237 u238 u239 u240 u241 u242 u243 u244 u245 u246 u247 u248 u249 u250 u251 u252 u253 u254 u255 u256 u257 u258 u259 u260 u261 u262 u263 u264 u265 u266 u267 u268 u269 u270 u271 u272 u273 u274 u275 u276 u277 u278 u279 u280 u281 u282 u283 u284 u285 u286 u287 u288 u289 u290 u291 u292 u293 u294 u295 u296 u297 u298 u299 u300 u301 u302 u303 u304 u305 u306 u307 u308 u309 u310 u311 u312 u313 u314 u315 : Value} {pA pB pU pV : Nat} {limit : Int} {an ad bn bd xa xb ya yb ln ld : ByteArray} {wb w : World} {L : BLs} (hS : BL wb L w)
    (hC : Hid (∀ W', BL wb L W' → (W'.cell? ⟨pA, 0, none⟩ = some (.string an) ∧ W'.cell? ⟨pA, 1, none⟩ = some (.string ad) ∧ W'.cell? ⟨pB, 0, none⟩ = some (.string bn) ∧ W'.cell? ⟨pB, 1, none⟩ = some (.string bd) ∧ W'.cell? ⟨pU, 0, none⟩ = some (.string xa) ∧ W'.cell? ⟨pU, 1, none⟩ = some (.string xb) ∧ W'.cell? ⟨pV, 0, none⟩ = some (.string ya) ∧ W'.cell? ⟨pV, 1, none⟩ = some (.string yb))))
    (KO : Hid (∀ W, Calls Tryz.prog 23 #[.int .i64 limit, .int .i64 1] W (Rets W (.agg #[.string ln, .string ld])))) {ops : Array Oper} (ho : findOps Tryz.f3.body 32 = some ops)
    (hQ : ∀ g w', BL wb ((g, #[.string an, .string ad, .string bn, .string bd, .string xa, .string xb, .string ya, .string yb, .string ln, .string ld, .string bn, .string bd], 49) :: L) w' → Q .normal { tmps := #[u0, u1, u2, u3, u4, u5, .int .i64 limit, u7, u8, u9, u10, u11, u12, u13, u14, u15, .pointer (some ⟨pU, 0, none⟩), .pointer (some ⟨pV, 0, none⟩), u18, u19, .pointer (some ⟨pA, 0, none⟩), .pointer (some ⟨pB, 0, none⟩), u22, u23, u24, u25, u26, u27, u28, u29, u30, u31, u32, u33, u34, u35, u36, u37, u38, u39, u40, u41, u42, u43, u44, u45, u46, u47, u48, u49, u50, u51, u52, u53, u54, u55, u56, u57, u58, u59, u60, u61, u62, u63, u64, u65, u66, u67, u68, u69, u70, u71, u72, u73, u74, u75, u76, u77, u78, u79, u80, u81, u82, u83, u84, u85, u86, u87, u88, u89, u90, u91, u92, u93, u94, u95, u96, u97, u98, u99, u100, u101, u102, u103, u104, u105, u106, u107, u108, u109, u110, u111, u112, u113, u114, u115, u116, u117, u118, u119, u120, u121, u122, u123, u124, u125, u126, u127, u128, u129, u130, u131, u132, u133, u134, u135, u136, u137, u138, u139, u140, u141, u142, u143, u144, u145, u146, u147, u148, u149, u150, u151, u152, u153, u154, u155, u156, u157, u158, u159, u160, u161, u162, u163, u164, u165, u166, u167, u168, u169, u170, u171, u172, u173, u174, u175, u176, u177, u178, u179, u180, u181, u182, u183, u184, u185, u186, u187, u188, u189, u190, u191, u192, u193, u194, u195, u196, u197, u198, u199, u200, u201, u202, u203, u204, u205, u206, u207, u208, u209, u210, u211, u212, u213, u214, u215, u216, u217, u218, u219, u220, u221, u222, u223, u224, u225, u226, u227, .agg #[.string an, .string ad], .agg #[.string bn, .string bd], .agg #[.string an, .string ad, .string bn, .string bd], .agg #[.string xa, .string xb], .agg #[.string ya, .string yb], .agg #[.string xa, .string xb, .string ya, .string yb], .int .i64 limit, .agg #[.string ln, .string ld], .agg #[.string bn, .string bd], .agg #[.string ln, .string ld, .string bn, .string bd], .slice (some ⟨g, 0, none⟩) 3 3, .int .i64 3, .int .i64 0, u241, u242, u243, u244, u245, u246, u247, u248, u249, u250, u251, u252, u253, u254, u255, u256, u257, u258, u259, u260, u261, u262, u263, u264, u265, u266, u267, u268, u269, u270, u271, u272, u273, u274, u275, u276, u277, u278, u279, u280, u281, u282, u283, u284, u285, u286, u287, u288, u289, u290, u291, u292, u293, u294, u295, u296, u297, u298, u299, u300, u301, u302, u303, u304, u305, u306, u307, u308, u309, u310, u311, u312, u313, u314, u315], defers := [] } w') :
    (Code.region 32 ops true).wp Tryz.prog Q { tmps := #[u0, u1, u2, u3, u4, u5, .int .i64 limit, u7, u8, u9, u10, u11, u12, u13, u14, u15, .pointer (some ⟨pU, 0, none⟩), .pointer (some ⟨pV, 0, none⟩), u18, u19, .pointer (some ⟨pA, 0, none⟩), .pointer (some ⟨pB, 0, none⟩), u22, u23, u24, u25, u26, u27, u28, u29, u30, u31, u32, u33, u34, u35, u36, u37, u38, u39, u40, u41, u42, u43, u44, u45, u46, u47, u48, u49, u50, u51, u52, u53, u54, u55, u56, u57, u58, u59, u60, u61, u62, u63, u64, u65, u66, u67, u68, u69, u70, u71, u72, u73, u74, u75, u76, u77, u78, u79, u80, u81, u82, u83, u84, u85, u86, u87, u88, u89, u90, u91, u92, u93, u94, u95, u96, u97, u98, u99, u100, u101, u102, u103, u104, u105, u106, u107, u108, u109, u110, u111, u112, u113, u114, u115, u116, u117, u118, u119, u120, u121, u122, u123, u124, u125, u126, u127, u128, u129, u130, u131, u132, u133, u134, u135, u136, u137, u138, u139, u140, u141, u142, u143, u144, u145, u146, u147, u148, u149, u150, u151, u152, u153, u154, u155, u156, u157, u158, u159, u160, u161, u162, u163, u164, u165, u166, u167, u168, u169, u170, u171, u172, u173, u174, u175, u176, u177, u178, u179, u180, u181, u182, u183, u184, u185, u186, u187, u188, u189, u190, u191, u192, u193, u194, u195, u196, u197, u198, u199, u200, u201, u202, u203, u204, u205, u206, u207, u208, u209, u210, u211, u212, u213, u214, u215, u216, u217, u218, u219, u220, u221, u222, u223, u224, u225, u226, u227, u228, u229, u230, u231, u232, u233, u234, u235, u236, u237, u238, u239, u240, u241, u242, u243, u244, u245, u246, u247, u248, u249, u250, u251, u252, u253, u254, u255, u256, u257, u258, u259, u260, u261, u262, u263, u264, u265, u266, u267, u268, u269, u270, u271, u272, u273, u274, u275, u276, u277, u278, u279, u280, u281, u282, u283, u284, u285, u286, u287, u288, u289, u290, u291, u292, u293, u294, u295, u296, u297, u298, u299, u300, u301, u302, u303, u304, u305, u306, u307, u308, u309, u310, u311, u312, u313, u314, u315], defers := [] } w := by
  obtain rfl := Option.some.inj (ho.symm.trans (rfl : findOps Tryz.f3.body 32 = some _))
  clear ho
  obtain ⟨x0', x1', x2', x3', x4', x5', x6', x7'⟩ := hC.out _ hS
  replace hS := hS.drew
  replace hQ := Lib.hid hQ
  go_region_held3 (fun w' => w'.cell? ⟨pA, 0, none⟩ = some (.string an) ∧ w'.cell? ⟨pA, 1, none⟩ = some (.string ad) ∧ w'.cell? ⟨pB, 0, none⟩ = some (.string bn) ∧ w'.cell? ⟨pB, 1, none⟩ = some (.string bd) ∧ w'.cell? ⟨pU, 0, none⟩ = some (.string xa) ∧ w'.cell? ⟨pU, 1, none⟩ = some (.string xb) ∧ w'.cell? ⟨pV, 0, none⟩ = some (.string ya) ∧ w'.cell? ⟨pV, 1, none⟩ = some (.string yb))
    (first | with_reducible exact hC.out _ hS | go_keep)
    (first | (go_at_call 23; (with_reducible refine Calls.mono (KO.out _) ?_); rintro e w' ⟨rfl, hb⟩; replace hS := hS.call hb; clear hb))
  all_goals first | exact hQ.out _ _ (hS.add _ _) | exact hQ.out _ _ (hS.add _ _).drew
end Go.Proofs.YtebokdboodgkpaaGreatDoor

/- putloglaw26: DecayMatchesReference: the loop over two values, and that over two days. -/
namespace Go.Proofs.YtebokdboodgkpaaGreatDoor
open Go.RowKit
open DecM (Dt okD fcst rts rch inDay)
attribute [local go_sem] Oper.semAt_some

/-- The body of the loop in a block. -/
def loopIn : Code → Nat → Option Code
  | .seq a b, n => match loopIn a n with
    | some x => some x
    | none => loopIn b n
  | .cond _ a b, n => match loopIn a n with
    | some x => some x
    | none => loopIn b n
  | .block i a, n => if i = n then (match a with
    | .loop c => some c
    | _ => none) else loopIn a n
  | .loop a, n => loopIn a n
  | .scope a, n => loopIn a n
  | _, _ => none
def findLoop (c : Option Code) (n : Nat) : Option Code := match c with
  | some c => loopIn c n
  | none => none

set_option maxRecDepth 100000 in
set_option maxHeartbeats 16000000 in
theorem lp4_26 {Q : Exit → Act → World → Prop} {u0 u1 u2 u3 u4 u5 u6 u7 u8 u9 u10 u11 u12 u13 u14 u15 u16 u17 u18 u19 u20 u21 u22 u23 u25 u26 u27 u28 u29 u30 u31 u32 u33 u34 u35 u37 u38 u39 u40 u41 u42 u43 u44 u45 u46 u47 u48 u49 u50 u51 u52 u53 u54 u55 u56 u57 u58 u59 u60 u61 u62 u63 u64 u65 u66 u67 u68 u69 u70 u71 u72 u73 u74 u75 u76 u77 u78 u79 u80 u81 u82 u83 u84 u85 u86 u87 u88 u89 u90 u91 u92 u93 u94 u95 u96 u97 u98 u99 u100 u101 u102 u103 u104 u105 u106 u107 u108 u109 u110 u111 u112 u113 u114 u115 u116 u117 u118 u119 u120 u121 u122 u123 u124 u125 u126 u127 u128 u129 u130 u131 u132 u133 u134 u135 u136 u137 u138 u139 u140 u141 u142 u143 u144 u145 u146 u147 u148 u149 u150 u151 u152 u153 u154 u155 u156 u157 u158 u159 u160 u161 u162 u163 u164 u165 u166 u167 u168 u169 u170 u171 u172 u173 u174 u175 u176 u177 u178 u179 u180 u181 u182 u183 u184 u185 u186 u187 u188 u189 u190 u191 u192 u193 u194 u195 u196 u197 u201 u202 u203 u204 u205 u206 u207 u208 u209 u210 u211 u212 u213 u214 u215 u216 u217 u218 u219 u220 u221 u222 u223 u224 u225 u226 u227 u228 u229 u230 u231 u232 u233 u234 u235 u236 u237 u238 u239 u240 u241 u242 u243 u244 u245 u246 u247 u248 u249 u250 u251 u252 u253 u254 u255 u256 u257 u258 u259 u260 u261 u262 u263 u264 u265 u266 u267 u268 u269 u270 u271 u272 u273 u274 u275 u276 u277 u278 u279 u280 u281 u282 u283 u284 u285 u286 u287 u288 u289 u290 u291 u292 u293 u294 u295 u296 u297 u298 u299 u300 u301 u302 u303 u304 u305 u306 u307 u308 u309 u310 u311 u312 u313 u314 u315 : Value} {s : Int} {v : Value} {l : List Dt} {wb w : World} {L : BLs} {KS : Nat} (hS : BL wb L w) (hcs : Hid (∀ m, m < 2 → ∃ k, Fits k ∧ ∀ W, BL wb L W → W.cell? ⟨KS, m, none⟩ = some (.int .i64 k)))
    (hE : Env wb) (HL : Hid (SlD wb v l)) {body : Code} (hbody : findLoop Tryz.f3.body 4 = some body)
    (hQ : ∀ (v18 v47 v48 v49 v50 v51 v200 v201 v202 v203 v204 v205 v206 v207 v208 v209 v210 v211 v212 v213 v214 v215 v216 v217 v218 v219 v220 v221 v222 v223 v224 v225 v226 : Value) (W' : World), BL wb L W' → Q (.exit 4) { tmps := List.toArray (u0::u1::u2::u3::u4::u5::u6::u7::u8::u9::u10::u11::u12::u13::u14::u15::u16::u17::v18::u19::u20::u21::u22::u23::v::u25::u26::u27::u28::u29::u30::u31::u32::u33::u34::u35::.int .i64 s::u37::u38::u39::u40::u41::u42::u43::u44::u45::u46::v47::v48::v49::v50::v51::u52::u53::u54::u55::u56::u57::u58::u59::u60::u61::u62::u63::u64::u65::u66::u67::u68::u69::u70::u71::u72::u73::u74::u75::u76::u77::u78::u79::u80::u81::u82::u83::u84::u85::u86::u87::u88::u89::u90::u91::u92::u93::u94::u95::u96::u97::u98::u99::u100::u101::u102::u103::u104::u105::u106::u107::u108::u109::u110::u111::u112::u113::u114::u115::u116::u117::u118::u119::u120::u121::u122::u123::u124::u125::u126::u127::u128::u129::u130::u131::u132::u133::u134::u135::u136::u137::u138::u139::u140::u141::u142::u143::u144::u145::u146::u147::u148::u149::u150::u151::u152::u153::u154::u155::u156::u157::u158::u159::u160::u161::u162::u163::u164::u165::u166::u167::u168::u169::u170::u171::u172::u173::u174::u175::u176::u177::u178::u179::u180::u181::u182::u183::u184::u185::u186::u187::u188::u189::u190::u191::u192::u193::u194::u195::u196::u197::.slice (some ⟨KS, 0, none⟩) 2 2::.int .i64 2::v200::v201::v202::v203::v204::v205::v206::v207::v208::v209::v210::v211::v212::v213::v214::v215::v216::v217::v218::v219::v220::v221::v222::v223::v224::v225::v226::u227::u228::u229::u230::u231::u232::u233::u234::u235::u236::u237::u238::u239::u240::u241::u242::u243::u244::u245::u246::u247::u248::u249::u250::u251::u252::u253::u254::u255::u256::u257::u258::u259::u260::u261::u262::u263::u264::u265::u266::u267::u268::u269::u270::u271::u272::u273::u274::u275::u276::u277::u278::u279::u280::u281::u282::u283::u284::u285::u286::u287::u288::u289::u290::u291::u292::u293::u294::u295::u296::u297::u298::u299::u300::u301::u302::u303::u304::u305::u306::u307::u308::u309::u310::u311::u312::u313::u314::u315::[]), defers := [] } W') :
    (Code.loop body).wp Tryz.prog Q { tmps := List.toArray (u0::u1::u2::u3::u4::u5::u6::u7::u8::u9::u10::u11::u12::u13::u14::u15::u16::u17::u18::u19::u20::u21::u22::u23::v::u25::u26::u27::u28::u29::u30::u31::u32::u33::u34::u35::.int .i64 s::u37::u38::u39::u40::u41::u42::u43::u44::u45::u46::u47::u48::u49::u50::u51::u52::u53::u54::u55::u56::u57::u58::u59::u60::u61::u62::u63::u64::u65::u66::u67::u68::u69::u70::u71::u72::u73::u74::u75::u76::u77::u78::u79::u80::u81::u82::u83::u84::u85::u86::u87::u88::u89::u90::u91::u92::u93::u94::u95::u96::u97::u98::u99::u100::u101::u102::u103::u104::u105::u106::u107::u108::u109::u110::u111::u112::u113::u114::u115::u116::u117::u118::u119::u120::u121::u122::u123::u124::u125::u126::u127::u128::u129::u130::u131::u132::u133::u134::u135::u136::u137::u138::u139::u140::u141::u142::u143::u144::u145::u146::u147::u148::u149::u150::u151::u152::u153::u154::u155::u156::u157::u158::u159::u160::u161::u162::u163::u164::u165::u166::u167::u168::u169::u170::u171::u172::u173::u174::u175::u176::u177::u178::u179::u180::u181::u182::u183::u184::u185::u186::u187::u188::u189::u190::u191::u192::u193::u194::u195::u196::u197::.slice (some ⟨KS, 0, none⟩) 2 2::.int .i64 2::.int .i64 0::u201::u202::u203::u204::u205::u206::u207::u208::u209::u210::u211::u212::u213::u214::u215::u216::u217::u218::u219::u220::u221::u222::u223::u224::u225::u226::u227::u228::u229::u230::u231::u232::u233::u234::u235::u236::u237::u238::u239::u240::u241::u242::u243::u244::u245::u246::u247::u248::u249::u250::u251::u252::u253::u254::u255::u256::u257::u258::u259::u260::u261::u262::u263::u264::u265::u266::u267::u268::u269::u270::u271::u272::u273::u274::u275::u276::u277::u278::u279::u280::u281::u282::u283::u284::u285::u286::u287::u288::u289::u290::u291::u292::u293::u294::u295::u296::u297::u298::u299::u300::u301::u302::u303::u304::u305::u306::u307::u308::u309::u310::u311::u312::u313::u314::u315::[]), defers := [] } w := by
  obtain rfl := Option.some.inj (hbody.symm.trans (rfl : findLoop Tryz.f3.body 4 = some _))
  clear hbody
  replace hQ := Lib.hid hQ
  have RC1 := Lib.hid (fun k s (hk : Fits k) W (hE : Env W) (h : SlD W v l) => reaches_any v l k s hk W hE h)
  have RC2 := Lib.hid (fun k s (hk : Fits k) W (h : SlD W v l) => rreaches_any v l k s hk W h)
  go_loopw [200] (fun o wr3 => ∃ m : Nat, o = .int .i64 m ∧ m ≤ 2 ∧ BL wb L wr3) (fun o _ => 2 - (intOf o).toNat)
  case atStart => exact ⟨0, rfl, by omega, hS⟩
  case round =>
    clear hS
    obtain ⟨m, rfl, hm2, hS⟩ := hrel
    by_cases hm : m < 2
    case pos =>
      have hm' : (m : Int) < 2 := by omega
      obtain ⟨k, hk, hcs⟩ := hcs.out m hm
      clear hm
      have c0 := hcs _ hS
      clear hcs
      replace RC1 := RC1.out k s hk
      replace RC2 := RC2.out k s hk
      obtain ⟨z, e2, hz⟩ := rv_shape (rch l k s)
      rw [hz] at RC1 RC2
      clear hz hk
      replace RC1 := Lib.hid RC1
      replace RC2 := Lib.hid RC2
      go_upto_region 26 with fail
      clear c0
      go_wp2_with fail
      refine Calls.mono (RC1.out _ (hS.env hE) (HL.out.below hS.below)) ?_
      rintro e w1 ⟨rfl, hb⟩
      replace hS := hS.call hb
      clear hb
      go_wp2_with fail
      refine Calls.mono (RC2.out _ (HL.out.below hS.below)) ?_
      rintro e w2 ⟨rfl, hb⟩
      replace hS := hS.call hb
      clear hb
      go_wp2_with fail
      go_roundw
      case rel => exact ⟨m + 1, by go_num, by omega, hS⟩
      case measure => simp [intOf]; omega
    case neg =>
      go_wp2_with fail
      exact hQ.out _ _ _ _ _ _ _ _ _ _ _ _ _ _ _ _ _ _ _ _ _ _ _ _ _ _ _ _ _ _ _ _ _ _ hS
set_option maxRecDepth 100000 in
set_option maxHeartbeats 16000000 in
theorem lp2_26 {Q : Exit → Act → World → Prop} {u0 u1 u3 u4 u5 u7 u8 u9 u10 u11 u12 u13 u14 u15 u16 u17 u18 u19 u20 u21 u22 u23 u25 u26 u27 u28 u29 u30 u31 u32 u33 u34 u35 u36 u37 u38 u39 u40 u41 u42 u43 u44 u45 u46 u47 u48 u49 u50 u51 u52 u53 u54 u55 u56 u57 u58 u59 u60 u61 u62 u63 u64 u65 u66 u67 u68 u69 u70 u71 u72 u73 u74 u75 u76 u77 u78 u79 u80 u81 u82 u83 u84 u85 u86 u87 u88 u89 u90 u91 u92 u93 u94 u95 u96 u97 u98 u99 u100 u101 u102 u103 u104 u105 u106 u107 u108 u109 u110 u111 u112 u113 u114 u115 u116 u117 u118 u119 u120 u121 u122 u123 u124 u125 u126 u127 u128 u129 u130 u131 u132 u133 u134 u135 u136 u137 u138 u139 u140 u141 u142 u143 u144 u145 u146 u150 u151 u152 u153 u154 u155 u156 u157 u158 u159 u160 u161 u162 u163 u164 u165 u166 u167 u168 u169 u170 u171 u172 u173 u174 u175 u176 u177 u178 u179 u180 u181 u182 u183 u184 u185 u186 u187 u188 u189 u190 u191 u192 u193 u194 u195 u196 u197 u198 u199 u200 u201 u202 u203 u204 u205 u206 u207 u208 u209 u210 u211 u212 u213 u214 u215 u216 u217 u218 u219 u220 u221 u222 u223 u224 u225 u226 u227 u228 u229 u230 u231 u232 u233 u234 u235 u236 u237 u238 u239 u240 u241 u242 u243 u244 u245 u246 u247 u248 u249 u250 u251 u252 u253 u254 u255 u256 u257 u258 u259 u260 u261 u262 u263 u264 u265 u266 u267 u268 u269 u270 u271 u272 u273 u274 u275 u276 u277 u278 u279 u280 u281 u282 u283 u284 u285 u286 u287 u288 u289 u290 u291 u292 u293 u294 u295 u296 u297 u298 u299 u300 u301 u302 u303 u304 u305 u306 u307 u308 u309 u310 u311 u312 u313 u314 u315 : Value} {how limit lm pl : Int} {v : Value} {l : List Dt} {wb w : World} {L : BLs} {TS : Nat} (hS : BL wb L w) (hcs : Hid (∀ m, m < 2 → ∃ k, ∀ W, BL wb L W → W.cell? ⟨TS, m, none⟩ = some (.int .i64 k)))
    (hE : Env wb) (HL : Hid (SlD wb v l)) (F5 : Fits limit) (Flm : Fits lm) (wl : IntKind.i64.wrap (pl - 1500) = lm)
    (PL : Hid (∀ W, Calls Tryz.prog 20 #[.int .i64 limit, .int .i64 3001] W (Rets W (.int .i64 pl)))) {body : Code} (hbody : findLoop Tryz.f3.body 2 = some body)
    (hQ : ∀ (v18 v36 v37 v38 v39 v40 v41 v42 v43 v44 v45 v47 v48 v49 v50 v51 v149 v150 v151 v152 v153 v154 v155 v156 v157 v158 v159 v160 v161 v162 v163 v164 v165 v166 v167 v168 v169 v170 v171 v172 v173 v174 v175 v176 v177 v178 v179 v180 v181 v182 v183 v184 v185 v186 v187 v188 v189 v190 v191 v192 v193 v194 v195 v196 v197 v198 v199 v200 v201 v202 v203 v204 v205 v206 v207 v208 v209 v210 v211 v212 v213 v214 v215 v216 v217 v218 v219 v220 v221 v222 v223 v224 v225 v226 v227 : Value) (W' : World), BL wb L W' → Q (.exit 2) { tmps := List.toArray (u0::u1::.int .i64 how::u3::u4::u5::.int .i64 limit::u7::u8::u9::u10::u11::u12::u13::u14::u15::u16::u17::v18::u19::u20::u21::u22::u23::v::u25::u26::u27::u28::u29::u30::u31::u32::u33::u34::u35::v36::v37::v38::v39::v40::v41::v42::v43::v44::v45::u46::v47::v48::v49::v50::v51::u52::u53::u54::u55::u56::u57::u58::u59::u60::u61::u62::u63::u64::u65::u66::u67::u68::u69::u70::u71::u72::u73::u74::u75::u76::u77::u78::u79::u80::u81::u82::u83::u84::u85::u86::u87::u88::u89::u90::u91::u92::u93::u94::u95::u96::u97::u98::u99::u100::u101::u102::u103::u104::u105::u106::u107::u108::u109::u110::u111::u112::u113::u114::u115::u116::u117::u118::u119::u120::u121::u122::u123::u124::u125::u126::u127::u128::u129::u130::u131::u132::u133::u134::u135::u136::u137::u138::u139::u140::u141::u142::u143::u144::u145::u146::.slice (some ⟨TS, 0, none⟩) 2 2::.int .i64 2::v149::v150::v151::v152::v153::v154::v155::v156::v157::v158::v159::v160::v161::v162::v163::v164::v165::v166::v167::v168::v169::v170::v171::v172::v173::v174::v175::v176::v177::v178::v179::v180::v181::v182::v183::v184::v185::v186::v187::v188::v189::v190::v191::v192::v193::v194::v195::v196::v197::v198::v199::v200::v201::v202::v203::v204::v205::v206::v207::v208::v209::v210::v211::v212::v213::v214::v215::v216::v217::v218::v219::v220::v221::v222::v223::v224::v225::v226::v227::u228::u229::u230::u231::u232::u233::u234::u235::u236::u237::u238::u239::u240::u241::u242::u243::u244::u245::u246::u247::u248::u249::u250::u251::u252::u253::u254::u255::u256::u257::u258::u259::u260::u261::u262::u263::u264::u265::u266::u267::u268::u269::u270::u271::u272::u273::u274::u275::u276::u277::u278::u279::u280::u281::u282::u283::u284::u285::u286::u287::u288::u289::u290::u291::u292::u293::u294::u295::u296::u297::u298::u299::u300::u301::u302::u303::u304::u305::u306::u307::u308::u309::u310::u311::u312::u313::u314::u315::[]), defers := [] } W') :
    (Code.loop body).wp Tryz.prog Q { tmps := List.toArray (u0::u1::.int .i64 how::u3::u4::u5::.int .i64 limit::u7::u8::u9::u10::u11::u12::u13::u14::u15::u16::u17::u18::u19::u20::u21::u22::u23::v::u25::u26::u27::u28::u29::u30::u31::u32::u33::u34::u35::u36::u37::u38::u39::u40::u41::u42::u43::u44::u45::u46::u47::u48::u49::u50::u51::u52::u53::u54::u55::u56::u57::u58::u59::u60::u61::u62::u63::u64::u65::u66::u67::u68::u69::u70::u71::u72::u73::u74::u75::u76::u77::u78::u79::u80::u81::u82::u83::u84::u85::u86::u87::u88::u89::u90::u91::u92::u93::u94::u95::u96::u97::u98::u99::u100::u101::u102::u103::u104::u105::u106::u107::u108::u109::u110::u111::u112::u113::u114::u115::u116::u117::u118::u119::u120::u121::u122::u123::u124::u125::u126::u127::u128::u129::u130::u131::u132::u133::u134::u135::u136::u137::u138::u139::u140::u141::u142::u143::u144::u145::u146::.slice (some ⟨TS, 0, none⟩) 2 2::.int .i64 2::.int .i64 0::u150::u151::u152::u153::u154::u155::u156::u157::u158::u159::u160::u161::u162::u163::u164::u165::u166::u167::u168::u169::u170::u171::u172::u173::u174::u175::u176::u177::u178::u179::u180::u181::u182::u183::u184::u185::u186::u187::u188::u189::u190::u191::u192::u193::u194::u195::u196::u197::u198::u199::u200::u201::u202::u203::u204::u205::u206::u207::u208::u209::u210::u211::u212::u213::u214::u215::u216::u217::u218::u219::u220::u221::u222::u223::u224::u225::u226::u227::u228::u229::u230::u231::u232::u233::u234::u235::u236::u237::u238::u239::u240::u241::u242::u243::u244::u245::u246::u247::u248::u249::u250::u251::u252::u253::u254::u255::u256::u257::u258::u259::u260::u261::u262::u263::u264::u265::u266::u267::u268::u269::u270::u271::u272::u273::u274::u275::u276::u277::u278::u279::u280::u281::u282::u283::u284::u285::u286::u287::u288::u289::u290::u291::u292::u293::u294::u295::u296::u297::u298::u299::u300::u301::u302::u303::u304::u305::u306::u307::u308::u309::u310::u311::u312::u313::u314::u315::[]), defers := [] } w := by
  obtain rfl := Option.some.inj (hbody.symm.trans (rfl : findLoop Tryz.f3.body 2 = some _))
  clear hbody
  replace hQ := Lib.hid hQ
  obtain ⟨hb', hb1⟩ : ∃ b, decide (1 < how) = b := ⟨_, rfl⟩
  have FC := Lib.hid (fun s b => fv_pair l s b)
  have FC1 := Lib.hid (fun s W (hE : Env W) (h : SlD W v l) => forecast_any v l s W hE h)
  have FC2 := Lib.hid (fun s W (h : SlD W v l) => rforecast_any v l s W h)
  have LN := Lib.hid (fun s b W (hE : Env W) (h : SlD W v l) => line_any v l s b W hE h)
  go_loopw [149] (fun o wr2 => ∃ j : Nat, o = .int .i64 j ∧ j ≤ 2 ∧ BL wb L wr2) (fun o _ => 2 - (intOf o).toNat)
  case atStart => exact ⟨0, rfl, by omega, hS⟩
  case round =>
    clear hS
    obtain ⟨j, rfl, hj2, hS⟩ := hrel
    by_cases hj : j < 2
    case pos =>
      have hj' : (j : Int) < 2 := by omega
      obtain ⟨s, hcs⟩ := hcs.out j hj
      clear hj
      have c0 := hcs _ hS
      clear hcs
      obtain ⟨an', ad', bn', bd', pn, pd, qn, qd, e, E1, E2⟩ := FC.out s hb'
      replace FC1 := FC1.out s
      replace FC2 := FC2.out s
      replace LN := LN.out s hb'
      rw [E1] at FC1 FC2
      rw [E2] at LN
      clear E1 E2 FC
      replace FC1 := Lib.hid FC1
      replace FC2 := Lib.hid FC2
      replace LN := Lib.hid LN
      go_upto_region 18 with fail
      clear c0
      go_wp2_with fail
      refine Calls.mono (FC1.out _ (hS.env hE) (HL.out.below hS.below)) ?_
      rintro e w1 ⟨rfl, hb⟩
      replace hS := hS.call hb
      clear hb
      replace hS := hS.add' #[.string an', .string ad'] 27
      obtain ⟨W0, hW0, hS, hz0⟩ := hS
      replace hS := hS.add' #[.string bn', .string bd'] 27
      obtain ⟨W1, hW1, hS, hz1⟩ := hS
      rw [hz0] at hS
      obtain ⟨W, hW⟩ : ∃ W, W = ((w1.alloc (.cells #[.string an', .string ad'] 27)).alloc (.cells #[.string bn', .string bd'] 27)) := ⟨_, rfl⟩
      replace hS : BL wb ((w1.heap.size + 1, #[.string bn', .string bd'], 27) :: (w1.heap.size, #[.string an', .string ad'], 27) :: L) W := by rw [hW, ← hW0, ← hW1]; exact hS
      clear hz0 hz1 hW1 hW0
      go_wp2_with fail
      rw [← hW]
      clear hW
      refine Calls.mono (FC2.out _ (HL.out.below hS.below)) ?_
      rintro e w2 ⟨rfl, hb⟩
      replace hS := hS.call hb
      clear hb
      replace hS := hS.add' #[.string an', .string ad'] 27
      obtain ⟨W0, hW0, hS, hz0⟩ := hS
      replace hS := hS.add' #[.string bn', .string bd'] 27
      obtain ⟨W1, hW1, hS, hz1⟩ := hS
      rw [hz0] at hS
      obtain ⟨W, hW⟩ : ∃ W, W = ((w2.alloc (.cells #[.string an', .string ad'] 27)).alloc (.cells #[.string bn', .string bd'] 27)) := ⟨_, rfl⟩
      replace hS : BL wb ((w2.heap.size + 1, #[.string bn', .string bd'], 27) :: (w2.heap.size, #[.string an', .string ad'], 27) :: (w1.heap.size + 1, #[.string bn', .string bd'], 27) :: (w1.heap.size, #[.string an', .string ad'], 27) :: L) W := by rw [hW, ← hW0, ← hW1]; exact hS
      clear hz0 hz1 hW1 hW0
      go_wp2_with fail
      rw [← hW]
      clear hW
      refine Calls.mono (LN.out _ (hS.env hE) (HL.out.below hS.below)) ?_
      rintro e w3 ⟨rfl, hb⟩
      replace hS := hS.call hb
      clear hb
      replace hS := hS.add' #[.string pn, .string pd] 27
      obtain ⟨W0, hW0, hS, hz0⟩ := hS
      replace hS := hS.add' #[.string qn, .string qd] 27
      obtain ⟨W1, hW1, hS, hz1⟩ := hS
      rw [hz0] at hS
      obtain ⟨W, hW⟩ : ∃ W, W = ((w3.alloc (.cells #[.string pn, .string pd] 27)).alloc (.cells #[.string qn, .string qd] 27)) := ⟨_, rfl⟩
      replace hS : BL wb ((w3.heap.size + 1, #[.string qn, .string qd], 27) :: (w3.heap.size, #[.string pn, .string pd], 27) :: (w2.heap.size + 1, #[.string bn', .string bd'], 27) :: (w2.heap.size, #[.string an', .string ad'], 27) :: (w1.heap.size + 1, #[.string bn', .string bd'], 27) :: (w1.heap.size, #[.string an', .string ad'], 27) :: L) W := by rw [hW, ← hW0, ← hW1]; exact hS
      clear hz0 hz1 hW1 hW0
      go_upto_region 21 with fail
      rw [← hW]
      clear hW
      obtain ⟨c_fa_0, c_fa_1⟩ := hS.c2 (w1.heap.size) _ _ _ (.tail _ (.tail _ (.tail _ (.tail _ (.tail _ (.head _))))))
      obtain ⟨c_fb_0, c_fb_1⟩ := hS.c2 (w1.heap.size + 1) _ _ _ (.tail _ (.tail _ (.tail _ (.tail _ (.head _)))))
      obtain ⟨c_ga_0, c_ga_1⟩ := hS.c2 (w2.heap.size) _ _ _ (.tail _ (.tail _ (.tail _ (.head _))))
      obtain ⟨c_gb_0, c_gb_1⟩ := hS.c2 (w2.heap.size + 1) _ _ _ (.tail _ (.tail _ (.head _)))
      go_upto_region 23 with fail
      clear c_fa_0 c_fa_1 c_fb_0 c_fb_1 c_ga_0 c_ga_1 c_gb_0 c_gb_1
      replace hS := hS.drop (fun p hp => .tail _ (.tail _ (.tail _ (.tail _ (.tail _ (.tail _ hp)))))) (M := L)
      go_wp2_with fail
      refine Calls.mono (PL.out _) ?_
      rintro e w4 ⟨rfl, hb⟩
      replace hS := hS.call hb
      clear hb
      replace hS := hS.add' #[.int .i64 limit, .int .i64 lm] 3
      obtain ⟨W0, hW0, hS, hz0⟩ := hS
      obtain ⟨W, hW⟩ : ∃ W, W = (w4.alloc (.cells #[.int .i64 limit, .int .i64 lm] 3)) := ⟨_, rfl⟩
      replace hS : BL wb ((w4.heap.size, #[.int .i64 limit, .int .i64 lm], 3) :: L) W := by rw [hW, ← hW0]; exact hS
      clear hz0 hW0
      go_wp2_with fail
      rw [← hW]
      clear hW
      refine lp4_26 hS (Lib.hid ?kcs) hE HL (by kernel_rfl) ?_
      case kcs =>
        intro m hm
        match m, hm with
        | 0, _ => exact ⟨limit, F5, fun W h => h.cell (w4.heap.size) _ _ (.head _) 0⟩
        | 1, _ => exact ⟨lm, Flm, fun W h => h.cell (w4.heap.size) _ _ (.head _) 1⟩
      clear hS
      intro u18 u47 u48 u49 u50 u51 u200 u201 u202 u203 u204 u205 u206 u207 u208 u209 u210 u211 u212 u213 u214 u215 u216 u217 u218 u219 u220 u221 u222 u223 u224 u225 u226 wz hS
      go_wp2_with fail
      go_roundw
      case rel => exact ⟨j + 1, by go_num, by omega, hS.drop (fun p hp => .tail _ hp)⟩
      case measure => simp [intOf]; omega
    case neg =>
      go_wp2_with fail
      exact hQ.out _ _ _ _ _ _ _ _ _ _ _ _ _ _ _ _ _ _ _ _ _ _ _ _ _ _ _ _ _ _ _ _ _ _ _ _ _ _ _ _ _ _ _ _ _ _ _ _ _ _ _ _ _ _ _ _ _ _ _ _ _ _ _ _ _ _ _ _ _ _ _ _ _ _ _ _ _ _ _ _ _ _ _ _ _ _ _ _ _ _ _ _ _ _ _ _ hS
end Go.Proofs.YtebokdboodgkpaaGreatDoor

/- putloglaw26: DecayMatchesReference: the loop over three models. -/
namespace Go.Proofs.YtebokdboodgkpaaGreatDoor
open Go.RowKit
open DecM (Dt okD fcst rts rch inDay)
attribute [local go_sem] Oper.semAt_some

set_option maxRecDepth 100000 in
set_option maxHeartbeats 16000000 in
theorem lp6_26 {Q : Exit → Act → World → Prop} {u0 u1 u2 u3 u4 u6 u7 u8 u9 u10 u11 u12 u13 u14 u15 u16 u17 u18 u19 u20 u21 u22 u23 u25 u26 u27 u28 u29 u30 u31 u32 u33 u34 u35 u36 u37 u38 u39 u40 u41 u42 u43 u44 u45 u46 u47 u48 u49 u50 u51 u52 u53 u54 u55 u56 u57 u58 u59 u60 u61 u62 u63 u64 u65 u66 u67 u68 u69 u70 u71 u72 u73 u74 u75 u76 u77 u78 u79 u80 u81 u82 u83 u84 u85 u86 u87 u88 u89 u90 u91 u92 u93 u94 u95 u96 u97 u98 u99 u100 u101 u102 u103 u104 u105 u106 u107 u108 u109 u110 u111 u112 u113 u114 u115 u116 u117 u118 u119 u120 u121 u122 u123 u124 u125 u126 u127 u128 u129 u130 u131 u132 u133 u134 u135 u136 u137 u138 u139 u140 u141 u142 u143 u144 u145 u146 u147 u148 u149 u150 u151 u152 u153 u154 u155 u156 u157 u158 u159 u160 u161 u162 u163 u164 u165 u166 u167 u168 u169 u170 u171 u172 u173 u174 u175 u176 u177 u178 u179 u180 u181 u182 u183 u184 u185 u186 u187 u188 u189 u190 u191 u192 u193 u194 u195 u196 u197 u198 u199 u200 u201 u202 u203 u204 u205 u206 u207 u208 u209 u210 u211 u212 u213 u214 u215 u216 u217 u218 u219 u220 u221 u222 u223 u224 u225 u226 u227 u228 u229 u230 u231 u232 u233 u234 u235 u236 u237 u241 u242 u243 u244 u245 u246 u247 u248 u249 u250 u251 u252 u253 u254 u255 u256 u257 u258 u259 u260 u261 u262 u263 u264 u265 u266 u267 u268 u269 u270 u271 u272 u273 u274 u275 u276 u277 u278 u279 u280 u281 u282 u283 u284 u285 u286 u287 u288 u289 u290 u291 u292 u293 u294 u295 u296 u297 u298 u299 u300 u301 u302 u303 u304 u305 u306 u307 u308 u309 u310 u311 u312 u313 u314 u315 : Value} {t dt : Int} {v : Value} {l : List Dt} {wb w : World} {L : BLs} {g3 : Nat} (hS : BL wb L w)
    (hcz : Hid (∀ m, m < 3 → ∃ zn zd yn yd : ByteArray, (∀ W, BL wb L W → W.cell? ⟨g3, m * 4, none⟩ = some (.string zn) ∧ W.cell? ⟨g3, m * 4 + 1, none⟩ = some (.string zd) ∧ W.cell? ⟨g3, m * 4 + 2, none⟩ = some (.string yn) ∧ W.cell? ⟨g3, m * 4 + 3, none⟩ = some (.string yd)) ∧ T63 zn ∧ T63 zd ∧ T63 yn ∧ T63 yd))
    (hE : Env wb) (HL : Hid (SlD wb v l)) (hlf : Hid (∀ d ∈ l, Fit3 d)) (F4 : Fits t) (Fdt : Fits dt)
    (DY : Hid (∀ W, Calls Tryz.prog 16 #[.int .i64 t] W (Rets W (.int .i64 dt)))) {body : Code} (hbody : findLoop Tryz.f3.body 6 = some body)
    (hQ : ∀ (v18 v53 v54 v55 v56 v57 v58 v59 v60 v61 v240 v241 v242 v243 v244 v245 v246 v247 v248 v249 v250 v251 v252 v253 v254 v255 v256 v257 v258 v259 v260 v261 v262 v263 v264 v265 v266 v267 v268 v269 v270 v271 v272 v273 v274 v275 v276 v277 v278 v279 v280 v281 v282 v283 v284 v285 v286 v287 v288 v289 v290 v291 v292 v293 v294 v295 v296 v297 v298 v299 v300 v301 v302 v303 v304 v305 v306 v307 v308 v309 v310 v311 v312 v313 : Value) (W' : World), BL wb L W' → Q (.exit 6) { tmps := List.toArray (u0::u1::u2::u3::u4::.int .i64 t::u6::u7::u8::u9::u10::u11::u12::u13::u14::u15::u16::u17::v18::u19::u20::u21::u22::u23::v::u25::u26::u27::u28::u29::u30::u31::u32::u33::u34::u35::u36::u37::u38::u39::u40::u41::u42::u43::u44::u45::u46::u47::u48::u49::u50::u51::u52::v53::v54::v55::v56::v57::v58::v59::v60::v61::u62::u63::u64::u65::u66::u67::u68::u69::u70::u71::u72::u73::u74::u75::u76::u77::u78::u79::u80::u81::u82::u83::u84::u85::u86::u87::u88::u89::u90::u91::u92::u93::u94::u95::u96::u97::u98::u99::u100::u101::u102::u103::u104::u105::u106::u107::u108::u109::u110::u111::u112::u113::u114::u115::u116::u117::u118::u119::u120::u121::u122::u123::u124::u125::u126::u127::u128::u129::u130::u131::u132::u133::u134::u135::u136::u137::u138::u139::u140::u141::u142::u143::u144::u145::u146::u147::u148::u149::u150::u151::u152::u153::u154::u155::u156::u157::u158::u159::u160::u161::u162::u163::u164::u165::u166::u167::u168::u169::u170::u171::u172::u173::u174::u175::u176::u177::u178::u179::u180::u181::u182::u183::u184::u185::u186::u187::u188::u189::u190::u191::u192::u193::u194::u195::u196::u197::u198::u199::u200::u201::u202::u203::u204::u205::u206::u207::u208::u209::u210::u211::u212::u213::u214::u215::u216::u217::u218::u219::u220::u221::u222::u223::u224::u225::u226::u227::u228::u229::u230::u231::u232::u233::u234::u235::u236::u237::.slice (some ⟨g3, 0, none⟩) 3 3::.int .i64 3::v240::v241::v242::v243::v244::v245::v246::v247::v248::v249::v250::v251::v252::v253::v254::v255::v256::v257::v258::v259::v260::v261::v262::v263::v264::v265::v266::v267::v268::v269::v270::v271::v272::v273::v274::v275::v276::v277::v278::v279::v280::v281::v282::v283::v284::v285::v286::v287::v288::v289::v290::v291::v292::v293::v294::v295::v296::v297::v298::v299::v300::v301::v302::v303::v304::v305::v306::v307::v308::v309::v310::v311::v312::v313::u314::u315::[]), defers := [] } W') :
    (Code.loop body).wp Tryz.prog Q { tmps := List.toArray (u0::u1::u2::u3::u4::.int .i64 t::u6::u7::u8::u9::u10::u11::u12::u13::u14::u15::u16::u17::u18::u19::u20::u21::u22::u23::v::u25::u26::u27::u28::u29::u30::u31::u32::u33::u34::u35::u36::u37::u38::u39::u40::u41::u42::u43::u44::u45::u46::u47::u48::u49::u50::u51::u52::u53::u54::u55::u56::u57::u58::u59::u60::u61::u62::u63::u64::u65::u66::u67::u68::u69::u70::u71::u72::u73::u74::u75::u76::u77::u78::u79::u80::u81::u82::u83::u84::u85::u86::u87::u88::u89::u90::u91::u92::u93::u94::u95::u96::u97::u98::u99::u100::u101::u102::u103::u104::u105::u106::u107::u108::u109::u110::u111::u112::u113::u114::u115::u116::u117::u118::u119::u120::u121::u122::u123::u124::u125::u126::u127::u128::u129::u130::u131::u132::u133::u134::u135::u136::u137::u138::u139::u140::u141::u142::u143::u144::u145::u146::u147::u148::u149::u150::u151::u152::u153::u154::u155::u156::u157::u158::u159::u160::u161::u162::u163::u164::u165::u166::u167::u168::u169::u170::u171::u172::u173::u174::u175::u176::u177::u178::u179::u180::u181::u182::u183::u184::u185::u186::u187::u188::u189::u190::u191::u192::u193::u194::u195::u196::u197::u198::u199::u200::u201::u202::u203::u204::u205::u206::u207::u208::u209::u210::u211::u212::u213::u214::u215::u216::u217::u218::u219::u220::u221::u222::u223::u224::u225::u226::u227::u228::u229::u230::u231::u232::u233::u234::u235::u236::u237::.slice (some ⟨g3, 0, none⟩) 3 3::.int .i64 3::.int .i64 0::u241::u242::u243::u244::u245::u246::u247::u248::u249::u250::u251::u252::u253::u254::u255::u256::u257::u258::u259::u260::u261::u262::u263::u264::u265::u266::u267::u268::u269::u270::u271::u272::u273::u274::u275::u276::u277::u278::u279::u280::u281::u282::u283::u284::u285::u286::u287::u288::u289::u290::u291::u292::u293::u294::u295::u296::u297::u298::u299::u300::u301::u302::u303::u304::u305::u306::u307::u308::u309::u310::u311::u312::u313::u314::u315::[]), defers := [] } w := by
  obtain rfl := Option.some.inj (hbody.symm.trans (rfl : findLoop Tryz.f3.body 6 = some _))
  clear hbody
  replace hQ := Lib.hid hQ
  have FI1 := Lib.hid (fun a b c d W (hE : Env W) (h : SlD W v l) => dfits_any v l a b c d hlf.out W hE h)
  have FI2 := Lib.hid (fun a b c d (t1 : T63 a) (t2 : T63 b) (t3 : T63 c) (t4 : T63 d) W (h : SlD W v l) => rfits_any v l a b c d t1 t2 t3 t4 W h)
  go_loopw [240] (fun o wr4 => ∃ m : Nat, o = .int .i64 m ∧ m ≤ 3 ∧ BL wb L wr4) (fun o _ => 3 - (intOf o).toNat)
  case atStart => exact ⟨0, rfl, by omega, hS⟩
  case round =>
    clear hS
    obtain ⟨m, rfl, hm3, hS⟩ := hrel
    by_cases hm : m < 3
    case pos =>
      have hm' : (m : Int) < 3 := by omega
      obtain ⟨zn, zd, yn, yd, hcz, t1, t2, t3, t4⟩ := hcz.out m hm
      clear hm
      obtain ⟨y0, y1, y2, y3⟩ := hcz _ hS
      clear hcz
      replace FI1 := Lib.hid (FI1.out zn zd yn yd)
      replace FI2 := Lib.hid (FI2.out zn zd yn yd t1 t2 t3 t4)
      generalize fitO l (oq zn zd) (oq yn yd) = fit at *
      have VA1 := fun W (hE : Env W) => value_any zn zd yn yd t F4 W hE
      have VA2 := fun W => rvalue_any zn zd yn yd t1 t2 t3 t4 t F4 W
      have VB1 := fun W (hE : Env W) => value_any zn zd yn yd dt Fdt W hE
      have VB2 := fun W => rvalue_any zn zd yn yd t1 t2 t3 t4 dt Fdt W
      unfold dV at VA1 VA2 VB1 VB2
      generalize valO (oq zn zd) (oq yn yd) t = oa at *
      generalize valO (oq zn zd) (oq yn yd) dt = ob at *
      generalize tN oa = p1 at *
      generalize tD oa = p2 at *
      generalize eD oa = ea at *
      generalize tN ob = q1 at *
      generalize tD ob = q2 at *
      generalize eD ob = eb at *
      clear t1 t2 t3 t4
      replace VA1 := Lib.hid VA1
      replace VA2 := Lib.hid VA2
      replace VB1 := Lib.hid VB1
      replace VB2 := Lib.hid VB2
      go_upto_region 35 with fail
      clear y0 y1 y2 y3
      obtain ⟨Wz, hWz, hS', hz⟩ := hS.add' #[.string zn, .string zd, .string yn, .string yd] 49
      rw [← hWz]
      replace hS := hS'
      clear hS' hWz hz
      have hC0 : ∀ W', BL wb ((wr.heap.size, #[.string zn, .string zd, .string yn, .string yd], 49) :: L) W' → (W'.cell? ⟨wr.heap.size, 0, none⟩ = some (.string zn) ∧ W'.cell? ⟨wr.heap.size, 1, none⟩ = some (.string zd) ∧ W'.cell? ⟨wr.heap.size, 2, none⟩ = some (.string yn) ∧ W'.cell? ⟨wr.heap.size, 3, none⟩ = some (.string yd)) := fun W' h => ⟨(h.cell (wr.heap.size) _ _ (.head _) 0), (h.cell (wr.heap.size) _ _ (.head _) 1), (h.cell (wr.heap.size) _ _ (.head _) 2), (h.cell (wr.heap.size) _ _ (.head _) 3)⟩
      have hC := Lib.hid hC0
      clear hC0
      obtain ⟨x0', x1', x2', x3'⟩ := hC.out _ hS
      replace hS := hS.drew
      go_region_held3 (fun w' => w'.cell? ⟨wr.heap.size, 0, none⟩ = some (.string zn) ∧ w'.cell? ⟨wr.heap.size, 1, none⟩ = some (.string zd) ∧ w'.cell? ⟨wr.heap.size, 2, none⟩ = some (.string yn) ∧ w'.cell? ⟨wr.heap.size, 3, none⟩ = some (.string yd))
        (first | with_reducible exact hC.out _ hS | go_keep)
        (first | (go_at_call 24; (with_reducible refine Calls.mono (FI1.out _ (hS.env hE) (HL.out.below hS.below)) ?_); rintro e w' ⟨rfl, hb⟩; replace hS := hS.call hb; clear hb) | (go_at_call 25; (with_reducible refine Calls.mono (FI2.out _ (HL.out.below hS.below)) ?_); rintro e w' ⟨rfl, hb⟩; replace hS := hS.call hb; clear hb))
      clear hC x0' x1' x2' x3'
      go_upto_region 37 with fail
      obtain ⟨c_z_0, c_z_1, c_z_2, c_z_3⟩ := hS.c4 (wr.heap.size) _ _ _ _ _ (.head _)
      go_wp2_with fail
      refine Calls.mono (VA1.out _ (hS.env hE)) ?_
      rintro e w1 ⟨rfl, hb⟩
      clear c_z_0 c_z_1 c_z_2 c_z_3
      replace hS := hS.call hb
      clear hb
      replace hS := hS.add' #[.string p1, .string p2] 27
      obtain ⟨W0, hW0, hS, hz0⟩ := hS
      obtain ⟨W, hW⟩ : ∃ W, W = (w1.alloc (.cells #[.string p1, .string p2] 27)) := ⟨_, rfl⟩
      replace hS : BL wb ((w1.heap.size, #[.string p1, .string p2], 27) :: (wr.heap.size, #[.string zn, .string zd, .string yn, .string yd], 49) :: L) W := by rw [hW, ← hW0]; exact hS
      clear hz0 hW0
      go_upto_region 38 with fail
      rw [← hW]
      clear hW
      obtain ⟨c_z_0, c_z_1, c_z_2, c_z_3⟩ := hS.c4 (wr.heap.size) _ _ _ _ _ (.tail _ (.head _))
      go_wp2_with fail
      refine Calls.mono (VA2.out _) ?_
      rintro e w2 ⟨rfl, hb⟩
      clear c_z_0 c_z_1 c_z_2 c_z_3
      replace hS := hS.call hb
      clear hb
      replace hS := hS.add' #[.string p1, .string p2] 27
      obtain ⟨W0, hW0, hS, hz0⟩ := hS
      obtain ⟨W, hW⟩ : ∃ W, W = (w2.alloc (.cells #[.string p1, .string p2] 27)) := ⟨_, rfl⟩
      replace hS : BL wb ((w2.heap.size, #[.string p1, .string p2], 27) :: (w1.heap.size, #[.string p1, .string p2], 27) :: (wr.heap.size, #[.string zn, .string zd, .string yn, .string yd], 49) :: L) W := by rw [hW, ← hW0]; exact hS
      clear hz0 hW0
      go_upto_region 39 with fail
      rw [← hW]
      clear hW
      go_upto_region 39 with fail
      have hC0 : ∀ W', BL wb ((w2.heap.size, #[.string p1, .string p2], 27) :: (w1.heap.size, #[.string p1, .string p2], 27) :: (wr.heap.size, #[.string zn, .string zd, .string yn, .string yd], 49) :: L) W' → (W'.cell? ⟨wr.heap.size, 0, none⟩ = some (.string zn) ∧ W'.cell? ⟨wr.heap.size, 1, none⟩ = some (.string zd) ∧ W'.cell? ⟨wr.heap.size, 2, none⟩ = some (.string yn) ∧ W'.cell? ⟨wr.heap.size, 3, none⟩ = some (.string yd)) := fun W' h => ⟨(h.cell (wr.heap.size) _ _ (.tail _ (.tail _ (.head _))) 0), (h.cell (wr.heap.size) _ _ (.tail _ (.tail _ (.head _))) 1), (h.cell (wr.heap.size) _ _ (.tail _ (.tail _ (.head _))) 2), (h.cell (wr.heap.size) _ _ (.tail _ (.tail _ (.head _))) 3)⟩
      have hC := Lib.hid hC0
      clear hC0
      have h0 := hS
      obtain ⟨x0', x1', x2', x3'⟩ := hC.out _ hS
      replace hS := hS.drew
      go_cut [58, 59] from 275 to 284 (fun s e wx => ∃ g : Nat, s = .pointer (some ⟨g, 0, none⟩) ∧ e = .int .i64 eb ∧ wb.heap.size ≤ g ∧ (∀ p ∈ (((w2.heap.size, #[.string p1, .string p2], 27) :: (w1.heap.size, #[.string p1, .string p2], 27) :: (wr.heap.size, #[.string zn, .string zd, .string yn, .string yd], 49) :: L) : BLs), p.1 < g) ∧ BL wb ((g, #[.string q1, .string q2], 27) :: ((w2.heap.size, #[.string p1, .string p2], 27) :: (w1.heap.size, #[.string p1, .string p2], 27) :: (wr.heap.size, #[.string zn, .string zd, .string yn, .string yd], 49) :: L)) wx)
      case first => as_aux_lemma =>
        go_region_held3 (fun w' => w'.cell? ⟨wr.heap.size, 0, none⟩ = some (.string zn) ∧ w'.cell? ⟨wr.heap.size, 1, none⟩ = some (.string zd) ∧ w'.cell? ⟨wr.heap.size, 2, none⟩ = some (.string yn) ∧ w'.cell? ⟨wr.heap.size, 3, none⟩ = some (.string yd))
          (first | with_reducible exact hC.out _ hS | with_reducible exact hC.out _ (hS.new _) | with_reducible exact hC.out _ ((h0.new _).drew) | with_reducible exact hC.out _ (hS.setG hge hlt _ _) | go_keep)
          (first | (go_at_call 16; (with_reducible refine Calls.mono (DY.out _) ?_); rintro e w' ⟨rfl, hb⟩; (first | (replace hS := hS.call hb; first | (replace hN := hN.below hb; have n0 := (blk_two hN).1; have n1 := (blk_two hN).2; have m0 := hN.frozen 0; have m1 := hN.frozen 1) | skip) | (have hlt := hS.lts; have hge := hS.below.size; have hN := nres hb; have n0 := (blk_two hN).1; have n1 := (blk_two hN).2; have m0 := hN.frozen 0; have m1 := hN.frozen 1; replace hS := (hS.new _).call hb) | (have hlt := h0.lts; have hge := h0.below.size; have hN := nres_drew hb; have n0 := (blk_two hN).1; have n1 := (blk_two hN).2; have m0 := hN.frozen 0; have m1 := hN.frozen 1; replace hS := ((h0.new _).drew).call hb)); clear hb) | (go_at_call 26; (with_reducible refine Calls.mono (VB1.out _ ?_) ?_); (first | exact hS.env hE | exact (hS.new _).env hE | exact ((h0.new _).drew).env hE); rintro e w' ⟨rfl, hb⟩; (first | (replace hS := hS.call hb; first | (replace hN := hN.below hb; have n0 := (blk_two hN).1; have n1 := (blk_two hN).2; have m0 := hN.frozen 0; have m1 := hN.frozen 1) | skip) | (have hlt := hS.lts; have hge := hS.below.size; have hN := nres hb; have n0 := (blk_two hN).1; have n1 := (blk_two hN).2; have m0 := hN.frozen 0; have m1 := hN.frozen 1; replace hS := (hS.new _).call hb) | (have hlt := h0.lts; have hge := h0.below.size; have hN := nres_drew hb; have n0 := (blk_two hN).1; have n1 := (blk_two hN).2; have m0 := hN.frozen 0; have m1 := hN.frozen 1; replace hS := ((h0.new _).drew).call hb)); clear hb))
        all_goals (go_wp2_with fail; go_meet; first | exact ⟨_, rfl, rfl, hS.below.size, hS.lts, hS.add _ _⟩ | exact ⟨_, rfl, rfl, hge, hlt, (hS.setG hge hlt _ _).pushB ((hN.set 0 (.string q1)).set 1 (.string q2))⟩)
      case rest =>
        clear hS h0 hC x0' x1' x2' x3'
        obtain ⟨g1, rfl, rfl, g1ge, g1lt, hS⟩ := hcut
        go_upto_region 40 with fail
        have hC0 : ∀ W', BL wb ((g1, #[.string q1, .string q2], 27) :: (w2.heap.size, #[.string p1, .string p2], 27) :: (w1.heap.size, #[.string p1, .string p2], 27) :: (wr.heap.size, #[.string zn, .string zd, .string yn, .string yd], 49) :: L) W' → (W'.cell? ⟨wr.heap.size, 0, none⟩ = some (.string zn) ∧ W'.cell? ⟨wr.heap.size, 1, none⟩ = some (.string zd) ∧ W'.cell? ⟨wr.heap.size, 2, none⟩ = some (.string yn) ∧ W'.cell? ⟨wr.heap.size, 3, none⟩ = some (.string yd)) := fun W' h => ⟨(h.cell (wr.heap.size) _ _ (.tail _ (.tail _ (.tail _ (.head _)))) 0), (h.cell (wr.heap.size) _ _ (.tail _ (.tail _ (.tail _ (.head _)))) 1), (h.cell (wr.heap.size) _ _ (.tail _ (.tail _ (.tail _ (.head _)))) 2), (h.cell (wr.heap.size) _ _ (.tail _ (.tail _ (.tail _ (.head _)))) 3)⟩
        have hC := Lib.hid hC0
        clear hC0
        have h0 := hS
        obtain ⟨x0', x1', x2', x3'⟩ := hC.out _ hS
        replace hS := hS.drew
        go_cut [60, 61] from 285 to 294 (fun s e wx => ∃ g : Nat, s = .pointer (some ⟨g, 0, none⟩) ∧ e = .int .i64 eb ∧ wb.heap.size ≤ g ∧ (∀ p ∈ (((g1, #[.string q1, .string q2], 27) :: (w2.heap.size, #[.string p1, .string p2], 27) :: (w1.heap.size, #[.string p1, .string p2], 27) :: (wr.heap.size, #[.string zn, .string zd, .string yn, .string yd], 49) :: L) : BLs), p.1 < g) ∧ BL wb ((g, #[.string q1, .string q2], 27) :: ((g1, #[.string q1, .string q2], 27) :: (w2.heap.size, #[.string p1, .string p2], 27) :: (w1.heap.size, #[.string p1, .string p2], 27) :: (wr.heap.size, #[.string zn, .string zd, .string yn, .string yd], 49) :: L)) wx)
        case first => as_aux_lemma =>
          go_region_held3 (fun w' => w'.cell? ⟨wr.heap.size, 0, none⟩ = some (.string zn) ∧ w'.cell? ⟨wr.heap.size, 1, none⟩ = some (.string zd) ∧ w'.cell? ⟨wr.heap.size, 2, none⟩ = some (.string yn) ∧ w'.cell? ⟨wr.heap.size, 3, none⟩ = some (.string yd))
            (first | with_reducible exact hC.out _ hS | with_reducible exact hC.out _ (hS.new _) | with_reducible exact hC.out _ ((h0.new _).drew) | with_reducible exact hC.out _ (hS.setG hge hlt _ _) | go_keep)
            (first | (go_at_call 16; (with_reducible refine Calls.mono (DY.out _) ?_); rintro e w' ⟨rfl, hb⟩; (first | (replace hS := hS.call hb; first | (replace hN := hN.below hb; have n0 := (blk_two hN).1; have n1 := (blk_two hN).2; have m0 := hN.frozen 0; have m1 := hN.frozen 1) | skip) | (have hlt := hS.lts; have hge := hS.below.size; have hN := nres hb; have n0 := (blk_two hN).1; have n1 := (blk_two hN).2; have m0 := hN.frozen 0; have m1 := hN.frozen 1; replace hS := (hS.new _).call hb) | (have hlt := h0.lts; have hge := h0.below.size; have hN := nres_drew hb; have n0 := (blk_two hN).1; have n1 := (blk_two hN).2; have m0 := hN.frozen 0; have m1 := hN.frozen 1; replace hS := ((h0.new _).drew).call hb)); clear hb) | (go_at_call 27; (with_reducible refine Calls.mono (VB2.out _) ?_); rintro e w' ⟨rfl, hb⟩; (first | (replace hS := hS.call hb; first | (replace hN := hN.below hb; have n0 := (blk_two hN).1; have n1 := (blk_two hN).2; have m0 := hN.frozen 0; have m1 := hN.frozen 1) | skip) | (have hlt := hS.lts; have hge := hS.below.size; have hN := nres hb; have n0 := (blk_two hN).1; have n1 := (blk_two hN).2; have m0 := hN.frozen 0; have m1 := hN.frozen 1; replace hS := (hS.new _).call hb) | (have hlt := h0.lts; have hge := h0.below.size; have hN := nres_drew hb; have n0 := (blk_two hN).1; have n1 := (blk_two hN).2; have m0 := hN.frozen 0; have m1 := hN.frozen 1; replace hS := ((h0.new _).drew).call hb)); clear hb))
          all_goals (go_wp2_with fail; go_meet; first | exact ⟨_, rfl, rfl, hS.below.size, hS.lts, hS.add _ _⟩ | exact ⟨_, rfl, rfl, hge, hlt, (hS.setG hge hlt _ _).pushB ((hN.set 0 (.string q1)).set 1 (.string q2))⟩)
        case rest =>
          clear hS h0 hC x0' x1' x2' x3'
          obtain ⟨g2, rfl, rfl, g2ge, g2lt, hS⟩ := hcut
          go_upto_region 41 with fail
          obtain ⟨c_v1_0, c_v1_1⟩ := hS.c2 (w1.heap.size) _ _ _ (.tail _ (.tail _ (.tail _ (.head _))))
          obtain ⟨c_v2_0, c_v2_1⟩ := hS.c2 (w2.heap.size) _ _ _ (.tail _ (.tail _ (.head _)))
          obtain ⟨c_v3_0, c_v3_1⟩ := hS.c2 (g1) _ _ _ (.tail _ (.head _))
          obtain ⟨c_v4_0, c_v4_1⟩ := hS.c2 (g2) _ _ _ (.head _)
          go_wp2_with fail
          go_roundw
          case rel => exact ⟨m + 1, by go_num, by omega, hS.drop (fun p hp => .tail _ (.tail _ (.tail _ (.tail _ (.tail _ hp)))))⟩
          case measure => simp [intOf]; omega
    case neg =>
      go_wp2_with fail
      exact hQ.out _ _ _ _ _ _ _ _ _ _ _ _ _ _ _ _ _ _ _ _ _ _ _ _ _ _ _ _ _ _ _ _ _ _ _ _ _ _ _ _ _ _ _ _ _ _ _ _ _ _ _ _ _ _ _ _ _ _ _ _ _ _ _ _ _ _ _ _ _ _ _ _ _ _ _ _ _ _ _ _ _ _ _ _ _ hS
end Go.Proofs.YtebokdboodgkpaaGreatDoor

/- putloglaw26: DecayMatchesReference: the outer loop. -/
namespace Go.Proofs.YtebokdboodgkpaaGreatDoor
open Go.RowKit
open DecM (Dt okD fcst rts rch inDay)
attribute [local go_sem] Oper.semAt_some

set_option maxRecDepth 100000 in
set_option maxHeartbeats 16000000 in
theorem lp0_26 {Q : Exit → Act → World → Prop} {u0 u1 u3 u4 u7 u8 u9 u10 u11 u12 u13 u14 u15 u18 u19 u22 u23 u24 u25 u26 u27 u28 u29 u30 u31 u32 u33 u34 u35 u36 u37 u38 u39 u40 u41 u42 u43 u44 u45 u46 u47 u48 u49 u50 u51 u52 u53 u54 u55 u56 u57 u58 u59 u60 u61 u62 u63 u64 u65 u66 u67 u68 u69 u70 u71 u72 u73 u74 u75 u76 u77 u78 u79 u80 u81 u82 u83 u84 u88 u89 u90 u91 u92 u93 u94 u95 u96 u97 u98 u99 u100 u101 u102 u103 u104 u105 u106 u107 u108 u109 u110 u111 u112 u113 u114 u115 u116 u117 u118 u119 u120 u121 u122 u123 u124 u125 u126 u127 u128 u129 u130 u131 u132 u133 u134 u135 u136 u137 u138 u139 u140 u141 u142 u143 u144 u145 u146 u147 u148 u149 u150 u151 u152 u153 u154 u155 u156 u157 u158 u159 u160 u161 u162 u163 u164 u165 u166 u167 u168 u169 u170 u171 u172 u173 u174 u175 u176 u177 u178 u179 u180 u181 u182 u183 u184 u185 u186 u187 u188 u189 u190 u191 u192 u193 u194 u195 u196 u197 u198 u199 u200 u201 u202 u203 u204 u205 u206 u207 u208 u209 u210 u211 u212 u213 u214 u215 u216 u217 u218 u219 u220 u221 u222 u223 u224 u225 u226 u227 u228 u229 u230 u231 u232 u233 u234 u235 u236 u237 u238 u239 u240 u241 u242 u243 u244 u245 u246 u247 u248 u249 u250 u251 u252 u253 u254 u255 u256 u257 u258 u259 u260 u261 u262 u263 u264 u265 u266 u267 u268 u269 u270 u271 u272 u273 u274 u275 u276 u277 u278 u279 u280 u281 u282 u283 u284 u285 u286 u287 u288 u289 u290 u291 u292 u293 u294 u295 u296 u297 u298 u299 u300 u301 u302 u303 u304 u305 u306 u307 u308 u309 u310 u311 u312 u313 u314 u315 : Value} {how t limit lm pl dt : Int} {wb w : World} {L : BLs} {g pA pB pU pV : Nat} {an ad bn bd xa xb ya yb ln ld : ByteArray} (hS : BL wb L w)
    (hv : Hid (∀ i, i < 3 → ∃ v l, (∀ W, BL wb L W → W.cell? ⟨g, i, none⟩ = some v) ∧ SlD wb v l ∧ (∀ d ∈ l, Fit3 d)))
    (hC : Hid (∀ W', BL wb L W' → (W'.cell? ⟨pA, 0, none⟩ = some (.string an) ∧ W'.cell? ⟨pA, 1, none⟩ = some (.string ad) ∧ W'.cell? ⟨pB, 0, none⟩ = some (.string bn) ∧ W'.cell? ⟨pB, 1, none⟩ = some (.string bd) ∧ W'.cell? ⟨pU, 0, none⟩ = some (.string xa) ∧ W'.cell? ⟨pU, 1, none⟩ = some (.string xb) ∧ W'.cell? ⟨pV, 0, none⟩ = some (.string ya) ∧ W'.cell? ⟨pV, 1, none⟩ = some (.string yb))))
    (hE : Env wb) (F4 : Fits t) (F5 : Fits limit) (Flm : Fits lm) (Fdt : Fits dt) (wl : IntKind.i64.wrap (pl - 1500) = lm)
    (PL : Hid (∀ W, Calls Tryz.prog 20 #[.int .i64 limit, .int .i64 3001] W (Rets W (.int .i64 pl))))
    (DY : Hid (∀ W, Calls Tryz.prog 16 #[.int .i64 t] W (Rets W (.int .i64 dt))))
    (KO : Hid (∀ W, Calls Tryz.prog 23 #[.int .i64 limit, .int .i64 1] W (Rets W (.agg #[.string ln, .string ld]))))
    (tx : Hid (T63 an ∧ T63 ad ∧ T63 bn ∧ T63 bd ∧ T63 xa ∧ T63 xb ∧ T63 ya ∧ T63 yb ∧ T63 ln ∧ T63 ld)) {body : Code} (hbody : findLoop Tryz.f3.body 0 = some body)
    (hQ : ∀ (v18 v24 v25 v26 v27 v28 v29 v30 v31 v32 v33 v34 v36 v37 v38 v39 v40 v41 v42 v43 v44 v45 v47 v48 v49 v50 v51 v53 v54 v55 v56 v57 v58 v59 v60 v61 v87 v88 v89 v90 v91 v92 v93 v94 v95 v96 v97 v98 v99 v100 v101 v102 v103 v104 v105 v106 v107 v108 v109 v110 v111 v112 v113 v114 v115 v116 v117 v118 v119 v120 v121 v122 v123 v124 v125 v126 v127 v128 v129 v130 v131 v132 v133 v134 v135 v136 v137 v138 v139 v140 v141 v142 v143 v144 v145 v146 v147 v148 v149 v150 v151 v152 v153 v154 v155 v156 v157 v158 v159 v160 v161 v162 v163 v164 v165 v166 v167 v168 v169 v170 v171 v172 v173 v174 v175 v176 v177 v178 v179 v180 v181 v182 v183 v184 v185 v186 v187 v188 v189 v190 v191 v192 v193 v194 v195 v196 v197 v198 v199 v200 v201 v202 v203 v204 v205 v206 v207 v208 v209 v210 v211 v212 v213 v214 v215 v216 v217 v218 v219 v220 v221 v222 v223 v224 v225 v226 v227 v228 v229 v230 v231 v232 v233 v234 v235 v236 v237 v238 v239 v240 v241 v242 v243 v244 v245 v246 v247 v248 v249 v250 v251 v252 v253 v254 v255 v256 v257 v258 v259 v260 v261 v262 v263 v264 v265 v266 v267 v268 v269 v270 v271 v272 v273 v274 v275 v276 v277 v278 v279 v280 v281 v282 v283 v284 v285 v286 v287 v288 v289 v290 v291 v292 v293 v294 v295 v296 v297 v298 v299 v300 v301 v302 v303 v304 v305 v306 v307 v308 v309 v310 v311 v312 v313 v314 : Value) (W' : World), BL wb L W' → Q (.exit 0) { tmps := List.toArray (u0::u1::.int .i64 how::u3::u4::.int .i64 t::.int .i64 limit::u7::u8::u9::u10::u11::u12::u13::u14::u15::.pointer (some ⟨pU, 0, none⟩)::.pointer (some ⟨pV, 0, none⟩)::v18::u19::.pointer (some ⟨pA, 0, none⟩)::.pointer (some ⟨pB, 0, none⟩)::u22::u23::v24::v25::v26::v27::v28::v29::v30::v31::v32::v33::v34::u35::v36::v37::v38::v39::v40::v41::v42::v43::v44::v45::u46::v47::v48::v49::v50::v51::u52::v53::v54::v55::v56::v57::v58::v59::v60::v61::u62::u63::u64::u65::u66::u67::u68::u69::u70::u71::u72::u73::u74::u75::u76::u77::u78::u79::u80::u81::u82::u83::u84::.slice (some ⟨g, 0, none⟩) 3 3::.int .i64 3::v87::v88::v89::v90::v91::v92::v93::v94::v95::v96::v97::v98::v99::v100::v101::v102::v103::v104::v105::v106::v107::v108::v109::v110::v111::v112::v113::v114::v115::v116::v117::v118::v119::v120::v121::v122::v123::v124::v125::v126::v127::v128::v129::v130::v131::v132::v133::v134::v135::v136::v137::v138::v139::v140::v141::v142::v143::v144::v145::v146::v147::v148::v149::v150::v151::v152::v153::v154::v155::v156::v157::v158::v159::v160::v161::v162::v163::v164::v165::v166::v167::v168::v169::v170::v171::v172::v173::v174::v175::v176::v177::v178::v179::v180::v181::v182::v183::v184::v185::v186::v187::v188::v189::v190::v191::v192::v193::v194::v195::v196::v197::v198::v199::v200::v201::v202::v203::v204::v205::v206::v207::v208::v209::v210::v211::v212::v213::v214::v215::v216::v217::v218::v219::v220::v221::v222::v223::v224::v225::v226::v227::v228::v229::v230::v231::v232::v233::v234::v235::v236::v237::v238::v239::v240::v241::v242::v243::v244::v245::v246::v247::v248::v249::v250::v251::v252::v253::v254::v255::v256::v257::v258::v259::v260::v261::v262::v263::v264::v265::v266::v267::v268::v269::v270::v271::v272::v273::v274::v275::v276::v277::v278::v279::v280::v281::v282::v283::v284::v285::v286::v287::v288::v289::v290::v291::v292::v293::v294::v295::v296::v297::v298::v299::v300::v301::v302::v303::v304::v305::v306::v307::v308::v309::v310::v311::v312::v313::v314::u315::[]), defers := [] } W') :
    (Code.loop body).wp Tryz.prog Q { tmps := List.toArray (u0::u1::.int .i64 how::u3::u4::.int .i64 t::.int .i64 limit::u7::u8::u9::u10::u11::u12::u13::u14::u15::.pointer (some ⟨pU, 0, none⟩)::.pointer (some ⟨pV, 0, none⟩)::u18::u19::.pointer (some ⟨pA, 0, none⟩)::.pointer (some ⟨pB, 0, none⟩)::u22::u23::u24::u25::u26::u27::u28::u29::u30::u31::u32::u33::u34::u35::u36::u37::u38::u39::u40::u41::u42::u43::u44::u45::u46::u47::u48::u49::u50::u51::u52::u53::u54::u55::u56::u57::u58::u59::u60::u61::u62::u63::u64::u65::u66::u67::u68::u69::u70::u71::u72::u73::u74::u75::u76::u77::u78::u79::u80::u81::u82::u83::u84::.slice (some ⟨g, 0, none⟩) 3 3::.int .i64 3::.int .i64 0::u88::u89::u90::u91::u92::u93::u94::u95::u96::u97::u98::u99::u100::u101::u102::u103::u104::u105::u106::u107::u108::u109::u110::u111::u112::u113::u114::u115::u116::u117::u118::u119::u120::u121::u122::u123::u124::u125::u126::u127::u128::u129::u130::u131::u132::u133::u134::u135::u136::u137::u138::u139::u140::u141::u142::u143::u144::u145::u146::u147::u148::u149::u150::u151::u152::u153::u154::u155::u156::u157::u158::u159::u160::u161::u162::u163::u164::u165::u166::u167::u168::u169::u170::u171::u172::u173::u174::u175::u176::u177::u178::u179::u180::u181::u182::u183::u184::u185::u186::u187::u188::u189::u190::u191::u192::u193::u194::u195::u196::u197::u198::u199::u200::u201::u202::u203::u204::u205::u206::u207::u208::u209::u210::u211::u212::u213::u214::u215::u216::u217::u218::u219::u220::u221::u222::u223::u224::u225::u226::u227::u228::u229::u230::u231::u232::u233::u234::u235::u236::u237::u238::u239::u240::u241::u242::u243::u244::u245::u246::u247::u248::u249::u250::u251::u252::u253::u254::u255::u256::u257::u258::u259::u260::u261::u262::u263::u264::u265::u266::u267::u268::u269::u270::u271::u272::u273::u274::u275::u276::u277::u278::u279::u280::u281::u282::u283::u284::u285::u286::u287::u288::u289::u290::u291::u292::u293::u294::u295::u296::u297::u298::u299::u300::u301::u302::u303::u304::u305::u306::u307::u308::u309::u310::u311::u312::u313::u314::u315::[]), defers := [] } w := by
  obtain rfl := Option.some.inj (hbody.symm.trans (rfl : findLoop Tryz.f3.body 0 = some _))
  clear hbody
  replace hQ := Lib.hid hQ
  go_loopw [87] (fun o wr => ∃ i : Nat, o = .int .i64 i ∧ i ≤ 3 ∧ BL wb L wr) (fun o _ => 3 - (intOf o).toNat)
  case atStart => exact ⟨0, rfl, by omega, hS⟩
  case round =>
    clear hS
    obtain ⟨i, rfl, hi3, hS⟩ := hrel
    by_cases hi : i < 3
    case pos =>
      have hi' : (i : Int) < 3 := by omega
      obtain ⟨v, l, hv0, HL, hlf⟩ := hv.out i hi
      clear hi
      have c0 := hv0 _ hS
      clear hv0
      replace HL := Lib.hid HL
      have RF1 := Lib.hid (fun W (h : SlD W v l) => refute_any v l W h)
      have RF2 := Lib.hid (fun W (h : SlD W v l) => rrefute_any v l W h)
      obtain ⟨c1, c2, d1, d2, e1, hrt, -⟩ := fv_shape (rts l)
      have RT1 := Lib.hid (fun W (hE : Env W) (h : SlD W v l) => (by rw [← hrt]; exact rates_any v l W hE h : Calls Tryz.prog 11 #[v] W (Rets W (.tuple #[.agg #[.string c1, .string c2], .agg #[.string d1, .string d2], .int .i64 e1]))))
      have RT2 := Lib.hid (fun W (h : SlD W v l) => (by rw [← hrt]; exact rrates_any v l W h : Calls Tryz.prog 12 #[v] W (Rets W (.tuple #[.agg #[.string c1, .string c2], .agg #[.string d1, .string d2], .int .i64 e1]))))
      clear hrt
      have VD1 := Lib.hid (fun W (h : SlD W v l) => dvalid_any v l W h)
      have VD2 := Lib.hid (fun W (h : SlD W v l) => dval26_any v l W h)
      have IN := Lib.hid (fun a b W (ha : Sl W a (triL (refO l))) (hb : Sl W b (triL (refO l))) => (by have := ints_any a b _ _ W ha hb (by unfold triL; split <;> simp); rwa [decide_eq_true rfl] at this : Calls Tryz.prog 15 #[a, b] W (Rets W (.bool true))))
      generalize okD l = ok at *
      replace hlf := Lib.hid hlf
      go_upto_region 9 with fail
      clear c0
      go_wp2_with fail
      refine Calls.mono (RF1.out _ (HL.out.below hS.below)) ?_
      rintro e w1 ⟨s1, rfl, hR1, hb⟩
      replace hS := hS.call hb
      clear hb
      go_wp2_with fail
      refine Calls.mono (RF2.out _ (HL.out.below hS.below)) ?_
      rintro e w2 ⟨s2, rfl, hR2, hb⟩
      replace hS := hS.call hb
      replace hR1 := hR1.below hb
      clear hb
      go_wp2_with fail
      refine Calls.mono (RT1.out _ (hS.env hE) (HL.out.below hS.below)) ?_
      rintro e w3 ⟨rfl, hb⟩
      replace hS := hS.call hb
      replace hR1 := hR1.below hb
      replace hR2 := hR2.below hb
      clear hb
      replace hS := hS.add' #[.string c1, .string c2] 27
      obtain ⟨W0, hW0, hS, hz0⟩ := hS
      replace hS := hS.add' #[.string d1, .string d2] 27
      obtain ⟨W1, hW1, hS, hz1⟩ := hS
      rw [hz0] at hS
      obtain ⟨W, hW⟩ : ∃ W, W = ((w3.alloc (.cells #[.string c1, .string c2] 27)).alloc (.cells #[.string d1, .string d2] 27)) := ⟨_, rfl⟩
      replace hS : BL wb ((w3.heap.size + 1, #[.string d1, .string d2], 27) :: (w3.heap.size, #[.string c1, .string c2], 27) :: L) W := by rw [hW, ← hW0, ← hW1]; exact hS
      replace hR1 : Sl W s1 (triL (refO l)) := by rw [hW]; exact (hR1.new _).new _
      replace hR2 : Sl W s2 (triL (refO l)) := by rw [hW]; exact (hR2.new _).new _
      clear hz0 hz1 hW1 hW0
      go_wp2_with fail
      rw [← hW]
      clear hW
      refine Calls.mono (RT2.out _ (HL.out.below hS.below)) ?_
      rintro e w4 ⟨rfl, hb⟩
      replace hS := hS.call hb
      replace hR1 := hR1.below hb
      replace hR2 := hR2.below hb
      clear hb
      replace hS := hS.add' #[.string c1, .string c2] 27
      obtain ⟨W0, hW0, hS, hz0⟩ := hS
      replace hS := hS.add' #[.string d1, .string d2] 27
      obtain ⟨W1, hW1, hS, hz1⟩ := hS
      rw [hz0] at hS
      obtain ⟨W, hW⟩ : ∃ W, W = ((w4.alloc (.cells #[.string c1, .string c2] 27)).alloc (.cells #[.string d1, .string d2] 27)) := ⟨_, rfl⟩
      replace hS : BL wb ((w4.heap.size + 1, #[.string d1, .string d2], 27) :: (w4.heap.size, #[.string c1, .string c2], 27) :: (w3.heap.size + 1, #[.string d1, .string d2], 27) :: (w3.heap.size, #[.string c1, .string c2], 27) :: L) W := by rw [hW, ← hW0, ← hW1]; exact hS
      replace hR1 : Sl W s1 (triL (refO l)) := by rw [hW]; exact (hR1.new _).new _
      replace hR2 : Sl W s2 (triL (refO l)) := by rw [hW]; exact (hR2.new _).new _
      clear hz0 hz1 hW1 hW0
      go_wp2_with fail
      rw [← hW]
      clear hW
      refine Calls.mono (VD1.out _ (HL.out.below hS.below)) ?_
      rintro e w5 ⟨rfl, hb⟩
      replace hS := hS.call hb
      replace hR1 := hR1.below hb
      replace hR2 := hR2.below hb
      clear hb
      go_wp2_with fail
      refine Calls.mono (VD2.out _ (HL.out.below hS.below)) ?_
      rintro e w6 ⟨rfl, hb⟩
      replace hS := hS.call hb
      replace hR1 := hR1.below hb
      replace hR2 := hR2.below hb
      clear hb
      go_wp2_with fail
      refine Calls.mono (IN.out _ _ _ hR1 hR2) ?_
      rintro e w7 ⟨rfl, hb⟩
      replace hS := hS.call hb
      replace hR1 := hR1.below hb
      replace hR2 := hR2.below hb
      clear hb
      clear hR1 hR2
      obtain ⟨c_c1_0, c_c1_1⟩ := hS.c2 (w3.heap.size) _ _ _ (.tail _ (.tail _ (.tail _ (.head _))))
      obtain ⟨c_d1_0, c_d1_1⟩ := hS.c2 (w3.heap.size + 1) _ _ _ (.tail _ (.tail _ (.head _)))
      obtain ⟨c_c2_0, c_c2_1⟩ := hS.c2 (w4.heap.size) _ _ _ (.tail _ (.head _))
      obtain ⟨c_d2_0, c_d2_1⟩ := hS.c2 (w4.heap.size + 1) _ _ _ (.head _)
      go_upto_region 15 with fail
      clear c_c1_0 c_c1_1 c_d1_0 c_d1_1 c_c2_0 c_c2_1 c_d2_0 c_d2_1
      replace hS := hS.drop (fun p hp => .tail _ (.tail _ (.tail _ (.tail _ hp)))) (M := L)
      go_wp2_with fail
      refine Calls.mono (DY.out _) ?_
      rintro e w8 ⟨rfl, hb⟩
      replace hS := hS.call hb
      clear hb
      replace hS := hS.add' #[.int .i64 t, .int .i64 dt] 3
      obtain ⟨W0, hW0, hS, hz0⟩ := hS
      obtain ⟨W, hW⟩ : ∃ W, W = (w8.alloc (.cells #[.int .i64 t, .int .i64 dt] 3)) := ⟨_, rfl⟩
      replace hS : BL wb ((w8.heap.size, #[.int .i64 t, .int .i64 dt], 3) :: L) W := by rw [hW, ← hW0]; exact hS
      clear hz0 hW0
      go_wp2_with fail
      rw [← hW]
      clear hW
      refine lp2_26 hS (Lib.hid ?tcs) hE HL F5 Flm wl PL (by kernel_rfl) ?_
      case tcs =>
        intro m hm
        match m, hm with
        | 0, _ => exact ⟨t, fun W h => h.cell (w8.heap.size) _ _ (.head _) 0⟩
        | 1, _ => exact ⟨dt, fun W h => h.cell (w8.heap.size) _ _ (.head _) 1⟩
      clear hS RF1 RF2 RT1 RT2 VD1 VD2 IN
      intro u18 u36 u37 u38 u39 u40 u41 u42 u43 u44 u45 u47 u48 u49 u50 u51 u149 u150 u151 u152 u153 u154 u155 u156 u157 u158 u159 u160 u161 u162 u163 u164 u165 u166 u167 u168 u169 u170 u171 u172 u173 u174 u175 u176 u177 u178 u179 u180 u181 u182 u183 u184 u185 u186 u187 u188 u189 u190 u191 u192 u193 u194 u195 u196 u197 u198 u199 u200 u201 u202 u203 u204 u205 u206 u207 u208 u209 u210 u211 u212 u213 u214 u215 u216 u217 u218 u219 u220 u221 u222 u223 u224 u225 u226 u227 wz hS
      go_upto_region 32 with fail
      refine r32_any (an := an) (ad := ad) (bn := bn) (bd := bd) (xa := xa) (xb := xb) (ya := ya) (yb := yb) hS (Lib.hid ?hC2) KO (by kernel_rfl) ?_
      case hC2 => exact fun W' h => hC.out W' (h.drop (fun p hp => .tail _ hp))
      intro g3 wz hS3
      replace hS := hS3
      clear hS3
      go_wp2_with fail
      refine lp6_26 (dt := dt) hS (Lib.hid ?zcs) hE HL hlf F4 Fdt DY (by kernel_rfl) ?_
      case zcs =>
        intro m hm
        obtain ⟨ta, tb, tc, td, te, tf, tg, th, ti, tj⟩ := tx.out
        match m, hm with
        | 0, _ => exact ⟨an, ad, bn, bd, fun W h => ⟨h.cell g3 _ _ (.head _) 0, h.cell g3 _ _ (.head _) 1, h.cell g3 _ _ (.head _) 2, h.cell g3 _ _ (.head _) 3⟩, ta, tb, tc, td⟩
        | 1, _ => exact ⟨xa, xb, ya, yb, fun W h => ⟨h.cell g3 _ _ (.head _) 4, h.cell g3 _ _ (.head _) 5, h.cell g3 _ _ (.head _) 6, h.cell g3 _ _ (.head _) 7⟩, te, tf, tg, th⟩
        | 2, _ => exact ⟨ln, ld, bn, bd, fun W h => ⟨h.cell g3 _ _ (.head _) 8, h.cell g3 _ _ (.head _) 9, h.cell g3 _ _ (.head _) 10, h.cell g3 _ _ (.head _) 11⟩, ti, tj, tc, td⟩
      clear hS
      intro u18 u53 u54 u55 u56 u57 u58 u59 u60 u61 u240 u241 u242 u243 u244 u245 u246 u247 u248 u249 u250 u251 u252 u253 u254 u255 u256 u257 u258 u259 u260 u261 u262 u263 u264 u265 u266 u267 u268 u269 u270 u271 u272 u273 u274 u275 u276 u277 u278 u279 u280 u281 u282 u283 u284 u285 u286 u287 u288 u289 u290 u291 u292 u293 u294 u295 u296 u297 u298 u299 u300 u301 u302 u303 u304 u305 u306 u307 u308 u309 u310 u311 u312 u313 wz hS
      go_wp2_with fail
      go_roundw
      case rel => exact ⟨i + 1, by go_num, by omega, hS.drop (fun p hp => .tail _ (.tail _ hp))⟩
      case measure => simp [intOf]; omega
    case neg =>
      go_wp2_with fail
      exact hQ.out _ _ _ _ _ _ _ _ _ _ _ _ _ _ _ _ _ _ _ _ _ _ _ _ _ _ _ _ _ _ _ _ _ _ _ _ _ _ _ _ _ _ _ _ _ _ _ _ _ _ _ _ _ _ _ _ _ _ _ _ _ _ _ _ _ _ _ _ _ _ _ _ _ _ _ _ _ _ _ _ _ _ _ _ _ _ _ _ _ _ _ _ _ _ _ _ _ _ _ _ _ _ _ _ _ _ _ _ _ _ _ _ _ _ _ _ _ _ _ _ _ _ _ _ _ _ _ _ _ _ _ _ _ _ _ _ _ _ _ _ _ _ _ _ _ _ _ _ _ _ _ _ _ _ _ _ _ _ _ _ _ _ _ _ _ _ _ _ _ _ _ _ _ _ _ _ _ _ _ _ _ _ _ _ _ _ _ _ _ _ _ _ _ _ _ _ _ _ _ _ _ _ _ _ _ _ _ _ _ _ _ _ _ _ _ _ _ _ _ _ _ _ _ _ _ _ _ _ _ _ _ _ _ _ _ _ _ _ _ _ _ _ _ _ _ _ _ _ _ _ _ _ _ _ _ _ _ _ _ _ _ _ _ _ _ hS
end Go.Proofs.YtebokdboodgkpaaGreatDoor
