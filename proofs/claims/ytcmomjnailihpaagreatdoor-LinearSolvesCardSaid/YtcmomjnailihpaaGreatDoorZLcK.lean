/- LcK, LcL, LcM, LcN -/
import Derived.Test.YtcmomjnailihpaaGreatDoorZLcD
import Derived.Test.YtcmomjnailihpaaGreatDoorZLcJ
namespace Go.Proofs.YtcmomjnailihpaaGreatDoor
open Go.RowKit
structure MixA where
  p : Int
  q : Int
  na : List ByteArray
  nb : List ByteArray
  da : ByteArray
  db : ByteArray
def MixA.num (x : MixA) : Nat → Int
  | 0 => (x.p + x.q) * zS x.da * zS x.db
  | i + 1 => x.p * zS (sAt x.na i) * zS x.db + x.q * zS (sAt x.nb i) * zS x.da
def MixA.z (x : MixA) (f : Bool) (i : Nat) : Int := zS (mixS f [I x.p, sAt x.na i, x.db] 3) + zS (mixS (mixF f [I x.p, sAt x.na i, x.db] 3) [I x.q, sAt x.nb i, x.da] 3)
def MixA.flag (x : MixA) : Nat → Bool
  | 0 => mixF true [I (x.p + x.q), x.da, x.db] 3
  | i + 1 => mixF (mixF (x.flag i) [I x.p, sAt x.na i, x.db] 3) [I x.q, sAt x.nb i, x.da] 3 && decide (Small (x.z (x.flag i) i))
def MixA.txt (x : MixA) : Nat → ByteArray
  | 0 => mixS true [I (x.p + x.q), x.da, x.db] 3
  | i + 1 => ⟨(Go.Proofs.YtcmomjnailihpaaGreatDoor.txt (x.z (x.flag i) i)).toArray⟩
theorem mixF_true {b : Bool} {l : List ByteArray} {n : Nat} (h : mixF b l n = true) : b = true ∧ prodB l n = true := by unfold mixF at h; simpa using h
theorem mixS_true {l : List ByteArray} {n : Nat} (h : prodB l n = true) : mixS true l n = I (prodZ l n) := by unfold mixS; rw [h]; rfl
theorem prod3 (a b c : ByteArray) : prodZ [a, b, c] 3 = zS a * zS b * zS c := by show 1 * zS a * zS b * zS c = _; rw [Int.one_mul]
theorem MixA.good (x : MixA) : ∀ {i : Nat}, x.flag i = true → x.txt i = I (x.num i) ∧ Small (x.num i)
  | 0, h => by
    obtain ⟨_, h1⟩ := mixF_true h
    have e : prodZ [I (x.p + x.q), x.da, x.db] 3 = x.num 0 := by rw [prod3, zS_I]; rfl
    exact ⟨by show mixS true _ 3 = _; rw [mixS_true h1, e], by rw [← e]; exact prod_small h1⟩
  | i + 1, h => by
    have h' : (mixF (mixF (x.flag i) [I x.p, sAt x.na i, x.db] 3) [I x.q, sAt x.nb i, x.da] 3 && decide (Small (x.z (x.flag i) i))) = true := h
    rw [Bool.and_eq_true, decide_eq_true_eq] at h'
    obtain ⟨h1, h2⟩ := h'
    obtain ⟨h3, h4⟩ := mixF_true h1
    obtain ⟨h5, h6⟩ := mixF_true h3
    have e : x.z (x.flag i) i = x.num (i + 1) := by
      unfold MixA.z
      rw [h3, h5, mixS_true h6, mixS_true h4, zS_I, zS_I, prod3, prod3, zS_I, zS_I]; rfl
    rw [e] at h2
    refine ⟨?_, h2⟩
    show ByteArray.mk (Go.Proofs.YtcmomjnailihpaaGreatDoor.txt (x.z (x.flag i) i)).toArray = _
    rw [e, txt_small h2]; rfl
theorem MixA.flag_le (x : MixA) {i n : Nat} (h : x.flag n = true) (hi : i ≤ n) : x.flag i = true := by
  induction n with
  | zero => obtain rfl : i = 0 := by omega
            exact h
  | succ n ih =>
    by_cases e : i = n + 1
    · subst e; exact h
    · refine ih ?_ (by omega)
      have h' : (mixF (mixF (x.flag n) [I x.p, sAt x.na n, x.db] 3) [I x.q, sAt x.nb n, x.da] 3 && decide (Small (x.z (x.flag n) n))) = true := h
      rw [Bool.and_eq_true] at h'
      exact (mixF_true (mixF_true h'.1).1).1
theorem MixA.add_T (x : MixA) (i : Nat) : ∃ E : Int, resT true (x.z (x.flag i) i) = .tuple #[.string (x.txt (i + 1)), .int .i64 E] ∧ (E == 0) = decide (Small (x.z (x.flag i) i)) := by
  refine ⟨erz (x.z (x.flag i) i), by unfold resT; rw [if_pos rfl]; rfl, ?_⟩
  unfold erz
  by_cases h : Small (x.z (x.flag i) i)
  · rw [if_pos h, decide_eq_true h]; rfl
  · rw [if_neg h, decide_eq_false h]; rfl
def MixA.gcd (x : MixA) : Nat → Int
  | 0 => 0
  | k + 1 => gcdZ (x.gcd k) (x.num k)
end Go.Proofs.YtcmomjnailihpaaGreatDoor
namespace Go.Proofs.YtcmomjnailihpaaGreatDoor
open Go.RowKit
attribute [local go_sem] Oper.semAt_some
theorem wpList_app_own {ops : Array Oper} {rest : List Oper} {o : Oper} {a : Act} {Q : Exit → Act → World → Prop} {w : World} {base : Nat} (hgd : o.guard = none) (t e : TypeId) (z : Value) (bytes : Nat) (ht : Tryz.prog.underlying t = some (.slice e)) (hi : (Tryz.prog.info? e).map (fun i => (i.zero, i.size, i.bytes)) = some (some z, 1, bytes)) (hz : z.cells.size = 1)
    (s x : Operand) (ho : o.op = .call { callee := .builtin .append, args := #[s, x], argTypes := #[t, t] }) (v : Value) (n : Nat) (xs : List Value) (hs : a.eval s = v) (hown : w.ownsRow base e 1 v n xs)
    (g : Nat) (u : Value) (hx : a.eval x = .slice (some ⟨g, 0, none⟩) 1 1) (hu : w.cell? ⟨g, 0, none⟩ = some u) (h1 : u.oneCell' = true) (hn : (n + 1) * bytes ≤ 140737488355328) (hn2 : n ≤ 1000000) (hbase : base ≤ w.heap.size)
    (h : ∀ g' cap w', w'.ownsRow base e 1 (.slice (some ⟨g', 0, none⟩) (n + 1) cap) (n + 1) (xs ++ [u]) → w.grownBy w' v.ownBlock → (∀ b, (Value.slice (some ⟨g', 0, none⟩) (n + 1) cap).ownBlock = some b → v.ownBlock = some b ∨ w.heap.size ≤ b) → wpList Tryz.prog ops Q rest (a.put o.dst (.slice (some ⟨g', 0, none⟩) (n + 1) cap)) w') :
    wpList Tryz.prog ops Q (o :: rest) a w :=
  wpList_plain hgd fun _ hK => oper_app_own t e z bytes ht hi hz s x ho v n xs hs hown g u hx hu h1 hn hn2 hbase fun v' w' r1 r2 r3 => by
    have r1' := r1
    rcases r1.2 with ⟨rfl, h0⟩ | ⟨g', cap, cur, rfl, _⟩
    · omega
    · exact hK _ _ (h g' cap w' r1' r2 r3)
set_option maxRecDepth 100000 in
set_option maxHeartbeats 8000000 in
theorem mix_l0 {Q : Exit → Act → World → Prop} {u0 u1 u6 u7 u8 u9 u13 u14 u15 u16 u17 u18 u19 u20 u21 u22 u23 u24 u25 u26 u27 u28 u29 u30 u31 u32 u33 u34 u35 u36 u37 u38 u39 u40 u41 u42 u43 u44 u45 u46 u47 u48 u49 u50 u51 u52 u53 u54 u55 u56 u57 u58 u59 u60 u61 u62 u63 u66 u67 u68 u69 u70 u71 u72 u73 u74 u75 u76 u77 u78 u79 u80 u81 u82 u83 u84 u85 u86 u87 u88 u89 u90 u91 u92 u93 u94 u95 u96 u97 u98 u99 u100 u101 u102 u103 u104 u105 u106 u107 u108 u109 u110 u111 u112 u113 u114 u115 u116 u117 u118 u119 u120 u121 u122 u123 u124 u125 u126 u127 u128 u129 u130 u131 u132 u133 u134 u135 u136 u137 u138 u139 u140 u141 u142 u143 u144 u145 u146 u147 u148 u149 u150 u151 u152 : Value} {x : MixA} {b0 b1 Bk n base g0 : Nat} {aa ab : Option Addr} {ca cb : Nat} {w0 w : World} (hE : Hid (Env w0)) (h0 : Hid (Below w0.heap.size w0 w ∧ w0.heap.size ≤ Bk ∧ Bk < base ∧ base ≤ w.heap.size)) (hp : Hid ((1 ≤ x.p ∧ x.p ≤ 1000) ∧ (1 ≤ x.q ∧ x.q ≤ 1000))) (hn : Hid (n = x.na.length ∧ n = x.nb.length ∧ n ≤ 64)) (hok : Hid ((∀ i, i < n → okS (sAt x.na i) = true ∧ okS (sAt x.nb i) = true) ∧ okS x.da = true ∧ okS x.db = true))
    (hc : Hid ((b0 < base ∧ b0 ≠ Bk ∧ w.cell? ⟨b0, 0, none⟩ = some (.slice aa n ca) ∧ w.cell? ⟨b0, 1, none⟩ = some (.string x.da)) ∧ (b1 < base ∧ b1 ≠ Bk ∧ w.cell? ⟨b1, 0, none⟩ = some (.slice ab n cb) ∧ w.cell? ⟨b1, 1, none⟩ = some (.string x.db)))) (hA : Hid (SlS w0 (.slice aa n ca) x.na)) (hB : Hid (SlS w0 (.slice ab n cb) x.nb))
    (hk : Hid (Blk w Bk #[.bool (x.flag 0)] 4)) (hr : Hid (w.ownsRow base 9 1 (.slice (some ⟨g0, 0, none⟩) 1 1) (0 + 1) ((List.range (0 + 1)).map fun j => .string (x.txt j)))) {body : Code} (hbody : getLoop Tryz.f23.body 0 = some body)
    (hQ : ∀ (gf cf : Nat) (v13 v14 v15 v65 v66 v67 v68 v69 v70 v71 v72 v73 v74 v75 v76 v77 v78 v79 v80 v81 v82 v83 v84 v85 v86 v87 v88 v89 v90 v91 v92 v93 v94 v95 v96 v97 v98 v99 v100 v101 v102 v103 v104 v105 : Value) (W' : World), Hid (Below w0.heap.size w0 W') → Hid (Blk W' Bk #[.bool (x.flag n)] 4) → Hid (W'.ownsRow base 9 1 (.slice (some ⟨gf, 0, none⟩) (n + 1) cf) (n + 1) ((List.range (n + 1)).map fun j => .string (x.txt j))) → Hid (∀ b, b < base → b ≠ Bk → W'.heap[b]? = w.heap[b]?) → Q (.exit 0) { tmps := List.toArray (u0::u1::.int .i64 x.p::.int .i64 x.q::.pointer (some ⟨b0, 0, none⟩)::.pointer (some ⟨b1, 0, none⟩)::u6::u7::u8::u9::.pointer (some ⟨Bk, 0, none⟩)::.func (.func 58) #[] #[.pointer (some ⟨Bk, 0, none⟩)]::.slice (some ⟨gf, 0, none⟩) (n + 1) cf::v13::v14::v15::u16::u17::u18::u19::u20::u21::u22::u23::u24::u25::u26::u27::u28::u29::u30::u31::u32::u33::u34::u35::u36::u37::u38::u39::u40::u41::u42::u43::u44::u45::u46::u47::u48::u49::u50::u51::u52::u53::u54::u55::u56::u57::u58::u59::u60::u61::u62::u63::.int .i64 n::v65::v66::v67::v68::v69::v70::v71::v72::v73::v74::v75::v76::v77::v78::v79::v80::v81::v82::v83::v84::v85::v86::v87::v88::v89::v90::v91::v92::v93::v94::v95::v96::v97::v98::v99::v100::v101::v102::v103::v104::v105::u106::u107::u108::u109::u110::u111::u112::u113::u114::u115::u116::u117::u118::u119::u120::u121::u122::u123::u124::u125::u126::u127::u128::u129::u130::u131::u132::u133::u134::u135::u136::u137::u138::u139::u140::u141::u142::u143::u144::u145::u146::u147::u148::u149::u150::u151::u152::[]), defers := [] } W') :
    (Code.loop body).wp Tryz.prog Q { tmps := List.toArray (u0::u1::.int .i64 x.p::.int .i64 x.q::.pointer (some ⟨b0, 0, none⟩)::.pointer (some ⟨b1, 0, none⟩)::u6::u7::u8::u9::.pointer (some ⟨Bk, 0, none⟩)::.func (.func 58) #[] #[.pointer (some ⟨Bk, 0, none⟩)]::.slice (some ⟨g0, 0, none⟩) 1 1::u13::u14::u15::u16::u17::u18::u19::u20::u21::u22::u23::u24::u25::u26::u27::u28::u29::u30::u31::u32::u33::u34::u35::u36::u37::u38::u39::u40::u41::u42::u43::u44::u45::u46::u47::u48::u49::u50::u51::u52::u53::u54::u55::u56::u57::u58::u59::u60::u61::u62::u63::.int .i64 n::.int .i64 0::u66::u67::u68::u69::u70::u71::u72::u73::u74::u75::u76::u77::u78::u79::u80::u81::u82::u83::u84::u85::u86::u87::u88::u89::u90::u91::u92::u93::u94::u95::u96::u97::u98::u99::u100::u101::u102::u103::u104::u105::u106::u107::u108::u109::u110::u111::u112::u113::u114::u115::u116::u117::u118::u119::u120::u121::u122::u123::u124::u125::u126::u127::u128::u129::u130::u131::u132::u133::u134::u135::u136::u137::u138::u139::u140::u141::u142::u143::u144::u145::u146::u147::u148::u149::u150::u151::u152::[]), defers := [] } w := by
  obtain rfl := Option.some.inj (hbody.symm.trans (rfl : getLoop Tryz.f23.body 0 = some _))
  clear hbody
  replace hQ := Lib.hid hQ
  go_loopw [12, 65] (fun s o wr => ∃ (i g c : Nat), s = .slice (some ⟨g, 0, none⟩) (i + 1) c ∧ o = .int .i64 i ∧ i ≤ n ∧ Hid (Below w0.heap.size w0 wr ∧ base ≤ wr.heap.size) ∧ Hid (Blk wr Bk #[.bool (x.flag i)] 4) ∧ Hid (wr.ownsRow base 9 1 (.slice (some ⟨g, 0, none⟩) (i + 1) c) (i + 1) ((List.range (i + 1)).map fun j => .string (x.txt j))) ∧ Hid (∀ b, b < base → b ≠ Bk → wr.heap[b]? = w.heap[b]?)) (fun _ o _ => n - (intOf o).toNat)
  case atStart => exact ⟨0, g0, 1, rfl, rfl, by omega, Lib.hid ⟨h0.out.1, h0.out.2.2.2⟩, hk, hr, Lib.hid (fun _ _ _ => rfl)⟩
  case round =>
    clear hk hr
    obtain ⟨i, g, c, rfl, rfl, hi, hb, hk, hr, hs⟩ := hrel
    by_cases hin : i < n
    case neg =>
      have hin' : ¬ (i : Int) < n := by omega
      obtain rfl : i = n := by omega
      go_wp2_with fail
      exact hQ.out g c _ _ _ _ _ _ _ _ _ _ _ _ _ _ _ _ _ _ _ _ _ _ _ _ _ _ _ _ _ _ _ _ _ _ _ _ _ _ _ _ _ _ _ _ _ (Lib.hid hb.out.1) hk hr hs
    case pos =>
      have hin' : (i : Int) < n := by omega
      have hi0 : (0 : Int) ≤ i := by omega
      obtain ⟨ba, oa, ea, hba, xa⟩ : ∃ b off, aa = some ⟨b, off, none⟩ ∧ b < w0.heap.size ∧ w0.cell? ⟨b, off + i, none⟩ = some (.string (sAt x.na i)) := by
        rcases hA.out with ⟨e, e2⟩ | ⟨b, off, cap', e, h1, h2, h3, h4⟩
        · have := hn.out.1; rw [e2] at this; simp at this; omega
        · cases e
          have := h4 i _ (sAt_lt (by have := hn.out.1; omega))
          rw [Nat.mul_one] at this
          exact ⟨b, off, rfl, h3, this⟩
      obtain ⟨bb, ob, eb, hbb, xb⟩ : ∃ b off, ab = some ⟨b, off, none⟩ ∧ b < w0.heap.size ∧ w0.cell? ⟨b, off + i, none⟩ = some (.string (sAt x.nb i)) := by
        rcases hB.out with ⟨e, e2⟩ | ⟨b, off, cap', e, h1, h2, h3, h4⟩
        · have := hn.out.2.1; rw [e2] at this; simp at this; omega
        · cases e
          have := h4 i _ (sAt_lt (by have := hn.out.2.1; omega))
          rw [Nat.mul_one] at this
          exact ⟨b, off, rfl, h3, this⟩
      subst ea
      subst eb
      obtain ⟨k1, k2⟩ := hok.out.1 i hin
      obtain ⟨E, hT, hEz⟩ := x.add_T i
      have hgE : Hid (x.flag (i + 1) = (mixF (mixF (x.flag i) [I x.p, sAt x.na i, x.db] 3) [I x.q, sAt x.nb i, x.da] 3 && (E == 0))) := Lib.hid (by rw [hEz]; rfl)
      have hsz : base ≤ wr.heap.size := hb.out.2
      have hc' := hc.out
      have cc : ∀ b, b < base → b ≠ Bk → ∀ k u, w.cell? ⟨b, k, none⟩ = some u → ∀ W, Only [Bk] wr W → W.cell? ⟨b, k, none⟩ = some u := fun b hbl hbn k u hu W hW => ((hW.cell (p := ⟨b, k, none⟩) (by show b < _; omega) (by simpa using hbn)).trans (cell_same (hs.out b hbl hbn) k)).trans hu
      have ce : ∀ b, b < w0.heap.size → ∀ k u, w0.cell? ⟨b, k, none⟩ = some u → ∀ W, Only [Bk] wr W → W.cell? ⟨b, k, none⟩ = some u := fun b hbl k u hu W hW => ((hW.cell (p := ⟨b, k, none⟩) (by show b < _; have := hb.out.1.size; omega) (by have := h0.out.2.1; simp; omega)).trans (hb.out.1.cell (p := ⟨b, k, none⟩) hbl)).trans hu
      go_upto_region 9 with fail
      refine mix_r9 (p := x.p) (q := x.q) (n := n) (i := i) (ga := ba) (oa := oa) (gb := bb) (ob := ob) (fl := x.flag i) (da := x.da) (db := x.db) (sa := sAt x.na i) (sb := sAt x.nb i) (S := x.txt (i + 1)) (E := E) hE (Lib.hid ⟨hb.out.1, h0.out.2.1⟩) (Lib.hid (by have := hp.out.1; exact ⟨by unfold Fits; omega, (bd11 (by omega)).small (by decide)⟩)) (Lib.hid (by have := hp.out.2; exact ⟨by unfold Fits; omega, (bd11 (by omega)).small (by decide)⟩)) (Lib.hid ⟨hok.out.2.1, hok.out.2.2, k1, k2⟩) hin' hi0
        (Lib.hid (fun W hW => ⟨cc _ hc'.1.1 hc'.1.2.1 0 _ hc'.1.2.2.1 W hW, cc _ hc'.1.1 hc'.1.2.1 1 _ hc'.1.2.2.2 W hW, cc _ hc'.2.1 hc'.2.2.1 0 _ hc'.2.2.2.1 W hW, cc _ hc'.2.1 hc'.2.2.1 1 _ hc'.2.2.2.2 W hW, ce _ hba _ _ xa W hW, ce _ hbb _ _ xb W hW⟩)) (Lib.hid (by have := h0.out.2.2.1; omega)) hk (Lib.hid hT) (by kernel_rfl) ?_
      intro v69 v70 v71 v72 v73 v74 v75 v76 v77 v78 v79 v80 v81 v82 v83 v84 v85 v86 v87 v88 v89 v90 v91 v92 v93 v68 v94 v95 W5 hO5 hk5
      have hr5 := own_only hr.out hO5 (fun b e hb => by have := (hr.out.lt b e).1; have h2 := List.mem_singleton.1 hb; have := h0.out.2.2.1; omega)
      have hb5 := Lib.hid (hb.out.1.trans (hO5.toBelow hb.out.1.size (by intro z hz; rw [List.mem_singleton.1 hz]; exact h0.out.2.1)))
      have hsz5 : base ≤ W5.heap.size := Nat.le_trans hsz hO5.size
      have hs5 := Lib.hid (fun b (hbl : b < base) (hbn : b ≠ Bk) => (hO5.block b (by omega) (by simpa using hbn)).trans (hs.out b hbl hbn))
      obtain ⟨f2, hf2⟩ : ∃ f, f = mixF (mixF (x.flag i) [I x.p, sAt x.na i, x.db] 3) [I x.q, sAt x.nb i, x.da] 3 := ⟨_, rfl⟩
      rw [← hf2] at hk5 hgE
      obtain ⟨ez, hez⟩ : ∃ b, b = (E == 0) := ⟨_, rfl⟩
      rw [← hez] at hgE
      have hez' := hez.symm
      have y0 := hk5.cell 0
      have y1 := hk5.frozen 0
      have hk6 := hk5.set 0 (.bool (f2 && ez))
      have hg6 := grown_setCell W5 Bk 0 (.bool (f2 && ez))
      have hr6 := hr5.kept hg6 (.inr (by intro e; have := (hr5.lt Bk e).1; have := h0.out.2.2.1; omega))
      have hO6 := Lib.hid ((Only.refl [Bk] W5).setCell (p := ⟨Bk, 0, none⟩) (by simp) (.bool (f2 && ez)))
      have hk6' : Blk (W5.setCell ⟨Bk, 0, none⟩ (.bool (f2 && ez))) Bk #[.bool (x.flag (i + 1))] 4 := by rw [hgE.out]; exact hk6
      clear hE hT hEz hez hk6 cc ce hO5 hc' xa xb k1 k2 hgE hf2 hr5
      have hbB := h0.out.2.2.1
      have hbW := h0.out.2.1
      have hend : Hid (∀ (g2 c2 : Nat) (W7 W8 : World), W7 = (W5.setCell ⟨Bk, 0, none⟩ (.bool (f2 && ez))).alloc (.cells #[.string (x.txt (i + 1))] 9) → W8.ownsRow base 9 1 (.slice (some ⟨g2, 0, none⟩) (i + 1 + 1) c2) (i + 1 + 1) (((List.range (i + 1)).map fun j => Value.string (x.txt j)) ++ [.string (x.txt (i + 1))]) → W7.grownBy W8 (some g) →
          (Below w0.heap.size w0 W8 ∧ base ≤ W8.heap.size) ∧ Blk W8 Bk #[.bool (x.flag (i + 1))] 4 ∧ W8.ownsRow base 9 1 (.slice (some ⟨g2, 0, none⟩) (i + 1 + 1) c2) (i + 1 + 1) ((List.range (i + 1 + 1)).map fun j => .string (x.txt j)) ∧ (∀ b, b < base → b ≠ Bk → W8.heap[b]? = w.heap[b]?)) := Lib.hid (fun g2 c2 W7 W8 e7 own8 gr8 => by
        have hgb : base ≤ g := (hr6.lt g rfl).1
        have h6 : Below w0.heap.size w0 (W5.setCell ⟨Bk, 0, none⟩ (.bool (f2 && ez))) := hb5.out.trans (hO6.out.toBelow hb5.out.size (by intro z hz; rw [List.mem_singleton.1 hz]; exact hbW))
        have h67 : Below (W5.setCell ⟨Bk, 0, none⟩ (.bool (f2 && ez))).heap.size (W5.setCell ⟨Bk, 0, none⟩ (.bool (f2 && ez))) W7 := by rw [e7]; exact (Below.refl _ _).alloc (Nat.le_refl _) _
        have s6 : W5.heap.size ≤ (W5.setCell ⟨Bk, 0, none⟩ (.bool (f2 && ez))).heap.size := hg6.size
        have h7 : Below w0.heap.size w0 W7 := h6.trans (h67.mono h6.size)
        have s7 : base ≤ W7.heap.size := Nat.le_trans hsz5 (Nat.le_trans s6 h67.size)
        have hg0 : w0.heap.size ≤ g := by omega
        refine ⟨⟨h7.grown gr8 h7.size (fun k e => by cases e; exact hg0), Nat.le_trans s7 gr8.size⟩, (hk6'.below h67).kept gr8 (by intro e; cases e; omega), by rw [List.range_succ (n := i + 1), List.map_append]; exact own8, fun b hbl hbn => ?_⟩
        have sb : b < W7.heap.size := by omega
        rw [gr8.block b sb (by intro e; cases e; omega), h67.block b (by omega), hO6.out.block b (by omega) (by simpa using hbn), hs5.out b hbl hbn])
      have hr7 := hr6.alloc (.cells #[.string (x.txt (i + 1))] 9)
      have hs7 : base ≤ ((W5.setCell ⟨Bk, 0, none⟩ (.bool (f2 && ez))).alloc (.cells #[.string (x.txt (i + 1))] 9)).heap.size := by rw [World.size_alloc]; have := hg6.size; omega
      have hu7 : ((W5.setCell ⟨Bk, 0, none⟩ (.bool (f2 && ez))).alloc (.cells #[.string (x.txt (i + 1))] 9)).cell? ⟨W5.heap.size, 0, none⟩ = some (Value.string (x.txt (i + 1))) := by
        have es : (W5.setCell ⟨Bk, 0, none⟩ (.bool (f2 && ez))).heap.size = W5.heap.size := World.size_setCell ..
        have := (Blk.new (W5.setCell ⟨Bk, 0, none⟩ (.bool (f2 && ez))) #[.string (x.txt (i + 1))] 9).cell 0
        rw [es] at this
        exact this
      replace hr7 := Lib.hid hr7
      replace hs7 := Lib.hid hs7
      replace hu7 := Lib.hid hu7
      have hi64 : i + 1 ≤ 64 := by have := hn.out.2.2; omega
      generalize hxt : x.txt (i + 1) = xt at *
      replace hxt := Lib.hid hxt
      clear hr6 hk6' hg6 hO6 hk5 hb5 hs5 hb hk hr hs
      cases f2 <;> cases ez <;>
      · go_wp2_with (at_builtin; refine wpList_app_own rfl _ 9 (.string ⟨#[]⟩) 16 Tryz.underlying28 info_str rfl _ _ rfl (.slice (some ⟨g, 0, none⟩) (i + 1) c) (i + 1) _ rfl hr7.out _ (.string xt) rfl hu7.out rfl (by omega) (by omega) hs7.out ?_; intro g2 c2 W8 own8 gr8 bl8; replace gr8 := hend.out g2 c2 _ W8 rfl own8 gr8; clear own8 bl8; have own8 := Lib.hid gr8.1; have bl8 := Lib.hid gr8.2.1; have q3 := Lib.hid gr8.2.2.1; replace gr8 := Lib.hid gr8.2.2.2)
        go_roundw
        case rel => exact ⟨i + 1, _, _, rfl, by go_num, by omega, by assumption, by assumption, by assumption, by assumption⟩
        case measure => simp [intOf]; omega
def mixArg (x : MixA) : Bool := formedL x.na x.da && formedL x.nb x.db && decide ((x.na.length : Int) = x.nb.length) && (decide (1 ≤ x.p) && decide (x.p ≤ 1000)) && (decide (1 ≤ x.q) && decide (x.q ≤ 1000))
def MixA.quo (x : MixA) (i : Nat) : Int := x.num i / x.gcd (x.na.length + 1)
def mixB (x : MixA) : Bool := mixArg x && x.flag x.na.length && (List.range (x.na.length + 1)).all (fun i => decide (Bd 100 (x.quo i)))
theorem vector_after {w W : World} {b : Nat} (h : Blk W b #[.slice none 0 0, .string ⟨#[]⟩] 30) (hb : w.heap.size ≤ b) (hW : Below w.heap.size w W) (a c : Value) :
    let V := (W.setCell ⟨b, 0, none⟩ a).setCell ⟨b, 1, none⟩ c
    (V.cell? ⟨b, 0, none⟩ = some a ∧ V.cell? ⟨b, 1, none⟩ = some c) ∧ Below w.heap.size w V ∧ Only [b] W V := by
  have hB := (h.set 0 a).set 1 c
  have hon : Only [b] W ((W.setCell ⟨b, 0, none⟩ a).setCell ⟨b, 1, none⟩ c) := ((Only.refl [b] W).setCell (p := ⟨b, 0, none⟩) (by simp) _).setCell (p := ⟨b, 1, none⟩) (by simp) _
  exact ⟨⟨hB.cell 0, hB.cell 1⟩, hW.trans (hon.toBelow hW.size (by intro x hx; rw [List.mem_singleton.1 hx]; exact hb)), hon⟩
def mixR (x : MixA) : List ByteArray × ByteArray × Int := if mixB x = true then ((List.range x.na.length).map (fun j => I (x.quo (j + 1))), I (x.quo 0), 0) else ([], ⟨#[]⟩, 60)
def MixP (x : MixA) (w : World) (e : Ending) (w' : World) : Prop := Below w.heap.size w w' ∧ ∃ v, SlS w' v (mixR x).1 ∧ e = .returned (.tuple #[.agg #[v, .string (mixR x).2.1], .int .i64 (mixR x).2.2])
theorem MixP.bad {x : MixA} {w w' : World} (h : mixB x = false) (hb : Below w.heap.size w w') : MixP x w (.returned (.tuple #[.agg #[.slice none 0 0, .string ⟨#[]⟩], .int .i64 60])) w' := by
  refine ⟨hb, .slice none 0 0, ?_, ?_⟩
  · unfold mixR; rw [h]; exact .inl ⟨rfl, rfl⟩
  · unfold mixR; rw [h]; rfl
theorem MixA.gcd_pos (x : MixA) (h : x.num 0 ≠ 0) : ∀ k, 0 < x.gcd (k + 1)
  | 0 => by
    show 0 < gcdZ 0 (x.num 0)
    unfold gcdZ; rw [Int.zero_gcd]; omega
  | k + 1 => by
    show 0 < gcdZ (x.gcd (k + 1)) (x.num (k + 1))
    have h1 := x.gcd_pos h k
    have : Int.gcd (x.gcd (k + 1)) (x.num (k + 1)) ≠ 0 := fun e => by rw [Int.gcd_eq_zero_iff] at e; omega
    unfold gcdZ; omega
theorem MixA.gcd_small (x : MixA) {m : Nat} (h : ∀ j, j < m → Small (x.num j)) : ∀ {k : Nat}, k ≤ m → Small (x.gcd k)
  | 0, _ => small_zero
  | k + 1, hk => gcdZ_small (x.gcd_small h (by omega)) (h k (by omega))
theorem numB_I {z : Int} (h : Small z) : numB (I z) = decide (Bd 100 z) := by unfold numB; rw [okS_I h, zS_I, Bool.true_and]
def MixA.row (x : MixA) (i j : Nat) : ByteArray := if j < i then I (x.quo j) else I (x.num j)
theorem MixA.row_open (x : MixA) {n base g c : Nat} {W : World} (hf : x.flag n = true) (h : W.ownsRow base 9 1 (.slice (some ⟨g, 0, none⟩) (n + 1) c) (n + 1) ((List.range (n + 1)).map fun j => .string (x.txt j))) :
    ∃ cs, Blk W g cs 9 ∧ base ≤ g ∧ n + 1 ≤ c ∧ c ≤ maxLen ∧ ∀ j, j ≤ n → cs[j]? = some (.string (x.row 0 j)) := by
  rcases h.2 with ⟨e, _⟩ | ⟨g', cap, cur, e, hb, hg, hn, hm, hs, ht⟩
  · cases e
  · cases e
    have hk : Blk W g cur 9 := hg
    refine ⟨cur, hk, hb, hn, hm, fun j hj => ?_⟩
    have hc := h.cells (g := g) rfl j (.string (x.txt j)) (by simp [List.getElem?_map, List.getElem?_range (show j < n + 1 by omega)])
    have hadd : (⟨g, 0, none⟩ : Addr).add j = ⟨g, 0 + j, none⟩ := by unfold Addr.add; split <;> simp_all
    rw [hadd, Nat.zero_add, hk.cell j, (x.good (x.flag_le hf hj)).1] at hc
    rw [hc]; unfold MixA.row; rw [if_neg (by omega)]
theorem MixA.row_set (x : MixA) {n i : Nat} {cs : Array Value} (h : ∀ j, j ≤ n → cs[j]? = some (.string (x.row i j))) (hi : i ≤ n) : ∀ j, j ≤ n → (cs.setIfInBounds i (.string (I (x.quo i))))[j]? = some (.string (x.row (i + 1) j)) := fun j hj => by
  rw [Array.getElem?_setIfInBounds]
  have hsz : i < cs.size := (Array.getElem?_eq_some_iff.1 (h i hi)).1
  by_cases e : i = j
  · subst e; rw [if_pos rfl, if_pos hsz]; unfold MixA.row; rw [if_pos (by omega)]
  · rw [if_neg e, h j hj]; unfold MixA.row
    by_cases e2 : j < i
    · rw [if_pos e2, if_pos (by omega)]
    · rw [if_neg e2, if_neg (by omega)]
theorem far_two {W : World} {g b : Nat} {u x y : Value} (hg : g ≠ b) (h : W.cell? ⟨g, 0, none⟩ = some u) : ((W.setCell ⟨b, 0, none⟩ x).setCell ⟨b, 1, none⟩ y).cell? ⟨g, 0, none⟩ = some u := by
  have hon : Only [b] W ((W.setCell ⟨b, 0, none⟩ x).setCell ⟨b, 1, none⟩ y) := ((Only.refl [b] W).setCell (p := ⟨b, 0, none⟩) (by simp) _).setCell (p := ⟨b, 1, none⟩) (by simp) _
  have hlt : g < W.heap.size := by
    rcases Nat.lt_or_ge g W.heap.size with h1 | h1
    · exact h1
    · exfalso; simp [World.cell?, Array.getElem?_eq_none h1] at h
  exact (hon.cell (p := ⟨g, 0, none⟩) hlt (by simpa using hg)).trans h
theorem MixA.small_m (x : MixA) {n m : Nat} (hm : m = n + 1) (h : ∀ j, j < n + 1 → Small (x.num j)) : ∀ j, j < m → Small (x.num j) := by subst hm; exact h
structure MixI (x : MixA) (w W8 : World) (n gf : Nat) (i : Nat) (cs : Array Value) (wr : World) : Prop where
  blk : Blk wr gf cs 9
  row : ∀ j, j ≤ n → cs[j]? = some (.string (x.row i j))
  bd : ∀ j, j < i → Bd 100 (x.quo j)
  bel : Below w.heap.size w wr
  res : Blk wr (w.heap.size + 2) #[.slice none 0 0, .string ⟨#[]⟩] 30
theorem MixI.call {x : MixA} {w W8 W W' : World} {n gf i : Nat} {cs : Array Value} (h : MixI x w W8 n gf i cs W) (hb : Below W.heap.size W W') : MixI x w W8 n gf i cs W' :=
  ⟨h.blk.below hb, h.row, h.bd, h.bel.trans (hb.mono h.bel.size), h.res.below hb⟩
theorem MixP.good {x : MixA} {w w' : World} {v : Value} (h : mixB x = true) (hb : Below w.heap.size w w') (hs : SlS w' v ((List.range x.na.length).map (fun j => I (x.quo (j + 1))))) : MixP x w (.returned (.tuple #[.agg #[v, .string (I (x.quo 0))], .int .i64 0])) w' := by
  refine ⟨hb, v, ?_, ?_⟩
  · unfold mixR; rw [if_pos h]; exact hs
  · unfold mixR; rw [if_pos h]
theorem MixI.slice {x : MixA} {w W8 W W' : World} {n gf k cf : Nat} {cs : Array Value} (h : MixI x w W8 n gf k cs W) (hk : k = n + 1) (hc : k ≤ cf) (hm : cf ≤ maxLen) (_hn : n = x.na.length) (hon : Only [w.heap.size + 2] W W') (hne : gf ≠ w.heap.size + 2) :
    SlS W' (.slice (if cf = 1 then some ⟨gf, 0, none⟩ else some ⟨gf, 1, none⟩) (k - 1) (cf - 1)) ((List.range n).map (fun j => I (x.quo (j + 1)))) := by
  have hb : Blk W' gf cs 9 := (hon.block _ h.blk.lt (by simpa using hne)).trans h.blk
  have hl : ((List.range n).map (fun j => I (x.quo (j + 1)))).length = k - 1 := by simp; omega
  by_cases e : cf = 1
  · rw [if_pos e]
    refine .inr ⟨gf, 0, cf - 1, by rw [hl], by rw [hl]; omega, by omega, hb.lt, fun j y hj => ?_⟩
    have := (List.getElem?_eq_some_iff.1 hj).1
    rw [hl] at this; omega
  · rw [if_neg e]
    refine .inr ⟨gf, 1, cf - 1, by rw [hl], by rw [hl]; omega, by omega, hb.lt, fun j y hj => ?_⟩
    have hjl := (List.getElem?_eq_some_iff.1 hj).1
    rw [hl] at hjl
    rw [List.getElem?_map, List.getElem?_range (by omega)] at hj
    have hy := (Option.some.inj hj).symm
    show W'.cell? ⟨gf, 1 + j * 1, none⟩ = some (.string y)
    rw [hb.cell, Nat.mul_one, Nat.add_comm, h.row (j + 1) (by omega), show x.row k (j + 1) = I (x.quo (j + 1)) from if_pos (by omega), hy]
theorem MixI.put {x : MixA} {w W8 W : World} {n gf i : Nat} {cs : Array Value} (h : MixI x w W8 n gf i cs W) (hi : i ≤ n) (hg : w.heap.size + 2 < gf) :
    Blk (W.setCell ⟨gf, i, none⟩ (.string (I (x.quo i)))) gf (cs.setIfInBounds i (.string (I (x.quo i)))) 9 ∧ (∀ j, j ≤ n → (cs.setIfInBounds i (.string (I (x.quo i))))[j]? = some (.string (x.row (i + 1) j))) ∧ Below w.heap.size w (W.setCell ⟨gf, i, none⟩ (.string (I (x.quo i)))) ∧ Blk (W.setCell ⟨gf, i, none⟩ (.string (I (x.quo i)))) (w.heap.size + 2) #[.slice none 0 0, .string ⟨#[]⟩] 30 := by
  have hon : Only [gf] W (W.setCell ⟨gf, i, none⟩ (.string (I (x.quo i)))) := (Only.refl [gf] W).setCell (p := ⟨gf, i, none⟩) (by simp) _
  exact ⟨h.blk.set i _, x.row_set h.row hi, h.bel.trans (hon.toBelow h.bel.size (by intro z hz; rw [List.mem_singleton.1 hz]; omega)), (hon.block _ h.res.lt (by simp; omega)).trans h.res⟩
set_option maxRecDepth 100000 in
set_option maxHeartbeats 8000000 in
theorem mix_ok (x : MixA) (va vb : Value) (w : World) (hE : Env w) (hA : SlS w va x.na) (hB : SlS w vb x.nb) (h : mixArg x = true) :
    Calls Tryz.prog 23 #[.agg #[va, .string x.da], .agg #[vb, .string x.db], .int .i64 x.p, .int .i64 x.q] w (MixP x w) := by
  obtain ⟨aa, ca, rfl⟩ := hA.shape
  obtain ⟨ab, cb, rfl⟩ := hB.shape
  have hmB : mixB x = (x.flag x.na.length && (List.range (x.na.length + 1)).all (fun i => decide (Bd 100 (x.quo i)))) := by unfold mixB; rw [h, Bool.true_and]
  unfold mixArg at h
  simp only [Bool.and_eq_true, decide_eq_true_eq] at h
  obtain ⟨⟨⟨⟨h1, h2⟩, h3⟩, h4⟩, h5⟩ := h
  obtain ⟨g1, g2, g3, g4, g5⟩ := formed_nums h1
  obtain ⟨t1, t2, t3, t4, t5⟩ := formed_nums h2
  have FA := fun W (hW : SlS W (.slice aa x.na.length ca) x.na) => isFormed_any _ x.na x.da W hW
  have FB := fun W (hW : SlS W (.slice ab x.nb.length cb) x.nb) => isFormed_any _ x.nb x.db W hW
  have P3 := lisIn_any x.p 1 1000
  have P4 := lisIn_any x.q 1 1000
  rw [show (decide (1 ≤ x.p) && decide (x.p ≤ 1000)) = true by simp [h4]] at P3
  rw [show (decide (1 ≤ x.q) && decide (x.q ≤ 1000)) = true by simp [h5]] at P4
  rw [h1] at FA
  rw [h2] at FB
  have hnum0 : x.num 0 ≠ 0 := by
    have := Int.mul_pos (Int.mul_pos (show 0 < x.p + x.q by omega) g5) t5
    show (x.p + x.q) * zS x.da * zS x.db ≠ 0
    omega
  obtain ⟨n, hn⟩ : ∃ n, n = x.na.length := ⟨_, rfl⟩
  have hn2 : n = x.nb.length := by omega
  have HA := Lib.hid hA
  have HB := Lib.hid hB
  have hok : Hid ((∀ i, i < n → okS (sAt x.na i) = true ∧ okS (sAt x.nb i) = true) ∧ okS x.da = true ∧ okS x.db = true) := Lib.hid ⟨fun i hi => ⟨(g2 i (by omega)).1, (t2 i (by omega)).1⟩, g3, t3⟩
  have hpq : Hid ((1 ≤ x.p ∧ x.p ≤ 1000) ∧ (1 ≤ x.q ∧ x.q ≤ 1000)) := Lib.hid ⟨h4, h5⟩
  have hnn : Hid (n = x.na.length ∧ n = x.nb.length ∧ n ≤ 64) := Lib.hid ⟨hn, hn2, by omega⟩
  clear hA hB h1 h2 h3 h4 h5 g1 g2 g3 g4 g5 t1 t2 t3 t4 t5
  rw [← hn] at FA HA hmB ⊢
  rw [← hn2] at FB HB ⊢
  replace FA := Lib.hid FA
  replace FB := Lib.hid FB
  replace P3 := Lib.hid P3
  replace P4 := Lib.hid P4
  replace hE := Lib.hid hE
  replace hmB := Lib.hid hmB
  replace hnum0 := Lib.hid hnum0
  replace hn := Lib.hid hn
  clear hn2
  obtain ⟨V1, e1, S1, z1⟩ := (BL.start w).add' #[.slice aa n ca, .string x.da] 30
  obtain ⟨V2, e2, S2, z2⟩ := S1.add' #[.slice ab n cb, .string x.db] 30
  obtain ⟨V3, e3, hS, z3⟩ := S2.add' #[.slice none 0 0, .string ⟨#[]⟩] 30
  rw [z2, z1] at hS
  replace hS : BL w [(w.heap.size + 2, #[.slice none 0 0, .string ⟨#[]⟩], 30), (w.heap.size + 1, #[.slice ab n cb, .string x.db], 30), (w.heap.size, #[.slice aa n ca, .string x.da], 30)] V3 := hS
  have hV : V3 = ((w.alloc (.cells #[.slice aa n ca, .string x.da] 30)).alloc (.cells #[.slice ab n cb, .string x.db] 30)).alloc (.cells #[.slice none 0 0, .string ⟨#[]⟩] 30) := by rw [e3, e2, e1]
  have zz := Lib.hid (show V3.heap.size = w.heap.size + 3 by rw [z3, z2, z1])
  clear e1 e2 e3 S1 S2 z1 z2 z3
  obtain ⟨x0, x1⟩ := hS.c2 w.heap.size _ _ _ (.tail _ (.tail _ (.head _)))
  obtain ⟨y0, y1⟩ := hS.c2 (w.heap.size + 1) _ _ _ (.tail _ (.head _))
  go_enter Tryz.func23, Tryz.ntmps23
  go_upto_region 1 with fail
  rw [← hV]
  clear hV
  go_wp2_with fail
  refine Calls.mono (FA.out _ (HA.out.below hS.below)) ?_
  rintro e w1 ⟨rfl, hb⟩
  replace hS := hS.call hb
  have hsz1 := Lib.hid hb.size
  clear x0 x1 y0 y1 hb
  obtain ⟨x0, x1⟩ := hS.c2 w.heap.size _ _ _ (.tail _ (.tail _ (.head _)))
  obtain ⟨y0, y1⟩ := hS.c2 (w.heap.size + 1) _ _ _ (.tail _ (.head _))
  go_wp2_with fail
  refine Calls.mono (FB.out _ (HB.out.below hS.below)) ?_
  rintro e w2 ⟨rfl, hb⟩
  replace hS := hS.call hb
  have hsz2 := Lib.hid hb.size
  clear x0 x1 y0 y1 hb
  obtain ⟨x0, x1⟩ := hS.c2 w.heap.size _ _ _ (.tail _ (.tail _ (.head _)))
  obtain ⟨y0, y1⟩ := hS.c2 (w.heap.size + 1) _ _ _ (.tail _ (.head _))
  go_wp2_with fail
  refine Calls.mono (P3.out _) ?_
  rintro e w3 ⟨rfl, hb⟩
  replace hS := hS.call hb
  have hsz3 := Lib.hid hb.size
  clear x0 x1 y0 y1 hb
  obtain ⟨x0, x1⟩ := hS.c2 w.heap.size _ _ _ (.tail _ (.tail _ (.head _)))
  obtain ⟨y0, y1⟩ := hS.c2 (w.heap.size + 1) _ _ _ (.tail _ (.head _))
  go_wp2_with fail
  refine Calls.mono (P4.out _) ?_
  rintro e w4 ⟨rfl, hb⟩
  replace hS := hS.call hb
  have hsz4 := Lib.hid hb.size
  clear x0 x1 y0 y1 hb
  obtain ⟨x0, x1⟩ := hS.c2 w.heap.size _ _ _ (.tail _ (.tail _ (.head _)))
  obtain ⟨y0, y1⟩ := hS.c2 (w.heap.size + 1) _ _ _ (.tail _ (.head _))
  go_upto_region 5 with fail
  clear x0 x1 y0 y1
  have hlt4 : w.heap.size + 3 ≤ w4.heap.size := by have := zz.out; have := hsz1.out; have := hsz2.out; have := hsz3.out; have := hsz4.out; omega
  obtain ⟨W5, hW5⟩ : ∃ W, W = w4.alloc (.cells #[.bool true] 4) := ⟨_, rfl⟩
  rw [← hW5]
  have hk5 : Blk W5 w4.heap.size #[.bool true] 4 := by rw [hW5]; exact Blk.new w4 #[.bool true] 4
  have hs5 : W5.heap.size = w4.heap.size + 1 := by rw [hW5, World.size_alloc]
  have ho5 : Only [] w4 W5 := by rw [hW5]; exact (Only.refl [] w4).alloc _
  have hS5 := hS.call (ho5.toBelow (Nat.le_refl _) (by simp))
  clear hW5 ho5 hS hsz1 hsz2 hsz3 hsz4 zz FA FB P3 P4
  generalize w4.heap.size = Bk at *
  have hA5 := hS5.blks _ (.tail _ (.tail _ (.head _)))
  have hB5 := hS5.blks _ (.tail _ (.head _))
  have hR5 := hS5.blks _ (.head _)
  dsimp only at hA5 hB5 hR5
  have cc : ∀ (W : World), Only [Bk] W5 W → Blk W w.heap.size #[.slice aa n ca, .string x.da] 30 ∧ Blk W (w.heap.size + 1) #[.slice ab n cb, .string x.db] 30 ∧ Blk W (w.heap.size + 2) #[.slice none 0 0, .string ⟨#[]⟩] 30 := fun W hW =>
    ⟨(hW.block _ hA5.lt (by simp; omega)).trans hA5, (hW.block _ hB5.lt (by simp; omega)).trans hB5, (hW.block _ hR5.lt (by simp; omega)).trans hR5⟩
  replace cc := Lib.hid cc
  replace hs5 := Lib.hid hs5
  replace hlt4 := Lib.hid hlt4
  have hbel5 := Lib.hid hS5.below
  clear hA5 hB5 hR5 hS5
  refine mix_r5 (p := x.p) (q := x.q) (pq := x.p + x.q) (b0 := w.heap.size) (b1 := w.heap.size + 1) (Bk := Bk) (da := x.da) (db := x.db) (w0 := w) hE (Lib.hid ⟨hbel5.out, by have := hlt4.out; omega⟩) (by have := hpq.out; exact IntWalk.i64_in _ (by omega)) (Lib.hid (by have := hpq.out; exact ⟨by unfold Fits; omega, (bd11 (by omega)).small (by decide)⟩)) (Lib.hid hok.out.2)
    (Lib.hid (fun W hW => ⟨(cc.out W hW).1.cell 1, (cc.out W hW).2.1.cell 1⟩)) (Lib.hid (by have := hs5.out; omega)) (Lib.hid hk5) (by kernel_rfl) ?_
  intro v50 v51 v52 v53 v54 v55 v56 v57 v58 v59 v60 v61 gr W6 hO6 hk6 hr6
  clear hk5
  obtain ⟨a6, b6, r6⟩ := cc.out W6 hO6
  have hbel6 := Lib.hid (hbel5.out.trans (hO6.toBelow hbel5.out.size (by intro z hz; rw [List.mem_singleton.1 hz]; have := hlt4.out; omega)))
  have hs6 := Lib.hid hO6.size
  have x0 := a6.cell 0
  replace a6 := Lib.hid a6
  replace b6 := Lib.hid b6
  replace r6 := Lib.hid r6
  replace hk6 := Lib.hid hk6
  replace hr6 := Lib.hid hr6
  clear hO6 cc
  go_wp2_with fail
  refine mix_l0 (x := x) (b0 := w.heap.size) (b1 := w.heap.size + 1) (Bk := Bk) (n := n) (base := W5.heap.size) (g0 := gr) (w0 := w) hE (Lib.hid ⟨hbel6.out, by have := hlt4.out; omega, by have := hs5.out; omega, hs6.out⟩) hpq hnn hok
    (Lib.hid ⟨⟨by have := hs5.out; have := hlt4.out; omega, by have := hlt4.out; omega, a6.out.cell 0, a6.out.cell 1⟩, ⟨by have := hs5.out; have := hlt4.out; omega, by have := hlt4.out; omega, b6.out.cell 0, b6.out.cell 1⟩⟩) HA HB hk6 hr6 (by kernel_rfl) ?_
  intro gf cf u13 u14 u15 u65 u66 u67 u68 u69 u70 u71 u72 u73 u74 u75 u76 u77 u78 u79 u80 u81 u82 u83 u84 u85 u86 u87 u88 u89 u90 u91 u92 u93 u94 u95 u96 u97 u98 u99 u100 u101 u102 u103 u104 u105 W7 hbW hk7 hr7 hs7
  have kR : Hid (Blk W7 (w.heap.size + 2) #[.slice none 0 0, .string ⟨#[]⟩] 30) := Lib.hid ((hs7.out (w.heap.size + 2) (by have := hs5.out; have := hlt4.out; omega) (by have := hlt4.out; omega)).trans r6.out : Blk W7 (w.heap.size + 2) #[.slice none 0 0, .string ⟨#[]⟩] 30)
  have hbs := Lib.hid (show w.heap.size + 3 < W5.heap.size by have := hs5.out; have := hlt4.out; omega)
  clear x0 hs7 r6 a6 b6 hs6 hbel6 hbel5 hs5 hlt4 hk6 hr6 HA HB hok hpq
  have z0 := (hk7.out.cell 0).trans (show _ = some (Value.bool (x.flag n)) from rfl)
  cases hfl : x.flag n
  case false =>
    rw [hfl] at z0
    have hbad : Hid (mixB x = false) := Lib.hid (by rw [hmB.out, hfl]; rfl)
    have f0 := kR.out.frozen 0
    have f1 := kR.out.frozen 1
    have r0 := (kR.out.cell 0).trans (show _ = some (Value.slice none 0 0) from rfl)
    have r1 := (kR.out.cell 1).trans (show _ = some (Value.string ⟨#[]⟩) from rfl)
    obtain ⟨⟨k0, k1⟩, hfin, -⟩ := vector_after kR.out (by show w.heap.size ≤ w.heap.size + 2; omega) hbW.out (.slice none 0 0) (.string ⟨#[]⟩)
    have hfin := Lib.hid (MixP.bad hbad.out hfin)
    try dsimp only at k0 k1
    clear kR hbW hbad hk7 hr7 hfl
    go_wp2
    exact bodyPost_ret (v := .tuple #[.agg #[.slice none 0 0, .string ⟨#[]⟩], .int .i64 60]) (by simp [results, Tryz.results23, go_sem, k0, k1]) rfl hfin.out
  case true =>
    rw [hfl] at z0
    obtain ⟨cs, kr, hgb, hnc, hcm, hcs⟩ := x.row_open hfl hr7.out
    have hsm : ∀ j, j < n + 1 → Small (x.num j) := fun j hj => (x.good (x.flag_le hfl (show j ≤ n by omega))).2
    clear hk7 hr7
    obtain ⟨m, hm⟩ : ∃ m, m = n + 1 := ⟨_, rfl⟩
    rw [← hm] at hnc ⊢
    have hsM := Lib.hid (x.small_m hm hsm)
    have I1 : MixI x w W7 n gf 0 cs W7 := ⟨kr, hcs, fun j hj => by omega, hbW.out, kR.out⟩
    replace I1 := Lib.hid I1
    have hgp : Hid (0 < x.gcd m) := Lib.hid (by rw [hm]; exact x.gcd_pos hnum0.out n)
    have hg2 : Hid (w.heap.size + 2 < gf) := Lib.hid (by have := hbs.out; omega)
    replace hmB : Hid (mixB x = (List.range m).all fun i => decide (Bd 100 (x.quo i))) := Lib.hid (by rw [hmB.out, hfl, hm]; rfl)
    have hqe : Hid (∀ i, x.quo i = x.num i / x.gcd m) := Lib.hid (fun i => by unfold MixA.quo; rw [hm, hn.out])
    have hI0 : Value.string ⟨#[48]⟩ = .string (I (x.gcd 0)) := by rw [show x.gcd 0 = 0 from rfl, I_zero0]
    have hm64 : m ≤ 65 := by have := hnn.out.2.2; omega
    replace hm := Lib.hid hm
    replace hI0 := Lib.hid hI0
    replace hfl := Lib.hid hfl
    clear hsm hcs kr kR hbW hbs hgb hnn hnum0
    go_wp2_with fail
    go_loopw [16, 111] (fun s o wr => ∃ i : Nat, s = .string (I (x.gcd i)) ∧ o = .int .i64 i ∧ i ≤ m ∧ Hid (Below W7.heap.size W7 wr)) (fun _ o _ => m - (intOf o).toNat)
    case atStart => exact ⟨0, hI0.out, rfl, by omega, Lib.hid (Below.refl _ _)⟩
    case round =>
      clear z0
      obtain ⟨i, rfl, rfl, hi, hB⟩ := hrel
      by_cases him : i < m
      case pos =>
        have him' : (i : Int) < m := by omega
        have hi0 : (0 : Int) ≤ i := by omega
        have y0 := ((I1.out.call hB.out).blk.cell i).trans ((I1.out.call hB.out).row i (by have := hm.out; omega))
        rw [show x.row 0 i = I (x.num i) from if_neg (by omega)] at y0
        have GC := Lib.hid (fun W (hW : Env W) => (by have := gcd_any (I (x.gcd i)) (I (x.num i)) W hW; rw [okS_I (x.gcd_small hsM.out hi), okS_I (hsM.out i him), zS_I, zS_I, Bool.and_self, show gcdZ (x.gcd i) (x.num i) = x.gcd (i + 1) from rfl, resT_small (x.gcd_small hsM.out him)] at this; exact this : Calls Tryz.prog 60 #[.string (I (x.gcd i)), .string (I (x.num i))] W (Gives W fun r _ => r = .tuple #[.string (I (x.gcd (i + 1))), .int .i64 0])))
        have hEr := Lib.hid (hE.out.below (I1.out.call hB.out).bel (Nat.le_refl _))
        generalize I (x.num i) = t1 at *
        generalize I (x.gcd i) = t2 at *
        generalize ht3 : I (x.gcd (i + 1)) = t3 at *
        replace ht3 := Lib.hid ht3
        go_wp2_with fail
        refine Calls.mono (GC.out _ hEr.out) ?_
        rintro e w9 ⟨⟨r, rfl, rfl⟩, hb⟩
        replace hB := Lib.hid (hB.out.trans (hb.mono hB.out.size))
        clear y0 GC hEr hb
        go_wp2_with fail
        go_roundw
        case rel => exact ⟨i + 1, by rw [ht3.out], by go_num, by omega, hB⟩
        case measure => simp [intOf]; omega
      case neg =>
        have him' : ¬ (i : Int) < m := by omega
        obtain rfl : i = m := by omega
        replace I1 := Lib.hid (I1.out.call hB.out)
        clear hB hi
        have hGs := Lib.hid (x.gcd_small hsM.out (Nat.le_refl _))
        go_wp2_with fail
        go_loopw [124] (fun o wr2 => ∃ (k : Nat) (ds : Array Value), o = .int .i64 k ∧ k ≤ i ∧ Hid (MixI x w W7 n gf k ds wr2)) (fun o _ => i - (intOf o).toNat)
        case atStart => exact ⟨0, cs, rfl, by omega, I1⟩
        case round =>
          clear I1 him him'
          obtain ⟨k, ds, rfl, hk, J⟩ := hrel
          by_cases hki : k < i
          case pos =>
            have hki' : (k : Int) < i := by omega
            have hk0 : (0 : Int) ≤ k := by omega
            have hkn : k ≤ n := by have := hm.out; omega
            have y0 := (J.out.blk.cell k).trans (J.out.row k hkn)
            rw [show x.row k k = I (x.num k) from if_neg (by omega)] at y0
            have hqs : Small (x.quo k) := by rw [hqe.out]; exact (div_small (hsM.out k hki)).1
            have DV := Lib.hid (fun W (hW : Env W) => (by have := div_any (I (x.num k)) (I (x.gcd i)) W hW; rw [okS_I hGs.out, okS_I (hsM.out k hki), zS_I, zS_I, Bool.and_self] at this; unfold divT at this; rw [if_pos (by have := hgp.out; simp; omega), ← hqe.out k] at this; exact this : Calls Tryz.prog 61 #[.string (I (x.num k)), .string (I (x.gcd i))] W (Gives W fun r _ => r = .tuple #[.string (I (x.quo k)), .string (I (x.num k % x.gcd i)), .int .i64 0])))
            have IN := Lib.hid (fun W => (by have := isNumber_any (I (x.quo k)) W; rw [numB_I hqs] at this; exact this : Calls Tryz.prog 62 #[.string (I (x.quo k))] W (Rets W (.bool (decide (Bd 100 (x.quo k)))))))
            have hEr := Lib.hid (hE.out.below J.out.bel (Nat.le_refl _))
            obtain ⟨tq, htq⟩ : ∃ t, t = I (x.quo k) := ⟨_, rfl⟩
            rw [← htq] at DV IN
            generalize I (x.num k) = t1 at *
            generalize ht2 : I (x.gcd i) = t2 at *
            generalize I (x.num k % x.gcd i) = t3 at *
            replace ht2 := Lib.hid ht2
            clear hqs
            go_wp2_with fail
            refine Calls.mono (DV.out _ hEr.out) ?_
            rintro e w9 ⟨⟨r, rfl, rfl⟩, hb⟩
            replace J := Lib.hid (J.out.call hb)
            clear y0 DV hEr hb
            have y0 := (J.out.blk.cell k).trans (J.out.row k hkn)
            have y1 := J.out.blk.frozen k
            obtain ⟨q1, q2, q3, q4⟩ := J.out.put hkn hg2.out
            rw [← htq] at q1 q2 q3 q4
            have q5 := (q1.cell k).trans ((q2 k hkn).trans (by rw [show x.row (k + 1) k = I (x.quo k) from if_pos (by omega), ← htq]))
            replace htq := Lib.hid htq
            replace q1 := Lib.hid q1
            replace q2 := Lib.hid q2
            replace q3 := Lib.hid q3
            replace q4 := Lib.hid q4
            go_upto_region 25 with fail
            generalize w9.setCell ⟨gf, k, none⟩ (.string tq) = W10 at *
            clear y0 y1
            go_wp2_with fail
            refine Calls.mono (IN.out _) ?_
            rintro e w11 ⟨rfl, hb⟩
            replace q1 := Lib.hid (q1.out.below hb)
            replace q3 := Lib.hid (q3.out.trans (hb.mono q3.out.size))
            replace q4 := Lib.hid (q4.out.below hb)
            clear q5 hb IN
            by_cases hbd : Bd 100 (x.quo k)
            · rw [decide_eq_true hbd]
              have J2 := Lib.hid (⟨q1.out, q2.out, fun j hj => if e : j = k then e ▸ hbd else J.out.bd j (by omega), q3.out, q4.out⟩ : MixI x w W7 n gf (k + 1) _ w11)
              clear q1 q2 q3 q4 J hbd
              go_wp2_with fail
              go_roundw
              case rel => exact ⟨k + 1, _, by go_num, by omega, J2⟩
              case measure => simp [intOf]; omega
            · rw [decide_eq_false hbd]
              have hbad : Hid (mixB x = false) := Lib.hid (by rw [hmB.out, List.all_eq_false]; exact ⟨k, List.mem_range.2 hki, by simpa using hbd⟩)
              have hbW := q3
              have kR := q4
              clear q1 q2 q3 q4 hbd J
              have f0 := kR.out.frozen 0
              have f1 := kR.out.frozen 1
              have r0 := (kR.out.cell 0).trans (show _ = some (Value.slice none 0 0) from rfl)
              have r1 := (kR.out.cell 1).trans (show _ = some (Value.string ⟨#[]⟩) from rfl)
              obtain ⟨⟨k0, k1⟩, hfin, -⟩ := vector_after kR.out (by show w.heap.size ≤ w.heap.size + 2; omega) hbW.out (.slice none 0 0) (.string ⟨#[]⟩)
              have hfin := Lib.hid (MixP.bad hbad.out hfin)
              try dsimp only at k0 k1
              clear kR hbW hbad
              go_wp2
              exact bodyPost_ret (v := .tuple #[.agg #[.slice none 0 0, .string ⟨#[]⟩], .int .i64 60]) (by simp [results, Tryz.results23, go_sem, k0, k1]) rfl hfin.out
          case neg =>
            have hki' : ¬ (k : Int) < i := by omega
            obtain rfl : k = i := by omega
            have hgood : Hid (mixB x = true) := Lib.hid (by rw [hmB.out, List.all_eq_true]; intro j hj; simpa using J.out.bd j (List.mem_range.1 hj))
            have hk1 : (1 : Int) ≤ k := by have := hm.out; omega
            have hkc : (k : Int) ≤ cf := by omega
            have y0 := (J.out.blk.cell 0).trans (J.out.row 0 (by omega))
            rw [show x.row k 0 = I (x.quo 0) from if_pos (by omega)] at y0
            have hne : gf ≠ w.heap.size + 2 := by have := hg2.out; omega
            have f0 := J.out.res.frozen 0
            have f1 := J.out.res.frozen 1
            have r0 := (J.out.res.cell 0).trans (show _ = some (Value.slice none 0 0) from rfl)
            have r1 := (J.out.res.cell 1).trans (show _ = some (Value.string ⟨#[]⟩) from rfl)
            go_upto_region 28 with fail
            clear hE hqe hm64 hsM hmB
            have hC := Lib.hid (fun (W : World) (hW : Below wr.heap.size wr W) => (hW.cell (p := ⟨gf, 0, none⟩) J.out.blk.lt).trans y0)
            have hk01 : (0 : Int) < k := by omega
            have hk02 : 0 < k := by omega
            have hk03 : 1 ≤ k := by omega
            have hk04 : 1 ≤ cf := by omega
            have hk05 : k ≤ cf := by omega
            have hk06 : (1 : Int) ≤ cf := by omega
            generalize hq0 : I (x.quo 0) = q0 at *
            replace hq0 := Lib.hid hq0
            go_region_held3 (fun w' => w'.cell? ⟨gf, 0, none⟩ = some (.string q0))
              (first | (with_reducible exact y0) | (with_reducible exact hC.out _ (below_drewN wr 1)) | (refine far_two hne ?_; first | (with_reducible exact y0) | (with_reducible exact hC.out _ (below_drewN wr 1))) | go_keep) (fail)
            obtain ⟨⟨k0, k1⟩, hfin, hon⟩ := vector_after J.out.res (by show w.heap.size ≤ w.heap.size + 2; omega) J.out.bel (.slice (if cf = 1 then some ⟨gf, 0, none⟩ else some ⟨gf, 1, none⟩) (k - 1) (cf - 1)) (.string q0)
            have hsl := J.out.slice hm.out hnc hcm hn.out hon hne
            try dsimp only at k0 k1
            generalize (if cf = 1 then some (⟨gf, 0, none⟩ : Addr) else some ⟨gf, 1, none⟩) = sa at *
            have hend := Lib.hid (MixP.good hgood.out (hfin.trans ((below_drewN _ 1).mono hfin.size)) (by rw [← hn.out]; exact hsl.below (below_drewN _ 1)))
            rw [hq0.out] at hend
            clear hfin hon hsl y0 r0 r1 f0 f1 hC J hgood
            go_wp2
            exact bodyPost_ret (v := .tuple #[.agg #[.slice sa (k - 1) (cf - 1), .string q0], .int .i64 0]) (by simp [results, Tryz.results23, go_sem, k0, k1]) rfl hend.out
end Go.Proofs.YtcmomjnailihpaaGreatDoor
