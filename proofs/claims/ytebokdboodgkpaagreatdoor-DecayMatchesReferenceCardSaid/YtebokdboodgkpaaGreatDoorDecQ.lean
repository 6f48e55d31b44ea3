/- Data that integers determine; what the laws of package decay say of straight lines (no program). -/
import Derived.Test.YtebokdboodgkpaaGreatDoorDecP
namespace Go.Proofs.YtebokdboodgkpaaGreatDoor
namespace DecM
def pk (c m : Int) : Int := (if c < 0 then -(c + 1) else c) % m
theorem pk_ge {c m : Int} (h : 0 < m) : 0 ≤ pk c m := Int.emod_nonneg _ (by omega)
theorem pk_lt {c m : Int} (h : 0 < m) : pk c m < m := Int.emod_lt_of_pos _ h
/-- A datum round the hidden line, moved by a number. -/
def mdt (first slope t a b m : Int) : Dt := ⟨t, first + slope * t / 7 - pk a 60 + m, -((-(7 * first + slope * t)) / 7) + pk b 60 + m⟩
/-- The data of some numbers, from number i on; the datum number mi is moved. -/
def mk (first slope mi m : Int) : Int → Int → List (Int × Int × Int) → List Dt
  | _, _, [] => []
  | i, t, x :: r => mdt first slope (t + 1 + pk x.1 400) x.2.1 x.2.2 (if i = mi then m else 0) :: mk first slope mi m (i + 1) (t + 1 + pk x.1 400) r
theorem mk_length (first slope mi m : Int) : ∀ (i t : Int) (r : List (Int × Int × Int)), (mk first slope mi m i t r).length = r.length
  | _, _, [] => rfl
  | i, t, x :: r => by rw [mk, List.length_cons, mk_length]; rfl
theorem slope_bd {s t : Int} (h : -70 ≤ s ∧ s ≤ 70) (h0 : 0 ≤ t) (h1 : t ≤ 3600) : -252000 ≤ s * t ∧ s * t ≤ 252000 := by
  have a1 : 0 ≤ (s + 70) * t := Int.mul_nonneg (by omega) h0
  have a2 : 0 ≤ (70 - s) * t := Int.mul_nonneg (by omega) h0
  rw [Int.add_mul] at a1
  rw [Int.sub_mul] at a2
  constructor <;> omega
theorem mdt_bd {first slope t a b m : Int} (hf : -1000 ≤ first ∧ first ≤ 1000) (hs : -70 ≤ slope ∧ slope ≤ 70) (h0 : 0 ≤ t) (h1 : t ≤ 3600) (hm : -120 ≤ m ∧ m ≤ 120) :
    -40000 ≤ (mdt first slope t a b m).lo ∧ (mdt first slope t a b m).lo ≤ (mdt first slope t a b m).hi ∧ (mdt first slope t a b m).hi ≤ 40000 := by
  have p1 := pk_ge (c := a) (show (0 : Int) < 60 by decide)
  have p2 := pk_lt (c := a) (show (0 : Int) < 60 by decide)
  have p3 := pk_ge (c := b) (show (0 : Int) < 60 by decide)
  have p4 := pk_lt (c := b) (show (0 : Int) < 60 by decide)
  have hb := slope_bd hs h0 h1
  unfold mdt
  dsimp only
  generalize slope * t = s at *
  omega
theorem mk_bd {first slope mi m : Int} (hf : -1000 ≤ first ∧ first ≤ 1000) (hs : -70 ≤ slope ∧ slope ≤ 70) (hm : -120 ≤ m ∧ m ≤ 120) : ∀ (r : List (Int × Int × Int)) (i t : Int), 0 ≤ t → t + 400 * r.length ≤ 3600 →
    (mk first slope mi m i t r).Pairwise (fun p q => p.t < q.t) ∧ ∀ p ∈ mk first slope mi m i t r, t < p.t ∧ p.t ≤ 3600 ∧ -40000 ≤ p.lo ∧ p.lo ≤ p.hi ∧ p.hi ≤ 40000
  | [], _, _, _, _ => ⟨List.Pairwise.nil, fun p hp => by cases hp⟩
  | x :: r, i, t, h0, h1 => by
    have p1 := pk_ge (c := x.1) (show (0 : Int) < 400 by decide)
    have p2 := pk_lt (c := x.1) (show (0 : Int) < 400 by decide)
    have h1' : t + 400 * (r.length + 1 : Nat) ≤ 3600 := h1
    obtain ⟨i1, i2⟩ := mk_bd (mi := mi) hf hs hm r (i + 1) (t + 1 + pk x.1 400) (by omega) (by omega)
    have hd := mdt_bd (a := x.2.1) (b := x.2.2) (m := if i = mi then m else 0) hf hs (t := t + 1 + pk x.1 400) (by omega) (by omega) (by split <;> omega)
    rw [mk]
    refine ⟨List.pairwise_cons.2 ⟨fun q hq => (i2 q hq).1, i1⟩, fun p hp => ?_⟩
    rcases List.mem_cons.1 hp with rfl | hp
    · exact ⟨show t < t + 1 + pk x.1 400 by omega, show t + 1 + pk x.1 400 ≤ 3600 by omega, hd⟩
    · have := i2 p hp; omega
theorem mk_ok {first slope mi m i : Int} (hf : -1000 ≤ first ∧ first ≤ 1000) (hs : -70 ≤ slope ∧ slope ≤ 70) (hm : -120 ≤ m ∧ m ≤ 120) {r : List (Int × Int × Int)} (hr : r.length ≤ 9) : okD (mk first slope mi m i 0 r) = true := by
  obtain ⟨h1, h2⟩ := mk_bd (mi := mi) hf hs hm r i 0 (by omega) (by omega)
  exact okD_iff.2 ⟨h1, fun p hp => by have := h2 p hp; omega, by rw [mk_length]; omega⟩
theorem mdt_fit (first slope t a b : Int) : Fit 0 (first : Rat) ((slope : Rat) / 7) (mdt first slope t a b 0) := by
  have p1 := pk_ge (c := a) (show (0 : Int) < 60 by decide)
  have p3 := pk_ge (c := b) (show (0 : Int) < 60 by decide)
  have e : (slope : Rat) / 7 * 7 = slope := div_cancel (by decide)
  have h1 : (first + slope * t / 7 - pk a 60 + 0) * 7 ≤ first * 7 + slope * t := by generalize slope * t = s; omega
  have h2 : first * 7 + slope * t ≤ (-((-(7 * first + slope * t)) / 7) + pk b 60 + 0) * 7 := by generalize slope * t = s; omega
  unfold Fit mdt
  dsimp only
  generalize first + slope * t / 7 - pk a 60 + 0 = x at *
  generalize -((-(7 * first + slope * t)) / 7) + pk b 60 + 0 = y at *
  have h1' := cast_le h1
  have h2' := cast_le h2
  simp only [Rat.intCast_mul, Rat.intCast_add] at h1' h2'
  have e7 : ((7 : Int) : Rat) = 7 := rfl
  have e0 : ((0 : Int) : Rat) = 0 := rfl
  rw [e7] at h1' h2'
  rw [e0]
  generalize (slope : Rat) / 7 = u at *
  have e3 : (slope : Rat) * t = u * t * 7 := by rw [← e]; grind
  constructor <;> grind
theorem mk_fit {first slope mi m : Int} (hm : mi < 0) : ∀ (r : List (Int × Int × Int)) (i t : Int), 0 ≤ i → FitAll 0 (first : Rat) ((slope : Rat) / 7) (mk first slope mi m i t r)
  | [], _, _, _ => fun p hp => by cases hp
  | x :: r, i, t, hi => fun p hp => by
    rw [mk, if_neg (by omega)] at hp
    rcases List.mem_cons.1 hp with rfl | hp
    · exact mdt_fit ..
    · exact mk_fit hm r (i + 1) _ (by omega) p hp

/-- Models between two days. -/
theorem FitAll.to {t s : Int} {v b : Rat} {l : List Dt} (h : FitAll t v b l) : FitAll s (v + b * ((s : Rat) - t)) b l := h.move s
theorem most_convex {l : List Dt} {s m n : Int} (h1 : s < m) (h2 : m < n) {b d q : Rat} (hs : IsMost l s b) (hm : IsMost l m d) (hn : IsMost l n q) : d * ((n : Rat) - s) ≤ b * ((n : Rat) - m) + q * ((m : Rat) - s) := by
  obtain ⟨c, hc⟩ := hm.at_
  have k1 := hs.le _ _ (hc.move s)
  have k2 := hn.le _ _ (hc.move n)
  have g1 := ratmul (rsub k1) (rsub (Rat.le_of_lt (cast_lt h2)))
  have g2 := ratmul (rsub k2) (rsub (Rat.le_of_lt (cast_lt h1)))
  grind
theorem least_convex {l : List Dt} {s m n : Int} (h1 : s < m) (h2 : m < n) {b d q : Rat} (hs : IsLeast l s b) (hm : IsLeast l m d) (hn : IsLeast l n q) : b * ((n : Rat) - m) + q * ((m : Rat) - s) ≤ d * ((n : Rat) - s) := by
  have := most_convex h1 h2 hs.ng hm.ng hn.ng
  grind
theorem wgt {a b : Rat} {m n : Int} (hm : 0 < m) (hn : 0 < n) : (a * ((m : Rat) / ((m + n : Int) : Rat)) + b * ((n : Rat) / ((m + n : Int) : Rat))) * ((m + n : Int) : Rat) = a * m + b * n := by
  have h : ((m + n : Int) : Rat) ≠ 0 := by have := cast_lt (show 0 < m + n by omega); intro e; rw [e] at this; exact absurd this (by decide)
  have e1 := div_cancel (a := (m : Rat)) h
  have e2 := div_cancel (a := (n : Rat)) h
  generalize (m : Rat) / ((m + n : Int) : Rat) = x at *
  generalize (n : Rat) / ((m + n : Int) : Rat) = y at *
  generalize ((m + n : Int) : Rat) = z at *
  grind
theorem wgt_le {a b c : Rat} {m n : Int} (hm : 0 < m) (hn : 0 < n) (h : a * m + b * n ≤ c * ((m : Rat) + n)) : a * ((m : Rat) / ((m + n : Int) : Rat)) + b * ((n : Rat) / ((m + n : Int) : Rat)) ≤ c := by
  have e := wgt (a := a) (b := b) hm hn
  have hp := cast_lt (show 0 < m + n by omega)
  have hz : ((0 : Int) : Rat) = 0 := rfl
  rw [hz] at hp
  refine Rat.not_lt.1 fun hlt => ?_
  have := Rat.mul_pos (show 0 < a * ((m : Rat) / ((m + n : Int) : Rat)) + b * ((n : Rat) / ((m + n : Int) : Rat)) - c by grind) hp
  rw [Rat.intCast_add] at *
  grind
theorem le_wgt {a b c : Rat} {m n : Int} (hm : 0 < m) (hn : 0 < n) (h : c * ((m : Rat) + n) ≤ a * m + b * n) : c ≤ a * ((m : Rat) / ((m + n : Int) : Rat)) + b * ((n : Rat) / ((m + n : Int) : Rat)) := by
  have := wgt_le (a := -a) (b := -b) (c := -c) hm hn (by grind)
  grind

/-- A straight line is added to all data. -/
def mv (a b : Int) (p : Dt) : Dt := ⟨p.t, p.lo + (a + b * p.t), p.hi + (a + b * p.t)⟩
theorem fit_mv {a b t : Int} {v c : Rat} {p : Dt} : Fit t v c p ↔ Fit t (v + ((a + b * t : Int) : Rat)) (c + b) (mv a b p) := by
  unfold Fit mv
  simp only [Rat.intCast_add, Rat.intCast_mul]
  constructor <;> rintro ⟨h1, h2⟩ <;> constructor <;> grind
theorem fitAll_mv {a b t : Int} {v c : Rat} {l : List Dt} : FitAll t v c l ↔ FitAll t (v + ((a + b * t : Int) : Rat)) (c + b) (l.map (mv a b)) := by
  constructor
  · intro h p hp
    obtain ⟨q, hq, rfl⟩ := List.mem_map.1 hp
    exact fit_mv.1 (h q hq)
  · intro h p hp
    exact (fit_mv (a := a) (b := b)).2 (h _ (List.mem_map_of_mem hp))
theorem IsMost.mv {l : List Dt} {a b t : Int} {v : Rat} (h : IsMost l t v) : IsMost (l.map (mv a b)) t (v + ((a + b * t : Int) : Rat)) := by
  refine ⟨fun u c hu => ?_, ?_⟩
  · have := h.le (u - ((a + b * t : Int) : Rat)) (c - b) ((fitAll_mv (a := a) (b := b)).2 (by
      rw [show u - ((a + b * t : Int) : Rat) + ((a + b * t : Int) : Rat) = u by grind, show c - (b : Rat) + b = c by grind]; exact hu))
    grind
  · obtain ⟨c, hc⟩ := h.at_; exact ⟨_, fitAll_mv.1 hc⟩
theorem IsLeast.mv {l : List Dt} {a b t : Int} {v : Rat} (h : IsLeast l t v) : IsLeast (l.map (mv a b)) t (v + ((a + b * t : Int) : Rat)) := by
  refine ⟨fun u c hu => ?_, ?_⟩
  · have := h.le (u - ((a + b * t : Int) : Rat)) (c - b) ((fitAll_mv (a := a) (b := b)).2 (by
      rw [show u - ((a + b * t : Int) : Rat) + ((a + b * t : Int) : Rat) = u by grind, show c - (b : Rat) + b = c by grind]; exact hu))
    grind
  · obtain ⟨c, hc⟩ := h.at_; exact ⟨_, fitAll_mv.1 hc⟩
theorem Feas.mv {l : List Dt} {a b : Int} : Feas l ↔ Feas (l.map (mv a b)) := by
  constructor
  · rintro ⟨v, c, h⟩; exact ⟨_, _, fitAll_mv.1 h⟩
  · rintro ⟨v, c, h⟩
    refine ⟨v - ((a + b * 0 : Int) : Rat), c - b, (fitAll_mv (a := a) (b := b)).2 ?_⟩
    rw [show v - ((a + b * 0 : Int) : Rat) + ((a + b * 0 : Int) : Rat) = v by grind, show c - (b : Rat) + b = c by grind]; exact h
theorem Two.map {l : List Dt} {f : Dt → Dt} (hf : ∀ p, (f p).t = p.t) : Two l ↔ Two (l.map f) := by
  constructor
  · rintro ⟨p, hp, q, hq, h⟩; exact ⟨_, List.mem_map_of_mem hp, _, List.mem_map_of_mem hq, by rw [hf, hf]; exact h⟩
  · rintro ⟨p, hp, q, hq, h⟩
    obtain ⟨p', hp', rfl⟩ := List.mem_map.1 hp
    obtain ⟨q', hq', rfl⟩ := List.mem_map.1 hq
    rw [hf, hf] at h
    exact ⟨p', hp', q', hq', h⟩
theorem okD_map {l : List Dt} {f : Dt → Dt} (h : okD l = true) (hf : ∀ p ∈ l, (f p).t = p.t ∧ -1000000 ≤ (f p).lo ∧ (f p).lo ≤ (f p).hi ∧ (f p).hi ≤ 1000000) : okD (l.map f) = true := by
  obtain ⟨h1, h2, h3⟩ := okD_iff.1 h
  refine okD_iff.2 ⟨?_, fun p hp => ?_, by rw [List.length_map]; exact h3⟩
  · rw [List.pairwise_map]
    exact h1.imp_of_mem (fun {a b} ha hb hab => by rw [(hf a ha).1, (hf b hb).1]; exact hab)
  · obtain ⟨q, hq, rfl⟩ := List.mem_map.1 hp
    have e1 := hf q hq
    have e2 := h2 q hq
    exact ⟨by omega, by omega, e1.2⟩
theorem okD_ng {l : List Dt} (h : okD l = true) : okD (l.map ng) = true := okD_map h (fun p hp => by have := (okD_iff.1 h).2.1 p hp; unfold ng; exact ⟨rfl, by dsimp only; omega, by dsimp only; omega, by dsimp only; omega⟩)
/-- Forecasts of moved data, and of the opposite. -/
theorem fcst_mv {l : List Dt} {a b t : Int} (h : okD l = true) (h' : okD (l.map (mv a b)) = true) : fcst (l.map (mv a b)) t = (fcst l t).map fun x => (x.1 + ((a + b * t : Int) : Rat), x.2 + ((a + b * t : Int) : Rat)) := by
  cases ht : inDay t with
  | false => rw [fcst_bad (by rw [ht, Bool.and_false]), fcst_bad (by rw [ht, Bool.and_false])]; rfl
  | true =>
    cases c : fcst l t with
    | none =>
      rw [fcst_none h ht] at c
      exact (fcst_none h' ht).2 (fun hc => c ⟨(Two.map (f := DecM.mv a b) (fun _ => rfl)).2 hc.1, Feas.mv.2 hc.2⟩)
    | some x =>
      obtain ⟨_, _, h1, h2⟩ := fcst_some c
      exact fcst_eq h' ht ((Two.map (f := DecM.mv a b) (fun _ => rfl)).1 (fcst_two c).1) h1.mv h2.mv
theorem fcst_ng {l : List Dt} {t : Int} (h : okD l = true) : fcst (l.map ng) t = (fcst l t).map fun x => (-x.2, -x.1) := by
  cases ht : inDay t with
  | false => rw [fcst_bad (by rw [ht, Bool.and_false]), fcst_bad (by rw [ht, Bool.and_false])]; rfl
  | true =>
    cases c : fcst l t with
    | none =>
      rw [fcst_none h ht] at c
      refine (fcst_none (okD_ng h) ht).2 (fun hc => c ⟨(Two.map (f := ng) (fun _ => rfl)).2 hc.1, ?_⟩)
      have := hc.2.ng
      rw [List.map_map, show ng ∘ ng = id from funext ng_ng, List.map_id] at this
      exact this
    | some x =>
      obtain ⟨_, _, h1, h2⟩ := fcst_some c
      refine fcst_eq (okD_ng h) ht (fcst_two c).1.ng ?_ h1.ng
      refine IsMost.ng ?_
      rw [List.map_map, show ng ∘ ng = id from funext ng_ng, List.map_id]; exact h2

/-- Forecasts of two days, and the rates. -/
theorem least_step {l : List Dt} {t n : Int} (hn : 0 ≤ n) {a c r u : Rat} (ha : IsLeast l t a) (hc : IsLeast l (t + n) c) (hr : IsLow l r) (hu : IsRate l u) : r * n ≤ c - a ∧ c - a ≤ u * n := by
  have hn' : (0 : Rat) ≤ n := cast_le hn
  obtain ⟨x, hx⟩ := ha.at_
  obtain ⟨y, hy⟩ := hc.at_
  have k1 := hc.le _ _ (hx.move (t + n))
  have k2 := ha.le _ _ (hy.move t)
  have r1 := hr.le _ _ (hy.move 0)
  have r2 := hu.le _ _ (hx.move 0)
  have g1 := ratmul (rsub r1) hn'
  have g2 := ratmul (rsub r2) hn'
  rw [Rat.intCast_add] at k1 k2
  constructor <;> grind
theorem most_step {l : List Dt} {t n : Int} (hn : 0 ≤ n) {a c r u : Rat} (ha : IsMost l t a) (hc : IsMost l (t + n) c) (hr : IsLow l r) (hu : IsRate l u) : r * n ≤ c - a ∧ c - a ≤ u * n := by
  have hn' : (0 : Rat) ≤ n := cast_le hn
  obtain ⟨x, hx⟩ := ha.at_
  obtain ⟨y, hy⟩ := hc.at_
  have k1 := hc.le _ _ (hx.move (t + n))
  have k2 := ha.le _ _ (hy.move t)
  have r1 := hr.le _ _ (hx.move 0)
  have r2 := hu.le _ _ (hy.move 0)
  have g1 := ratmul (rsub r1) hn'
  have g2 := ratmul (rsub r2) hn'
  rw [Rat.intCast_add] at k1 k2
  constructor <;> grind

/-- A further datum, in its place. -/
def ins (d : Dt) : List Dt → List Dt
  | [] => [d]
  | p :: l => if d.t < p.t then d :: p :: l else p :: ins d l
theorem mem_ins {d x : Dt} : ∀ {l : List Dt}, x ∈ ins d l ↔ x = d ∨ x ∈ l
  | [] => by simp [ins]
  | p :: l => by
    rw [ins]
    split
    · simp
    · rw [List.mem_cons, mem_ins, List.mem_cons]
      constructor
      · rintro (h | h | h)
        · exact .inr (.inl h)
        · exact .inl h
        · exact .inr (.inr h)
      · rintro (h | h | h)
        · exact .inr (.inl h)
        · exact .inl h
        · exact .inr (.inr h)
theorem ins_length (d : Dt) : ∀ l : List Dt, (ins d l).length = l.length + 1
  | [] => rfl
  | p :: l => by rw [ins]; split <;> simp [ins_length d l]
theorem ins_asc {d : Dt} : ∀ {l : List Dt}, l.Pairwise (fun p q => p.t < q.t) → (∀ p ∈ l, p.t ≠ d.t) → (ins d l).Pairwise (fun p q => p.t < q.t)
  | [], _, _ => by simp [ins]
  | p :: l, h, hn => by
    obtain ⟨h1, h2⟩ := List.pairwise_cons.1 h
    rw [ins]
    split
    · rename_i hlt
      exact List.pairwise_cons.2 ⟨fun q hq => by
        rcases List.mem_cons.1 hq with rfl | hq
        · exact hlt
        · have := h1 q hq; omega, h⟩
    · rename_i hlt
      refine List.pairwise_cons.2 ⟨fun q hq => ?_, ins_asc h2 (fun q hq => hn q (List.mem_cons_of_mem _ hq))⟩
      rcases mem_ins.1 hq with rfl | hq
      · have := hn p List.mem_cons_self; omega
      · exact h1 q hq
theorem okD_ins {d : Dt} {l : List Dt} (h : okD l = true) (hl : l.length ≤ 15) (hn : ∀ p ∈ l, p.t ≠ d.t) (hd : 0 ≤ d.t ∧ d.t ≤ 800000 ∧ -1000000 ≤ d.lo ∧ d.lo ≤ d.hi ∧ d.hi ≤ 1000000) : okD (ins d l) = true := by
  obtain ⟨h1, h2, _⟩ := okD_iff.1 h
  refine okD_iff.2 ⟨ins_asc h1 hn, fun p hp => ?_, by rw [ins_length]; omega⟩
  rcases mem_ins.1 hp with rfl | hp
  · exact hd
  · exact h2 p hp
theorem fitAll_ins {d : Dt} {l : List Dt} {t : Int} {v b : Rat} : FitAll t v b (ins d l) ↔ Fit t v b d ∧ FitAll t v b l := by
  constructor
  · exact fun h => ⟨h d (mem_ins.2 (.inl rfl)), fun p hp => h p (mem_ins.2 (.inr hp))⟩
  · rintro ⟨h1, h2⟩ p hp
    rcases mem_ins.1 hp with rfl | hp
    · exact h1
    · exact h2 p hp
theorem Two.ins {d : Dt} {l : List Dt} (h : Two l) : Two (ins d l) := by
  obtain ⟨p, hp, q, hq, hlt⟩ := h
  exact ⟨p, mem_ins.2 (.inr hp), q, mem_ins.2 (.inr hq), hlt⟩
theorem fit_at {d : Dt} {v b : Rat} : Fit d.t v b d ↔ (d.lo : Rat) ≤ v ∧ v ≤ d.hi := by
  unfold Fit
  rw [show (d.t : Rat) - d.t = 0 by grind, Rat.mul_zero, Rat.add_zero]
/-- Every value between the least and the greatest one is that of a model. -/
theorem between {l : List Dt} (hg : Good l) {t : Int} {a b v : Rat} (ha : IsLeast l t a) (hb : IsMost l t b) (h1 : a ≤ v) (h2 : v ≤ b) : ∃ c, FitAll t v c l := by
  obtain ⟨x, hx⟩ := ha.at_
  obtain ⟨y, hy⟩ := hb.at_
  refine line_any hg (fun p hp q hq hlt => ?_) (fun p hp e => ?_)
  · have p1 := (hx.pairs p hp q hq hlt).2
    have p2 := (hy.pairs p hp q hq hlt).1
    have g1 := ratmul (rsub h1) (Rat.le_of_lt (pair_cast hlt))
    have g2 := ratmul (rsub h2) (Rat.le_of_lt (pair_cast hlt))
    constructor <;> grind
  · have f1 := hx p hp
    have f2 := hy p hp
    subst e
    rw [fit_at] at f1 f2
    exact ⟨Rat.le_trans f1.1 h1, Rat.le_trans h2 f2.2⟩
theorem feas_ins {l : List Dt} (hg : Good l) {d : Dt} {a b : Rat} (ha : IsLeast l d.t a) (hb : IsMost l d.t b) (hd : d.lo ≤ d.hi) : Feas (ins d l) ↔ a ≤ (d.hi : Rat) ∧ (d.lo : Rat) ≤ b := by
  constructor
  · rintro ⟨v, c, h⟩
    have h' := h.move d.t
    obtain ⟨h1, h2⟩ := fitAll_ins.1 h'
    rw [fit_at] at h1
    exact ⟨Rat.le_trans (ha.le _ _ h2) h1.2, Rat.le_trans h1.1 (hb.le _ _ h2)⟩
  · rintro ⟨h1, h2⟩
    have hab : a ≤ b := by obtain ⟨c, hc⟩ := ha.at_; exact hb.le _ _ hc
    have key : ∃ v : Rat, a ≤ v ∧ v ≤ b ∧ (d.lo : Rat) ≤ v ∧ v ≤ d.hi := by
      by_cases h : a ≤ (d.lo : Rat)
      · exact ⟨d.lo, h, h2, Rat.le_refl, cast_le hd⟩
      · exact ⟨a, Rat.le_refl, hab, Rat.le_of_lt (Rat.not_le.1 h), h1⟩
    obtain ⟨v, v1, v2, v3, v4⟩ := key
    obtain ⟨c, hc⟩ := between hg ha hb v1 v2
    exact FitAll.feas (fitAll_ins.2 ⟨fit_at.2 ⟨v3, v4⟩, hc⟩)
theorem narrower {l : List Dt} {d : Dt} {t : Int} {a b p q : Rat} (ha : IsLeast l t a) (hb : IsMost l t b) (hp : IsLeast (ins d l) t p) (hq : IsMost (ins d l) t q) : a ≤ p ∧ q ≤ b := by
  obtain ⟨x, hx⟩ := hp.at_
  obtain ⟨y, hy⟩ := hq.at_
  exact ⟨ha.le _ _ (fitAll_ins.1 hx).2, hb.le _ _ (fitAll_ins.1 hy).2⟩
theorem same_ins {l : List Dt} {d : Dt} {t : Int} {x y a b : Rat} (hx : IsLeast l d.t x) (hy : IsMost l d.t y) (h1 : (d.lo : Rat) ≤ x) (h2 : y ≤ d.hi) (ha : IsLeast l t a) (hb : IsMost l t b) : IsLeast (ins d l) t a ∧ IsMost (ins d l) t b := by
  have key : ∀ v c, FitAll t v c l → FitAll t v c (ins d l) := fun v c h => by
    refine fitAll_ins.2 ⟨?_, h⟩
    have h' := h.move d.t
    have e := (fit_move t d.t v c d).2 (fit_at.2 ⟨Rat.le_trans h1 (hx.le _ _ h'), Rat.le_trans (hy.le _ _ h') h2⟩)
    exact e
  refine ⟨⟨fun u c hu => ha.le _ _ (fitAll_ins.1 hu).2, ?_⟩, ⟨fun u c hu => hb.le _ _ (fitAll_ins.1 hu).2, ?_⟩⟩
  · obtain ⟨c, hc⟩ := ha.at_; exact ⟨c, key _ _ hc⟩
  · obtain ⟨c, hc⟩ := hb.at_; exact ⟨c, key _ _ hc⟩
end DecM
end Go.Proofs.YtebokdboodgkpaaGreatDoor
