/- LcR, SvA -/
import Derived.Test.YtcmomjnailihpaaGreatDoorULwT
import Derived.Laws.IdiomCopy
set_option maxHeartbeats 8000000
set_option maxRecDepth 100000
namespace Go.Proofs.YtcmomjnailihpaaGreatDoor
section
open Go.RowKit
attribute [local go_sem] Oper.semAt_some
theorem Fa (w:World) {o:Oper} {a:Act} {K:Act→World→Prop} {Q:Exit→Act→World→Prop} (d s:Operand) (t t':TypeId)
  (ho:o.op=.call { callee:=.builtin .copy,args:=#[d,s],argTypes:=#[t,t'] }) (v u:Value) (hd:a.eval d=v) (hs:a.eval s=u) {v':Value} {w':World}
  (hr:(Builtin.copy_ #[t,t'] o.type #[v,u]).run Tryz.prog w=.ok v' w') (h:K (a.put o.dst v') w'):o.wp Tryz.prog a w K Q:=by
 unfold Oper.wp execOp
 simp only [ho,resolve,invoke,builtin,Sem.run_bind,Sem.run_pure,Result.andThen_ok,List.map_toArray,List.map_cons,List.map_nil,hd,hs,hr]
 exact h
theorem Fb (w:World) {ops:Array Oper} {rest:List Oper} {o:Oper} {a:Act} {Q:Exit→Act→World→Prop} (hgd:o.guard=none) (d s:Operand) (t t':TypeId)
  (ho:o.op=.call { callee:=.builtin .copy,args:=#[d,s],argTypes:=#[t,t'] }) (v u:Value) (hd:a.eval d=v) (hs:a.eval s=u) {v':Value} {w':World}
  (hr:(Builtin.copy_ #[t,t'] o.type #[v,u]).run Tryz.prog w=.ok v' w') (h:wpList Tryz.prog ops Q rest (a.put o.dst v') w'):wpList Tryz.prog ops Q (o :: rest) a w :=
 wpList_plain hgd fun _ hK=>Fa w d s t t' ho v u hd hs hr (hK _ _ h)
theorem Ig:(Tryz.prog.info? 9).map (·.size)=some 1:=by kernel_rfl
structure RepAt (W:World) (B n c:Nat) (x:ByteArray):Prop where
 lt:B<W.heap.size
 cell:∀ j,j<n→W.cell? ⟨B,j,none⟩=some (.string (if j<c then x else ⟨#[]⟩))∧W.frozen? ⟨B,j,none⟩=false
theorem RepAt.below {W W':World} {B n c:Nat} {x:ByteArray} (h:RepAt W B n c x) (hb:Below W.heap.size W W'):RepAt W' B n c x :=
 ⟨A9 h.lt hb.size,fun j hj=>⟨(hb.cell (p:=⟨_,_,none⟩) h.lt).trans (h.cell j hj).1,(AF (hb.block B h.lt) j).trans (h.cell j hj).2⟩⟩
theorem GN (w:World) (n:Nat) (hn:n≤1000000):∃ w',(Instr.makeSlice 28 (.int .i64 (n:Int)) (.int .i64 (n:Int))).run Tryz.prog w=.ok (.slice (some ⟨w.heap.size,0,none⟩) n n) w' ∧
  (∀ x,RepAt w' w.heap.size n 0 x)∧Below w.heap.size w w':=by
 obtain ⟨i0,hi,hz0,hz1,hz2⟩:=info_parts CY
 obtain ⟨w',hrun,r1,r2⟩:=run_make_full (P:=Tryz.prog) w w.heap.size 28 9 i0 (.string ⟨#[]⟩) 1 Tryz.underlying28 hi hz0 hz1 .i64 .i64 n (by rw [hz2];omega) (by unfold maxLen;omega) (Aa _)
 obtain ⟨cs,hcs⟩:∃ cs:Array Value,w'.heap[w.heap.size]? = some (.cells cs 9 (0,0)):=by
  rcases r1.2 with ⟨e,_⟩ | ⟨g,cap,cur,e,hb,hg,_⟩
  ·cases e
  ·cases e;exact ⟨cur,hg⟩
 refine ⟨w',hrun,fun x=>⟨(Array.getElem?_eq_some_iff.1 hcs).1,fun j hj=>⟨?_,by simp [World.frozen?,hcs]⟩⟩,(Below.refl _ _).grown r2 (Aa _) (fun k e=>by cases e)⟩
 have:=r1.cells (g:=w.heap.size) rfl j (.string ⟨#[]⟩) (by
  show (madeCells #[Value.string ⟨#[]⟩] (n*1)).toList[j]? = _
  rw [Array.getElem?_toList]
  unfold madeCells
  rw [Array.getElem?_map,Array.getElem?_range,if_pos (by omega)]
  show some (#[Value.string ⟨#[]⟩][j % 1]!)=_
  rw [Nat.mod_one];rfl)
 rwa [AE,Nat.zero_add] at this
theorem RepAt.copy {W:World} {B n c d:Nat} {x:ByteArray} (h:RepAt W B n c x) (hd:c+d≤n):RepAt (W.setCells B c (List.replicate d (.string x))) B n (c+d) x:=by
 have ho:=Ag (B:=B) (List.replicate d (Value.string x)) c W
 refine ⟨A9 h.lt ho.size,fun j hj=>⟨?_,(World.frozen?_setCells _ _ _ _ _).trans (h.cell j hj).2⟩⟩
 by_cases h1:c≤j∧j<c+d
 ·have:=World.cell?_setCells_in B (List.replicate d (Value.string x)) c W (fun i hi=>by
   rw [List.length_replicate] at hi
   rw [(h.cell (c+i) (by omega)).1];rfl) (j-c) (by rw [List.length_replicate];omega)
  rw [show c+(j-c)=j by omega] at this
  rw [this,if_pos (by omega)];simp
 ·rw [World.cell?_setCells_out B _ c W ⟨B,j,none⟩ (fun _ _=>by rw [List.length_replicate];show j<c∨c+d≤j;omega),(h.cell j hj).1]
  by_cases h2:j<c
  ·rw [if_pos h2,if_pos (by omega)]
  ·rw [if_neg h2,if_neg (by omega)]
theorem DL (W:World) (B n c k:Nat) (x:ByteArray) (ty:TypeId) (h:RepAt W B n c x) (b o sl sc:Nat) (hk:k=Nat.min sl (n-c)) (hsrc:∀ j,j<k→W.cell? ⟨b,o+j,none⟩=some (.string x)) (dc:Nat) (hcn:c+k≤n) :
  (Builtin.copy_ #[28,28] ty #[.slice (some ⟨B,c,none⟩) (n-c) dc,.slice (some ⟨b,o,none⟩) sl sc]).run Tryz.prog W=.ok (goInt k) (W.setCells B c (List.replicate k (.string x))):=by
 have:=run_copy_cells (P:=Tryz.prog) W 28 28 ty 9 B c (n-c) dc ⟨b,o,none⟩ sl sc (List.replicate k (.string x)) Tryz.underlying28 Ig (by rw [List.length_replicate];exact hk) (fun j v hj=>by
   have hjk:j<k:=by have:=(List.getElem?_eq_some_iff.1 hj).1;rwa [List.length_replicate] at this
   rw [AE,hsrc j hjk,←hj];simp [hjk]) (fun j hj=>by
   rw [List.length_replicate] at hj;rw [(h.cell (c+j) (by omega)).1];rfl) (fun j hj=>by
   rw [List.length_replicate] at hj;exact (h.cell (c+j) (by omega)).2) (fun v hv=>by rw [List.eq_of_mem_replicate hv];rfl)
 rwa [List.length_replicate] at this
theorem rep_r9 {Q:Exit→Act→World→Prop} {u0 u1 u2 u3 u4 u5 u6 u9 u10 u11 u12 u13 u14 u15 u16 u17 u18 u19 u20 u21 u22 u23 u24 u25 u26 u27 u28 u29 u30 u31 u32 u33 u34 u35 u36 u37 u38 u39 u40 u41 u42 u43 u44 u45 u46 u47:Value} {B n c k:Nat} {x:ByteArray} {base:Nat} {wb w:World} (hcn:(c:Int)<n) (hc0:(0:Int)≤c) (hk:Hid (k=Nat.min c (n-c)∧k≤c∧c+k≤n)) (hn1:n≤100000) (hbase:base≤B) (hbw:Below base wb w) (hbs:base≤w.heap.size) (hR:Hid (RepAt w B n c x)) {ops:Array Oper} (ho:getOps Tryz.f41.body 9=some ops)
  (hQ:∀ (v38 v39 v40 v41 v42 v43 v44 v45 v46:Value)  (W':World),(Below base wb W'∧base≤W'.heap.size)→RepAt W' B n (c+k) x→Q .normal { tmps:=List.toArray (u0::u1::u2::u3::u4::u5::u6::.slice (some ⟨B,0,none⟩) n n::.int .i64 ((c+k:Nat):Int)::u9::u10::u11::u12::u13::u14::u15::u16::u17::u18::u19::u20::u21::u22::u23::u24::u25::u26::u27::u28::u29::u30::u31::u32::u33::u34::u35::u36::u37::v38::v39::v40::v41::v42::v43::v44::v45::v46::u47::[]),defers:=[] } W') :
  (Code.region 9 ops true).wp Tryz.prog Q { tmps:=List.toArray (u0::u1::u2::u3::u4::u5::u6::.slice (some ⟨B,0,none⟩) n n::.int .i64 c::u9::u10::u11::u12::u13::u14::u15::u16::u17::u18::u19::u20::u21::u22::u23::u24::u25::u26::u27::u28::u29::u30::u31::u32::u33::u34::u35::u36::u37::u38::u39::u40::u41::u42::u43::u44::u45::u46::u47::[]),defers:=[] } w:=by
 obtain rfl:=Option.some.inj (ho.symm.trans (rfl:getOps Tryz.f41.body 9=some _))
 clear ho
 replace hQ:=A8 hQ
 obtain ⟨I,hI⟩:∃ I:(Nat→Bool)→Act→World→Prop,∀ l a W,I l a W↔(∃ s38 s39 s40 s41 s42 s43 s44 s45 s46 s8:Value,a={ tmps:=List.toArray (u0::u1::u2::u3::u4::u5::u6::.slice (some ⟨B,0,none⟩) n n::s8::u9::u10::u11::u12::u13::u14::u15::u16::u17::u18::u19::u20::u21::u22::u23::u24::u25::u26::u27::u28::u29::u30::u31::u32::u33::u34::u35::u36::u37::s38::s39::s40::s41::s42::s43::s44::s45::s46::u47::[]),defers:=[] }∧(Below base wb W∧base≤W.heap.size)∧(l 0=true→.int .i64 c=s38)∧(l 1=true→.slice (some ⟨B,0,none⟩) n n=s39)∧(l 2=true→.int .i64 c=s40)∧(l 3=true→.slice (some ⟨B,c,none⟩) (n-c) (n-c)=s41)∧(l 4=true→.slice (some ⟨B,0,none⟩) n n=s42)∧(l 5=true→.int .i64 c=s43)∧(l 6=true→.slice (some ⟨B,0,none⟩) c n=s44)∧(l 7=true→s45=.int .i64 k)∧(l 8=true→.int .i64 ((c+k:Nat):Int)=s46)∧(l 9=true→.int .i64 ((c+k:Nat):Int)=s8)∧((l 7=false→RepAt W B n c x)∧(l 7=true→RepAt W B n (c+k) x))∧((l 9=false→Value.int .i64 c=s8))):=⟨_,fun _ _ _=>Iff.rfl⟩
 refine Ak I (by kernel_rfl) (by kernel_rfl) ((hI _ _ _).2 ⟨_,_,_,_,_,_,_,_,_,_,rfl,⟨hbw.trans (Ac w 1 |>.mono hbs),hbs⟩,fun h=>off h,fun h=>off h,fun h=>off h,fun h=>off h,fun h=>off h,fun h=>off h,fun h=>off h,fun h=>off h,fun h=>off h,fun h=>off h,⟨fun _=>hR.out.below (Ac w 1),fun h=>off h⟩,fun _=>rfl⟩) (Ab (k:=0) ?_ (Ab (k:=1) ?_ (Ab (k:=2) ?_ (Ab (k:=3) ?_ (Ab (k:=4) ?_ (Ab (k:=5) ?_ (Ab (k:=6) ?_ (Ab (k:=7) ?_ (Ab (k:=8) ?_ (Ab (k:=9) ?_ (Af))))))))))) ?_
 ·intro l a W hl hw hsh hI' K hK
  rw [hI] at hI'
  obtain ⟨s38,hI'⟩:=hI'
  obtain ⟨s39,hI'⟩:=hI'
  obtain ⟨s40,hI'⟩:=hI'
  obtain ⟨s41,hI'⟩:=hI'
  obtain ⟨s42,hI'⟩:=hI'
  obtain ⟨s43,hI'⟩:=hI'
  obtain ⟨s44,hI'⟩:=hI'
  obtain ⟨s45,hI'⟩:=hI'
  obtain ⟨s46,hI'⟩:=hI'
  obtain ⟨s8,hI'⟩:=hI'
  obtain ⟨ha,hI'⟩:=hI'
  subst ha
  have hC:=hI'.1
  replace hI':=hI'.2
  have f0:=hI'.1
  replace hI':=hI'.2
  have f1:=hI'.1
  replace hI':=hI'.2
  have f2:=hI'.1
  replace hI':=hI'.2
  have f3:=hI'.1
  replace hI':=hI'.2
  have f4:=hI'.1
  replace hI':=hI'.2
  have f5:=hI'.1
  replace hI':=hI'.2
  have f6:=hI'.1
  replace hI':=hI'.2
  have f7:=hI'.1
  replace hI':=hI'.2
  have f8:=hI'.1
  replace hI':=hI'.2
  have f9:=hI'.1
  replace hI':=hI'.2
  have g:=hI'.1
  replace hI':=hI'.2
  have z:=hI'
  clear hI'
  have hst:l 9=false:=by
   cases hc:l 9 with
   | false=>rfl
   | true=>exact absurd (hsh 8 0 _ rfl (hsh 9 8 _ rfl (hc) (by kernel_rfl)) (by kernel_rfl)) (by simp [hl])
  have e8:=z hst
  subst e8
  go_simp
  refine hK.out _ _ ((hI _ _ _).2 ⟨_,_,_,_,_,_,_,_,_,_,rfl,hC,fun _=>rfl,f1,f2,f3,f4,f5,f6,f7,f8,f9,g,z⟩)
 ·intro l a W hl hw hsh hI' K hK
  rw [hI] at hI'
  obtain ⟨s38,hI'⟩:=hI'
  obtain ⟨s39,hI'⟩:=hI'
  obtain ⟨s40,hI'⟩:=hI'
  obtain ⟨s41,hI'⟩:=hI'
  obtain ⟨s42,hI'⟩:=hI'
  obtain ⟨s43,hI'⟩:=hI'
  obtain ⟨s44,hI'⟩:=hI'
  obtain ⟨s45,hI'⟩:=hI'
  obtain ⟨s46,hI'⟩:=hI'
  obtain ⟨s8,hI'⟩:=hI'
  obtain ⟨ha,hI'⟩:=hI'
  subst ha
  have hC:=hI'.1
  replace hI':=hI'.2
  have f0:=hI'.1
  replace hI':=hI'.2
  have f1:=hI'.1
  replace hI':=hI'.2
  have f2:=hI'.1
  replace hI':=hI'.2
  have f3:=hI'.1
  replace hI':=hI'.2
  have f4:=hI'.1
  replace hI':=hI'.2
  have f5:=hI'.1
  replace hI':=hI'.2
  have f6:=hI'.1
  replace hI':=hI'.2
  have f7:=hI'.1
  replace hI':=hI'.2
  have f8:=hI'.1
  replace hI':=hI'.2
  have f9:=hI'.1
  replace hI':=hI'.2
  have g:=hI'.1
  replace hI':=hI'.2
  have z:=hI'
  clear hI'
  go_simp
  refine hK.out _ _ ((hI _ _ _).2 ⟨_,_,_,_,_,_,_,_,_,_,rfl,hC,f0,fun _=>rfl,f2,f3,f4,f5,f6,f7,f8,f9,g,z⟩)
 ·intro l a W hl hw hsh hI' K hK
  rw [hI] at hI'
  obtain ⟨s38,hI'⟩:=hI'
  obtain ⟨s39,hI'⟩:=hI'
  obtain ⟨s40,hI'⟩:=hI'
  obtain ⟨s41,hI'⟩:=hI'
  obtain ⟨s42,hI'⟩:=hI'
  obtain ⟨s43,hI'⟩:=hI'
  obtain ⟨s44,hI'⟩:=hI'
  obtain ⟨s45,hI'⟩:=hI'
  obtain ⟨s46,hI'⟩:=hI'
  obtain ⟨s8,hI'⟩:=hI'
  obtain ⟨ha,hI'⟩:=hI'
  subst ha
  have hC:=hI'.1
  replace hI':=hI'.2
  have f0:=hI'.1
  replace hI':=hI'.2
  have f1:=hI'.1
  replace hI':=hI'.2
  have f2:=hI'.1
  replace hI':=hI'.2
  have f3:=hI'.1
  replace hI':=hI'.2
  have f4:=hI'.1
  replace hI':=hI'.2
  have f5:=hI'.1
  replace hI':=hI'.2
  have f6:=hI'.1
  replace hI':=hI'.2
  have f7:=hI'.1
  replace hI':=hI'.2
  have f8:=hI'.1
  replace hI':=hI'.2
  have f9:=hI'.1
  replace hI':=hI'.2
  have g:=hI'.1
  replace hI':=hI'.2
  have z:=hI'
  clear hI'
  have hst:l 9=false:=by
   cases hc:l 9 with
   | false=>rfl
   | true=>exact absurd (hsh 3 2 _ rfl (hsh 7 3 _ rfl (hsh 8 7 _ rfl (hsh 9 8 _ rfl (hc) (by kernel_rfl)) (by kernel_rfl)) (by kernel_rfl)) (by kernel_rfl)) (by simp [hl])
  have e8:=z hst
  subst e8
  go_simp
  refine hK.out _ _ ((hI _ _ _).2 ⟨_,_,_,_,_,_,_,_,_,_,rfl,hC,f0,f1,fun _=>rfl,f3,f4,f5,f6,f7,f8,f9,g,z⟩)
 ·intro l a W hl hw hsh hI' K hK
  rw [hI] at hI'
  obtain ⟨s38,hI'⟩:=hI'
  obtain ⟨s39,hI'⟩:=hI'
  obtain ⟨s40,hI'⟩:=hI'
  obtain ⟨s41,hI'⟩:=hI'
  obtain ⟨s42,hI'⟩:=hI'
  obtain ⟨s43,hI'⟩:=hI'
  obtain ⟨s44,hI'⟩:=hI'
  obtain ⟨s45,hI'⟩:=hI'
  obtain ⟨s46,hI'⟩:=hI'
  obtain ⟨s8,hI'⟩:=hI'
  obtain ⟨ha,hI'⟩:=hI'
  subst ha
  have hC:=hI'.1
  replace hI':=hI'.2
  have f0:=hI'.1
  replace hI':=hI'.2
  have f1:=hI'.1
  replace hI':=hI'.2
  have f2:=hI'.1
  replace hI':=hI'.2
  have f3:=hI'.1
  replace hI':=hI'.2
  have f4:=hI'.1
  replace hI':=hI'.2
  have f5:=hI'.1
  replace hI':=hI'.2
  have f6:=hI'.1
  replace hI':=hI'.2
  have f7:=hI'.1
  replace hI':=hI'.2
  have f8:=hI'.1
  replace hI':=hI'.2
  have f9:=hI'.1
  replace hI':=hI'.2
  have g:=hI'.1
  replace hI':=hI'.2
  have z:=hI'
  clear hI'
  obtain rfl:=f1 (hw 1 (by kernel_rfl))
  obtain rfl:=f2 (hw 2 (by kernel_rfl))
  have l3:¬ n=c:=by omega
  have l1:(c:Int)≤n:=by omega
  have l2:c≤n:=by omega
  go_simp
  refine hK.out _ _ ((hI _ _ _).2 ⟨_,_,_,_,_,_,_,_,_,_,rfl,hC,f0,f1,f2,fun _=>rfl,f4,f5,f6,f7,f8,f9,g,z⟩)
 ·intro l a W hl hw hsh hI' K hK
  rw [hI] at hI'
  obtain ⟨s38,hI'⟩:=hI'
  obtain ⟨s39,hI'⟩:=hI'
  obtain ⟨s40,hI'⟩:=hI'
  obtain ⟨s41,hI'⟩:=hI'
  obtain ⟨s42,hI'⟩:=hI'
  obtain ⟨s43,hI'⟩:=hI'
  obtain ⟨s44,hI'⟩:=hI'
  obtain ⟨s45,hI'⟩:=hI'
  obtain ⟨s46,hI'⟩:=hI'
  obtain ⟨s8,hI'⟩:=hI'
  obtain ⟨ha,hI'⟩:=hI'
  subst ha
  have hC:=hI'.1
  replace hI':=hI'.2
  have f0:=hI'.1
  replace hI':=hI'.2
  have f1:=hI'.1
  replace hI':=hI'.2
  have f2:=hI'.1
  replace hI':=hI'.2
  have f3:=hI'.1
  replace hI':=hI'.2
  have f4:=hI'.1
  replace hI':=hI'.2
  have f5:=hI'.1
  replace hI':=hI'.2
  have f6:=hI'.1
  replace hI':=hI'.2
  have f7:=hI'.1
  replace hI':=hI'.2
  have f8:=hI'.1
  replace hI':=hI'.2
  have f9:=hI'.1
  replace hI':=hI'.2
  have g:=hI'.1
  replace hI':=hI'.2
  have z:=hI'
  clear hI'
  go_simp
  refine hK.out _ _ ((hI _ _ _).2 ⟨_,_,_,_,_,_,_,_,_,_,rfl,hC,f0,f1,f2,f3,fun _=>rfl,f5,f6,f7,f8,f9,g,z⟩)
 ·intro l a W hl hw hsh hI' K hK
  rw [hI] at hI'
  obtain ⟨s38,hI'⟩:=hI'
  obtain ⟨s39,hI'⟩:=hI'
  obtain ⟨s40,hI'⟩:=hI'
  obtain ⟨s41,hI'⟩:=hI'
  obtain ⟨s42,hI'⟩:=hI'
  obtain ⟨s43,hI'⟩:=hI'
  obtain ⟨s44,hI'⟩:=hI'
  obtain ⟨s45,hI'⟩:=hI'
  obtain ⟨s46,hI'⟩:=hI'
  obtain ⟨s8,hI'⟩:=hI'
  obtain ⟨ha,hI'⟩:=hI'
  subst ha
  have hC:=hI'.1
  replace hI':=hI'.2
  have f0:=hI'.1
  replace hI':=hI'.2
  have f1:=hI'.1
  replace hI':=hI'.2
  have f2:=hI'.1
  replace hI':=hI'.2
  have f3:=hI'.1
  replace hI':=hI'.2
  have f4:=hI'.1
  replace hI':=hI'.2
  have f5:=hI'.1
  replace hI':=hI'.2
  have f6:=hI'.1
  replace hI':=hI'.2
  have f7:=hI'.1
  replace hI':=hI'.2
  have f8:=hI'.1
  replace hI':=hI'.2
  have f9:=hI'.1
  replace hI':=hI'.2
  have g:=hI'.1
  replace hI':=hI'.2
  have z:=hI'
  clear hI'
  have hst:l 9=false:=by
   cases hc:l 9 with
   | false=>rfl
   | true=>exact absurd (hsh 6 5 _ rfl (hsh 7 6 _ rfl (hsh 8 7 _ rfl (hsh 9 8 _ rfl (hc) (by kernel_rfl)) (by kernel_rfl)) (by kernel_rfl)) (by kernel_rfl)) (by simp [hl])
  have e8:=z hst
  subst e8
  go_simp
  refine hK.out _ _ ((hI _ _ _).2 ⟨_,_,_,_,_,_,_,_,_,_,rfl,hC,f0,f1,f2,f3,f4,fun _=>rfl,f6,f7,f8,f9,g,z⟩)
 ·intro l a W hl hw hsh hI' K hK
  rw [hI] at hI'
  obtain ⟨s38,hI'⟩:=hI'
  obtain ⟨s39,hI'⟩:=hI'
  obtain ⟨s40,hI'⟩:=hI'
  obtain ⟨s41,hI'⟩:=hI'
  obtain ⟨s42,hI'⟩:=hI'
  obtain ⟨s43,hI'⟩:=hI'
  obtain ⟨s44,hI'⟩:=hI'
  obtain ⟨s45,hI'⟩:=hI'
  obtain ⟨s46,hI'⟩:=hI'
  obtain ⟨s8,hI'⟩:=hI'
  obtain ⟨ha,hI'⟩:=hI'
  subst ha
  have hC:=hI'.1
  replace hI':=hI'.2
  have f0:=hI'.1
  replace hI':=hI'.2
  have f1:=hI'.1
  replace hI':=hI'.2
  have f2:=hI'.1
  replace hI':=hI'.2
  have f3:=hI'.1
  replace hI':=hI'.2
  have f4:=hI'.1
  replace hI':=hI'.2
  have f5:=hI'.1
  replace hI':=hI'.2
  have f6:=hI'.1
  replace hI':=hI'.2
  have f7:=hI'.1
  replace hI':=hI'.2
  have f8:=hI'.1
  replace hI':=hI'.2
  have f9:=hI'.1
  replace hI':=hI'.2
  have g:=hI'.1
  replace hI':=hI'.2
  have z:=hI'
  clear hI'
  obtain rfl:=f4 (hw 4 (by kernel_rfl))
  obtain rfl:=f5 (hw 5 (by kernel_rfl))
  have l1:(c:Int)≤n:=by omega
  have l2:c≤n:=by omega
  go_simp
  refine hK.out _ _ ((hI _ _ _).2 ⟨_,_,_,_,_,_,_,_,_,_,rfl,hC,f0,f1,f2,f3,f4,f5,fun _=>rfl,f7,f8,f9,g,z⟩)
 ·intro l a W hl hw hsh hI' K hK
  rw [hI] at hI'
  obtain ⟨s38,hI'⟩:=hI'
  obtain ⟨s39,hI'⟩:=hI'
  obtain ⟨s40,hI'⟩:=hI'
  obtain ⟨s41,hI'⟩:=hI'
  obtain ⟨s42,hI'⟩:=hI'
  obtain ⟨s43,hI'⟩:=hI'
  obtain ⟨s44,hI'⟩:=hI'
  obtain ⟨s45,hI'⟩:=hI'
  obtain ⟨s46,hI'⟩:=hI'
  obtain ⟨s8,hI'⟩:=hI'
  obtain ⟨ha,hI'⟩:=hI'
  subst ha
  have hC:=hI'.1
  replace hI':=hI'.2
  have f0:=hI'.1
  replace hI':=hI'.2
  have f1:=hI'.1
  replace hI':=hI'.2
  have f2:=hI'.1
  replace hI':=hI'.2
  have f3:=hI'.1
  replace hI':=hI'.2
  have f4:=hI'.1
  replace hI':=hI'.2
  have f5:=hI'.1
  replace hI':=hI'.2
  have f6:=hI'.1
  replace hI':=hI'.2
  have f7:=hI'.1
  replace hI':=hI'.2
  have f8:=hI'.1
  replace hI':=hI'.2
  have f9:=hI'.1
  replace hI':=hI'.2
  have g:=hI'.1
  replace hI':=hI'.2
  have z:=hI'
  clear hI'
  obtain rfl:=f3 (hw 3 (by kernel_rfl))
  obtain rfl:=f6 (hw 6 (by kernel_rfl))
  rw [if_pos (by rfl)]
  have hR1:=g.1 hl
  have hkk:c+k≤n:=hk.out.2.2
  have hkc:k≤c:=hk.out.2.1
  refine Fa _ _ _ 28 28 rfl _ _ rfl rfl (DL W B n c k x _ hR1 B 0 c n hk.out.1 (fun j hj=>by rw [Nat.zero_add,(hR1.cell j (by omega)).1,if_pos (by omega)]) (n-c) hkk) ?_
  have hon:=Ag (B:=B) (List.replicate k (Value.string x)) c W
  refine hK.out _ _ ((hI _ _ _).2 ⟨_,_,_,_,_,_,_,_,_,_,rfl,⟨hC.1.trans (hon.toBelow hC.2 (by intro b hb;rw [List.mem_singleton.1 hb];exact hbase)),Nat.le_trans hC.2 hon.size⟩,f0,f1,f2,f3,f4,f5,f6,fun _=>rfl,f8,f9,⟨fun h=>off h.symm,fun _=>hR1.copy hkk⟩,z⟩)
 ·intro l a W hl hw hsh hI' K hK
  rw [hI] at hI'
  obtain ⟨s38,hI'⟩:=hI'
  obtain ⟨s39,hI'⟩:=hI'
  obtain ⟨s40,hI'⟩:=hI'
  obtain ⟨s41,hI'⟩:=hI'
  obtain ⟨s42,hI'⟩:=hI'
  obtain ⟨s43,hI'⟩:=hI'
  obtain ⟨s44,hI'⟩:=hI'
  obtain ⟨s45,hI'⟩:=hI'
  obtain ⟨s46,hI'⟩:=hI'
  obtain ⟨s8,hI'⟩:=hI'
  obtain ⟨ha,hI'⟩:=hI'
  subst ha
  have hC:=hI'.1
  replace hI':=hI'.2
  have f0:=hI'.1
  replace hI':=hI'.2
  have f1:=hI'.1
  replace hI':=hI'.2
  have f2:=hI'.1
  replace hI':=hI'.2
  have f3:=hI'.1
  replace hI':=hI'.2
  have f4:=hI'.1
  replace hI':=hI'.2
  have f5:=hI'.1
  replace hI':=hI'.2
  have f6:=hI'.1
  replace hI':=hI'.2
  have f7:=hI'.1
  replace hI':=hI'.2
  have f8:=hI'.1
  replace hI':=hI'.2
  have f9:=hI'.1
  replace hI':=hI'.2
  have g:=hI'.1
  replace hI':=hI'.2
  have z:=hI'
  clear hI'
  obtain rfl:=f0 (hw 0 (by kernel_rfl))
  obtain rfl:=f7 (hw 7 (by kernel_rfl))
  have hkk:c+k≤n:=hk.out.2.2
  have e1:IntKind.i64.wrap ((c:Int)+k)=((c+k:Nat):Int):=by rw [IntWalk.i64_in _ (by omega)];omega
  go_simp
  refine hK.out _ _ ((hI _ _ _).2 ⟨_,_,_,_,_,_,_,_,_,_,rfl,hC,f0,f1,f2,f3,f4,f5,f6,f7,fun _=>rfl,f9,g,z⟩)
 ·intro l a W hl hw hsh hI' K hK
  rw [hI] at hI'
  obtain ⟨s38,hI'⟩:=hI'
  obtain ⟨s39,hI'⟩:=hI'
  obtain ⟨s40,hI'⟩:=hI'
  obtain ⟨s41,hI'⟩:=hI'
  obtain ⟨s42,hI'⟩:=hI'
  obtain ⟨s43,hI'⟩:=hI'
  obtain ⟨s44,hI'⟩:=hI'
  obtain ⟨s45,hI'⟩:=hI'
  obtain ⟨s46,hI'⟩:=hI'
  obtain ⟨s8,hI'⟩:=hI'
  obtain ⟨ha,hI'⟩:=hI'
  subst ha
  have hC:=hI'.1
  replace hI':=hI'.2
  have f0:=hI'.1
  replace hI':=hI'.2
  have f1:=hI'.1
  replace hI':=hI'.2
  have f2:=hI'.1
  replace hI':=hI'.2
  have f3:=hI'.1
  replace hI':=hI'.2
  have f4:=hI'.1
  replace hI':=hI'.2
  have f5:=hI'.1
  replace hI':=hI'.2
  have f6:=hI'.1
  replace hI':=hI'.2
  have f7:=hI'.1
  replace hI':=hI'.2
  have f8:=hI'.1
  replace hI':=hI'.2
  have f9:=hI'.1
  replace hI':=hI'.2
  have g:=hI'.1
  replace hI':=hI'.2
  have z:=hI'
  clear hI'
  obtain rfl:=f8 (hw 8 (by kernel_rfl))
  go_simp
  refine hK.out _ _ ((hI _ _ _).2 ⟨_,_,_,_,_,_,_,_,_,_,rfl,hC,f0,f1,f2,f3,f4,f5,f6,f7,f8,fun _=>rfl,g,fun h=>off h.symm⟩)
 ·intro a W hI'
  rw [hI] at hI'
  obtain ⟨s38,hI'⟩:=hI'
  obtain ⟨s39,hI'⟩:=hI'
  obtain ⟨s40,hI'⟩:=hI'
  obtain ⟨s41,hI'⟩:=hI'
  obtain ⟨s42,hI'⟩:=hI'
  obtain ⟨s43,hI'⟩:=hI'
  obtain ⟨s44,hI'⟩:=hI'
  obtain ⟨s45,hI'⟩:=hI'
  obtain ⟨s46,hI'⟩:=hI'
  obtain ⟨s8,hI'⟩:=hI'
  obtain ⟨ha,hI'⟩:=hI'
  subst ha
  have hC:=hI'.1
  replace hI':=hI'.2
  have f0:=hI'.1
  replace hI':=hI'.2
  have f1:=hI'.1
  replace hI':=hI'.2
  have f2:=hI'.1
  replace hI':=hI'.2
  have f3:=hI'.1
  replace hI':=hI'.2
  have f4:=hI'.1
  replace hI':=hI'.2
  have f5:=hI'.1
  replace hI':=hI'.2
  have f6:=hI'.1
  replace hI':=hI'.2
  have f7:=hI'.1
  replace hI':=hI'.2
  have f8:=hI'.1
  replace hI':=hI'.2
  have f9:=hI'.1
  replace hI':=hI'.2
  have g:=hI'.1
  replace hI':=hI'.2
  have z:=hI'
  clear hI'
  clear f0
  clear f1
  clear f2
  clear f3
  clear f4
  clear f5
  clear f6
  clear f7
  clear f8
  obtain rfl:=f9 (by kernel_rfl)
  exact hQ.out _ _ _ _ _ _ _ _ _ _ hC (g.2 (by kernel_rfl))
theorem Jr (n b cap:Nat) (x:ByteArray) (w:World) (hx:w.cell? ⟨b,0,none⟩=some (.string x)) (hb:b<w.heap.size) (hn:n≤1000) :
  Calls Tryz.prog 41 #[.slice (some ⟨b,0,none⟩) 1 cap,.int .i64 n] w fun e w'=>∃ B,e=.returned (.slice (some ⟨B,0,none⟩) n n)∧w.heap.size≤B∧RepAt w' B n n x∧Below w.heap.size w w':=by
 have MU:=A8 (fun W=>Tryz.bits_Mul 1 n (by decide) (by omega) W)
 have e1:IntKind.u64.wrap (n:Int)=n:=by rw [IntKind.wrap_u64];omega
 have e2:1*n / 18446744073709551616=0:=by omega
 have e3:1*n % 18446744073709551616=n:=by omega
 rw [e2,e3] at MU
 have e4:IntKind.i64.wrap (n:Int)=n:=IntWalk.i64_in _ (by omega)
 have l1:¬ (n:Int)<0:=by omega
 have l2:¬ (9223372036854775807:Int)<n:=by omega
 have n0:(0:Int)≤n:=by omega
 obtain ⟨W1,hmk,hrep,hb1⟩:=GN w n (by omega)
 have R0:=A8 (hrep x)
 have hx1:W1.cell? ⟨b,0,none⟩=some (.string x):=(hb1.cell (p:=⟨_,_,none⟩) hb).trans hx
 go_enter Tryz.func41,Tryz.ntmps41
 go_wp2_with fail
 refine Calls.mono (MU.out _) ?_
 rintro e w1 ⟨rfl,hw⟩
 replace hw:=hw.symm
 subst hw
 go_upto_region 7 with fail
 obtain ⟨B,hB⟩:∃ B,B=w.heap.size:=⟨_,rfl⟩
 rw [←hB] at R0 hmk ⊢
 have hBle:w.heap.size≤B:=by omega
 have hBl1:w.heap.size≤W1.heap.size:=hb1.size
 obtain ⟨k,W2,hcp,R2,hb2,hkn,hk0⟩:∃ (k:Nat) (W2:World),(∀ ty,(Builtin.copy_ #[28,28] ty #[.slice (some ⟨B,0,none⟩) n n,.slice (some ⟨b,0,none⟩) 1 cap]).run Tryz.prog W1=.ok (.int .i64 k) W2)∧RepAt W2 B n k x∧Below w.heap.size w W2∧k≤n∧(0<k∨n=0):=by
  by_cases h0:n=0
  ·subst h0
   exact ⟨0,W1,fun ty=>run_copy_none (P:=Tryz.prog) W1 _ _ ty 9 _ _ 0 0 1 cap Tryz.underlying28 Ig rfl,R0.out,hb1,Aa _,.inr rfl⟩
  ·refine ⟨1,_,fun ty=>DL W1 B n 0 1 x ty R0.out b 0 1 cap (by show 1=min 1 (n-0);omega) (fun j hj=>by rw [show j=0 by omega];exact hx1) n (by omega),R0.out.copy (by omega),hb1.trans ((Ag _ _ _).toBelow hBl1 (by intro b hb;rw [List.mem_singleton.1 hb];exact hBle)),by omega,.inl (by decide)⟩
 replace R2:=A8 R2
 replace hB:=A8 hB
 clear hmk hx1 R0 hb1 hrep MU
 go_wp2_with (at_builtin;refine Fb _ rfl _ _ 28 28 rfl _ _ rfl rfl (hcp _) ?_)
 clear hcp
 go_loopw [8] (fun o wr=>∃ c:Nat,o=.int .i64 c∧c≤n∧(0<c∨n=0)∧Below w.heap.size w wr∧Hid (RepAt wr B n c x)) (fun o _=>n-(intOf o).toNat)
 case atStart=>exact ⟨k,rfl,hkn,hk0,hb2,R2⟩
 case round =>
  clear R2 hb2
  obtain ⟨c,rfl,hcn,hc0,hbw,hR⟩:=hrel
  by_cases hlt:c<n
  case pos =>
   have hlt':(c:Int)<n:=by omega
   go_upto_region 9 with fail
   obtain ⟨k2,hk2⟩:∃ k2,k2=Nat.min c (n-c):=⟨_,rfl⟩
   have hk3:k2≤c∧c+k2≤n∧0<k2:=by
    have e:k2=min c (n-c):=hk2
    omega
   refine rep_r9 (k:=k2) (base:=w.heap.size) (wb:=w) hlt' (by omega) (A8 ⟨hk2,hk3.1,hk3.2.1⟩) (by omega) hBle hbw hbw.size hR (by kernel_rfl) ?_
   intro v38 v39 v40 v41 v42 v43 v44 v45 v46 W3 hb3 R3
   go_wp2_with fail
   go_roundw
   case rel=>exact ⟨c+k2,rfl,hk3.2.1,by omega,hb3.1,A8 R3⟩
   case measure=>simp [intOf];omega
  case neg =>
   have hlt':¬ (c:Int)<n:=by omega
   obtain rfl:c=n:=by omega
   go_wp2
   go_ret
   exact ⟨B,rfl,hBle,hR.out,hbw⟩
end
section
open Go.RowKit
open LnM (wd upd sm)
attribute [local go_sem] Oper.semAt_some
structure StrAt (W:World) (B n:Nat) (f:Nat→ByteArray):Prop where
 lt:B<W.heap.size
 cell:∀ j,j<n→W.cell? ⟨B,j,none⟩=some (.string (f j))∧W.frozen? ⟨B,j,none⟩=false
theorem StrAt.below {W W':World} {B n:Nat} {f:Nat→ByteArray} (h:StrAt W B n f) (hb:Below W.heap.size W W'):StrAt W' B n f :=
 ⟨A9 h.lt hb.size,fun j hj=>⟨(hb.cell (p:=⟨_,_,none⟩) h.lt).trans (h.cell j hj).1,(AF (hb.block B h.lt) j).trans (h.cell j hj).2⟩⟩
theorem StrAt.set {W:World} {B n:Nat} {f:Nat→ByteArray} (h:StrAt W B n f) {k:Nat} (hk:k<n) (x:ByteArray):StrAt (W.setCell ⟨B,k,none⟩ (.string x)) B n (upd f k x):=by
 refine ⟨by simpa [World.setCell] using h.lt,fun j hj=>⟨?_,(World.frozen?_setCell _ _ _ _).trans (h.cell j hj).2⟩⟩
 by_cases e:j=k
 ·subst e;rw [LnM.upd_same];exact World.cell?_setCell_same _ _ _ (h.cell j hj).1
 ·rw [LnM.upd_ne _ _ e]
  exact (World.cell?_setCell_other _ _ _ _ (by intro h;cases h;exact e rfl)).trans (h.cell j hj).1
theorem StrAt.congr {W:World} {B n:Nat} {f g:Nat→ByteArray} (h:StrAt W B n f) (e:∀ j,j<n→f j=g j):StrAt W B n g:=⟨h.lt,fun j hj=>by rw [←e j hj];exact h.cell j hj⟩
theorem RepAt.str {W:World} {B n:Nat} {x:ByteArray} (h:RepAt W B n n x):StrAt W B n (fun _=>x):=⟨h.lt,fun j hj=>by have:=h.cell j hj;rwa [if_pos hj] at this⟩
theorem StrAt.only {W W':World} {B n:Nat} {f:Nat→ByteArray} {S:List Nat} (h:StrAt W B n f) (ho:Only S W W') (hS:B∉S):StrAt W' B n f :=
 ⟨A9 h.lt ho.size,fun j hj=>⟨(Ah (ho.block B h.lt hS) j).trans (h.cell j hj).1,(AF (ho.block B h.lt hS) j).trans (h.cell j hj).2⟩⟩
theorem StrAt.sl {W:World} {B n:Nat} {f:Nat→ByteArray} (h:StrAt W B n f) (hn:n≤maxLen):SlS W (.slice (some ⟨B,0,none⟩) n n) ((List.range n).map f):=by
 refine .inr ⟨B,0,n,by rw [List.length_map,List.length_range],by rw [List.length_map,List.length_range];exact Aa _,hn,h.lt,fun j x hj=>?_⟩
 rw [List.getElem?_map] at hj
 by_cases hjn:j<n
 ·rw [List.getElem?_range hjn] at hj
  obtain rfl:=Option.some.inj hj
  show W.cell? ⟨B,0+j*1,none⟩=_
  rw [Nat.zero_add,Nat.mul_one]
  exact (h.cell j hjn).1
 ·rw [List.getElem?_eq_none (by rw [List.length_range];omega)] at hj;cases hj
theorem blk_mid {W:World} {g:Nat} {z:Int} (h:Blk W g (wc (wd z)) 73):W.rangeAt g 0 (wl (wd z)):=fun i v hv=>by
 rw [Nat.zero_add,h.cell,←Aw,List.getElem?_toArray];exact hv
theorem KQ {W:World} {g:Nat} {cs:Array Value} {t:TypeId} (h:Blk W g cs t) (hs:cs.size=12):W.there g 0 12:=fun j hj=>by
 rw [Nat.zero_add,h.cell,h.frozen]
 exact ⟨by rw [Array.getElem?_eq_getElem (by omega)];rfl,rfl⟩
theorem KR {Q:Exit→Act→World→Prop} {u0 u1 u2 u3 u5 u6 u8 u9 u10 u11 u12 u13 u14 u15 u16 u17 u18 u19 u20 u21 u22 u23 u24 u25 u26 u27 u28 u29 u30 u31 u32 u33 u34 u35 u36 u37 u38 u39 u40 u41 u42 u43 u44 u45 u46 u47 u48 u49 u50 u51 u52 u53 u54 u55 u56 u57 u58 u59 u60 u61 u62 u63 u64 u65 u66 u67 u68 u69 u70 u71 u72 u73 u74 u75 u76 u77 u78 u79 u80 u81 u82 u83 u84 u85 u86 u87 u88 u89 u90 u91 u92 u93 u94 u95 u96 u97 u98 u99 u100 u101 u102 u103 u104 u105 u106 u107 u108 u109 u110 u111 u112 u113 u114 u115 u116 u117 u118 u119 u120 u121 u122 u123:Value} {t:Tb} {F:Nat→Nat→Int} {B:Nat→Nat} {sg:Nat→Int} {d:Int} {i q:Nat} {w:World} (hT:Hid (Tbl w t F B sg d)) (hqe:IntKind.i64.wrap ((t.k:Int)+i)=q) (hqn:q<t.n) (hqi:(q:Int)<t.n) (hq0:(0:Int)≤q) {ops:Array Oper} (ho:getOps Tryz.f14.body 11=some ops)
  (hQ:∀ (v46 v47 v48 v49 v50 v51 v52 v53 v54 v55 v56 v57 v58 v59 v60 v61 v62:Value) (g:Nat) (W':World),Below w.heap.size w W'→Blk W' g (wc (wd (F t.m q-d))) 73→w.heap.size≤g→Q .normal { tmps:=List.toArray (u0::u1::u2::u3::.pointer (some ⟨t.tb,0,none⟩)::u5::u6::.int .i64 i::u8::.pointer (some ⟨g,0,none⟩)::u10::u11::u12::u13::u14::u15::u16::u17::u18::u19::u20::u21::u22::u23::u24::u25::u26::u27::u28::u29::u30::u31::u32::u33::u34::u35::u36::u37::u38::u39::u40::u41::u42::u43::u44::u45::v46::v47::v48::v49::v50::v51::v52::v53::v54::v55::v56::v57::v58::v59::v60::v61::v62::u63::u64::u65::u66::u67::u68::u69::u70::u71::u72::u73::u74::u75::u76::u77::u78::u79::u80::u81::u82::u83::u84::u85::u86::u87::u88::u89::u90::u91::u92::u93::u94::u95::u96::u97::u98::u99::u100::u101::u102::u103::u104::u105::u106::u107::u108::u109::u110::u111::u112::u113::u114::u115::u116::u117::u118::u119::u120::u121::u122::u123::[]),defers:=[] } W') :
  (Code.region 11 ops true).wp Tryz.prog Q { tmps:=List.toArray (u0::u1::u2::u3::.pointer (some ⟨t.tb,0,none⟩)::u5::u6::.int .i64 i::u8::u9::u10::u11::u12::u13::u14::u15::u16::u17::u18::u19::u20::u21::u22::u23::u24::u25::u26::u27::u28::u29::u30::u31::u32::u33::u34::u35::u36::u37::u38::u39::u40::u41::u42::u43::u44::u45::u46::u47::u48::u49::u50::u51::u52::u53::u54::u55::u56::u57::u58::u59::u60::u61::u62::u63::u64::u65::u66::u67::u68::u69::u70::u71::u72::u73::u74::u75::u76::u77::u78::u79::u80::u81::u82::u83::u84::u85::u86::u87::u88::u89::u90::u91::u92::u93::u94::u95::u96::u97::u98::u99::u100::u101::u102::u103::u104::u105::u106::u107::u108::u109::u110::u111::u112::u113::u114::u115::u116::u117::u118::u119::u120::u121::u122::u123::[]),defers:=[] } w:=by
 obtain rfl:=Option.some.inj (ho.symm.trans (rfl:getOps Tryz.f14.body 11=some _))
 clear ho
 replace hQ:=A8 hQ
 obtain ⟨Iv,hI⟩:∃ Iv:(Nat→Bool)→Act→World→Prop,∀ l a W,Iv l a W↔(∃ s46 s47 s48 s49 s50 s51 s52 s53 s54 s55 s56 s57 s58 s59 s60 s61 s62 s9:Value,a={ tmps:=List.toArray (u0::u1::u2::u3::.pointer (some ⟨t.tb,0,none⟩)::u5::u6::.int .i64 i::u8::s9::u10::u11::u12::u13::u14::u15::u16::u17::u18::u19::u20::u21::u22::u23::u24::u25::u26::u27::u28::u29::u30::u31::u32::u33::u34::u35::u36::u37::u38::u39::u40::u41::u42::u43::u44::u45::s46::s47::s48::s49::s50::s51::s52::s53::s54::s55::s56::s57::s58::s59::s60::s61::s62::u63::u64::u65::u66::u67::u68::u69::u70::u71::u72::u73::u74::u75::u76::u77::u78::u79::u80::u81::u82::u83::u84::u85::u86::u87::u88::u89::u90::u91::u92::u93::u94::u95::u96::u97::u98::u99::u100::u101::u102::u103::u104::u105::u106::u107::u108::u109::u110::u111::u112::u113::u114::u115::u116::u117::u118::u119::u120::u121::u122::u123::[]),defers:=[] }∧Below w.heap.size w W∧Vs [(0,.pointer (some ⟨t.tb,0,none⟩),s46),(1,.pointer (some ⟨t.tb,0,none⟩),s47),(2,.pointer (some ⟨t.tb,1,none⟩),s48),(3,.slice (some ⟨t.R t.m,0,none⟩) t.n t.n,s49),(4,.pointer (some ⟨t.tb,0,none⟩),s50),(5,.pointer (some ⟨t.tb,0,none⟩),s51),(6,.pointer (some ⟨t.tb,16,none⟩),s52),(7,.int .i64 t.k,s53),(8,.int .i64 i,s54),(9,.int .i64 q,s55),(10,.pointer (some ⟨t.R t.m,q*12,none⟩),s56),(12,.pointer (some ⟨t.tb,0,none⟩),s58),(13,.pointer (some ⟨t.tb,0,none⟩),s59),(14,.pointer (some ⟨t.tb,4,none⟩),s60),(16,.agg (wc (wd (F t.m q-d))),s62)] l∧(l 11=true→s57=.agg (wc (wd (F t.m q))))∧(l 15=true→s61=.agg (wc (wd (d))))∧(l 17=true→∃ g:Nat,s9=.pointer (some ⟨g,0,none⟩)∧(l 18=false→Blk W g (wc (fun _=>0)) 73)∧(l 18=true→Blk W g (wc (wd (F t.m q-d))) 73)∧w.heap.size≤g)):=⟨_,fun _ _ _=>Iff.rfl⟩
 refine Ak Iv (by kernel_rfl) (by kernel_rfl) ((hI _ _ _).2 ⟨_,_,_,_,_,_,_,_,_,_,_,_,_,_,_,_,_,_,rfl,Ac w 1,Vs.zero,fun h=>off h,fun h=>off h,fun h=>off h⟩) (Ab (k:=0) ?_ (Ab (k:=1) ?_ (Ab (k:=2) ?_ (Ab (k:=3) ?_ (Ab (k:=4) ?_ (Ab (k:=5) ?_ (Ab (k:=6) ?_ (Ab (k:=7) ?_ (Ab (k:=8) ?_ (Ab (k:=9) ?_ (Ab (k:=10) ?_ (Ab (k:=11) ?_ (Ab (k:=12) ?_ (Ab (k:=13) ?_ (Ab (k:=14) ?_ (Ab (k:=15) ?_ (Ab (k:=16) ?_ (Ab (k:=17) ?_ (Ab (k:=18) ?_ (Af)))))))))))))))))))) ?_
 ·intro l a W hl hw hsh h K hK
  rw [hI] at h;iterate 18 obtain ⟨_,h⟩:=h
  obtain ⟨rfl,hC,hP,f11,f15,f17⟩:=h
  go_simp
  apply hK.out;rw [hI];iterate 18 apply Exists.intro
  exact ⟨rfl,hC,hP.put 0 rfl rfl rfl,f11,f15,f17⟩
 ·intro l a W hl hw hsh h K hK
  rw [hI] at h;iterate 18 obtain ⟨_,h⟩:=h
  obtain ⟨rfl,hC,hP,f11,f15,f17⟩:=h
  obtain rfl:=hP.get 0 rfl (hw 0 (by kernel_rfl))
  go_simp
  apply hK.out;rw [hI];iterate 18 apply Exists.intro
  exact ⟨rfl,hC,hP.put 1 rfl rfl rfl,f11,f15,f17⟩
 ·intro l a W hl hw hsh h K hK
  rw [hI] at h;iterate 18 obtain ⟨_,h⟩:=h
  obtain ⟨rfl,hC,hP,f11,f15,f17⟩:=h
  obtain rfl:=hP.get 1 rfl (hw 1 (by kernel_rfl))
  go_simp
  apply hK.out;rw [hI];iterate 18 apply Exists.intro
  exact ⟨rfl,hC,hP.put 2 rfl rfl rfl,f11,f15,f17⟩
 ·intro l a W hl hw hsh h K hK
  rw [hI] at h;iterate 18 obtain ⟨_,h⟩:=h
  obtain ⟨rfl,hC,hP,f11,f15,f17⟩:=h
  obtain rfl:=hP.get 2 rfl (hw 2 (by kernel_rfl))
  have x1:=(hT.out.below hC).c1
  go_simp
  apply hK.out;rw [hI];iterate 18 apply Exists.intro
  exact ⟨rfl,hC,hP.put 3 rfl rfl rfl,f11,f15,f17⟩
 ·intro l a W hl hw hsh h K hK
  rw [hI] at h;iterate 18 obtain ⟨_,h⟩:=h
  obtain ⟨rfl,hC,hP,f11,f15,f17⟩:=h
  go_simp
  apply hK.out;rw [hI];iterate 18 apply Exists.intro
  exact ⟨rfl,hC,hP.put 4 rfl rfl rfl,f11,f15,f17⟩
 ·intro l a W hl hw hsh h K hK
  rw [hI] at h;iterate 18 obtain ⟨_,h⟩:=h
  obtain ⟨rfl,hC,hP,f11,f15,f17⟩:=h
  obtain rfl:=hP.get 4 rfl (hw 4 (by kernel_rfl))
  go_simp
  apply hK.out;rw [hI];iterate 18 apply Exists.intro
  exact ⟨rfl,hC,hP.put 5 rfl rfl rfl,f11,f15,f17⟩
 ·intro l a W hl hw hsh h K hK
  rw [hI] at h;iterate 18 obtain ⟨_,h⟩:=h
  obtain ⟨rfl,hC,hP,f11,f15,f17⟩:=h
  obtain rfl:=hP.get 5 rfl (hw 5 (by kernel_rfl))
  go_simp
  apply hK.out;rw [hI];iterate 18 apply Exists.intro
  exact ⟨rfl,hC,hP.put 6 rfl rfl rfl,f11,f15,f17⟩
 ·intro l a W hl hw hsh h K hK
  rw [hI] at h;iterate 18 obtain ⟨_,h⟩:=h
  obtain ⟨rfl,hC,hP,f11,f15,f17⟩:=h
  obtain rfl:=hP.get 6 rfl (hw 6 (by kernel_rfl))
  have x1:=(hT.out.below hC).c16
  go_simp
  apply hK.out;rw [hI];iterate 18 apply Exists.intro
  exact ⟨rfl,hC,hP.put 7 rfl rfl rfl,f11,f15,f17⟩
 ·intro l a W hl hw hsh h K hK
  rw [hI] at h;iterate 18 obtain ⟨_,h⟩:=h
  obtain ⟨rfl,hC,hP,f11,f15,f17⟩:=h
  go_simp
  apply hK.out;rw [hI];iterate 18 apply Exists.intro
  exact ⟨rfl,hC,hP.put 8 rfl rfl rfl,f11,f15,f17⟩
 ·intro l a W hl hw hsh h K hK
  rw [hI] at h;iterate 18 obtain ⟨_,h⟩:=h
  obtain ⟨rfl,hC,hP,f11,f15,f17⟩:=h
  obtain rfl:=hP.get 7 rfl (hw 7 (by kernel_rfl))
  obtain rfl:=hP.get 8 rfl (hw 8 (by kernel_rfl))
  go_simp
  apply hK.out;rw [hI];iterate 18 apply Exists.intro
  exact ⟨rfl,hC,hP.put 9 rfl rfl rfl,f11,f15,f17⟩
 ·intro l a W hl hw hsh h K hK
  rw [hI] at h;iterate 18 obtain ⟨_,h⟩:=h
  obtain ⟨rfl,hC,hP,f11,f15,f17⟩:=h
  obtain rfl:=hP.get 3 rfl (hw 3 (by kernel_rfl))
  obtain rfl:=hP.get 9 rfl (hw 9 (by kernel_rfl))
  go_simp
  apply hK.out;rw [hI];iterate 18 apply Exists.intro
  exact ⟨rfl,hC,hP.put 10 rfl rfl rfl,f11,f15,f17⟩
 ·intro l a W hl hw hsh h K hK
  rw [hI] at h;iterate 18 obtain ⟨_,h⟩:=h
  obtain ⟨rfl,hC,hP,f11,f15,f17⟩:=h
  obtain rfl:=hP.get 10 rfl (hw 10 (by kernel_rfl))
  rw [if_pos (by rfl)]
  have hrng:=((hT.out.below hC).grid.row t.m (by omega)).rd q hqn
  refine wp_load_mid _ _ rfl _ _ rfl (wl (wd (F t.m q))) _ hrng CP rfl (BO _) ?_
  apply hK.out;rw [hI];iterate 18 apply Exists.intro
  exact ⟨rfl,hC,hP.skip 11 rfl,fun _=>rfl,f15,f17⟩
 ·intro l a W hl hw hsh h K hK
  rw [hI] at h;iterate 18 obtain ⟨_,h⟩:=h
  obtain ⟨rfl,hC,hP,f11,f15,f17⟩:=h
  go_simp
  apply hK.out;rw [hI];iterate 18 apply Exists.intro
  exact ⟨rfl,hC,hP.put 11 rfl rfl rfl,f11,f15,f17⟩
 ·intro l a W hl hw hsh h K hK
  rw [hI] at h;iterate 18 obtain ⟨_,h⟩:=h
  obtain ⟨rfl,hC,hP,f11,f15,f17⟩:=h
  obtain rfl:=hP.get 11 rfl (hw 12 (by kernel_rfl))
  go_simp
  apply hK.out;rw [hI];iterate 18 apply Exists.intro
  exact ⟨rfl,hC,hP.put 12 rfl rfl rfl,f11,f15,f17⟩
 ·intro l a W hl hw hsh h K hK
  rw [hI] at h;iterate 18 obtain ⟨_,h⟩:=h
  obtain ⟨rfl,hC,hP,f11,f15,f17⟩:=h
  obtain rfl:=hP.get 12 rfl (hw 13 (by kernel_rfl))
  go_simp
  apply hK.out;rw [hI];iterate 18 apply Exists.intro
  exact ⟨rfl,hC,hP.put 13 rfl rfl rfl,f11,f15,f17⟩
 ·intro l a W hl hw hsh h K hK
  rw [hI] at h;iterate 18 obtain ⟨_,h⟩:=h
  obtain ⟨rfl,hC,hP,f11,f15,f17⟩:=h
  obtain rfl:=hP.get 13 rfl (hw 14 (by kernel_rfl))
  rw [if_pos (by rfl)]
  have hrng:=(hT.out.below hC).den
  refine wp_load_mid _ _ rfl _ _ rfl (wl (wd (d))) _ hrng CP rfl (BO _) ?_
  apply hK.out;rw [hI];iterate 18 apply Exists.intro
  exact ⟨rfl,hC,hP.skip 15 rfl,f11,fun _=>rfl,f17⟩
 ·intro l a W hl hw hsh h K hK
  rw [hI] at h;iterate 18 obtain ⟨_,h⟩:=h
  obtain ⟨rfl,hC,hP,f11,f15,f17⟩:=h
  obtain rfl:=f11 (hw 11 (by kernel_rfl))
  obtain rfl:=f15 (hw 15 (by kernel_rfl))
  go_simp
  go_at_call 39
  refine Calls.mono (Bj (F t.m q) d _) ?_
  rintro e W2 ⟨rfl,hb⟩
  apply hK.out;rw [hI];iterate 18 apply Exists.intro
  exact ⟨rfl,hC.trans (hb.mono hC.size),hP.put 14 rfl rfl rfl,f11,f15,(fun h=>(let ⟨g,e,a,b,c⟩:=f17 h;⟨g,e,fun h2=>(a h2).below hb,fun h2=>(b h2).below hb,c⟩))⟩
 ·intro l a W hl hw hsh h K hK
  rw [hI] at h;iterate 18 obtain ⟨_,h⟩:=h
  obtain ⟨rfl,hC,hP,f11,f15,f17⟩:=h
  have hst:l 18=false:=by
   cases hc:l 18 with
   | false=>rfl
   | true=>exact absurd (hsh 18 17 _ rfl hc (by kernel_rfl)) (by simp [hl])
  go_simp
  have hb:=(Below.refl W.heap.size W).alloc (Aa _) (.cells (wc (fun _=>0)) 73)
  apply hK.out;rw [hI];iterate 18 apply Exists.intro
  exact ⟨rfl,hC.trans (hb.mono hC.size),hP.skip 17 rfl,f11,f15,fun _=>⟨_,rfl,fun _=>Blk.new _ _ _,fun h2=>off (hst.symm.trans h2),hC.size⟩⟩
 ·intro l a W hl hw hsh h K hK
  rw [hI] at h;iterate 18 obtain ⟨_,h⟩:=h
  obtain ⟨rfl,hC,hP,f11,f15,f17⟩:=h
  obtain rfl:=hP.get 14 rfl (hw 16 (by kernel_rfl))
  obtain ⟨g,rfl,hg0,hg1,hgw⟩:=f17 (hw 17 (by kernel_rfl))
  rw [if_pos (by rfl)]
  have hG:=hg0 hl
  refine wp_store_mid _ _ _ rfl _ _ (wl (wd (F t.m q-d))).toArray rfl rfl (by rw [List.size_toArray];exact KQ hG rfl) (by rw [List.size_toArray];exact BO _) (all_oneCell_toArray (Dn _)) ?_
  rw [List.toList_toArray]
  have hG2:Blk (W.setCells g 0 (wl (wd (F t.m q-d)))) g (wc (wd (F t.m q-d))) 73:=by rw [Cr];exact AY hG
  apply hK.out;rw [hI];iterate 18 apply Exists.intro
  exact ⟨rfl,hC.trans ((Ag _ _ W).toBelow hC.size (by intro b hb;rw [List.mem_singleton.1 hb];exact hgw)),hP.skip 18 rfl,f11,f15,(fun _=>⟨g,rfl,fun h2=>off h2.symm,fun _=>hG2,hgw⟩)⟩
 ·intro a W hI'
  have h:=(hI _ _ _).1 hI';clear hI';iterate 18 obtain ⟨_,h⟩:=h
  obtain ⟨rfl,hC,hP,f11,f15,f17⟩:=h
  clear f11
  clear f15
  obtain ⟨g,rfl,hg0,hg1,hgw⟩:=f17 (by kernel_rfl)
  exact hQ.out _ _ _ _ _ _ _ _ _ _ _ _ _ _ _ _ _ g _ hC (hg1 (by kernel_rfl)) hgw
theorem Ga {Q:Exit→Act→World→Prop} {u0 u1 u2 u3 u4 u5 u7 u8 u10 u11 u12 u13 u14 u15 u16 u17 u18 u19 u20 u21 u22 u23 u24 u25 u26 u27 u28 u29 u30 u31 u32 u33 u34 u35 u36 u37 u38 u39 u40 u41 u42 u43 u44 u45 u46 u47 u48 u49 u50 u51 u52 u53 u54 u55 u56 u57 u58 u59 u60 u61 u62 u63 u64 u65 u66 u67 u68 u69 u70 u71 u72 u73 u74 u75 u76 u77 u78 u79 u80 u81 u82 u83 u84 u85 u86 u87 u88 u89 u90 u91 u92 u93 u94 u95 u96 u97 u98 u99 u100 u101 u102 u103 u104 u105 u106 u107 u108 u109 u110 u111 u112 u113 u114 u115 u116 u117 u118 u119 u120 u121 u122 u123:Value} {X g i base:Nat} {z:Int} {wv:Value} {xs:List Value} {w0 w:World} (hE:Hid (Env w0)) (h0:Hid (Below w0.heap.size w0 w∧w0.heap.size≤base∧base≤w.heap.size∧base≤X)) (hz:Hid (LnM.Wide z∧LnM.Wide (-z))) (hi:i≤1000)
  (hX:Hid (Blk w X #[.bool false,.slice none 0 0,.string ⟨#[]⟩,wv] 38)) (hG:Hid (Blk w g (wc (wd z)) 73)) (hO:Hid (w.ownsRow base 9 1 wv i xs)) {ops:Array Oper} (ho:getOps Tryz.f14.body 14=some ops)
  (hQ:∀ (v68 v69 v70 v71 v72 v73 v74:Value) (ga cap:Nat) (W':World),Only (X :: wv.ownBlock.toList) w W'→Blk W' X #[.bool false,.slice none 0 0,.string ⟨#[]⟩,.slice (some ⟨ga,0,none⟩) (i+1) cap] 38→W'.ownsRow base 9 1 (.slice (some ⟨ga,0,none⟩) (i+1) cap) (i+1) (xs++[.string ⟨(Lib.itoa z).toArray⟩])→Q .normal { tmps:=List.toArray (u0::u1::u2::u3::u4::u5::.pointer (some ⟨X,0,none⟩)::u7::u8::.pointer (some ⟨g,0,none⟩)::u10::u11::u12::u13::u14::u15::u16::u17::u18::u19::u20::u21::u22::u23::u24::u25::u26::u27::u28::u29::u30::u31::u32::u33::u34::u35::u36::u37::u38::u39::u40::u41::u42::u43::u44::u45::u46::u47::u48::u49::u50::u51::u52::u53::u54::u55::u56::u57::u58::u59::u60::u61::u62::u63::u64::u65::u66::u67::v68::v69::v70::v71::v72::v73::v74::u75::u76::u77::u78::u79::u80::u81::u82::u83::u84::u85::u86::u87::u88::u89::u90::u91::u92::u93::u94::u95::u96::u97::u98::u99::u100::u101::u102::u103::u104::u105::u106::u107::u108::u109::u110::u111::u112::u113::u114::u115::u116::u117::u118::u119::u120::u121::u122::u123::[]),defers:=[] } W') :
  (Code.region 14 ops true).wp Tryz.prog Q { tmps:=List.toArray (u0::u1::u2::u3::u4::u5::.pointer (some ⟨X,0,none⟩)::u7::u8::.pointer (some ⟨g,0,none⟩)::u10::u11::u12::u13::u14::u15::u16::u17::u18::u19::u20::u21::u22::u23::u24::u25::u26::u27::u28::u29::u30::u31::u32::u33::u34::u35::u36::u37::u38::u39::u40::u41::u42::u43::u44::u45::u46::u47::u48::u49::u50::u51::u52::u53::u54::u55::u56::u57::u58::u59::u60::u61::u62::u63::u64::u65::u66::u67::u68::u69::u70::u71::u72::u73::u74::u75::u76::u77::u78::u79::u80::u81::u82::u83::u84::u85::u86::u87::u88::u89::u90::u91::u92::u93::u94::u95::u96::u97::u98::u99::u100::u101::u102::u103::u104::u105::u106::u107::u108::u109::u110::u111::u112::u113::u114::u115::u116::u117::u118::u119::u120::u121::u122::u123::[]),defers:=[] } w:=by
 obtain rfl:=Option.some.inj (ho.symm.trans (rfl:getOps Tryz.f14.body 14=some _))
 clear ho
 replace hQ:=A8 hQ
 obtain ⟨Iv,hI⟩:∃ Iv:(Nat→Bool)→Act→World→Prop,∀ l a W,Iv l a W↔(∃ s68 s69 s70 s71 s72 s73 s74:Value,a={ tmps:=List.toArray (u0::u1::u2::u3::u4::u5::.pointer (some ⟨X,0,none⟩)::u7::u8::.pointer (some ⟨g,0,none⟩)::u10::u11::u12::u13::u14::u15::u16::u17::u18::u19::u20::u21::u22::u23::u24::u25::u26::u27::u28::u29::u30::u31::u32::u33::u34::u35::u36::u37::u38::u39::u40::u41::u42::u43::u44::u45::u46::u47::u48::u49::u50::u51::u52::u53::u54::u55::u56::u57::u58::u59::u60::u61::u62::u63::u64::u65::u66::u67::s68::s69::s70::s71::s72::s73::s74::u75::u76::u77::u78::u79::u80::u81::u82::u83::u84::u85::u86::u87::u88::u89::u90::u91::u92::u93::u94::u95::u96::u97::u98::u99::u100::u101::u102::u103::u104::u105::u106::u107::u108::u109::u110::u111::u112::u113::u114::u115::u116::u117::u118::u119::u120::u121::u122::u123::[]),defers:=[] }∧Only (X :: wv.ownBlock.toList) w W∧Vs [(0,.pointer (some ⟨X,3,none⟩),s68),(1,wv,s69),(3,.string ⟨(Lib.itoa z).toArray⟩,s71),(6,.pointer (some ⟨X,3,none⟩),s74)] l∧(l 2=true→s70=.agg (wc (wd (z))))∧(l 4=true→(l 5=false→∃ g:Nat,s72=.slice (some ⟨g,0,none⟩) 1 1∧W.cell? ⟨g,0,none⟩=some (.string ⟨(Lib.itoa z).toArray⟩)∧g<W.heap.size))∧(l 5=true→∃ g cap:Nat,s73=.slice (some ⟨g,0,none⟩) (i+1) cap)∧(Blk W X #[.bool false,.slice none 0 0,.string ⟨#[]⟩,bif l 7 then s73 else wv] 38)∧(W.ownsRow base 9 1 (bif l 5 then s73 else wv) (bif l 5 then i+1 else i) (bif l 5 then xs++[.string ⟨(Lib.itoa z).toArray⟩] else xs))):=⟨_,fun _ _ _=>Iff.rfl⟩
 refine Ak Iv (by kernel_rfl) (by kernel_rfl) ((hI _ _ _).2 ⟨_,_,_,_,_,_,_,rfl,(Only.refl (X :: wv.ownBlock.toList) w).drewN 1,Vs.zero,fun h=>off h,fun h=>off h,fun h=>off h,hX.out.below (Ac w 1),As hO.out (Ac w 1)⟩) (Ab (k:=0) ?_ (Ab (k:=1) ?_ (Ab (k:=2) ?_ (Ab (k:=3) ?_ (Ab (k:=4) ?_ (Ab (k:=5) ?_ (Ab (k:=6) ?_ (Ab (k:=7) ?_ (Af))))))))) ?_
 ·intro l a W hl hw hsh h K hK
  rw [hI] at h;iterate 7 obtain ⟨_,h⟩:=h
  obtain ⟨rfl,hC,hP,f2,f4,f5,h⟩:=h;obtain ⟨T,O⟩:=h
  go_simp
  apply hK.out;rw [hI];iterate 7 apply Exists.intro
  exact ⟨rfl,hC,hP.put 0 rfl rfl rfl,f2,f4,f5,T,O⟩
 ·intro l a W hl hw hsh h K hK
  rw [hI] at h;iterate 7 obtain ⟨_,h⟩:=h
  obtain ⟨rfl,hC,hP,f2,f4,f5,h⟩:=h;obtain ⟨T,O⟩:=h
  obtain rfl:=hP.get 0 rfl (hw 0 (by kernel_rfl))
  have hst:l 7=false:=by
   cases hc:l 7 with
   | false=>rfl
   | true=>exact absurd (hsh 5 1 _ rfl (hsh 7 5 _ rfl (hc) (by kernel_rfl)) (by kernel_rfl)) (by simp [hl])
  have x1:W.cell? ⟨X,3,none⟩=some wv:=by have:=T.cell 3;rw [hst] at this;exact this
  go_simp
  apply hK.out;rw [hI];iterate 7 apply Exists.intro
  exact ⟨rfl,hC,hP.put 1 rfl rfl rfl,f2,f4,f5,T,O⟩
 ·intro l a W hl hw hsh h K hK
  rw [hI] at h;iterate 7 obtain ⟨_,h⟩:=h
  obtain ⟨rfl,hC,hP,f2,f4,f5,h⟩:=h;obtain ⟨T,O⟩:=h
  rw [if_pos (by rfl)]
  have hrng:=blk_mid ((hC.block g hG.out.lt (by simp only [List.mem_cons,Option.mem_toList,not_or];exact ⟨fun e=>by have:=hG.out.symm.trans (e ▸ hX.out);simp at this,fun e=>hG.out.not_row (by decide) hO.out e.symm⟩)).trans hG.out)
  refine wp_load_mid _ _ rfl _ _ rfl (wl (wd (z))) _ hrng CP rfl (BO _) ?_
  apply hK.out;rw [hI];iterate 7 apply Exists.intro
  exact ⟨rfl,hC,hP.skip 2 rfl,fun _=>rfl,f4,f5,T,O⟩
 ·intro l a W hl hw hsh h K hK
  rw [hI] at h;iterate 7 obtain ⟨_,h⟩:=h
  obtain ⟨rfl,hC,hP,f2,f4,f5,h⟩:=h;obtain ⟨T,O⟩:=h
  obtain rfl:=f2 (hw 2 (by kernel_rfl))
  have hot:∀ k∈X :: wv.ownBlock.toList,w0.heap.size≤k:=by
   intro k hk
   rcases List.mem_cons.1 hk with rfl | hk
   ·exact Nat.le_trans h0.out.2.1 h0.out.2.2.2
   ·exact Nat.le_trans h0.out.2.1 (hO.out.lt k (by simpa using hk)).1
  go_simp
  go_at_call 40
  refine Calls.mono (E5 z hz.out.1 hz.out.2 _ (hE.out.below (h0.out.1.trans (hC.toBelow (B:=w0.heap.size) (Nat.le_trans h0.out.2.1 h0.out.2.2.1) hot)) (Aa _))) ?_
  rintro e W2 ⟨rfl,hb⟩
  apply hK.out;rw [hI];iterate 7 apply Exists.intro
  exact ⟨rfl,hC.below hb,hP.put 2 rfl rfl rfl,f2,(fun h h5=>(let ⟨g,e,a,b⟩:=f4 h h5;⟨g,e,(hb.cell (p:=⟨_,_,none⟩) b).trans a,A9 b hb.size⟩)),f5,T.below hb,As O hb⟩
 ·intro l a W hl hw hsh h K hK
  rw [hI] at h;iterate 7 obtain ⟨_,h⟩:=h
  obtain ⟨rfl,hC,hP,f2,f4,f5,h⟩:=h;obtain ⟨T,O⟩:=h
  obtain rfl:=hP.get 2 rfl (hw 3 (by kernel_rfl))
  go_simp
  have hb:=(Below.refl W.heap.size W).alloc (Aa _) (.cells #[.string ⟨(Lib.itoa z).toArray⟩] 9)
  apply hK.out;rw [hI];iterate 7 apply Exists.intro
  exact ⟨rfl,hC.below hb,hP.skip 4 rfl,f2,fun _ _=>⟨_,rfl,(Blk.new W #[.string ⟨(Lib.itoa z).toArray⟩] 9).cell 0,by simp⟩,f5,T.below hb,As O hb⟩
 ·intro l a W hl hw hsh h K hK
  rw [hI] at h;iterate 7 obtain ⟨_,h⟩:=h
  obtain ⟨rfl,hC,hP,f2,f4,f5,h⟩:=h;obtain ⟨T,O⟩:=h
  obtain rfl:=hP.get 1 rfl (hw 1 (by kernel_rfl))
  obtain ⟨gl,e72,hg0,hgl⟩:=f4 (hw 4 (by kernel_rfl)) hl
  subst e72
  rw [if_pos (by rfl)]
  have hst:l 7=false:=by
   cases hc:l 7 with
   | false=>rfl
   | true=>exact absurd (hsh 7 5 _ rfl (hc) (by kernel_rfl)) (by simp [hl])
  simp only [hl,cond_false] at O
  rw [hst] at T
  simp only [cond_false] at T
  refine AP _ 9 (.string ⟨#[]⟩) 16 Tryz.underlying28 CY rfl _ _ rfl wv i xs (by go_simp) O gl (.string ⟨(Lib.itoa z).toArray⟩) (by go_simp) hg0 rfl (by omega) (by omega) (Nat.le_trans h0.out.2.2.1 hC.size) ?_
  intro v' W2 hr hg hv
  have hr2:=hr.2
  rcases hr2 with ⟨rfl,h0'⟩ | ⟨g2,cap2,cur,rfl,-⟩
  ·omega
  have T2:=T.kept hg (T.not_row (by decide) O)
  apply hK.out;rw [hI];iterate 7 apply Exists.intro
  exact ⟨rfl,hC.grown hg (fun k e=>.inl (by simp [e])),hP.skip 5 rfl,f2,(fun _ h5=>off h5.symm),fun _=>⟨g2,cap2,rfl⟩,(by rw [show set1 l 5 7=false from hst];exact T2),hr⟩
 ·intro l a W hl hw hsh h K hK
  rw [hI] at h;iterate 7 obtain ⟨_,h⟩:=h
  obtain ⟨rfl,hC,hP,f2,f4,f5,h⟩:=h;obtain ⟨T,O⟩:=h
  go_simp
  apply hK.out;rw [hI];iterate 7 apply Exists.intro
  exact ⟨rfl,hC,hP.put 3 rfl rfl rfl,f2,f4,f5,T,O⟩
 ·intro l a W hl hw hsh h K hK
  rw [hI] at h;iterate 7 obtain ⟨_,h⟩:=h
  obtain ⟨rfl,hC,hP,f2,f4,f5,h⟩:=h;obtain ⟨T,O⟩:=h
  obtain ⟨ga,cap,rfl⟩:=f5 (hw 5 (by kernel_rfl))
  obtain rfl:=hP.get 3 rfl (hw 6 (by kernel_rfl))
  have hw5:l 5=true:=hw 5 (by kernel_rfl)
  have x1:=T.cell 3
  have x2:=T.frozen 3
  go_simp
  have hgr:=Aj W X 3 (.slice (some ⟨ga,0,none⟩) (i+1) cap)
  have O2:=O.kept hgr (by first | exact .inl rfl | exact .inr (fun e=>T.not_row (by decide) O e.symm))
  apply hK.out;rw [hI];iterate 7 apply Exists.intro
  exact ⟨rfl,hC.setCell (by simp) _,hP.skip 7 rfl,f2,(fun _ h5=>off ((hw5.symm.trans h5).symm)),f5,T.set 3 _,O2⟩
 ·intro a W hI'
  have h:=(hI _ _ _).1 hI';clear hI';iterate 7 obtain ⟨_,h⟩:=h
  obtain ⟨rfl,hC,hP,f2,f4,f5,h⟩:=h;obtain ⟨T,O⟩:=h
  clear f2
  clear f4
  obtain ⟨ga,cap,rfl⟩:=f5 (by kernel_rfl)
  exact hQ.out _ _ _ _ _ _ _ ga cap _ hC T O
end
end Go.Proofs.YtcmomjnailihpaaGreatDoor
