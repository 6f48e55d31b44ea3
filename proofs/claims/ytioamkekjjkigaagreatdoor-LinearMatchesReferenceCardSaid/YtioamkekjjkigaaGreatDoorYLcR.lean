/- LcR, SvA, SvB, LwS, SvC -/
import Derived.Test.YtioamkekjjkigaaGreatDoorYLwU
import Derived.Laws.IdiomCopy
import Derived.Deep.LoopGhost
import Derived.Scope
import Derived.WalkMore
set_option maxHeartbeats 8000000
set_option maxRecDepth 100000
namespace Go.Proofs.YtioamkekjjkigaaGreatDoor
section
open Go.RowKit
attribute [local go_sem] Oper.semAt_some
theorem M5 (w:World) {o:Oper} {a:Act} {K:Act->World->Prop} {Q:Exit->Act->World->Prop} (d s:Operand) (t t':TypeId)
  (ho:o.op=.call { callee:=.builtin .copy,args:=#[d,s],argTypes:=#[t,t'] }) (v u:Value) (hd:a.eval d=v) (hs:a.eval s=u) {v':Value} {w':World}
  (hr:(Builtin.copy_ #[t,t'] o.type #[v,u]).run Tryz.prog w=.ok v' w') (h:K (a.put o.dst v') w'):o.wp Tryz.prog a w K Q:=by
 unfold Oper.wp execOp
 simp only [ho,resolve,invoke,builtin,Sem.run_bind,Sem.run_pure,Result.andThen_ok,List.map_toArray,List.map_cons,List.map_nil,hd,hs,hr]
 exact h
theorem M6 (w:World) {ops:Array Oper} {rest:List Oper} {o:Oper} {a:Act} {Q:Exit->Act->World->Prop} (hgd:o.guard=none) (d s:Operand) (t t':TypeId)
  (ho:o.op=.call { callee:=.builtin .copy,args:=#[d,s],argTypes:=#[t,t'] }) (v u:Value) (hd:a.eval d=v) (hs:a.eval s=u) {v':Value} {w':World}
  (hr:(Builtin.copy_ #[t,t'] o.type #[v,u]).run Tryz.prog w=.ok v' w') (h:wpList Tryz.prog ops Q rest (a.put o.dst v') w'):wpList Tryz.prog ops Q (o :: rest) a w :=
 wpList_plain hgd fun _ hK=>M5 w d s t t' ho v u hd hs hr (hK _ _ h)
theorem PO:(Tryz.prog.info? 9).map (·.size)=some 1:=by kernel_rfl
structure Gy (W:World) (B n c:Nat) (x:ByteArray):Prop where
 lt:B<W.heap.size
 cell:∀ j,j<n->W.cell? ⟨B,j,none⟩=some (.string (if j<c then x else ⟨#[]⟩))/\W.frozen? ⟨B,j,none⟩=false
theorem Gy.below {W W':World} {B n c:Nat} {x:ByteArray} (h:Gy W B n c x) (hb:Below W.heap.size W W'):Gy W' B n c x :=
 ⟨A9 h.lt hb.size,fun j hj=>⟨(hb.cell (p:=⟨_,_,none⟩) h.lt).trans (h.cell j hj).1,(EF (hb.block B h.lt) j).trans (h.cell j hj).2⟩⟩
theorem Ob (w:World) (n:Nat) (hn:n<=1000000):∃ w',(Instr.makeSlice 28 (.int .i64 (n:Int)) (.int .i64 (n:Int))).run Tryz.prog w=.ok (.slice (some ⟨w.heap.size,0,none⟩) n n) w' /\
  (∀ x,Gy w' w.heap.size n 0 x)/\Below w.heap.size w w':=by
 obtain ⟨i0,hi,hz0,hz1,hz2⟩:=info_parts IK
 obtain ⟨w',hrun,r1,r2⟩:=run_make_full (P:=Tryz.prog) w w.heap.size 28 9 i0 (.string ⟨#[]⟩) 1 Tryz.underlying28 hi hz0 hz1 .i64 .i64 n (by rw [hz2];omega) (by unfold maxLen;omega) (Aa _)
 obtain ⟨cs,hcs⟩:∃ cs:Array Value,w'.heap[w.heap.size]? = some (.cells cs 9 (0,0)):=by
  rcases r1.2 with ⟨e,_⟩ | ⟨g,cap,cur,e,hb,hg,_⟩
  ·cases e
  ·cases e;exact ⟨cur,hg⟩
 refine ⟨w',hrun,fun x=>⟨(BO.1 hcs).1,fun j hj=>⟨?_,by simp [World.frozen?,hcs]⟩⟩,(Below.refl _ _).grown r2 (Aa _) (fun k e=>by cases e)⟩
 have:=r1.cells (g:=w.heap.size) rfl j (.string ⟨#[]⟩) (by
  show (madeCells #[Value.string ⟨#[]⟩] (n*1)).toList[j]? = _;rw [BU];unfold madeCells;rw [Array.getElem?_map,Array.getElem?_range,AU Ad];show some (#[Value.string ⟨#[]⟩][j % 1]!)=_;rw [Nat.mod_one];rfl)
 rwa [Es,BN] at this
theorem Gy.copy {W:World} {B n c d:Nat} {x:ByteArray} (h:Gy W B n c x) (hd:c+d<=n):Gy (W.setCells B c (List.replicate d (.string x))) B n (c+d) x:=by
 have ho:=Dx (B:=B) (List.replicate d (Value.string x)) c W;refine ⟨A9 h.lt ho.size,fun j hj=>⟨?_,(World.frozen?_setCells _ _ _ _ _).trans (h.cell j hj).2⟩⟩;by_cases h1:c<=j/\j<c+d
 ·have:=World.cell?_setCells_in B (List.replicate d (Value.string x)) c W (fun i hi=>by
   rw [Ch] at hi;rw [(h.cell (c+i) Ad).1];rfl) (j-c) (by rw [Ch];omega)
  rw [show c+(j-c)=j by omega] at this
  rw [this,AU Ad];simp
 ·rw [World.cell?_setCells_out B _ c W ⟨B,j,none⟩ (fun _ _=>by rw [Ch];show j<c∨c+d<=j;omega),(h.cell j hj).1]
  by_cases h2:j<c
  ·rw [AU h2,AU Ad]
  ·rw [AP h2,AP Ad]
theorem K7 (W:World) (B n c k:Nat) (x:ByteArray) (ty:TypeId) (h:Gy W B n c x) (b o sl sc:Nat) (hk:k=Nat.min sl (n-c)) (hsrc:∀ j,j<k->W.cell? ⟨b,o+j,none⟩=some (.string x)) (dc:Nat) (hcn:c+k<=n) :
  (Builtin.copy_ #[28,28] ty #[.slice (some ⟨B,c,none⟩) (n-c) dc,.slice (some ⟨b,o,none⟩) sl sc]).run Tryz.prog W=.ok (goInt k) (W.setCells B c (List.replicate k (.string x))):=by
 have:=run_copy_cells (P:=Tryz.prog) W 28 28 ty 9 B c (n-c) dc ⟨b,o,none⟩ sl sc (List.replicate k (.string x)) Tryz.underlying28 PO (by rw [Ch];exact hk) (fun j v hj=>by
   have hjk:j<k:=by have:=(BR.1 hj).1;rwa [Ch] at this
   rw [Es,hsrc j hjk,<-hj];simp [hjk]) (fun j hj=>by
   rw [Ch] at hj;rw [(h.cell (c+j) Ad).1];rfl) (fun j hj=>by
   rw [Ch] at hj;exact (h.cell (c+j) Ad).2) (fun v hv=>by rw [List.eq_of_mem_replicate hv];rfl)
 rwa [Ch] at this
theorem rep_r9 {Q:Exit->Act->World->Prop} {u0 u1 u2 u3 u4 u5 u6 u9 u10 u11 u12 u13 u14 u15 u16 u17 u18 u19 u20 u21 u22 u23 u24 u25 u26 u27 u28 u29 u30 u31 u32 u33 u34 u35 u36 u37 u38 u39 u40 u41 u42 u43 u44 u45 u46 u47:Value} {B n c k:Nat} {x:ByteArray} {base:Nat} {wb w:World} (hcn:(c:Int)<n) (hc0:(0:Int)<=c) (hk:Hid (k=Nat.min c (n-c)/\k<=c/\c+k<=n)) (hn1:n<=100000) (hbase:base<=B) (hbw:Below base wb w) (hbs:base<=w.heap.size) (hR:Hid (Gy w B n c x)) {ops:Array Oper} (ho:Dt Tryz.f34.body 9=some ops)
  (hQ:∀ (v38 v39 v40 v41 v42 v43 v44 v45 v46:Value)  (W':World),(Below base wb W'/\base<=W'.heap.size)->Gy W' B n (c+k) x->Q .normal { tmps:=List.toArray (u0::u1::u2::u3::u4::u5::u6::.slice (some ⟨B,0,none⟩) n n::.int .i64 ((c+k:Nat):Int)::u9::u10::u11::u12::u13::u14::u15::u16::u17::u18::u19::u20::u21::u22::u23::u24::u25::u26::u27::u28::u29::u30::u31::u32::u33::u34::u35::u36::u37::v38::v39::v40::v41::v42::v43::v44::v45::v46::u47::[]),defers:=[] } W') :
  (Code.region 9 ops true).wp Tryz.prog Q { tmps:=List.toArray (u0::u1::u2::u3::u4::u5::u6::.slice (some ⟨B,0,none⟩) n n::.int .i64 c::u9::u10::u11::u12::u13::u14::u15::u16::u17::u18::u19::u20::u21::u22::u23::u24::u25::u26::u27::u28::u29::u30::u31::u32::u33::u34::u35::u36::u37::u38::u39::u40::u41::u42::u43::u44::u45::u46::u47::[]),defers:=[] } w:=by
 obtain rfl:=B4 (ho.symm.trans (rfl:Dt Tryz.f34.body 9=some _))
 clear ho
 replace hQ:=A8 hQ
 obtain ⟨I,hI⟩:∃ I:(Nat->Bool)->Act->World->Prop,∀ l a W,I l a W↔(∃ s38 s39 s40 s41 s42 s43 s44 s45 s46 s8:Value,a={ tmps:=List.toArray (u0::u1::u2::u3::u4::u5::u6::.slice (some ⟨B,0,none⟩) n n::s8::u9::u10::u11::u12::u13::u14::u15::u16::u17::u18::u19::u20::u21::u22::u23::u24::u25::u26::u27::u28::u29::u30::u31::u32::u33::u34::u35::u36::u37::s38::s39::s40::s41::s42::s43::s44::s45::s46::u47::[]),defers:=[] }/\(Below base wb W/\base<=W.heap.size)/\(l 0=true->.int .i64 c=s38)/\(l 1=true->.slice (some ⟨B,0,none⟩) n n=s39)/\(l 2=true->.int .i64 c=s40)/\(l 3=true->.slice (some ⟨B,c,none⟩) (n-c) (n-c)=s41)/\(l 4=true->.slice (some ⟨B,0,none⟩) n n=s42)/\(l 5=true->.int .i64 c=s43)/\(l 6=true->.slice (some ⟨B,0,none⟩) c n=s44)/\(l 7=true->s45=.int .i64 k)/\(l 8=true->.int .i64 ((c+k:Nat):Int)=s46)/\(l 9=true->.int .i64 ((c+k:Nat):Int)=s8)/\((l 7=false->Gy W B n c x)/\(l 7=true->Gy W B n (c+k) x))/\((l 9=false->Value.int .i64 c=s8))):=⟨_,fun _ _ _=>B6⟩
 refine DW I Ab Ab ((hI _ _ _).2 ⟨_,_,_,_,_,_,_,_,_,_,rfl,⟨hbw.trans (Dq w 1 |>.mono hbs),hbs⟩,fun h=>off h,fun h=>off h,fun h=>off h,fun h=>off h,fun h=>off h,fun h=>off h,fun h=>off h,fun h=>off h,fun h=>off h,fun h=>off h,⟨fun _=>hR.out.below (Dq w 1),fun h=>off h⟩,fun _=>rfl⟩) (Dk (k:=0) ?_ (Dk (k:=1) ?_ (Dk (k:=2) ?_ (Dk (k:=3) ?_ (Dk (k:=4) ?_ (Dk (k:=5) ?_ (Dk (k:=6) ?_ (Dk (k:=7) ?_ (Dk (k:=8) ?_ (Dk (k:=9) ?_ (Du))))))))))) ?_
 ·intro l a W hl hw hsh hI' K hK
  rw [hI] at hI';obtain ⟨s38,hI'⟩:=hI';obtain ⟨s39,hI'⟩:=hI';obtain ⟨s40,hI'⟩:=hI';obtain ⟨s41,hI'⟩:=hI';obtain ⟨s42,hI'⟩:=hI';obtain ⟨s43,hI'⟩:=hI';obtain ⟨s44,hI'⟩:=hI';obtain ⟨s45,hI'⟩:=hI';obtain ⟨s46,hI'⟩:=hI';obtain ⟨s8,hI'⟩:=hI';obtain ⟨ha,hI'⟩:=hI';subst ha;have hC:=hI'.1;replace hI':=hI'.2;have f0:=hI'.1;replace hI':=hI'.2;have f1:=hI'.1;replace hI':=hI'.2;have f2:=hI'.1;replace hI':=hI'.2;have f3:=hI'.1;replace hI':=hI'.2;have f4:=hI'.1;replace hI':=hI'.2;have f5:=hI'.1;replace hI':=hI'.2;have f6:=hI'.1;replace hI':=hI'.2;have f7:=hI'.1;replace hI':=hI'.2;have f8:=hI'.1;replace hI':=hI'.2;have f9:=hI'.1;replace hI':=hI'.2;have g:=hI'.1;replace hI':=hI'.2;have z:=hI';clear hI';have hst:l 9=false:=by
   cases hc:l 9 with
   | false=>rfl
   | true=>exact absurd (hsh 8 0 _ rfl (hsh 9 8 _ rfl (hc) Ab) Ab) (by simp [hl])
  have e8:=z hst;subst e8;go_simp;refine hK.out _ _ ((hI _ _ _).2 ⟨_,_,_,_,_,_,_,_,_,_,rfl,hC,fun _=>rfl,f1,f2,f3,f4,f5,f6,f7,f8,f9,g,z⟩)
 ·intro l a W hl hw hsh hI' K hK
  rw [hI] at hI';obtain ⟨s38,hI'⟩:=hI';obtain ⟨s39,hI'⟩:=hI';obtain ⟨s40,hI'⟩:=hI';obtain ⟨s41,hI'⟩:=hI';obtain ⟨s42,hI'⟩:=hI';obtain ⟨s43,hI'⟩:=hI';obtain ⟨s44,hI'⟩:=hI';obtain ⟨s45,hI'⟩:=hI';obtain ⟨s46,hI'⟩:=hI';obtain ⟨s8,hI'⟩:=hI';obtain ⟨ha,hI'⟩:=hI';subst ha;have hC:=hI'.1;replace hI':=hI'.2;have f0:=hI'.1;replace hI':=hI'.2;have f1:=hI'.1;replace hI':=hI'.2;have f2:=hI'.1;replace hI':=hI'.2;have f3:=hI'.1;replace hI':=hI'.2;have f4:=hI'.1;replace hI':=hI'.2;have f5:=hI'.1;replace hI':=hI'.2;have f6:=hI'.1;replace hI':=hI'.2;have f7:=hI'.1;replace hI':=hI'.2;have f8:=hI'.1;replace hI':=hI'.2;have f9:=hI'.1;replace hI':=hI'.2;have g:=hI'.1;replace hI':=hI'.2;have z:=hI';clear hI';go_simp;refine hK.out _ _ ((hI _ _ _).2 ⟨_,_,_,_,_,_,_,_,_,_,rfl,hC,f0,fun _=>rfl,f2,f3,f4,f5,f6,f7,f8,f9,g,z⟩)
 ·intro l a W hl hw hsh hI' K hK
  rw [hI] at hI';obtain ⟨s38,hI'⟩:=hI';obtain ⟨s39,hI'⟩:=hI';obtain ⟨s40,hI'⟩:=hI';obtain ⟨s41,hI'⟩:=hI';obtain ⟨s42,hI'⟩:=hI';obtain ⟨s43,hI'⟩:=hI';obtain ⟨s44,hI'⟩:=hI';obtain ⟨s45,hI'⟩:=hI';obtain ⟨s46,hI'⟩:=hI';obtain ⟨s8,hI'⟩:=hI';obtain ⟨ha,hI'⟩:=hI';subst ha;have hC:=hI'.1;replace hI':=hI'.2;have f0:=hI'.1;replace hI':=hI'.2;have f1:=hI'.1;replace hI':=hI'.2;have f2:=hI'.1;replace hI':=hI'.2;have f3:=hI'.1;replace hI':=hI'.2;have f4:=hI'.1;replace hI':=hI'.2;have f5:=hI'.1;replace hI':=hI'.2;have f6:=hI'.1;replace hI':=hI'.2;have f7:=hI'.1;replace hI':=hI'.2;have f8:=hI'.1;replace hI':=hI'.2;have f9:=hI'.1;replace hI':=hI'.2;have g:=hI'.1;replace hI':=hI'.2;have z:=hI';clear hI';have hst:l 9=false:=by
   cases hc:l 9 with
   | false=>rfl
   | true=>exact absurd (hsh 3 2 _ rfl (hsh 7 3 _ rfl (hsh 8 7 _ rfl (hsh 9 8 _ rfl (hc) Ab) Ab) Ab) Ab) (by simp [hl])
  have e8:=z hst;subst e8;go_simp;refine hK.out _ _ ((hI _ _ _).2 ⟨_,_,_,_,_,_,_,_,_,_,rfl,hC,f0,f1,fun _=>rfl,f3,f4,f5,f6,f7,f8,f9,g,z⟩)
 ·intro l a W hl hw hsh hI' K hK
  rw [hI] at hI';obtain ⟨s38,hI'⟩:=hI';obtain ⟨s39,hI'⟩:=hI';obtain ⟨s40,hI'⟩:=hI';obtain ⟨s41,hI'⟩:=hI';obtain ⟨s42,hI'⟩:=hI';obtain ⟨s43,hI'⟩:=hI';obtain ⟨s44,hI'⟩:=hI';obtain ⟨s45,hI'⟩:=hI';obtain ⟨s46,hI'⟩:=hI';obtain ⟨s8,hI'⟩:=hI';obtain ⟨ha,hI'⟩:=hI';subst ha;have hC:=hI'.1;replace hI':=hI'.2;have f0:=hI'.1;replace hI':=hI'.2;have f1:=hI'.1;replace hI':=hI'.2;have f2:=hI'.1;replace hI':=hI'.2;have f3:=hI'.1;replace hI':=hI'.2;have f4:=hI'.1;replace hI':=hI'.2;have f5:=hI'.1;replace hI':=hI'.2;have f6:=hI'.1;replace hI':=hI'.2;have f7:=hI'.1;replace hI':=hI'.2;have f8:=hI'.1;replace hI':=hI'.2;have f9:=hI'.1;replace hI':=hI'.2;have g:=hI'.1;replace hI':=hI'.2;have z:=hI';clear hI';obtain rfl:=f1 (hw 1 Ab);obtain rfl:=f2 (hw 2 Ab);have l3:¬ n=c:=by omega
  have l1:(c:Int)<=n:=by omega
  have l2:c<=n:=by omega
  go_simp;refine hK.out _ _ ((hI _ _ _).2 ⟨_,_,_,_,_,_,_,_,_,_,rfl,hC,f0,f1,f2,fun _=>rfl,f4,f5,f6,f7,f8,f9,g,z⟩)
 ·intro l a W hl hw hsh hI' K hK
  rw [hI] at hI';obtain ⟨s38,hI'⟩:=hI';obtain ⟨s39,hI'⟩:=hI';obtain ⟨s40,hI'⟩:=hI';obtain ⟨s41,hI'⟩:=hI';obtain ⟨s42,hI'⟩:=hI';obtain ⟨s43,hI'⟩:=hI';obtain ⟨s44,hI'⟩:=hI';obtain ⟨s45,hI'⟩:=hI';obtain ⟨s46,hI'⟩:=hI';obtain ⟨s8,hI'⟩:=hI';obtain ⟨ha,hI'⟩:=hI';subst ha;have hC:=hI'.1;replace hI':=hI'.2;have f0:=hI'.1;replace hI':=hI'.2;have f1:=hI'.1;replace hI':=hI'.2;have f2:=hI'.1;replace hI':=hI'.2;have f3:=hI'.1;replace hI':=hI'.2;have f4:=hI'.1;replace hI':=hI'.2;have f5:=hI'.1;replace hI':=hI'.2;have f6:=hI'.1;replace hI':=hI'.2;have f7:=hI'.1;replace hI':=hI'.2;have f8:=hI'.1;replace hI':=hI'.2;have f9:=hI'.1;replace hI':=hI'.2;have g:=hI'.1;replace hI':=hI'.2;have z:=hI';clear hI';go_simp;refine hK.out _ _ ((hI _ _ _).2 ⟨_,_,_,_,_,_,_,_,_,_,rfl,hC,f0,f1,f2,f3,fun _=>rfl,f5,f6,f7,f8,f9,g,z⟩)
 ·intro l a W hl hw hsh hI' K hK
  rw [hI] at hI';obtain ⟨s38,hI'⟩:=hI';obtain ⟨s39,hI'⟩:=hI';obtain ⟨s40,hI'⟩:=hI';obtain ⟨s41,hI'⟩:=hI';obtain ⟨s42,hI'⟩:=hI';obtain ⟨s43,hI'⟩:=hI';obtain ⟨s44,hI'⟩:=hI';obtain ⟨s45,hI'⟩:=hI';obtain ⟨s46,hI'⟩:=hI';obtain ⟨s8,hI'⟩:=hI';obtain ⟨ha,hI'⟩:=hI';subst ha;have hC:=hI'.1;replace hI':=hI'.2;have f0:=hI'.1;replace hI':=hI'.2;have f1:=hI'.1;replace hI':=hI'.2;have f2:=hI'.1;replace hI':=hI'.2;have f3:=hI'.1;replace hI':=hI'.2;have f4:=hI'.1;replace hI':=hI'.2;have f5:=hI'.1;replace hI':=hI'.2;have f6:=hI'.1;replace hI':=hI'.2;have f7:=hI'.1;replace hI':=hI'.2;have f8:=hI'.1;replace hI':=hI'.2;have f9:=hI'.1;replace hI':=hI'.2;have g:=hI'.1;replace hI':=hI'.2;have z:=hI';clear hI';have hst:l 9=false:=by
   cases hc:l 9 with
   | false=>rfl
   | true=>exact absurd (hsh 6 5 _ rfl (hsh 7 6 _ rfl (hsh 8 7 _ rfl (hsh 9 8 _ rfl (hc) Ab) Ab) Ab) Ab) (by simp [hl])
  have e8:=z hst;subst e8;go_simp;refine hK.out _ _ ((hI _ _ _).2 ⟨_,_,_,_,_,_,_,_,_,_,rfl,hC,f0,f1,f2,f3,f4,fun _=>rfl,f6,f7,f8,f9,g,z⟩)
 ·intro l a W hl hw hsh hI' K hK
  rw [hI] at hI';obtain ⟨s38,hI'⟩:=hI';obtain ⟨s39,hI'⟩:=hI';obtain ⟨s40,hI'⟩:=hI';obtain ⟨s41,hI'⟩:=hI';obtain ⟨s42,hI'⟩:=hI';obtain ⟨s43,hI'⟩:=hI';obtain ⟨s44,hI'⟩:=hI';obtain ⟨s45,hI'⟩:=hI';obtain ⟨s46,hI'⟩:=hI';obtain ⟨s8,hI'⟩:=hI';obtain ⟨ha,hI'⟩:=hI';subst ha;have hC:=hI'.1;replace hI':=hI'.2;have f0:=hI'.1;replace hI':=hI'.2;have f1:=hI'.1;replace hI':=hI'.2;have f2:=hI'.1;replace hI':=hI'.2;have f3:=hI'.1;replace hI':=hI'.2;have f4:=hI'.1;replace hI':=hI'.2;have f5:=hI'.1;replace hI':=hI'.2;have f6:=hI'.1;replace hI':=hI'.2;have f7:=hI'.1;replace hI':=hI'.2;have f8:=hI'.1;replace hI':=hI'.2;have f9:=hI'.1;replace hI':=hI'.2;have g:=hI'.1;replace hI':=hI'.2;have z:=hI';clear hI';obtain rfl:=f4 (hw 4 Ab);obtain rfl:=f5 (hw 5 Ab);have l1:(c:Int)<=n:=by omega
  have l2:c<=n:=by omega
  go_simp;refine hK.out _ _ ((hI _ _ _).2 ⟨_,_,_,_,_,_,_,_,_,_,rfl,hC,f0,f1,f2,f3,f4,f5,fun _=>rfl,f7,f8,f9,g,z⟩)
 ·intro l a W hl hw hsh hI' K hK
  rw [hI] at hI';obtain ⟨s38,hI'⟩:=hI';obtain ⟨s39,hI'⟩:=hI';obtain ⟨s40,hI'⟩:=hI';obtain ⟨s41,hI'⟩:=hI';obtain ⟨s42,hI'⟩:=hI';obtain ⟨s43,hI'⟩:=hI';obtain ⟨s44,hI'⟩:=hI';obtain ⟨s45,hI'⟩:=hI';obtain ⟨s46,hI'⟩:=hI';obtain ⟨s8,hI'⟩:=hI';obtain ⟨ha,hI'⟩:=hI';subst ha;have hC:=hI'.1;replace hI':=hI'.2;have f0:=hI'.1;replace hI':=hI'.2;have f1:=hI'.1;replace hI':=hI'.2;have f2:=hI'.1;replace hI':=hI'.2;have f3:=hI'.1;replace hI':=hI'.2;have f4:=hI'.1;replace hI':=hI'.2;have f5:=hI'.1;replace hI':=hI'.2;have f6:=hI'.1;replace hI':=hI'.2;have f7:=hI'.1;replace hI':=hI'.2;have f8:=hI'.1;replace hI':=hI'.2;have f9:=hI'.1;replace hI':=hI'.2;have g:=hI'.1;replace hI':=hI'.2;have z:=hI';clear hI';obtain rfl:=f3 (hw 3 Ab);obtain rfl:=f6 (hw 6 Ab);rw [AU (by rfl)];have hR1:=g.1 hl;have hkk:c+k<=n:=hk.out.2.2;have hkc:k<=c:=hk.out.2.1;refine M5 _ _ _ 28 28 rfl _ _ rfl rfl (K7 W B n c k x _ hR1 B 0 c n hk.out.1 (fun j hj=>by rw [BN,(hR1.cell j Ad).1,AU Ad]) (n-c) hkk) ?_;have hon:=Dx (B:=B) (List.replicate k (Value.string x)) c W;refine hK.out _ _ ((hI _ _ _).2 ⟨_,_,_,_,_,_,_,_,_,_,rfl,⟨hC.1.trans (hon.toBelow hC.2 (by intro b hb;rw [B3.1 hb];exact hbase)),Bc hC.2 hon.size⟩,f0,f1,f2,f3,f4,f5,f6,fun _=>rfl,f8,f9,⟨fun h=>off h.symm,fun _=>hR1.copy hkk⟩,z⟩)
 ·intro l a W hl hw hsh hI' K hK
  rw [hI] at hI';obtain ⟨s38,hI'⟩:=hI';obtain ⟨s39,hI'⟩:=hI';obtain ⟨s40,hI'⟩:=hI';obtain ⟨s41,hI'⟩:=hI';obtain ⟨s42,hI'⟩:=hI';obtain ⟨s43,hI'⟩:=hI';obtain ⟨s44,hI'⟩:=hI';obtain ⟨s45,hI'⟩:=hI';obtain ⟨s46,hI'⟩:=hI';obtain ⟨s8,hI'⟩:=hI';obtain ⟨ha,hI'⟩:=hI';subst ha;have hC:=hI'.1;replace hI':=hI'.2;have f0:=hI'.1;replace hI':=hI'.2;have f1:=hI'.1;replace hI':=hI'.2;have f2:=hI'.1;replace hI':=hI'.2;have f3:=hI'.1;replace hI':=hI'.2;have f4:=hI'.1;replace hI':=hI'.2;have f5:=hI'.1;replace hI':=hI'.2;have f6:=hI'.1;replace hI':=hI'.2;have f7:=hI'.1;replace hI':=hI'.2;have f8:=hI'.1;replace hI':=hI'.2;have f9:=hI'.1;replace hI':=hI'.2;have g:=hI'.1;replace hI':=hI'.2;have z:=hI';clear hI';obtain rfl:=f0 (hw 0 Ab);obtain rfl:=f7 (hw 7 Ab);have hkk:c+k<=n:=hk.out.2.2;have e1:IntKind.i64.wrap ((c:Int)+k)=((c+k:Nat):Int):=by rw [BT _ Ad];omega
  go_simp;refine hK.out _ _ ((hI _ _ _).2 ⟨_,_,_,_,_,_,_,_,_,_,rfl,hC,f0,f1,f2,f3,f4,f5,f6,f7,fun _=>rfl,f9,g,z⟩)
 ·intro l a W hl hw hsh hI' K hK
  rw [hI] at hI';obtain ⟨s38,hI'⟩:=hI';obtain ⟨s39,hI'⟩:=hI';obtain ⟨s40,hI'⟩:=hI';obtain ⟨s41,hI'⟩:=hI';obtain ⟨s42,hI'⟩:=hI';obtain ⟨s43,hI'⟩:=hI';obtain ⟨s44,hI'⟩:=hI';obtain ⟨s45,hI'⟩:=hI';obtain ⟨s46,hI'⟩:=hI';obtain ⟨s8,hI'⟩:=hI';obtain ⟨ha,hI'⟩:=hI';subst ha;have hC:=hI'.1;replace hI':=hI'.2;have f0:=hI'.1;replace hI':=hI'.2;have f1:=hI'.1;replace hI':=hI'.2;have f2:=hI'.1;replace hI':=hI'.2;have f3:=hI'.1;replace hI':=hI'.2;have f4:=hI'.1;replace hI':=hI'.2;have f5:=hI'.1;replace hI':=hI'.2;have f6:=hI'.1;replace hI':=hI'.2;have f7:=hI'.1;replace hI':=hI'.2;have f8:=hI'.1;replace hI':=hI'.2;have f9:=hI'.1;replace hI':=hI'.2;have g:=hI'.1;replace hI':=hI'.2;have z:=hI';clear hI';obtain rfl:=f8 (hw 8 Ab);go_simp;refine hK.out _ _ ((hI _ _ _).2 ⟨_,_,_,_,_,_,_,_,_,_,rfl,hC,f0,f1,f2,f3,f4,f5,f6,f7,f8,fun _=>rfl,g,fun h=>off h.symm⟩)
 ·intro a W hI'
  rw [hI] at hI';obtain ⟨s38,hI'⟩:=hI';obtain ⟨s39,hI'⟩:=hI';obtain ⟨s40,hI'⟩:=hI';obtain ⟨s41,hI'⟩:=hI';obtain ⟨s42,hI'⟩:=hI';obtain ⟨s43,hI'⟩:=hI';obtain ⟨s44,hI'⟩:=hI';obtain ⟨s45,hI'⟩:=hI';obtain ⟨s46,hI'⟩:=hI';obtain ⟨s8,hI'⟩:=hI';obtain ⟨ha,hI'⟩:=hI';subst ha;have hC:=hI'.1;replace hI':=hI'.2;have f0:=hI'.1;replace hI':=hI'.2;have f1:=hI'.1;replace hI':=hI'.2;have f2:=hI'.1;replace hI':=hI'.2;have f3:=hI'.1;replace hI':=hI'.2;have f4:=hI'.1;replace hI':=hI'.2;have f5:=hI'.1;replace hI':=hI'.2;have f6:=hI'.1;replace hI':=hI'.2;have f7:=hI'.1;replace hI':=hI'.2;have f8:=hI'.1;replace hI':=hI'.2;have f9:=hI'.1;replace hI':=hI'.2;have g:=hI'.1;replace hI':=hI'.2;have z:=hI';clear hI';clear f0;clear f1;clear f2;clear f3;clear f4;clear f5;clear f6;clear f7;clear f8;obtain rfl:=f9 Ab;exact hQ.out _ _ _ _ _ _ _ _ _ _ hC (g.2 Ab)
theorem QY (n b cap:Nat) (x:ByteArray) (w:World) (hx:w.cell? ⟨b,0,none⟩=some (.string x)) (hb:b<w.heap.size) (hn:n<=1000) :
  Calls Tryz.prog 34 #[.slice (some ⟨b,0,none⟩) 1 cap,.int .i64 n] w fun e w'=>∃ B,e=.returned (.slice (some ⟨B,0,none⟩) n n)/\w.heap.size<=B/\Gy w' B n n x/\Below w.heap.size w w':=by
 have MU:=A8 (fun W=>Tryz.bits_Mul 1 n Ae Ad W)
 have e1:IntKind.u64.wrap (n:Int)=n:=by rw [IntKind.wrap_u64];omega
 have e2:1*n / 18446744073709551616=0:=by omega
 have e3:1*n % 18446744073709551616=n:=by omega
 rw [e2,e3] at MU
 have e4:IntKind.i64.wrap (n:Int)=n:=BT _ Ad
 have l1:¬ (n:Int)<0:=by omega
 have l2:¬ (9223372036854775807:Int)<n:=by omega
 have n0:(0:Int)<=n:=by omega
 obtain ⟨W1,hmk,hrep,hb1⟩:=Ob w n Ad
 have R0:=A8 (hrep x)
 have hx1:W1.cell? ⟨b,0,none⟩=some (.string x):=(hb1.cell (p:=⟨_,_,none⟩) hb).trans hx
 go_enter Tryz.func34,Tryz.ntmps34
 go_wp2_with fail
 refine Calls.mono (MU.out _) ?_
 rintro e w1 ⟨rfl,hw⟩
 replace hw:=hw.symm
 subst hw
 go_upto_region 7 with fail
 obtain ⟨B,hB⟩:∃ B,B=w.heap.size:=⟨_,rfl⟩
 rw [<-hB] at R0 hmk |-
 have hBle:w.heap.size<=B:=by omega
 have hBl1:w.heap.size<=W1.heap.size:=hb1.size
 obtain ⟨k,W2,hcp,R2,hb2,hkn,hk0⟩:∃ (k:Nat) (W2:World),(∀ ty,(Builtin.copy_ #[28,28] ty #[.slice (some ⟨B,0,none⟩) n n,.slice (some ⟨b,0,none⟩) 1 cap]).run Tryz.prog W1=.ok (.int .i64 k) W2)/\Gy W2 B n k x/\Below w.heap.size w W2/\k<=n/\(0<k∨n=0):=by
  by_cases h0:n=0
  ·subst h0
   exact ⟨0,W1,fun ty=>run_copy_none (P:=Tryz.prog) W1 _ _ ty 9 _ _ 0 0 1 cap Tryz.underlying28 PO rfl,R0.out,hb1,Aa _,.inr rfl⟩
  ·refine ⟨1,_,fun ty=>K7 W1 B n 0 1 x ty R0.out b 0 1 cap (by show 1=min 1 (n-0);omega) (fun j hj=>by rw [show j=0 by omega];exact hx1) n Ad,R0.out.copy Ad,hb1.trans ((Dx _ _ _).toBelow hBl1 (by intro b hb;rw [B3.1 hb];exact hBle)),Ad,.inl Ae⟩
 replace R2:=A8 R2
 replace hB:=A8 hB
 clear hmk hx1 R0 hb1 hrep MU
 go_wp2_with (at_builtin;refine M6 _ rfl _ _ 28 28 rfl _ _ rfl rfl (hcp _) ?_)
 clear hcp
 go_loopw [8] (fun o wr=>∃ c:Nat,o=.int .i64 c/\c<=n/\(0<c∨n=0)/\Below w.heap.size w wr/\Hid (Gy wr B n c x)) (fun o _=>n-(intOf o).toNat)
 case atStart=>exact ⟨k,rfl,hkn,hk0,hb2,R2⟩
 case round =>
  clear R2 hb2;obtain ⟨c,rfl,hcn,hc0,hbw,hR⟩:=hrel;by_cases hlt:c<n;case pos =>
   have hlt':(c:Int)<n:=by omega
   go_upto_region 9 with fail;obtain ⟨k2,hk2⟩:∃ k2,k2=Nat.min c (n-c):=⟨_,rfl⟩;have hk3:k2<=c/\c+k2<=n/\0<k2:=by
    have e:k2=min c (n-c):=hk2;omega
   refine rep_r9 (k:=k2) (base:=w.heap.size) (wb:=w) hlt' Ad (A8 ⟨hk2,hk3.1,hk3.2.1⟩) Ad hBle hbw hbw.size hR Ab ?_;intro v38 v39 v40 v41 v42 v43 v44 v45 v46 W3 hb3 R3;go_wp2_with fail;go_roundw;case rel=>exact ⟨c+k2,rfl,hk3.2.1,Ad,hb3.1,A8 R3⟩
   case measure=>simp [intOf];omega
  case neg =>
   have hlt':¬ (c:Int)<n:=by omega
   obtain rfl:c=n:=by omega
   go_wp2;go_ret;exact ⟨B,rfl,hBle,hR.out,hbw⟩
end
section
open Go.RowKit
open LnM (wd DL sm)
attribute [local go_sem] Oper.semAt_some
structure EZ (W:World) (B n:Nat) (f:Nat->ByteArray):Prop where
 lt:B<W.heap.size
 cell:∀ j,j<n->W.cell? ⟨B,j,none⟩=some (.string (f j))/\W.frozen? ⟨B,j,none⟩=false
theorem EZ.below {W W':World} {B n:Nat} {f:Nat->ByteArray} (h:EZ W B n f) (hb:Below W.heap.size W W'):EZ W' B n f :=
 ⟨A9 h.lt hb.size,fun j hj=>⟨(hb.cell (p:=⟨_,_,none⟩) h.lt).trans (h.cell j hj).1,(EF (hb.block B h.lt) j).trans (h.cell j hj).2⟩⟩
theorem EZ.set {W:World} {B n:Nat} {f:Nat->ByteArray} (h:EZ W B n f) {k:Nat} (hk:k<n) (x:ByteArray):EZ (W.setCell ⟨B,k,none⟩ (.string x)) B n (DL f k x):=by
 refine ⟨by simpa [World.setCell] using h.lt,fun j hj=>⟨?_,(World.frozen?_setCell _ _ _ _).trans (h.cell j hj).2⟩⟩;by_cases e:j=k
 ·subst e;rw [LnM.upd_same];exact World.cell?_setCell_same _ _ _ (h.cell j hj).1
 ·rw [LnM.upd_ne _ _ e]
  exact (World.cell?_setCell_other _ _ _ _ (by intro h;cases h;exact e rfl)).trans (h.cell j hj).1
theorem EZ.congr {W:World} {B n:Nat} {f g:Nat->ByteArray} (h:EZ W B n f) (e:∀ j,j<n->f j=g j):EZ W B n g:=⟨h.lt,fun j hj=>by rw [<-e j hj];exact h.cell j hj⟩
theorem Gy.str {W:World} {B n:Nat} {x:ByteArray} (h:Gy W B n n x):EZ W B n (fun _=>x):=⟨h.lt,fun j hj=>by have:=h.cell j hj;rwa [AU hj] at this⟩
theorem EZ.only {W W':World} {B n:Nat} {f:Nat->ByteArray} {S:List Nat} (h:EZ W B n f) (ho:Dr S W W') (hS:B∉S):EZ W' B n f :=
 ⟨A9 h.lt ho.size,fun j hj=>⟨(Dw (ho.block B h.lt hS) j).trans (h.cell j hj).1,(EF (ho.block B h.lt hS) j).trans (h.cell j hj).2⟩⟩
theorem EZ.sl {W:World} {B n:Nat} {f:Nat->ByteArray} (h:EZ W B n f) (hn:n<=maxLen):DS W (.slice (some ⟨B,0,none⟩) n n) ((List.range n).map f):=by
 refine .inr ⟨B,0,n,by rw [Cj,List.length_range],by rw [Cj,List.length_range];exact Aa _,hn,h.lt,fun j x hj=>?_⟩;rw [AQ] at hj;by_cases hjn:j<n
 ·rw [AR hjn] at hj
  obtain rfl:=B4 hj;show W.cell? ⟨B,0+j*1,none⟩=_;rw [BN,AY];exact (h.cell j hjn).1
 ·rw [BX (by rw [List.length_range];omega)] at hj;cases hj
theorem blk_mid {W:World} {g:Nat} {z:Int} (h:Ds W g (wc (wd z)) 66):W.rangeAt g 0 (wl (wd z)):=fun i v hv=>by
 rw [BN,h.cell,<-Ej,Ck];exact hv
theorem Tp {W:World} {g:Nat} {cs:Array Value} {t:TypeId} (h:Ds W g cs t) (hs:cs.size=12):W.there g 0 12:=fun j hj=>by
 rw [BN,h.cell,h.frozen];exact ⟨by rw [Cl Ad];rfl,rfl⟩
theorem Tq {Q:Exit->Act->World->Prop} {u0 u1 u2 u3 u5 u6 u8 u9 u10 u11 u12 u13 u14 u15 u16 u17 u18 u19 u20 u21 u22 u23 u24 u25 u26 u27 u28 u29 u30 u31 u32 u33 u34 u35 u36 u37 u38 u39 u40 u41 u42 u43 u44 u45 u46 u47 u48 u49 u50 u51 u52 u53 u54 u55 u56 u57 u58 u59 u60 u61 u62 u63 u64 u65 u66 u67 u68 u69 u70 u71 u72 u73 u74 u75 u76 u77 u78 u79 u80 u81 u82 u83 u84 u85 u86 u87 u88 u89 u90 u91 u92 u93 u94 u95 u96 u97 u98 u99 u100 u101 u102 u103 u104 u105 u106 u107 u108 u109 u110 u111 u112 u113 u114 u115 u116 u117 u118 u119 u120 u121 u122 u123:Value} {t:Tb} {F:Nat->Nat->Int} {B:Nat->Nat} {sg:Nat->Int} {d:Int} {i q:Nat} {w:World} (hT:Hid (K4 w t F B sg d)) (hqe:IntKind.i64.wrap ((t.k:Int)+i)=q) (hqn:q<t.n) (hqi:(q:Int)<t.n) (hq0:(0:Int)<=q) {ops:Array Oper} (ho:Dt Tryz.f9.body 11=some ops)
  (hQ:∀ (v46 v47 v48 v49 v50 v51 v52 v53 v54 v55 v56 v57 v58 v59 v60 v61 v62:Value) (g:Nat) (W':World),Below w.heap.size w W'->Ds W' g (wc (wd (F t.m q-d))) 66->w.heap.size<=g->Q .normal { tmps:=List.toArray (u0::u1::u2::u3::.pointer (some ⟨t.tb,0,none⟩)::u5::u6::.int .i64 i::u8::.pointer (some ⟨g,0,none⟩)::u10::u11::u12::u13::u14::u15::u16::u17::u18::u19::u20::u21::u22::u23::u24::u25::u26::u27::u28::u29::u30::u31::u32::u33::u34::u35::u36::u37::u38::u39::u40::u41::u42::u43::u44::u45::v46::v47::v48::v49::v50::v51::v52::v53::v54::v55::v56::v57::v58::v59::v60::v61::v62::u63::u64::u65::u66::u67::u68::u69::u70::u71::u72::u73::u74::u75::u76::u77::u78::u79::u80::u81::u82::u83::u84::u85::u86::u87::u88::u89::u90::u91::u92::u93::u94::u95::u96::u97::u98::u99::u100::u101::u102::u103::u104::u105::u106::u107::u108::u109::u110::u111::u112::u113::u114::u115::u116::u117::u118::u119::u120::u121::u122::u123::[]),defers:=[] } W') :
  (Code.region 11 ops true).wp Tryz.prog Q { tmps:=List.toArray (u0::u1::u2::u3::.pointer (some ⟨t.tb,0,none⟩)::u5::u6::.int .i64 i::u8::u9::u10::u11::u12::u13::u14::u15::u16::u17::u18::u19::u20::u21::u22::u23::u24::u25::u26::u27::u28::u29::u30::u31::u32::u33::u34::u35::u36::u37::u38::u39::u40::u41::u42::u43::u44::u45::u46::u47::u48::u49::u50::u51::u52::u53::u54::u55::u56::u57::u58::u59::u60::u61::u62::u63::u64::u65::u66::u67::u68::u69::u70::u71::u72::u73::u74::u75::u76::u77::u78::u79::u80::u81::u82::u83::u84::u85::u86::u87::u88::u89::u90::u91::u92::u93::u94::u95::u96::u97::u98::u99::u100::u101::u102::u103::u104::u105::u106::u107::u108::u109::u110::u111::u112::u113::u114::u115::u116::u117::u118::u119::u120::u121::u122::u123::[]),defers:=[] } w:=by
 obtain rfl:=B4 (ho.symm.trans (rfl:Dt Tryz.f9.body 11=some _))
 clear ho
 replace hQ:=A8 hQ
 obtain ⟨Iv,hI⟩:∃ Iv:(Nat->Bool)->Act->World->Prop,∀ l a W,Iv l a W↔(∃ s46 s47 s48 s49 s50 s51 s52 s53 s54 s55 s56 s57 s58 s59 s60 s61 s62 s9:Value,a={ tmps:=List.toArray (u0::u1::u2::u3::.pointer (some ⟨t.tb,0,none⟩)::u5::u6::.int .i64 i::u8::s9::u10::u11::u12::u13::u14::u15::u16::u17::u18::u19::u20::u21::u22::u23::u24::u25::u26::u27::u28::u29::u30::u31::u32::u33::u34::u35::u36::u37::u38::u39::u40::u41::u42::u43::u44::u45::s46::s47::s48::s49::s50::s51::s52::s53::s54::s55::s56::s57::s58::s59::s60::s61::s62::u63::u64::u65::u66::u67::u68::u69::u70::u71::u72::u73::u74::u75::u76::u77::u78::u79::u80::u81::u82::u83::u84::u85::u86::u87::u88::u89::u90::u91::u92::u93::u94::u95::u96::u97::u98::u99::u100::u101::u102::u103::u104::u105::u106::u107::u108::u109::u110::u111::u112::u113::u114::u115::u116::u117::u118::u119::u120::u121::u122::u123::[]),defers:=[] }/\Below w.heap.size w W/\Vs [(0,.pointer (some ⟨t.tb,0,none⟩),s46),(1,.pointer (some ⟨t.tb,0,none⟩),s47),(2,.pointer (some ⟨t.tb,1,none⟩),s48),(3,.slice (some ⟨t.R t.m,0,none⟩) t.n t.n,s49),(4,.pointer (some ⟨t.tb,0,none⟩),s50),(5,.pointer (some ⟨t.tb,0,none⟩),s51),(6,.pointer (some ⟨t.tb,16,none⟩),s52),(7,.int .i64 t.k,s53),(8,.int .i64 i,s54),(9,.int .i64 q,s55),(10,.pointer (some ⟨t.R t.m,q*12,none⟩),s56),(12,.pointer (some ⟨t.tb,0,none⟩),s58),(13,.pointer (some ⟨t.tb,0,none⟩),s59),(14,.pointer (some ⟨t.tb,4,none⟩),s60),(16,.agg (wc (wd (F t.m q-d))),s62)] l/\(l 11=true->s57=.agg (wc (wd (F t.m q))))/\(l 15=true->s61=.agg (wc (wd (d))))/\(l 17=true->∃ g:Nat,s9=.pointer (some ⟨g,0,none⟩)/\(l 18=false->Ds W g (wc (fun _=>0)) 66)/\(l 18=true->Ds W g (wc (wd (F t.m q-d))) 66)/\w.heap.size<=g)):=⟨_,fun _ _ _=>B6⟩
 refine DW Iv Ab Ab ((hI _ _ _).2 ⟨_,_,_,_,_,_,_,_,_,_,_,_,_,_,_,_,_,_,rfl,Dq w 1,Vs.zero,fun h=>off h,fun h=>off h,fun h=>off h⟩) (Dk (k:=0) ?_ (Dk (k:=1) ?_ (Dk (k:=2) ?_ (Dk (k:=3) ?_ (Dk (k:=4) ?_ (Dk (k:=5) ?_ (Dk (k:=6) ?_ (Dk (k:=7) ?_ (Dk (k:=8) ?_ (Dk (k:=9) ?_ (Dk (k:=10) ?_ (Dk (k:=11) ?_ (Dk (k:=12) ?_ (Dk (k:=13) ?_ (Dk (k:=14) ?_ (Dk (k:=15) ?_ (Dk (k:=16) ?_ (Dk (k:=17) ?_ (Dk (k:=18) ?_ (Du)))))))))))))))))))) ?_
 ·intro l a W hl hw hsh h K hK
  rw [hI] at h;iterate 18 obtain ⟨_,h⟩:=h
  obtain ⟨rfl,hC,hP,f11,f15,f17⟩:=h;go_simp;apply hK.out;rw [hI];iterate 18 apply Exists.intro
  exact ⟨rfl,hC,hP.put 0 rfl rfl rfl,f11,f15,f17⟩
 ·intro l a W hl hw hsh h K hK
  rw [hI] at h;iterate 18 obtain ⟨_,h⟩:=h
  obtain ⟨rfl,hC,hP,f11,f15,f17⟩:=h;obtain rfl:=hP.get 0 rfl (hw 0 Ab);go_simp;apply hK.out;rw [hI];iterate 18 apply Exists.intro
  exact ⟨rfl,hC,hP.put 1 rfl rfl rfl,f11,f15,f17⟩
 ·intro l a W hl hw hsh h K hK
  rw [hI] at h;iterate 18 obtain ⟨_,h⟩:=h
  obtain ⟨rfl,hC,hP,f11,f15,f17⟩:=h;obtain rfl:=hP.get 1 rfl (hw 1 Ab);go_simp;apply hK.out;rw [hI];iterate 18 apply Exists.intro
  exact ⟨rfl,hC,hP.put 2 rfl rfl rfl,f11,f15,f17⟩
 ·intro l a W hl hw hsh h K hK
  rw [hI] at h;iterate 18 obtain ⟨_,h⟩:=h
  obtain ⟨rfl,hC,hP,f11,f15,f17⟩:=h;obtain rfl:=hP.get 2 rfl (hw 2 Ab);have x1:=(hT.out.below hC).c1;go_simp;apply hK.out;rw [hI];iterate 18 apply Exists.intro
  exact ⟨rfl,hC,hP.put 3 rfl rfl rfl,f11,f15,f17⟩
 ·intro l a W hl hw hsh h K hK
  rw [hI] at h;iterate 18 obtain ⟨_,h⟩:=h
  obtain ⟨rfl,hC,hP,f11,f15,f17⟩:=h;go_simp;apply hK.out;rw [hI];iterate 18 apply Exists.intro
  exact ⟨rfl,hC,hP.put 4 rfl rfl rfl,f11,f15,f17⟩
 ·intro l a W hl hw hsh h K hK
  rw [hI] at h;iterate 18 obtain ⟨_,h⟩:=h
  obtain ⟨rfl,hC,hP,f11,f15,f17⟩:=h;obtain rfl:=hP.get 4 rfl (hw 4 Ab);go_simp;apply hK.out;rw [hI];iterate 18 apply Exists.intro
  exact ⟨rfl,hC,hP.put 5 rfl rfl rfl,f11,f15,f17⟩
 ·intro l a W hl hw hsh h K hK
  rw [hI] at h;iterate 18 obtain ⟨_,h⟩:=h
  obtain ⟨rfl,hC,hP,f11,f15,f17⟩:=h;obtain rfl:=hP.get 5 rfl (hw 5 Ab);go_simp;apply hK.out;rw [hI];iterate 18 apply Exists.intro
  exact ⟨rfl,hC,hP.put 6 rfl rfl rfl,f11,f15,f17⟩
 ·intro l a W hl hw hsh h K hK
  rw [hI] at h;iterate 18 obtain ⟨_,h⟩:=h
  obtain ⟨rfl,hC,hP,f11,f15,f17⟩:=h;obtain rfl:=hP.get 6 rfl (hw 6 Ab);have x1:=(hT.out.below hC).c16;go_simp;apply hK.out;rw [hI];iterate 18 apply Exists.intro
  exact ⟨rfl,hC,hP.put 7 rfl rfl rfl,f11,f15,f17⟩
 ·intro l a W hl hw hsh h K hK
  rw [hI] at h;iterate 18 obtain ⟨_,h⟩:=h
  obtain ⟨rfl,hC,hP,f11,f15,f17⟩:=h;go_simp;apply hK.out;rw [hI];iterate 18 apply Exists.intro
  exact ⟨rfl,hC,hP.put 8 rfl rfl rfl,f11,f15,f17⟩
 ·intro l a W hl hw hsh h K hK
  rw [hI] at h;iterate 18 obtain ⟨_,h⟩:=h
  obtain ⟨rfl,hC,hP,f11,f15,f17⟩:=h;obtain rfl:=hP.get 7 rfl (hw 7 Ab);obtain rfl:=hP.get 8 rfl (hw 8 Ab);go_simp;apply hK.out;rw [hI];iterate 18 apply Exists.intro
  exact ⟨rfl,hC,hP.put 9 rfl rfl rfl,f11,f15,f17⟩
 ·intro l a W hl hw hsh h K hK
  rw [hI] at h;iterate 18 obtain ⟨_,h⟩:=h
  obtain ⟨rfl,hC,hP,f11,f15,f17⟩:=h;obtain rfl:=hP.get 3 rfl (hw 3 Ab);obtain rfl:=hP.get 9 rfl (hw 9 Ab);go_simp;apply hK.out;rw [hI];iterate 18 apply Exists.intro
  exact ⟨rfl,hC,hP.put 10 rfl rfl rfl,f11,f15,f17⟩
 ·intro l a W hl hw hsh h K hK
  rw [hI] at h;iterate 18 obtain ⟨_,h⟩:=h
  obtain ⟨rfl,hC,hP,f11,f15,f17⟩:=h;obtain rfl:=hP.get 10 rfl (hw 10 Ab);rw [AU (by rfl)];have hrng:=((hT.out.below hC).grid.row t.m Ad).rd q hqn;refine wp_load_mid _ _ rfl _ _ rfl (wl (wd (F t.m q))) _ hrng Io rfl (Gu _) ?_;apply hK.out;rw [hI];iterate 18 apply Exists.intro
  exact ⟨rfl,hC,hP.skip 11 rfl,fun _=>rfl,f15,f17⟩
 ·intro l a W hl hw hsh h K hK
  rw [hI] at h;iterate 18 obtain ⟨_,h⟩:=h
  obtain ⟨rfl,hC,hP,f11,f15,f17⟩:=h;go_simp;apply hK.out;rw [hI];iterate 18 apply Exists.intro
  exact ⟨rfl,hC,hP.put 11 rfl rfl rfl,f11,f15,f17⟩
 ·intro l a W hl hw hsh h K hK
  rw [hI] at h;iterate 18 obtain ⟨_,h⟩:=h
  obtain ⟨rfl,hC,hP,f11,f15,f17⟩:=h;obtain rfl:=hP.get 11 rfl (hw 12 Ab);go_simp;apply hK.out;rw [hI];iterate 18 apply Exists.intro
  exact ⟨rfl,hC,hP.put 12 rfl rfl rfl,f11,f15,f17⟩
 ·intro l a W hl hw hsh h K hK
  rw [hI] at h;iterate 18 obtain ⟨_,h⟩:=h
  obtain ⟨rfl,hC,hP,f11,f15,f17⟩:=h;obtain rfl:=hP.get 12 rfl (hw 13 Ab);go_simp;apply hK.out;rw [hI];iterate 18 apply Exists.intro
  exact ⟨rfl,hC,hP.put 13 rfl rfl rfl,f11,f15,f17⟩
 ·intro l a W hl hw hsh h K hK
  rw [hI] at h;iterate 18 obtain ⟨_,h⟩:=h
  obtain ⟨rfl,hC,hP,f11,f15,f17⟩:=h;obtain rfl:=hP.get 13 rfl (hw 14 Ab);rw [AU (by rfl)];have hrng:=(hT.out.below hC).den;refine wp_load_mid _ _ rfl _ _ rfl (wl (wd (d))) _ hrng Io rfl (Gu _) ?_;apply hK.out;rw [hI];iterate 18 apply Exists.intro
  exact ⟨rfl,hC,hP.skip 15 rfl,f11,fun _=>rfl,f17⟩
 ·intro l a W hl hw hsh h K hK
  rw [hI] at h;iterate 18 obtain ⟨_,h⟩:=h
  obtain ⟨rfl,hC,hP,f11,f15,f17⟩:=h;obtain rfl:=f11 (hw 11 Ab);obtain rfl:=f15 (hw 15 Ab);go_simp;go_at_call 32;refine Calls.mono (FY (F t.m q) d _) ?_;rintro e W2 ⟨rfl,hb⟩;apply hK.out;rw [hI];iterate 18 apply Exists.intro
  exact ⟨rfl,hC.trans (hb.mono hC.size),hP.put 14 rfl rfl rfl,f11,f15,(fun h=>(let ⟨g,e,a,b,c⟩:=f17 h;⟨g,e,fun h2=>(a h2).below hb,fun h2=>(b h2).below hb,c⟩))⟩
 ·intro l a W hl hw hsh h K hK
  rw [hI] at h;iterate 18 obtain ⟨_,h⟩:=h
  obtain ⟨rfl,hC,hP,f11,f15,f17⟩:=h;have hst:l 18=false:=by
   cases hc:l 18 with
   | false=>rfl
   | true=>exact absurd (hsh 18 17 _ rfl hc Ab) (by simp [hl])
  go_simp;have hb:=(Below.refl W.heap.size W).alloc (Aa _) (.cells (wc (fun _=>0)) 66);apply hK.out;rw [hI];iterate 18 apply Exists.intro
  exact ⟨rfl,hC.trans (hb.mono hC.size),hP.skip 17 rfl,f11,f15,fun _=>⟨_,rfl,fun _=>Ds.new _ _ _,fun h2=>off (hst.symm.trans h2),hC.size⟩⟩
 ·intro l a W hl hw hsh h K hK
  rw [hI] at h;iterate 18 obtain ⟨_,h⟩:=h
  obtain ⟨rfl,hC,hP,f11,f15,f17⟩:=h;obtain rfl:=hP.get 14 rfl (hw 16 Ab);obtain ⟨g,rfl,hg0,hg1,hgw⟩:=f17 (hw 17 Ab);rw [AU (by rfl)];have hG:=hg0 hl;refine wp_store_mid _ _ _ rfl _ _ (wl (wd (F t.m q-d))).toArray rfl rfl (by rw [BH];exact Tp hG rfl) (by rw [BH];exact Gu _) (all_oneCell_toArray (JC _)) ?_;rw [Cm];have hG2:Ds (W.setCells g 0 (wl (wd (F t.m q-d)))) g (wc (wd (F t.m q-d))) 66:=by rw [HK];exact Fs hG
  apply hK.out;rw [hI];iterate 18 apply Exists.intro
  exact ⟨rfl,hC.trans ((Dx _ _ W).toBelow hC.size (by intro b hb;rw [B3.1 hb];exact hgw)),hP.skip 18 rfl,f11,f15,(fun _=>⟨g,rfl,fun h2=>off h2.symm,fun _=>hG2,hgw⟩)⟩
 ·intro a W hI'
  have h:=(hI _ _ _).1 hI';clear hI';iterate 18 obtain ⟨_,h⟩:=h
  obtain ⟨rfl,hC,hP,f11,f15,f17⟩:=h;clear f11;clear f15;obtain ⟨g,rfl,hg0,hg1,hgw⟩:=f17 Ab;exact hQ.out _ _ _ _ _ _ _ _ _ _ _ _ _ _ _ _ _ g _ hC (hg1 Ab) hgw
theorem Nc {Q:Exit->Act->World->Prop} {u0 u1 u2 u3 u4 u5 u7 u8 u10 u11 u12 u13 u14 u15 u16 u17 u18 u19 u20 u21 u22 u23 u24 u25 u26 u27 u28 u29 u30 u31 u32 u33 u34 u35 u36 u37 u38 u39 u40 u41 u42 u43 u44 u45 u46 u47 u48 u49 u50 u51 u52 u53 u54 u55 u56 u57 u58 u59 u60 u61 u62 u63 u64 u65 u66 u67 u68 u69 u70 u71 u72 u73 u74 u75 u76 u77 u78 u79 u80 u81 u82 u83 u84 u85 u86 u87 u88 u89 u90 u91 u92 u93 u94 u95 u96 u97 u98 u99 u100 u101 u102 u103 u104 u105 u106 u107 u108 u109 u110 u111 u112 u113 u114 u115 u116 u117 u118 u119 u120 u121 u122 u123:Value} {X g i base:Nat} {z:Int} {wv:Value} {xs:List Value} {w0 w:World} (hE:Hid (Fp w0)) (h0:Hid (Below w0.heap.size w0 w/\w0.heap.size<=base/\base<=w.heap.size/\base<=X)) (hz:Hid (LnM.Wide z/\LnM.Wide (-z))) (hi:i<=1000)
  (hX:Hid (Ds w X #[.bool false,.slice none 0 0,.string ⟨#[]⟩,wv] 38)) (hG:Hid (Ds w g (wc (wd z)) 66)) (hO:Hid (w.ownsRow base 9 1 wv i xs)) {ops:Array Oper} (ho:Dt Tryz.f9.body 14=some ops)
  (hQ:∀ (v68 v69 v70 v71 v72 v73 v74:Value) (ga cap:Nat) (W':World),Dr (X :: wv.ownBlock.toList) w W'->Ds W' X #[.bool false,.slice none 0 0,.string ⟨#[]⟩,.slice (some ⟨ga,0,none⟩) (i+1) cap] 38->W'.ownsRow base 9 1 (.slice (some ⟨ga,0,none⟩) (i+1) cap) (i+1) (xs++[.string ⟨(Lib.itoa z).toArray⟩])->Q .normal { tmps:=List.toArray (u0::u1::u2::u3::u4::u5::.pointer (some ⟨X,0,none⟩)::u7::u8::.pointer (some ⟨g,0,none⟩)::u10::u11::u12::u13::u14::u15::u16::u17::u18::u19::u20::u21::u22::u23::u24::u25::u26::u27::u28::u29::u30::u31::u32::u33::u34::u35::u36::u37::u38::u39::u40::u41::u42::u43::u44::u45::u46::u47::u48::u49::u50::u51::u52::u53::u54::u55::u56::u57::u58::u59::u60::u61::u62::u63::u64::u65::u66::u67::v68::v69::v70::v71::v72::v73::v74::u75::u76::u77::u78::u79::u80::u81::u82::u83::u84::u85::u86::u87::u88::u89::u90::u91::u92::u93::u94::u95::u96::u97::u98::u99::u100::u101::u102::u103::u104::u105::u106::u107::u108::u109::u110::u111::u112::u113::u114::u115::u116::u117::u118::u119::u120::u121::u122::u123::[]),defers:=[] } W') :
  (Code.region 14 ops true).wp Tryz.prog Q { tmps:=List.toArray (u0::u1::u2::u3::u4::u5::.pointer (some ⟨X,0,none⟩)::u7::u8::.pointer (some ⟨g,0,none⟩)::u10::u11::u12::u13::u14::u15::u16::u17::u18::u19::u20::u21::u22::u23::u24::u25::u26::u27::u28::u29::u30::u31::u32::u33::u34::u35::u36::u37::u38::u39::u40::u41::u42::u43::u44::u45::u46::u47::u48::u49::u50::u51::u52::u53::u54::u55::u56::u57::u58::u59::u60::u61::u62::u63::u64::u65::u66::u67::u68::u69::u70::u71::u72::u73::u74::u75::u76::u77::u78::u79::u80::u81::u82::u83::u84::u85::u86::u87::u88::u89::u90::u91::u92::u93::u94::u95::u96::u97::u98::u99::u100::u101::u102::u103::u104::u105::u106::u107::u108::u109::u110::u111::u112::u113::u114::u115::u116::u117::u118::u119::u120::u121::u122::u123::[]),defers:=[] } w:=by
 obtain rfl:=B4 (ho.symm.trans (rfl:Dt Tryz.f9.body 14=some _))
 clear ho
 replace hQ:=A8 hQ
 obtain ⟨Iv,hI⟩:∃ Iv:(Nat->Bool)->Act->World->Prop,∀ l a W,Iv l a W↔(∃ s68 s69 s70 s71 s72 s73 s74:Value,a={ tmps:=List.toArray (u0::u1::u2::u3::u4::u5::.pointer (some ⟨X,0,none⟩)::u7::u8::.pointer (some ⟨g,0,none⟩)::u10::u11::u12::u13::u14::u15::u16::u17::u18::u19::u20::u21::u22::u23::u24::u25::u26::u27::u28::u29::u30::u31::u32::u33::u34::u35::u36::u37::u38::u39::u40::u41::u42::u43::u44::u45::u46::u47::u48::u49::u50::u51::u52::u53::u54::u55::u56::u57::u58::u59::u60::u61::u62::u63::u64::u65::u66::u67::s68::s69::s70::s71::s72::s73::s74::u75::u76::u77::u78::u79::u80::u81::u82::u83::u84::u85::u86::u87::u88::u89::u90::u91::u92::u93::u94::u95::u96::u97::u98::u99::u100::u101::u102::u103::u104::u105::u106::u107::u108::u109::u110::u111::u112::u113::u114::u115::u116::u117::u118::u119::u120::u121::u122::u123::[]),defers:=[] }/\Dr (X :: wv.ownBlock.toList) w W/\Vs [(0,.pointer (some ⟨X,3,none⟩),s68),(1,wv,s69),(3,.string ⟨(Lib.itoa z).toArray⟩,s71),(6,.pointer (some ⟨X,3,none⟩),s74)] l/\(l 2=true->s70=.agg (wc (wd (z))))/\(l 4=true->(l 5=false->∃ g:Nat,s72=.slice (some ⟨g,0,none⟩) 1 1/\W.cell? ⟨g,0,none⟩=some (.string ⟨(Lib.itoa z).toArray⟩)/\g<W.heap.size))/\(l 5=true->∃ g cap:Nat,s73=.slice (some ⟨g,0,none⟩) (i+1) cap)/\(Ds W X #[.bool false,.slice none 0 0,.string ⟨#[]⟩,bif l 7 then s73 else wv] 38)/\(W.ownsRow base 9 1 (bif l 5 then s73 else wv) (bif l 5 then i+1 else i) (bif l 5 then xs++[.string ⟨(Lib.itoa z).toArray⟩] else xs))):=⟨_,fun _ _ _=>B6⟩
 refine DW Iv Ab Ab ((hI _ _ _).2 ⟨_,_,_,_,_,_,_,rfl,(Dr.refl (X :: wv.ownBlock.toList) w).drewN 1,Vs.zero,fun h=>off h,fun h=>off h,fun h=>off h,hX.out.below (Dq w 1),E8 hO.out (Dq w 1)⟩) (Dk (k:=0) ?_ (Dk (k:=1) ?_ (Dk (k:=2) ?_ (Dk (k:=3) ?_ (Dk (k:=4) ?_ (Dk (k:=5) ?_ (Dk (k:=6) ?_ (Dk (k:=7) ?_ (Du))))))))) ?_
 ·intro l a W hl hw hsh h K hK
  rw [hI] at h;iterate 7 obtain ⟨_,h⟩:=h
  obtain ⟨rfl,hC,hP,f2,f4,f5,h⟩:=h;obtain ⟨T,O⟩:=h;go_simp;apply hK.out;rw [hI];iterate 7 apply Exists.intro
  exact ⟨rfl,hC,hP.put 0 rfl rfl rfl,f2,f4,f5,T,O⟩
 ·intro l a W hl hw hsh h K hK
  rw [hI] at h;iterate 7 obtain ⟨_,h⟩:=h
  obtain ⟨rfl,hC,hP,f2,f4,f5,h⟩:=h;obtain ⟨T,O⟩:=h;obtain rfl:=hP.get 0 rfl (hw 0 Ab);have hst:l 7=false:=by
   cases hc:l 7 with
   | false=>rfl
   | true=>exact absurd (hsh 5 1 _ rfl (hsh 7 5 _ rfl (hc) Ab) Ab) (by simp [hl])
  have x1:W.cell? ⟨X,3,none⟩=some wv:=by have:=T.cell 3;rw [hst] at this;exact this
  go_simp;apply hK.out;rw [hI];iterate 7 apply Exists.intro
  exact ⟨rfl,hC,hP.put 1 rfl rfl rfl,f2,f4,f5,T,O⟩
 ·intro l a W hl hw hsh h K hK
  rw [hI] at h;iterate 7 obtain ⟨_,h⟩:=h
  obtain ⟨rfl,hC,hP,f2,f4,f5,h⟩:=h;obtain ⟨T,O⟩:=h;rw [AU (by rfl)];have hrng:=blk_mid ((hC.block g hG.out.lt (by simp only [Aw,Cn,not_or];exact ⟨fun e=>by have:=hG.out.symm.trans (e ▸ hX.out);simp at this,fun e=>hG.out.not_row Ae hO.out e.symm⟩)).trans hG.out);refine wp_load_mid _ _ rfl _ _ rfl (wl (wd (z))) _ hrng Io rfl (Gu _) ?_;apply hK.out;rw [hI];iterate 7 apply Exists.intro
  exact ⟨rfl,hC,hP.skip 2 rfl,fun _=>rfl,f4,f5,T,O⟩
 ·intro l a W hl hw hsh h K hK
  rw [hI] at h;iterate 7 obtain ⟨_,h⟩:=h
  obtain ⟨rfl,hC,hP,f2,f4,f5,h⟩:=h;obtain ⟨T,O⟩:=h;obtain rfl:=f2 (hw 2 Ab);have hot:∀ k∈X :: wv.ownBlock.toList,w0.heap.size<=k:=by
   intro k hk;rcases Aw.1 hk with rfl | hk
   ·exact Bc h0.out.2.1 h0.out.2.2.2
   ·exact Bc h0.out.2.1 (hO.out.lt k (by simpa using hk)).1
  go_simp;go_at_call 33;refine Calls.mono (KB z hz.out.1 hz.out.2 _ (hE.out.below (h0.out.1.trans (hC.toBelow (B:=w0.heap.size) (Bc h0.out.2.1 h0.out.2.2.1) hot)) (Aa _))) ?_;rintro e W2 ⟨rfl,hb⟩;apply hK.out;rw [hI];iterate 7 apply Exists.intro
  exact ⟨rfl,hC.below hb,hP.put 2 rfl rfl rfl,f2,(fun h h5=>(let ⟨g,e,a,b⟩:=f4 h h5;⟨g,e,(hb.cell (p:=⟨_,_,none⟩) b).trans a,A9 b hb.size⟩)),f5,T.below hb,E8 O hb⟩
 ·intro l a W hl hw hsh h K hK
  rw [hI] at h;iterate 7 obtain ⟨_,h⟩:=h
  obtain ⟨rfl,hC,hP,f2,f4,f5,h⟩:=h;obtain ⟨T,O⟩:=h;obtain rfl:=hP.get 2 rfl (hw 3 Ab);go_simp;have hb:=(Below.refl W.heap.size W).alloc (Aa _) (.cells #[.string ⟨(Lib.itoa z).toArray⟩] 9);apply hK.out;rw [hI];iterate 7 apply Exists.intro
  exact ⟨rfl,hC.below hb,hP.skip 4 rfl,f2,fun _ _=>⟨_,rfl,(Ds.new W #[.string ⟨(Lib.itoa z).toArray⟩] 9).cell 0,Af⟩,f5,T.below hb,E8 O hb⟩
 ·intro l a W hl hw hsh h K hK
  rw [hI] at h;iterate 7 obtain ⟨_,h⟩:=h
  obtain ⟨rfl,hC,hP,f2,f4,f5,h⟩:=h;obtain ⟨T,O⟩:=h;obtain rfl:=hP.get 1 rfl (hw 1 Ab);obtain ⟨gl,e72,hg0,hgl⟩:=f4 (hw 4 Ab) hl;subst e72;rw [AU (by rfl)];have hst:l 7=false:=by
   cases hc:l 7 with
   | false=>rfl
   | true=>exact absurd (hsh 7 5 _ rfl (hc) Ab) (by simp [hl])
  simp only [hl,Co] at O;rw [hst] at T;simp only [Co] at T;refine F9 _ 9 (.string ⟨#[]⟩) 16 Tryz.underlying28 IK rfl _ _ rfl wv i xs (by go_simp) O gl (.string ⟨(Lib.itoa z).toArray⟩) (by go_simp) hg0 rfl Ad Ad (Bc h0.out.2.2.1 hC.size) ?_;intro v' W2 hr hg hv;have hr2:=hr.2;rcases hr2 with ⟨rfl,h0'⟩ | ⟨g2,cap2,cur,rfl,-⟩
  ·omega
  have T2:=T.kept hg (T.not_row Ae O);apply hK.out;rw [hI];iterate 7 apply Exists.intro
  exact ⟨rfl,hC.grown hg (fun k e=>.inl (by simp [e])),hP.skip 5 rfl,f2,(fun _ h5=>off h5.symm),fun _=>⟨g2,cap2,rfl⟩,(by rw [show Ex l 5 7=false from hst];exact T2),hr⟩
 ·intro l a W hl hw hsh h K hK
  rw [hI] at h;iterate 7 obtain ⟨_,h⟩:=h
  obtain ⟨rfl,hC,hP,f2,f4,f5,h⟩:=h;obtain ⟨T,O⟩:=h;go_simp;apply hK.out;rw [hI];iterate 7 apply Exists.intro
  exact ⟨rfl,hC,hP.put 3 rfl rfl rfl,f2,f4,f5,T,O⟩
 ·intro l a W hl hw hsh h K hK
  rw [hI] at h;iterate 7 obtain ⟨_,h⟩:=h
  obtain ⟨rfl,hC,hP,f2,f4,f5,h⟩:=h;obtain ⟨T,O⟩:=h;obtain ⟨ga,cap,rfl⟩:=f5 (hw 5 Ab);obtain rfl:=hP.get 3 rfl (hw 6 Ab);have hw5:l 5=true:=hw 5 Ab;have x1:=T.cell 3;have x2:=T.frozen 3;go_simp;have hgr:=DE W X 3 (.slice (some ⟨ga,0,none⟩) (i+1) cap);have O2:=O.kept hgr (by first | exact .inl rfl | exact .inr (fun e=>T.not_row Ae O e.symm));apply hK.out;rw [hI];iterate 7 apply Exists.intro
  exact ⟨rfl,hC.setCell Af _,hP.skip 7 rfl,f2,(fun _ h5=>off ((hw5.symm.trans h5).symm)),f5,T.set 3 _,O2⟩
 ·intro a W hI'
  have h:=(hI _ _ _).1 hI';clear hI';iterate 7 obtain ⟨_,h⟩:=h
  obtain ⟨rfl,hC,hP,f2,f4,f5,h⟩:=h;obtain ⟨T,O⟩:=h;clear f2;clear f4;obtain ⟨ga,cap,rfl⟩:=f5 Ab;exact hQ.out _ _ _ _ _ _ _ ga cap _ hC T O
theorem Tr {Q:Exit->Act->World->Prop} {u0 u1 u2 u3 u5 u6 u7 u8 u9 u10 u11 u12 u13 u14 u15 u16 u17 u18 u19 u20 u21 u22 u23 u24 u25 u26 u27 u28 u29 u30 u31 u32 u33 u34 u35 u36 u37 u38 u39 u40 u41 u42 u43 u44 u45 u46 u47 u48 u49 u50 u51 u52 u53 u54 u55 u56 u57 u58 u59 u60 u61 u62 u63 u64 u65 u66 u67 u68 u69 u70 u71 u72 u73 u74 u75 u76 u77 u78 u79 u80 u81 u82 u83 u84 u85 u86 u87 u88 u89 u90 u91 u92 u93 u94 u95 u96 u97 u98 u99 u100 u101 u102 u103 u104 u105 u106 u107 u108 u109 u110 u111 u112 u113 u114 u115 u116 u117 u118 u119 u120 u121 u122 u123:Value} {t:Tb} {F:Nat->Nat->Int} {B:Nat->Nat} {sg:Nat->Int} {d:Int} {w0 w:World} (hE:Hid (Fp w0)) (h0:Hid (Below w0.heap.size w0 w)) (hT:Hid (K4 w t F B sg d)) (hd:Hid (LnM.Wide d/\LnM.Wide (-d))) (hk:t.k<=1000) {ops:Array Oper} (ho:Dt Tryz.f9.body 17=some ops)
  (hQ:∀ (v77 v78 v79 v80 v81 v82 v83 v84 v85 v86 v87 v88 v89:Value) (ga gb:Nat) (W':World),Below w.heap.size w W'->EZ W' gb t.k (fun _=>⟨#[48]⟩)->Ds W' ga (#[.bool true,.slice (some ⟨gb,0,none⟩) t.k t.k,.string ⟨(Lib.itoa (d)).toArray⟩,.slice none 0 0]) 38->w.heap.size<=ga->w.heap.size<=gb->Q .normal { tmps:=List.toArray (u0::u1::u2::u3::.pointer (some ⟨t.tb,0,none⟩)::u5::u6::u7::u8::u9::.pointer (some ⟨ga,0,none⟩)::u11::u12::u13::u14::u15::u16::u17::u18::u19::u20::u21::u22::u23::u24::u25::u26::u27::u28::u29::u30::u31::u32::u33::u34::u35::u36::u37::u38::u39::u40::u41::u42::u43::u44::u45::u46::u47::u48::u49::u50::u51::u52::u53::u54::u55::u56::u57::u58::u59::u60::u61::u62::u63::u64::u65::u66::u67::u68::u69::u70::u71::u72::u73::u74::u75::u76::v77::v78::v79::v80::v81::v82::v83::v84::v85::v86::v87::v88::v89::u90::u91::u92::u93::u94::u95::u96::u97::u98::u99::u100::u101::u102::u103::u104::u105::u106::u107::u108::u109::u110::u111::u112::u113::u114::u115::u116::u117::u118::u119::u120::u121::u122::u123::[]),defers:=[] } W') :
  (Code.region 17 ops true).wp Tryz.prog Q { tmps:=List.toArray (u0::u1::u2::u3::.pointer (some ⟨t.tb,0,none⟩)::u5::u6::u7::u8::u9::u10::u11::u12::u13::u14::u15::u16::u17::u18::u19::u20::u21::u22::u23::u24::u25::u26::u27::u28::u29::u30::u31::u32::u33::u34::u35::u36::u37::u38::u39::u40::u41::u42::u43::u44::u45::u46::u47::u48::u49::u50::u51::u52::u53::u54::u55::u56::u57::u58::u59::u60::u61::u62::u63::u64::u65::u66::u67::u68::u69::u70::u71::u72::u73::u74::u75::u76::u77::u78::u79::u80::u81::u82::u83::u84::u85::u86::u87::u88::u89::u90::u91::u92::u93::u94::u95::u96::u97::u98::u99::u100::u101::u102::u103::u104::u105::u106::u107::u108::u109::u110::u111::u112::u113::u114::u115::u116::u117::u118::u119::u120::u121::u122::u123::[]),defers:=[] } w:=by
 obtain rfl:=B4 (ho.symm.trans (rfl:Dt Tryz.f9.body 17=some _))
 clear ho
 replace hQ:=A8 hQ
 obtain ⟨Iv,hI⟩:∃ Iv:(Nat->Bool)->Act->World->Prop,∀ l a W,Iv l a W↔(∃ s77 s78 s79 s80 s81 s82 s83 s84 s85 s86 s87 s88 s89 s10:Value,a={ tmps:=List.toArray (u0::u1::u2::u3::.pointer (some ⟨t.tb,0,none⟩)::u5::u6::u7::u8::u9::s10::u11::u12::u13::u14::u15::u16::u17::u18::u19::u20::u21::u22::u23::u24::u25::u26::u27::u28::u29::u30::u31::u32::u33::u34::u35::u36::u37::u38::u39::u40::u41::u42::u43::u44::u45::u46::u47::u48::u49::u50::u51::u52::u53::u54::u55::u56::u57::u58::u59::u60::u61::u62::u63::u64::u65::u66::u67::u68::u69::u70::u71::u72::u73::u74::u75::u76::s77::s78::s79::s80::s81::s82::s83::s84::s85::s86::s87::s88::s89::u90::u91::u92::u93::u94::u95::u96::u97::u98::u99::u100::u101::u102::u103::u104::u105::u106::u107::u108::u109::u110::u111::u112::u113::u114::u115::u116::u117::u118::u119::u120::u121::u122::u123::[]),defers:=[] }/\Below w.heap.size w W/\Vs [(1,.pointer (some ⟨t.tb,0,none⟩),s78),(2,.pointer (some ⟨t.tb,0,none⟩),s79),(3,.pointer (some ⟨t.tb,16,none⟩),s80),(4,.int .i64 t.k,s81),(6,.pointer (some ⟨t.tb,0,none⟩),s83),(7,.pointer (some ⟨t.tb,0,none⟩),s84),(8,.pointer (some ⟨t.tb,4,none⟩),s85),(10,.string ⟨(Lib.itoa (d)).toArray⟩,s87)] l/\(l 0=true->(l 14=false->∃ g:Nat,s77=.slice (some ⟨g,0,none⟩) 1 1/\W.cell? ⟨g,0,none⟩=some (.string ⟨#[48]⟩)/\g<W.heap.size))/\(l 5=true->(l 14=false->∃ g:Nat,s82=.slice (some ⟨g,0,none⟩) t.k t.k/\EZ W g t.k (fun _=>⟨#[48]⟩)/\w.heap.size<=g))/\(l 9=true->s86=.agg (wc (wd (d))))/\(l 11=true->(l 14=false->∃ g:Nat,s88=.agg #[.slice (some ⟨g,0,none⟩) t.k t.k,.string ⟨(Lib.itoa (d)).toArray⟩]/\EZ W g t.k (fun _=>⟨#[48]⟩)/\w.heap.size<=g))/\(l 12=true->(l 14=false->∃ g:Nat,s89=.agg (#[.bool true,.slice (some ⟨g,0,none⟩) t.k t.k,.string ⟨(Lib.itoa (d)).toArray⟩,.slice none 0 0])/\EZ W g t.k (fun _=>⟨#[48]⟩)/\w.heap.size<=g))/\(l 13=true->∃ g:Nat,s10=.pointer (some ⟨g,0,none⟩)/\w.heap.size<=g/\(l 14=false->Ds W g (#[.bool false,.slice none 0 0,.string ⟨#[]⟩,.slice none 0 0]) 38)/\(l 14=true->∃ gb:Nat,EZ W gb t.k (fun _=>⟨#[48]⟩)/\w.heap.size<=gb/\Ds W g (#[.bool true,.slice (some ⟨gb,0,none⟩) t.k t.k,.string ⟨(Lib.itoa (d)).toArray⟩,.slice none 0 0]) 38))):=⟨_,fun _ _ _=>B6⟩
 refine DW Iv Ab Ab ((hI _ _ _).2 ⟨_,_,_,_,_,_,_,_,_,_,_,_,_,_,rfl,Dq w 1,Vs.zero,fun h=>off h,fun h=>off h,fun h=>off h,fun h=>off h,fun h=>off h,fun h=>off h⟩) (Dk (k:=0) ?_ (Dk (k:=1) ?_ (Dk (k:=2) ?_ (Dk (k:=3) ?_ (Dk (k:=4) ?_ (Dk (k:=5) ?_ (Dk (k:=6) ?_ (Dk (k:=7) ?_ (Dk (k:=8) ?_ (Dk (k:=9) ?_ (Dk (k:=10) ?_ (Dk (k:=11) ?_ (Dk (k:=12) ?_ (Dk (k:=13) ?_ (Dk (k:=14) ?_ (Du)))))))))))))))) ?_
 ·intro l a W hl hw hsh h K hK
  rw [hI] at h;iterate 14 obtain ⟨_,h⟩:=h
  obtain ⟨rfl,hC,hP,f0,f5,f9,h⟩:=h;obtain ⟨f11,f12,f13⟩:=h;go_simp;have hb:=(Below.refl W.heap.size W).alloc (Aa _) (.cells #[.string ⟨#[48]⟩] 9);apply hK.out;rw [hI];iterate 14 apply Exists.intro
  exact ⟨rfl,hC.trans (hb.mono hC.size),hP.skip 0 rfl,fun _ _=>⟨_,rfl,(Ds.new W #[.string ⟨#[48]⟩] 9).cell 0,Af⟩,(fun h h14=>(let ⟨g,e,a,b⟩:=f5 h h14;⟨g,e,a.below hb,b⟩)),f9,(fun h h14=>(let ⟨g,e,a,b⟩:=f11 h h14;⟨g,e,a.below hb,b⟩)),(fun h h14=>(let ⟨g,e,a,b⟩:=f12 h h14;⟨g,e,a.below hb,b⟩)),(fun h=>(let ⟨g,e,c,a,b⟩:=f13 h;⟨g,e,c,fun h2=>(a h2).below hb,fun h2=>(let ⟨gb,x,y,z⟩:=b h2;⟨gb,x.below hb,y,z.below hb⟩)⟩))⟩
 ·intro l a W hl hw hsh h K hK
  rw [hI] at h;iterate 14 obtain ⟨_,h⟩:=h
  obtain ⟨rfl,hC,hP,f0,f5,f9,h⟩:=h;obtain ⟨f11,f12,f13⟩:=h;go_simp;apply hK.out;rw [hI];iterate 14 apply Exists.intro
  exact ⟨rfl,hC,hP.put 0 rfl rfl rfl,f0,f5,f9,f11,f12,f13⟩
 ·intro l a W hl hw hsh h K hK
  rw [hI] at h;iterate 14 obtain ⟨_,h⟩:=h
  obtain ⟨rfl,hC,hP,f0,f5,f9,h⟩:=h;obtain ⟨f11,f12,f13⟩:=h;obtain rfl:=hP.get 0 rfl (hw 1 Ab);go_simp;apply hK.out;rw [hI];iterate 14 apply Exists.intro
  exact ⟨rfl,hC,hP.put 1 rfl rfl rfl,f0,f5,f9,f11,f12,f13⟩
 ·intro l a W hl hw hsh h K hK
  rw [hI] at h;iterate 14 obtain ⟨_,h⟩:=h
  obtain ⟨rfl,hC,hP,f0,f5,f9,h⟩:=h;obtain ⟨f11,f12,f13⟩:=h;obtain rfl:=hP.get 1 rfl (hw 2 Ab);go_simp;apply hK.out;rw [hI];iterate 14 apply Exists.intro
  exact ⟨rfl,hC,hP.put 2 rfl rfl rfl,f0,f5,f9,f11,f12,f13⟩
 ·intro l a W hl hw hsh h K hK
  rw [hI] at h;iterate 14 obtain ⟨_,h⟩:=h
  obtain ⟨rfl,hC,hP,f0,f5,f9,h⟩:=h;obtain ⟨f11,f12,f13⟩:=h;obtain rfl:=hP.get 2 rfl (hw 3 Ab);have x1:=(hT.out.below hC).c16;go_simp;apply hK.out;rw [hI];iterate 14 apply Exists.intro
  exact ⟨rfl,hC,hP.put 3 rfl rfl rfl,f0,f5,f9,f11,f12,f13⟩
 ·intro l a W hl hw hsh h K hK
  rw [hI] at h;iterate 14 obtain ⟨_,h⟩:=h
  obtain ⟨rfl,hC,hP,f0,f5,f9,h⟩:=h;obtain ⟨f11,f12,f13⟩:=h;obtain rfl:=hP.get 3 rfl (hw 4 Ab);have hst:l 14=false:=by
   cases hc:l 14 with
   | false=>rfl
   | true=>exact absurd (hsh 11 5 _ rfl (hsh 12 11 _ rfl (hsh 14 12 _ rfl (hc) Ab) Ab) Ab) (by simp [hl])
  obtain ⟨gl,e77,hg0,hgl⟩:=f0 (hw 0 Ab) hst;subst e77;go_simp;go_at_call 34;refine Calls.mono (QY t.k gl 1 ⟨#[48]⟩ _ hg0 hgl hk) ?_;rintro e W2 ⟨g,rfl,hgw,hrep,hb⟩;apply hK.out;rw [hI];iterate 14 apply Exists.intro
  exact ⟨rfl,hC.trans (hb.mono hC.size),hP.skip 5 rfl,(fun h h14=>(let ⟨g,e,a,b⟩:=f0 h h14;⟨g,e,(hb.cell (p:=⟨_,_,none⟩) b).trans a,A9 b hb.size⟩)),fun _ _=>⟨g,rfl,hrep.str,Bc hC.size hgw⟩,f9,(fun h h14=>(let ⟨g,e,a,b⟩:=f11 h h14;⟨g,e,a.below hb,b⟩)),(fun h h14=>(let ⟨g,e,a,b⟩:=f12 h h14;⟨g,e,a.below hb,b⟩)),(fun h=>(let ⟨g,e,c,a,b⟩:=f13 h;⟨g,e,c,fun h2=>(a h2).below hb,fun h2=>(let ⟨gb,x,y,z⟩:=b h2;⟨gb,x.below hb,y,z.below hb⟩)⟩))⟩
 ·intro l a W hl hw hsh h K hK
  rw [hI] at h;iterate 14 obtain ⟨_,h⟩:=h
  obtain ⟨rfl,hC,hP,f0,f5,f9,h⟩:=h;obtain ⟨f11,f12,f13⟩:=h;go_simp;apply hK.out;rw [hI];iterate 14 apply Exists.intro
  exact ⟨rfl,hC,hP.put 4 rfl rfl rfl,f0,f5,f9,f11,f12,f13⟩
 ·intro l a W hl hw hsh h K hK
  rw [hI] at h;iterate 14 obtain ⟨_,h⟩:=h
  obtain ⟨rfl,hC,hP,f0,f5,f9,h⟩:=h;obtain ⟨f11,f12,f13⟩:=h;obtain rfl:=hP.get 4 rfl (hw 6 Ab);go_simp;apply hK.out;rw [hI];iterate 14 apply Exists.intro
  exact ⟨rfl,hC,hP.put 5 rfl rfl rfl,f0,f5,f9,f11,f12,f13⟩
 ·intro l a W hl hw hsh h K hK
  rw [hI] at h;iterate 14 obtain ⟨_,h⟩:=h
  obtain ⟨rfl,hC,hP,f0,f5,f9,h⟩:=h;obtain ⟨f11,f12,f13⟩:=h;obtain rfl:=hP.get 5 rfl (hw 7 Ab);go_simp;apply hK.out;rw [hI];iterate 14 apply Exists.intro
  exact ⟨rfl,hC,hP.put 6 rfl rfl rfl,f0,f5,f9,f11,f12,f13⟩
 ·intro l a W hl hw hsh h K hK
  rw [hI] at h;iterate 14 obtain ⟨_,h⟩:=h
  obtain ⟨rfl,hC,hP,f0,f5,f9,h⟩:=h;obtain ⟨f11,f12,f13⟩:=h;obtain rfl:=hP.get 6 rfl (hw 8 Ab);rw [AU (by rfl)];have hrng:=(hT.out.below hC).den;refine wp_load_mid _ _ rfl _ _ rfl (wl (wd (d))) _ hrng Io rfl (Gu _) ?_;apply hK.out;rw [hI];iterate 14 apply Exists.intro
  exact ⟨rfl,hC,hP.skip 9 rfl,f0,f5,fun _=>rfl,f11,f12,f13⟩
 ·intro l a W hl hw hsh h K hK
  rw [hI] at h;iterate 14 obtain ⟨_,h⟩:=h
  obtain ⟨rfl,hC,hP,f0,f5,f9,h⟩:=h;obtain ⟨f11,f12,f13⟩:=h;obtain rfl:=f9 (hw 9 Ab);go_simp;go_at_call 33;refine Calls.mono (KB d hd.out.1 hd.out.2 _ (hE.out.below (h0.out.trans (hC.mono h0.out.size)) (Aa _))) ?_;rintro e W2 ⟨rfl,hb⟩;apply hK.out;rw [hI];iterate 14 apply Exists.intro
  exact ⟨rfl,hC.trans (hb.mono hC.size),hP.put 7 rfl rfl rfl,(fun h h14=>(let ⟨g,e,a,b⟩:=f0 h h14;⟨g,e,(hb.cell (p:=⟨_,_,none⟩) b).trans a,A9 b hb.size⟩)),(fun h h14=>(let ⟨g,e,a,b⟩:=f5 h h14;⟨g,e,a.below hb,b⟩)),f9,(fun h h14=>(let ⟨g,e,a,b⟩:=f11 h h14;⟨g,e,a.below hb,b⟩)),(fun h h14=>(let ⟨g,e,a,b⟩:=f12 h h14;⟨g,e,a.below hb,b⟩)),(fun h=>(let ⟨g,e,c,a,b⟩:=f13 h;⟨g,e,c,fun h2=>(a h2).below hb,fun h2=>(let ⟨gb,x,y,z⟩:=b h2;⟨gb,x.below hb,y,z.below hb⟩)⟩))⟩
 ·intro l a W hl hw hsh h K hK
  rw [hI] at h;iterate 14 obtain ⟨_,h⟩:=h
  obtain ⟨rfl,hC,hP,f0,f5,f9,h⟩:=h;obtain ⟨f11,f12,f13⟩:=h;obtain rfl:=hP.get 7 rfl (hw 10 Ab);have hst:l 14=false:=by
   cases hc:l 14 with
   | false=>rfl
   | true=>exact absurd (hsh 12 11 _ rfl (hsh 14 12 _ rfl (hc) Ab) Ab) (by simp [hl])
  obtain ⟨gb,e82,hrb,hgb⟩:=f5 (hw 5 Ab) hst;subst e82;go_simp;apply hK.out;rw [hI];iterate 14 apply Exists.intro
  exact ⟨rfl,hC,hP.skip 11 rfl,f0,f5,f9,fun _ _=>⟨gb,rfl,hrb,hgb⟩,f12,f13⟩
 ·intro l a W hl hw hsh h K hK
  rw [hI] at h;iterate 14 obtain ⟨_,h⟩:=h
  obtain ⟨rfl,hC,hP,f0,f5,f9,h⟩:=h;obtain ⟨f11,f12,f13⟩:=h;have hst:l 14=false:=by
   cases hc:l 14 with
   | false=>rfl
   | true=>exact absurd (hsh 14 12 _ rfl (hc) Ab) (by simp [hl])
  obtain ⟨gb,e88,hrb,hgb⟩:=f11 (hw 11 Ab) hst;subst e88;go_simp;apply hK.out;rw [hI];iterate 14 apply Exists.intro
  exact ⟨rfl,hC,hP.skip 12 rfl,f0,f5,f9,f11,fun _ _=>⟨gb,rfl,hrb,hgb⟩,f13⟩
 ·intro l a W hl hw hsh h K hK
  rw [hI] at h;iterate 14 obtain ⟨_,h⟩:=h
  obtain ⟨rfl,hC,hP,f0,f5,f9,h⟩:=h;obtain ⟨f11,f12,f13⟩:=h;have hst:l 14=false:=by
   cases hc:l 14 with
   | false=>rfl
   | true=>exact absurd (hsh 14 13 _ rfl hc Ab) (by simp [hl])
  go_simp;have hb:=(Below.refl W.heap.size W).alloc (Aa _) (.cells (#[.bool false,.slice none 0 0,.string ⟨#[]⟩,.slice none 0 0]) 38);apply hK.out;rw [hI];iterate 14 apply Exists.intro
  exact ⟨rfl,hC.trans (hb.mono hC.size),hP.skip 13 rfl,(fun h h14=>(let ⟨g,e,a,b⟩:=f0 h h14;⟨g,e,(hb.cell (p:=⟨_,_,none⟩) b).trans a,A9 b hb.size⟩)),(fun h h14=>(let ⟨g,e,a,b⟩:=f5 h h14;⟨g,e,a.below hb,b⟩)),f9,(fun h h14=>(let ⟨g,e,a,b⟩:=f11 h h14;⟨g,e,a.below hb,b⟩)),(fun h h14=>(let ⟨g,e,a,b⟩:=f12 h h14;⟨g,e,a.below hb,b⟩)),fun _=>⟨_,rfl,hC.size,fun _=>Ds.new _ _ _,fun h2=>off (hst.symm.trans h2)⟩⟩
 ·intro l a W hl hw hsh h K hK
  rw [hI] at h;iterate 14 obtain ⟨_,h⟩:=h
  obtain ⟨rfl,hC,hP,f0,f5,f9,h⟩:=h;obtain ⟨f11,f12,f13⟩:=h;obtain ⟨ga,rfl,hga,hg0,hg1⟩:=f13 (hw 13 Ab);obtain ⟨gb,e89,hrb,hgb⟩:=f12 (hw 12 Ab) hl;subst e89;have hne:0<t.k->gb≠ga:=fun hk0 e=>by
   have h14:=hg0 hl;have:=(hrb.cell 0 hk0).1;rw [e,h14.cell] at this;simp at this
  have hG:=hg0 hl;obtain ⟨x0,x1,x2,x3⟩:=(⟨hG.cell 0,hG.cell 1,hG.cell 2,hG.cell 3⟩:_/\_/\_/\_);obtain ⟨y0,y1,y2,y3⟩:=(⟨hG.frozen 0,hG.frozen 1,hG.frozen 2,hG.frozen 3⟩:_/\_/\_/\_);skip;go_simp;have hG2:=(((hG.set 0 (.bool true)).set 1 (.slice (some ⟨gb,0,none⟩) t.k t.k)).set 2 (.string ⟨(Lib.itoa (d)).toArray⟩)).set 3 (.slice none 0 0);have hon:Dr [ga] W ((((W.setCell ⟨ga,0,none⟩ (.bool true)).setCell ⟨ga,1,none⟩ (.slice (some ⟨gb,0,none⟩) t.k t.k)).setCell ⟨ga,2,none⟩ (.string ⟨(Lib.itoa (d)).toArray⟩)).setCell ⟨ga,3,none⟩ (.slice none 0 0)):=((((Dr.refl [ga] W).setCell (p:=⟨ga,0,none⟩) Af _).setCell (p:=⟨ga,1,none⟩) Af _).setCell (p:=⟨ga,2,none⟩) Af _).setCell (p:=⟨ga,3,none⟩) Af _;have hsb:=(⟨A9 hrb.lt hon.size,fun j hj=>(hrb.only hon (by intro e;rw [B3] at e;exact hne Ad e)).cell j hj⟩:EZ _ gb t.k (fun _=>⟨#[48]⟩));apply hK.out;rw [hI];iterate 14 apply Exists.intro
  exact ⟨rfl,hC.trans (hon.toBelow hC.size (by intro b hb;rw [B3.1 hb];exact hga)),hP.skip 14 rfl,(fun _ h2=>off h2.symm),(fun _ h2=>off h2.symm),f9,(fun _ h2=>off h2.symm),(fun _ h2=>off h2.symm),(fun _=>⟨ga,rfl,hga,fun h2=>off h2.symm,fun _=>⟨gb,hsb,hgb,hG2⟩⟩)⟩
 ·intro a W hI'
  have h:=(hI _ _ _).1 hI';clear hI';iterate 14 obtain ⟨_,h⟩:=h
  obtain ⟨rfl,hC,hP,f0,f5,f9,h⟩:=h;obtain ⟨f11,f12,f13⟩:=h;clear f0;clear f5;clear f9;clear f11;clear f12;obtain ⟨ga,rfl,hga,hg0,hg1⟩:=f13 Ab;obtain ⟨gb,hsb,hgb,hG⟩:=hg1 Ab;exact hQ.out _ _ _ _ _ _ _ _ _ _ _ _ _ ga gb _ hC hsb hG hga hgb
theorem Ts {Q:Exit->Act->World->Prop} {u0 u1 u2 u3 u6 u7 u8 u9 u13 u14 u15 u16 u17 u18 u19 u20 u21 u22 u23 u24 u25 u26 u27 u28 u29 u30 u31 u32 u33 u34 u35 u36 u37 u38 u39 u40 u41 u42 u43 u44 u45 u46 u47 u48 u49 u50 u51 u52 u53 u54 u55 u56 u57 u58 u59 u60 u61 u62 u63 u64 u65 u66 u67 u68 u69 u70 u71 u72 u73 u74 u75 u76 u77 u78 u79 u80 u81 u82 u83 u84 u85 u86 u87 u88 u89 u90 u91 u92 u93 u94 u95 u96 u97 u98 u99 u100 u101 u102 u103 u104 u105 u106 u107 u108 u109 u110 u111 u112 u113 u114 u115 u116 u117 u118 u119 u120 u121 u122 u123:Value} {t:Tb} {F:Nat->Nat->Int} {B:Nat->Nat} {sg:Nat->Int} {d:Int} {ga nb i q la:Nat} {f:Nat->ByteArray} {w0 w:World} (hE:Hid (Fp w0)) (h0:Hid (Below w0.heap.size w0 w/\w0.heap.size<=nb)) (hT:Hid (K4 w t F B sg d)) (him:i<t.m) (him':(i:Int)<t.m) (hi0:(0:Int)<=i) (hla:la<t.n) (hla':(la:Int)<t.n) (hla0:(0:Int)<=la) (hq:q<t.k) (hq':(q:Int)<t.k) (hq0:(0:Int)<=q) (hz:Hid (LnM.Wide (F i la)/\LnM.Wide (-(F i la))))
  (hA:Hid (ga<w.heap.size/\w.cell? ⟨ga,1,none⟩=some (.slice (some ⟨nb,0,none⟩) t.k t.k)/\ga≠nb)) (hN:Hid (EZ w nb t.k f)) (hnt:Hid (nb≠t.tb/\nb≠t.xb/\nb≠t.R i)) (hm0:0<t.m) {ops:Array Oper} (ho:Dt Tryz.f9.body 22=some ops)
  (hQ:∀ (v106 v107 v108 v109 v110 v111 v112 v113 v114 v115 v116 v117 v118 v119 v120 v121:Value)  (W':World),Dr [nb] w W'->EZ W' nb t.k (DL f q ⟨(Lib.itoa (F i la)).toArray⟩)->Q .normal { tmps:=List.toArray (u0::u1::u2::u3::.pointer (some ⟨t.tb,0,none⟩)::.int .i64 la::u6::u7::u8::u9::.pointer (some ⟨ga,0,none⟩)::.int .i64 i::.int .i64 q::u13::u14::u15::u16::u17::u18::u19::u20::u21::u22::u23::u24::u25::u26::u27::u28::u29::u30::u31::u32::u33::u34::u35::u36::u37::u38::u39::u40::u41::u42::u43::u44::u45::u46::u47::u48::u49::u50::u51::u52::u53::u54::u55::u56::u57::u58::u59::u60::u61::u62::u63::u64::u65::u66::u67::u68::u69::u70::u71::u72::u73::u74::u75::u76::u77::u78::u79::u80::u81::u82::u83::u84::u85::u86::u87::u88::u89::u90::u91::u92::u93::u94::u95::u96::u97::u98::u99::u100::u101::u102::u103::u104::u105::v106::v107::v108::v109::v110::v111::v112::v113::v114::v115::v116::v117::v118::v119::v120::v121::u122::u123::[]),defers:=[] } W') :
  (Code.region 22 ops true).wp Tryz.prog Q { tmps:=List.toArray (u0::u1::u2::u3::.pointer (some ⟨t.tb,0,none⟩)::.int .i64 la::u6::u7::u8::u9::.pointer (some ⟨ga,0,none⟩)::.int .i64 i::.int .i64 q::u13::u14::u15::u16::u17::u18::u19::u20::u21::u22::u23::u24::u25::u26::u27::u28::u29::u30::u31::u32::u33::u34::u35::u36::u37::u38::u39::u40::u41::u42::u43::u44::u45::u46::u47::u48::u49::u50::u51::u52::u53::u54::u55::u56::u57::u58::u59::u60::u61::u62::u63::u64::u65::u66::u67::u68::u69::u70::u71::u72::u73::u74::u75::u76::u77::u78::u79::u80::u81::u82::u83::u84::u85::u86::u87::u88::u89::u90::u91::u92::u93::u94::u95::u96::u97::u98::u99::u100::u101::u102::u103::u104::u105::u106::u107::u108::u109::u110::u111::u112::u113::u114::u115::u116::u117::u118::u119::u120::u121::u122::u123::[]),defers:=[] } w:=by
 obtain rfl:=B4 (ho.symm.trans (rfl:Dt Tryz.f9.body 22=some _))
 clear ho
 replace hQ:=A8 hQ
 obtain ⟨Iv,hI⟩:∃ Iv:(Nat->Bool)->Act->World->Prop,∀ l a W,Iv l a W↔(∃ s106 s107 s108 s109 s110 s111 s112 s113 s114 s115 s116 s117 s118 s119 s120 s121:Value,a={ tmps:=List.toArray (u0::u1::u2::u3::.pointer (some ⟨t.tb,0,none⟩)::.int .i64 la::u6::u7::u8::u9::.pointer (some ⟨ga,0,none⟩)::.int .i64 i::.int .i64 q::u13::u14::u15::u16::u17::u18::u19::u20::u21::u22::u23::u24::u25::u26::u27::u28::u29::u30::u31::u32::u33::u34::u35::u36::u37::u38::u39::u40::u41::u42::u43::u44::u45::u46::u47::u48::u49::u50::u51::u52::u53::u54::u55::u56::u57::u58::u59::u60::u61::u62::u63::u64::u65::u66::u67::u68::u69::u70::u71::u72::u73::u74::u75::u76::u77::u78::u79::u80::u81::u82::u83::u84::u85::u86::u87::u88::u89::u90::u91::u92::u93::u94::u95::u96::u97::u98::u99::u100::u101::u102::u103::u104::u105::s106::s107::s108::s109::s110::s111::s112::s113::s114::s115::s116::s117::s118::s119::s120::s121::u122::u123::[]),defers:=[] }/\Dr [nb] w W/\Vs [(0,.pointer (some ⟨ga,1,none⟩),s106),(1,.pointer (some ⟨ga,1,none⟩),s107),(2,.slice (some ⟨nb,0,none⟩) t.k t.k,s108),(3,.int .i64 q,s109),(4,.pointer (some ⟨t.tb,0,none⟩),s110),(5,.pointer (some ⟨t.tb,0,none⟩),s111),(6,.pointer (some ⟨t.tb,0,none⟩),s112),(7,.slice (some ⟨t.xb,0,none⟩) t.m t.cx,s113),(8,.int .i64 i,s114),(9,.pointer (some ⟨t.xb,i,none⟩),s115),(10,.slice (some ⟨t.R i,0,none⟩) t.n t.n,s116),(11,.int .i64 la,s117),(12,.pointer (some ⟨t.R i,la*12,none⟩),s118),(14,.string ⟨(Lib.itoa (F i la)).toArray⟩,s120),(15,.pointer (some ⟨nb,q,none⟩),s121)] l/\(l 13=true->s119=.agg (wc (wd (F i la))))/\((l 16=false->EZ W nb t.k f)/\(l 16=true->EZ W nb t.k (DL f q ⟨(Lib.itoa (F i la)).toArray⟩)))):=⟨_,fun _ _ _=>B6⟩
 refine DW Iv Ab Ab ((hI _ _ _).2 ⟨_,_,_,_,_,_,_,_,_,_,_,_,_,_,_,_,rfl,(Dr.refl [nb] w).drewN 1,Vs.zero,fun h=>off h,⟨fun _=>hN.out.below (Dq w 1),fun h=>off h⟩⟩) (Dk (k:=0) ?_ (Dk (k:=1) ?_ (Dk (k:=2) ?_ (Dk (k:=3) ?_ (Dk (k:=4) ?_ (Dk (k:=5) ?_ (Dk (k:=6) ?_ (Dk (k:=7) ?_ (Dk (k:=8) ?_ (Dk (k:=9) ?_ (Dk (k:=10) ?_ (Dk (k:=11) ?_ (Dk (k:=12) ?_ (Dk (k:=13) ?_ (Dk (k:=14) ?_ (Dk (k:=15) ?_ (Dk (k:=16) ?_ (Du)))))))))))))))))) ?_
 ·intro l a W hl hw hsh h K hK
  rw [hI] at h;iterate 16 obtain ⟨_,h⟩:=h
  obtain ⟨rfl,hC,hP,f13,g⟩:=h;go_simp;apply hK.out;rw [hI];iterate 16 apply Exists.intro
  exact ⟨rfl,hC,hP.put 0 rfl rfl rfl,f13,g⟩
 ·intro l a W hl hw hsh h K hK
  rw [hI] at h;iterate 16 obtain ⟨_,h⟩:=h
  obtain ⟨rfl,hC,hP,f13,g⟩:=h;obtain rfl:=hP.get 0 rfl (hw 0 Ab);go_simp;apply hK.out;rw [hI];iterate 16 apply Exists.intro
  exact ⟨rfl,hC,hP.put 1 rfl rfl rfl,f13,g⟩
 ·intro l a W hl hw hsh h K hK
  rw [hI] at h;iterate 16 obtain ⟨_,h⟩:=h
  obtain ⟨rfl,hC,hP,f13,g⟩:=h;obtain rfl:=hP.get 1 rfl (hw 1 Ab);have x1:=(hC.cell (p:=⟨ga,1,none⟩) hA.out.1 (by simpa using hA.out.2.2)).trans hA.out.2.1;go_simp;apply hK.out;rw [hI];iterate 16 apply Exists.intro
  exact ⟨rfl,hC,hP.put 2 rfl rfl rfl,f13,g⟩
 ·intro l a W hl hw hsh h K hK
  rw [hI] at h;iterate 16 obtain ⟨_,h⟩:=h
  obtain ⟨rfl,hC,hP,f13,g⟩:=h;go_simp;apply hK.out;rw [hI];iterate 16 apply Exists.intro
  exact ⟨rfl,hC,hP.put 3 rfl rfl rfl,f13,g⟩
 ·intro l a W hl hw hsh h K hK
  rw [hI] at h;iterate 16 obtain ⟨_,h⟩:=h
  obtain ⟨rfl,hC,hP,f13,g⟩:=h;go_simp;apply hK.out;rw [hI];iterate 16 apply Exists.intro
  exact ⟨rfl,hC,hP.put 4 rfl rfl rfl,f13,g⟩
 ·intro l a W hl hw hsh h K hK
  rw [hI] at h;iterate 16 obtain ⟨_,h⟩:=h
  obtain ⟨rfl,hC,hP,f13,g⟩:=h;obtain rfl:=hP.get 4 rfl (hw 4 Ab);go_simp;apply hK.out;rw [hI];iterate 16 apply Exists.intro
  exact ⟨rfl,hC,hP.put 5 rfl rfl rfl,f13,g⟩
 ·intro l a W hl hw hsh h K hK
  rw [hI] at h;iterate 16 obtain ⟨_,h⟩:=h
  obtain ⟨rfl,hC,hP,f13,g⟩:=h;obtain rfl:=hP.get 5 rfl (hw 5 Ab);go_simp;apply hK.out;rw [hI];iterate 16 apply Exists.intro
  exact ⟨rfl,hC,hP.put 6 rfl rfl rfl,f13,g⟩
 ·intro l a W hl hw hsh h K hK
  rw [hI] at h;iterate 16 obtain ⟨_,h⟩:=h
  obtain ⟨rfl,hC,hP,f13,g⟩:=h;obtain rfl:=hP.get 6 rfl (hw 6 Ab);have x1:=(hC.cell (p:=⟨t.tb,0,none⟩) hT.out.lt (by simpa using hnt.out.1.symm)).trans hT.out.c0;rw [Gq hm0] at x1;go_simp;apply hK.out;rw [hI];iterate 16 apply Exists.intro
  exact ⟨rfl,hC,hP.put 7 rfl rfl rfl,f13,g⟩
 ·intro l a W hl hw hsh h K hK
  rw [hI] at h;iterate 16 obtain ⟨_,h⟩:=h
  obtain ⟨rfl,hC,hP,f13,g⟩:=h;go_simp;apply hK.out;rw [hI];iterate 16 apply Exists.intro
  exact ⟨rfl,hC,hP.put 8 rfl rfl rfl,f13,g⟩
 ·intro l a W hl hw hsh h K hK
  rw [hI] at h;iterate 16 obtain ⟨_,h⟩:=h
  obtain ⟨rfl,hC,hP,f13,g⟩:=h;obtain rfl:=hP.get 7 rfl (hw 7 Ab);obtain rfl:=hP.get 8 rfl (hw 8 Ab);go_simp;apply hK.out;rw [hI];iterate 16 apply Exists.intro
  exact ⟨rfl,hC,hP.put 9 rfl rfl rfl,f13,g⟩
 ·intro l a W hl hw hsh h K hK
  rw [hI] at h;iterate 16 obtain ⟨_,h⟩:=h
  obtain ⟨rfl,hC,hP,f13,g⟩:=h;obtain rfl:=hP.get 9 rfl (hw 9 Ab);have x1:=(hC.cell (p:=⟨t.xb,i,none⟩) (hT.out.lx hm0) (by simpa using hnt.out.2.1.symm)).trans (hT.out.xs i him);go_simp;apply hK.out;rw [hI];iterate 16 apply Exists.intro
  exact ⟨rfl,hC,hP.put 10 rfl rfl rfl,f13,g⟩
 ·intro l a W hl hw hsh h K hK
  rw [hI] at h;iterate 16 obtain ⟨_,h⟩:=h
  obtain ⟨rfl,hC,hP,f13,g⟩:=h;go_simp;apply hK.out;rw [hI];iterate 16 apply Exists.intro
  exact ⟨rfl,hC,hP.put 11 rfl rfl rfl,f13,g⟩
 ·intro l a W hl hw hsh h K hK
  rw [hI] at h;iterate 16 obtain ⟨_,h⟩:=h
  obtain ⟨rfl,hC,hP,f13,g⟩:=h;obtain rfl:=hP.get 10 rfl (hw 10 Ab);obtain rfl:=hP.get 11 rfl (hw 11 Ab);go_simp;apply hK.out;rw [hI];iterate 16 apply Exists.intro
  exact ⟨rfl,hC,hP.put 12 rfl rfl rfl,f13,g⟩
 ·intro l a W hl hw hsh h K hK
  rw [hI] at h;iterate 16 obtain ⟨_,h⟩:=h
  obtain ⟨rfl,hC,hP,f13,g⟩:=h;obtain rfl:=hP.get 12 rfl (hw 12 Ab);rw [AU (by rfl)];have hrng:=((hT.out.grid.row i Ad).only hC (by simpa using hnt.out.2.2.symm)).rd la hla;refine wp_load_mid _ _ rfl _ _ rfl (wl (wd (F i la))) _ hrng Io rfl (Gu _) ?_;apply hK.out;rw [hI];iterate 16 apply Exists.intro
  exact ⟨rfl,hC,hP.skip 13 rfl,fun _=>rfl,g⟩
 ·intro l a W hl hw hsh h K hK
  rw [hI] at h;iterate 16 obtain ⟨_,h⟩:=h
  obtain ⟨rfl,hC,hP,f13,g⟩:=h;obtain rfl:=f13 (hw 13 Ab);go_simp;go_at_call 33;refine Calls.mono (KB (F i la) hz.out.1 hz.out.2 _ (hE.out.below (h0.out.1.trans (hC.toBelow h0.out.1.size (by intro b hb;rw [B3.1 hb];exact h0.out.2))) (Aa _))) ?_;rintro e W2 ⟨rfl,hb⟩;apply hK.out;rw [hI];iterate 16 apply Exists.intro
  exact ⟨rfl,hC.below hb,hP.put 13 rfl rfl rfl,f13,⟨fun h=>(g.1 h).below hb,fun h=>(g.2 h).below hb⟩⟩
 ·intro l a W hl hw hsh h K hK
  rw [hI] at h;iterate 16 obtain ⟨_,h⟩:=h
  obtain ⟨rfl,hC,hP,f13,g⟩:=h;obtain rfl:=hP.get 2 rfl (hw 2 Ab);obtain rfl:=hP.get 3 rfl (hw 3 Ab);go_simp;apply hK.out;rw [hI];iterate 16 apply Exists.intro
  exact ⟨rfl,hC,hP.put 14 rfl rfl rfl,f13,g⟩
 ·intro l a W hl hw hsh h K hK
  rw [hI] at h;iterate 16 obtain ⟨_,h⟩:=h
  obtain ⟨rfl,hC,hP,f13,g⟩:=h;obtain rfl:=hP.get 13 rfl (hw 14 Ab);obtain rfl:=hP.get 14 rfl (hw 15 Ab);have hG:=g.1 hl;obtain ⟨x1,x2⟩:=hG.cell q hq;go_simp;apply hK.out;rw [hI];iterate 16 apply Exists.intro
  exact ⟨rfl,hC.setCell Af _,hP.skip 16 rfl,f13,⟨fun h=>off h.symm,fun _=>hG.set hq _⟩⟩
 ·intro a W hI'
  have h:=(hI _ _ _).1 hI';clear hI';iterate 16 obtain ⟨_,h⟩:=h
  obtain ⟨rfl,hC,hP,f13,g⟩:=h;obtain ⟨ga,rfl,hga,hg0,hg1⟩:=f13 Ab;exact hQ.out _ _ _ _ _ _ _ _ _ _ _ _ _ _ _ _ _ hC (g.2 Ab)
end
section
open Go.RowKit
open LnM (wd DL)
attribute [local go_sem] Oper.semAt_some
structure S7 (s:LnM.Sys):Prop where
 d:∀ B,s.Inv B->LnM.Wide (s.d B)
 T:∀ B,s.Inv B->∀ i,i<s.m->∀ j,j<=s.n+s.m->LnM.Wide (s.T B i j)
 C:∀ B,s.Inv B->∀ j,j<=s.n+s.m->LnM.Wide (s.C B j)
 two:∀ B,s.Inv B->∀ i r k,i<s.m->r<s.m->k<=s.n+s.m->LnM.Wide (s.T B i (s.n+s.m)*s.T B r k-s.T B r (s.n+s.m)*s.T B i k)
 dT:∀ B r k,s.Inv B->s.Leave B k r->k<s.n->∀ i,i<s.m->∀ j,j<=s.n+s.m->LnM.Wide (s.d B*s.T (DL B r k) i j)
 dC:∀ B r k,s.Inv B->s.Leave B k r->k<s.n->∀ j,j<=s.n+s.m->LnM.Wide (s.d B*s.C (DL B r k) j)
theorem Tv (t:Tb) (base:Nat) (s:LnM.Sys) (hwd:S7 s) (B:Nat->Nat) (sg:Nat->Int) (r k:Nat) (hI:s.Inv B) (hl:s.Leave B k r) (hk:k<s.n) (hm:t.m=s.m) (hn:t.n=s.n+s.m+1) (hd:t.Dis base) (hm1:t.m<=100000) (hn1:t.n<=100000)
  (w:World) (h:K4 w t (GH s B) B sg (s.d B)) (hbs:base<=w.heap.size) :
  Calls Tryz.prog 70 #[.pointer (some ⟨t.tb,0,none⟩),.int .i64 r,.int .i64 k] w fun e w'=>e=.returned (.tuple #[])/\K4 w' t (GH s (DL B r k)) (DL B r k) sg (s.d (DL B r k))/\Below base w w':=by
 have hr:=hl.lt
 have hP:=Tu t base (GH s B) (GH s (DL B r k)) B sg (s.d B) r k w h hd hbs Ad Ad hm1 hn1 hI.dpos (hwd.d B hI) (fun i hi hir j hj=>?_) (fun j hj=>?_)
 ·have e:GH s B r k=s.d (DL B r k):=by unfold GH;rw [AU hr,LnM.pivot_d]
  rwa [e] at hP
 ·unfold GH
  by_cases him:i<s.m
  ·simp only [AU hr,AU him]
   have hj':j<=s.n+s.m:=by rw [hn] at hj;omega
   exact ⟨(LnM.pivot_T hI hr him hir hj').symm,hwd.dT B r k hI hl hk i him j hj'⟩
  ·simp only [AU hr,AP him]
   have hj':j<=s.n+s.m:=by rw [hn] at hj;omega
   exact ⟨(LnM.pivot_C hI hr hk hj').symm,hwd.dC B r k hI hl hk j hj'⟩
 ·unfold GH
  rw [AU hr,AU hr,LnM.pivot_row]
theorem run_any (t:Tb) (base:Nat) (s:LnM.Sys) (hwd:S7 s) (B:Nat->Nat) (sg:Nat->Int) (hI:s.Inv B) (hm:t.m=s.m) (hn:t.n=s.n+s.m+1) (hkn:t.k=s.n) (hd:t.Dis base) (hm1:t.m<=100000) (hn1:t.n<=100000)
  (w:World) (h:K4 w t (GH s B) B sg (s.d B)) (hbs:base<=w.heap.size) :
  Calls Tryz.prog 31 #[.pointer (some ⟨t.tb,0,none⟩)] w fun e w'=>e=.returned (.tuple #[])/\(∃ B',s.Inv B'/\(∀ k,k<s.n->0<=s.C B' k)/\K4 w' t (GH s B') B' sg (s.d B'))/\Below base w w':=by
 obtain ⟨c,Kc,Rc,L,h0,hch,hend⟩:=LnM.run_ends hI
 rw [<-h0] at h
 have PV:=A8 (fun B r k hI hl hk W h hb=>Tv t base s hwd B sg r k hI hl hk hm hn hd hm1 hn1 W h hb)
 have LV:=A8 (fun B k (hI:s.Inv B) (hk:k<s.n) (hm0:0<s.m) W (h:K4 W t (GH s B) B sg (s.d B))=>PG t s (GH s B) B sg (s.d B) k W h hm hn (fun i hi j hj=>AU hi) Ad hm0 hm1 hn1 (fun i hi=>hwd.T B hI i hi k Ad) (fun i r hi hr=>hwd.two B hI i r k hi hr Ad))
 have H:=A8 h
 have hwd':=A8 hwd
 have hch':=A8 hch
 have hend':=A8 hend
 have hd':=A8 hd
 replace hm:=A8 hm
 replace hn:=A8 hn
 have hkn':=A8 hkn
 clear h hwd hch hend hI h0 hd hkn
 go_enter Tryz.func31,Tryz.ntmps31
 refine wp_scope_straight ?_
 go_wp2_with fail
 refine wp_label ?_
 go_wp2_with fail
 go_loopg [] L (fun q wr=>∃ l,l+q=L/\Hid (K4 wr t (GH s (c l)) (c l) sg (s.d (c l)))/\Below base w wr)
 case atStart=>exact ⟨0,Ad,H,(Below.refl _ _).mono hbs⟩
 case round =>
  rename World=>Wo
  obtain ⟨l,hlk,hT,hB⟩:=hrel;have hI:=A8 (hch'.out.invs (l:=l) Ad);have hbo:base<=Wo.heap.size:=Bc hbs hB.size;have c16:=hT.out.c16;rw [hkn'.out] at c16;go_wp2_with fail;clear c16;go_loopw [7] (fun o wr2=>∃ k:Nat,o=.int .i64 k/\k<=s.n/\Hid (∀ j,j<k->0<=s.C (c l) j)/\Below Wo.heap.size Wo wr2) (fun o _=>s.n-(intOf o).toNat);case atStart=>exact ⟨0,rfl,Ad,A8 (fun j hj=>by omega),Below.refl _ _⟩
  case round =>
   obtain ⟨k,rfl,hk,hfi,hB2⟩:=hrel;by_cases hkn:k<s.n
   ·have hkn':(k:Int)<s.n:=by omega
    have hk0:(0:Int)<=k:=by omega
    have hkt:k<t.n:=by have:=hn.out;omega
    have hkt':(k:Int)<t.n:=by omega
    have HT:=A8 (hT.out.below hB2);have c1:=HT.out.c1;obtain ⟨b0,b1,b2,b3,b4,b5,b6,b7,b8,b9,b10,b11⟩:=Eo ((HT.out.grid.row t.m Ad).rd k hkt);rw [show GH s (c l) t.m k=s.C (c l) k from AP (by have:=hm.out;omega)] at b0 b1 b2 b3 b4 b5 b6 b7 b8 b9 b10 b11;have hvw:=hwd'.out.C (c l) hI.out k Ad;obtain ⟨v,hv⟩:∃ v,v=s.C (c l) k:=⟨_,rfl⟩;rw [<-hv] at b0 b1 b2 b3 b4 b5 b6 b7 b8 b9 b10 b11 hvw;have NG:=fun W=>LY hvw W
    replace hv:=A8 hv;by_cases hneg:v<0
    ·rw [show decide (v<0)=true by simp [hneg]] at NG
     have he:s.Enter (c l) k:=⟨hkn,by rw [<-hv.out];exact hneg,hfi.out⟩;obtain ⟨i0,hi0,hp0⟩:=LnM.exists_pos he;have hlL:l<L:=by
      refine Nat.lt_of_not_le fun hle=>?_
      have e:l=L:=by omega
      have:=hend'.out k hkn;rw [<-e,<-hv.out] at this;omega
     have hKk:Kc l=k:=LnM.enter_unique (hch'.out.enter l hlL) he;have hRr:=hch'.out.leave l hlL;rw [hKk] at hRr;have hnx:=hch'.out.next l hlL;rw [hKk] at hnx;replace hRr:=A8 hRr;replace hnx:=A8 hnx;replace hp0:=A8 hp0;generalize wd v=f at *
     clear hneg hvw he hKk;replace NG:=A8 NG;go_wp2_with fail;refine Calls.mono (NG.out _) ?_;rintro e w1 ⟨rfl,hb⟩;have H1:=A8 (HT.out.below hb);have hB3:Below base Wo w1:=(hB2.mono hbo).trans (hb.mono (Bc hbo hB2.size));clear b0 b1 b2 b3 b4 b5 b6 b7 b8 b9 b10 b11 c1 NG hb;go_wp2_with fail;refine Calls.mono (LV.out (c l) k hI.out hkn Ad _ H1.out) ?_;rintro e w2 ⟨⟨bz,rfl,hbz⟩,hb⟩;have H2:=A8 (H1.out.below hb);have hB4:Below base Wo w2:=hB3.trans (hb.mono (Bc hbo hB3.size));clear hb;rcases hbz with ⟨rfl,hno⟩ | ⟨r,rfl,hl⟩
     ·exact absurd hp0.out (Cp.2 (hno i0 hi0))
     have hle:=LnM.leaveTo_all hl;have hrr:Rc l=r:=LnM.leave_unique hI.out hRr.out hle;have PVr:=A8 (PV.out (c l) r k hI.out hle hkn w2 H2.out (Bc hbo hB4.size));rw [hrr] at hnx;clear hl hle hrr;go_wp2_with fail;refine Calls.mono PVr.out ?_;rintro e w3 ⟨rfl,H3,hb⟩;rw [<-hnx.out] at H3;have hB5:Below base w w3:=hB.trans (hB4.trans hb);clear hb;go_wp2_with fail;go_roundg (gk-1);case rel=>exact ⟨l+1,Ad,A8 H3,hB5⟩
     case measure=>omega
    ·rw [show decide (v<0)=false by simp;omega] at NG
     have hfi2:=A8 (show ∀ j,j<k+1->0<=s.C (c l) j from fun j hj=>by
      by_cases e:j=k
      ·subst e;rw [<-hv.out];omega
      ·exact hfi.out j Ad)
     generalize wd v=f at *
     clear hneg hvw hfi;replace NG:=A8 NG;go_wp2_with fail;refine Calls.mono (NG.out _) ?_;rintro e w1 ⟨rfl,hb⟩;have hB3:Below Wo.heap.size Wo w1:=hB2.trans (hb.mono hB2.size);clear b0 b1 b2 b3 b4 b5 b6 b7 b8 b9 b10 b11 c1 NG hb;go_wp2_with fail;go_roundw;case rel=>exact ⟨k+1,by go_num,Ad,hfi2,hB3⟩
     case measure=>simp [intOf];omega
   ·have hkn':¬ (k:Int)<s.n:=by omega
    obtain rfl:k=s.n:=by omega
    have HT:=A8 (hT.out.below hB2);have hB3:Below base w wr:=hB.trans (hB2.mono hbo);go_wp2;exact bodyPost_ret (v:=.tuple #[]) (by simp [results,Tryz.results31,go_sem]) rfl ⟨rfl,⟨c l,hI.out,hfi.out,HT.out⟩,hB3⟩
end
section
open Go.RowKit
open LnM (wd DL sm)
attribute [local go_sem] Oper.semAt_some
abbrev L3 (z:Int):ByteArray:=⟨(Lib.itoa z).toArray⟩
theorem UW:L3 0=⟨#[48]⟩:=by unfold L3;rw [DP Ae,DT Ae];rfl
structure SysTx (s:LnM.Sys):Prop where
 d:∀ B,s.Inv B->LnM.Wide (s.d B)/\LnM.Wide (-(s.d B))
 T:∀ B,s.Inv B->∀ i,i<s.m->LnM.Wide (s.T B i (s.n+s.m))/\LnM.Wide (-(s.T B i (s.n+s.m)))
 w:∀ B,s.Inv B->∀ i,i<s.m->LnM.Wide (s.w B i)/\LnM.Wide (-(s.w B i))
def K8 (s:LnM.Sys) (B:Nat->Nat) (i k:Nat):ByteArray:=L3 (sm i (fun j=>if B j=k then s.T B j (s.n+s.m) else 0))
theorem Tw (s:LnM.Sys) (B:Nat->Nat) (k:Nat):K8 s B 0 k=⟨#[48]⟩:=UW
theorem UX {s:LnM.Sys} {B:Nat->Nat} (h:s.Inv B) {i:Nat} (hi:i<s.m) (k:Nat):DL (K8 s B i) (B i) (L3 (s.T B i (s.n+s.m))) k=K8 s B (i+1) k:=by
 unfold DL K8;show _=L3 (sm i (fun j=>if B j=k then s.T B j (s.n+s.m) else 0)+(if B i=k then s.T B i (s.n+s.m) else 0));by_cases e:k=B i
 ·rw [AU e,AU e.symm]
  rw [LnM.sm_zero (fun j hj=>AP (fun e2=>by have:=h.dist Ad hi (e2.trans e);omega)),Int.zero_add]
 ·rw [AP e,AP (Ne.symm e),Cq]
theorem Tx {s:LnM.Sys} {B:Nat->Nat} {i k:Nat} (h:B i≠k):K8 s B i k=K8 s B (i+1) k:=by
 unfold K8;show _=L3 (sm i (fun j=>if B j=k then s.T B j (s.n+s.m) else 0)+(if B i=k then s.T B i (s.n+s.m) else 0));rw [AP h,Cq]
theorem EH {cols:Int} {rows:List (List Int×Int)} (h:Ea cols rows=true):0<=cols/\cols<=64/\rows.length<=18/\∀ r∈rows,(r.1.length:Int)=cols/\(∀ x∈r.1,-30000<=x/\x<=30000)/\-1000000000<=r.2/\r.2<=1000000000:=by
 unfold Ea at h;simp only [Ap,Aq,Ar,As] at h;obtain ⟨⟨⟨h1,h2⟩,h3⟩,h4⟩:=h;refine ⟨h1,h2,h3,fun r hr=>?_⟩;have:=h4 r hr;unfold Hn at this;simp only [Au,Ar,not_or,Bool.not_eq_false,C4,Ap,Aq,List.any_eq_true,not_exists,not_and] at this;refine ⟨this.1.1,fun x hx=>?_,this.2⟩;have h5:=this.1.2 x hx;unfold Gg at h5;simpa using h5
theorem Iq {w W:World} {b:Nat} (h:Ds W b #[.bool false,.slice none 0 0,.string ⟨#[]⟩,.slice none 0 0] 38) (hb:w.heap.size<=b) (hW:Below w.heap.size w W) (a c d e:Value) :
  let V:=(((W.setCell ⟨b,0,none⟩ a).setCell ⟨b,1,none⟩ c).setCell ⟨b,2,none⟩ d).setCell ⟨b,3,none⟩ e
  (V.cell? ⟨b,0,none⟩=some a/\V.cell? ⟨b,1,none⟩=some c/\V.cell? ⟨b,2,none⟩=some d/\V.cell? ⟨b,3,none⟩=some e)/\Below w.heap.size w V/\Dr [b] W V:=by
 have hB:=(((h.set 0 a).set 1 c).set 2 d).set 3 e
 have hon:Dr [b] W ((((W.setCell ⟨b,0,none⟩ a).setCell ⟨b,1,none⟩ c).setCell ⟨b,2,none⟩ d).setCell ⟨b,3,none⟩ e):=((((Dr.refl [b] W).setCell (p:=⟨b,0,none⟩) Af _).setCell (p:=⟨b,1,none⟩) Af _).setCell (p:=⟨b,2,none⟩) Af _).setCell (p:=⟨b,3,none⟩) Af _
 exact ⟨⟨hB.cell 0,hB.cell 1,hB.cell 2,hB.cell 3⟩,hW.trans (hon.toBelow hW.size (by intro x hx;rw [B3.1 hx];exact hb)),hon⟩
theorem Nh (cols:Int) (v:Value) (rows:List (List Int×Int)) (w:World) (h:EX w v rows) (hv:Ea cols rows=false) :
  Calls Tryz.prog 9 #[.agg #[.int .i64 cols,v]] w (DR w (.tuple #[.agg #[.bool false,.slice none 0 0,.string ⟨#[]⟩,.slice none 0 0],.int .i64 60])):=by
 obtain ⟨a,cap,rfl⟩:=h.shape
 have H:=A8 h
 have VA:=A8 (fun W (hW:EX W (.slice a rows.length cap) rows)=>G5 cols _ rows W hW)
 rw [hv] at VA
 clear h hv
 generalize rows.length=n at *
 obtain ⟨V1,e1,S1,z1⟩:=(BL.start w).add' #[.int .i64 cols,.slice a n cap] 27
 obtain ⟨V2,e2,hS,z2⟩:=S1.add' #[.bool false,.slice none 0 0,.string ⟨#[]⟩,.slice none 0 0] 38
 rw [z1] at hS
 have hV:V2=(w.alloc (.cells #[.int .i64 cols,.slice a n cap] 27)).alloc (.cells #[.bool false,.slice none 0 0,.string ⟨#[]⟩,.slice none 0 0] 38):=by rw [e2,e1]
 have zz:=A8 (show V2.heap.size=w.heap.size+2 by rw [z2,z1])
 clear e1 e2 S1 z1 z2
 obtain ⟨x0,x1⟩:=hS.c2 w.heap.size _ _ _ Ai
 go_enter Tryz.func9,Tryz.ntmps9
 go_upto_region 1 with fail
 rw [<-hV]
 clear hV
 go_wp2_with fail
 refine Calls.mono (VA.out _ (H.out.below hS.below)) ?_
 rintro e w1 ⟨rfl,hb⟩
 replace hS:=hS.call hb
 have hsv:=A8 hb.size
 clear x0 x1 hb
 obtain ⟨y0,y1,y2,y3⟩:=hS.c4 (w.heap.size+1) _ _ _ _ _ Ah
 have hB:=hS.blks _ Ah
 have f0:=hB.frozen 0
 have f1:=hB.frozen 1
 have f2:=hB.frozen 2
 have f3:=hB.frozen 3
 obtain ⟨⟨k0,k1,k2,k3⟩,hfin,-⟩:=Iq hB (Cr _) hS.below (.bool false) (.slice none 0 0) (.string ⟨#[]⟩) (.slice none 0 0)
 have hfin:=A8 hfin
 clear hS hB
 dsimp only at f0 f1 f2 f3 k0 k1 k2 k3
 go_wp2
 exact bodyPost_ret (v:=.tuple #[.agg #[.bool false,.slice none 0 0,.string ⟨#[]⟩,.slice none 0 0],.int .i64 60]) (by simp [results,Tryz.results9,go_sem,k0,k1,k2,k3]) rfl ⟨rfl,hfin.out⟩
theorem UY (cols : Nat) (v : Value) (rows : List (List Int × Int)) (w : World) (hE : Fp w) (h : EX w v rows) (hv : Ea cols rows = true) (hwd : S7 (DZ cols rows)) (htx : SysTx (DZ cols rows)) :
   Calls Tryz.prog 9 #[.agg #[.int .i64 cols, v]] w fun e w' => ∃ B, (DZ cols rows).Inv B /\ (∀ k, k < cols -> 0 <= (DZ cols rows).C B k) /\ Below w.heap.size w w' /\
     (((DZ cols rows).C B (cols + rows.length) = 0 /\ ∃ nv, e = .returned (.tuple #[.agg #[.bool true, nv, .string (L3 ((DZ cols rows).d B)), .slice none 0 0], .int .i64 0]) /\ DS w' nv ((List.range cols).map fun k => L3 ((DZ cols rows).x B k))) ∨
      ((DZ cols rows).C B (cols + rows.length) ≠ 0 /\ ∃ wv, e = .returned (.tuple #[.agg #[.bool false, .slice none 0 0, .string ⟨#[]⟩, wv], .int .i64 0]) /\ DS w' wv ((List.range rows.length).map fun i => L3 (El rows i * (DZ cols rows).w B i)))) := by
 obtain ⟨p1, p2, p3, p4⟩ := EH hv
 obtain ⟨a, cap, rfl⟩ := h.shape
 have H := A8 h
 have VA := A8 (fun W (hW : EX W (.slice a rows.length cap) rows) => G5 cols _ rows W hW)
 rw [hv] at VA
 have OP := A8 (fun W (hW : EX W (.slice a rows.length cap) rows) => UV cols rows _ W hW Ad Ad (fun r hr => by have := (p4 r hr).1; omega) (fun r hr => ⟨fun x hx => by have := (p4 r hr).2.1 x hx; omega, (p4 r hr).2.2⟩))
 have ok := QT cols rows
 obtain ⟨s, hs⟩ : ∃ s, s = DZ cols rows := ⟨_, rfl⟩
 have hsn : s.n = cols := by rw [hs]; rfl
 have hsm : s.m = rows.length := by rw [hs]; rfl
 rw [<- hs] at OP ok hwd htx |-
 have hsg := A8 (fun i => K6 rows i)
 generalize El rows = sg at *
 generalize rows.length = n at *
 have c64 : cols <= 64 := by omega
 replace ok := A8 ok
 replace hwd := A8 hwd
 replace htx := A8 htx
 replace hsn := A8 hsn
 replace hsm := A8 hsm
 replace hE := A8 hE
 clear h hv p1 p2 p4 hs
 obtain ⟨V1, e1, S1, z1⟩ := (BL.start w).add' #[.int .i64 cols, .slice a n cap] 27
 obtain ⟨V2, e2, hS, z2⟩ := S1.add' #[.bool false, .slice none 0 0, .string ⟨#[]⟩, .slice none 0 0] 38
 rw [z1] at hS
 have hV : V2 = (w.alloc (.cells #[.int .i64 cols, .slice a n cap] 27)).alloc (.cells #[.bool false, .slice none 0 0, .string ⟨#[]⟩, .slice none 0 0] 38) := by rw [e2, e1]
 have zz := A8 (show V2.heap.size = w.heap.size + 2 by rw [z2, z1])
 clear e1 e2 S1 z1 z2
 obtain ⟨x0, x1⟩ := hS.c2 w.heap.size _ _ _ Ai
 go_enter Tryz.func9, Tryz.ntmps9
 go_upto_region 1 with fail
 rw [<- hV]
 clear hV
 go_wp2_with fail
 refine Calls.mono (VA.out _ (H.out.below hS.below)) ?_
 rintro e w1 ⟨rfl, hb⟩
 replace hS := hS.call hb
 have hsv := A8 hb.size
 clear x0 x1 hb
 obtain ⟨x0, x1⟩ := hS.c2 w.heap.size _ _ _ Ai
 go_wp2_with fail
 refine Calls.mono (OP.out _ (H.out.below hS.below)) ?_
 rintro e w2 ⟨t, rfl, t1, t2, t3, t4, t5, hb2⟩
 clear x0 x1
 replace t1 := A8 t1
 replace t2 := A8 t2
 replace t3 := A8 t3
 replace t4 := A8 t4
 replace t5 := A8 t5
 go_wp2_with fail
 refine Calls.mono (run_any t w1.heap.size s hwd.out s.B0 sg (LnM.inv_B0 ok.out) (by rw [t1.out, hsm.out]) (by rw [t2.out, hsn.out, hsm.out]) (by rw [t3.out, hsn.out]) t4.out (by rw [t1.out]; omega) (by rw [t2.out]; omega) w2 (by rw [LnM.d_B0 ok.out]; exact t5.out) hb2.size) ?_
 rintro e w3 ⟨rfl, ⟨B, hI, hfe, hT⟩, hb3⟩
 replace hS := hS.call (hb2.trans hb3)
 have hszw : w1.heap.size <= w3.heap.size := Bc hb2.size hb3.size
 have hsz1 : w.heap.size + 2 <= w1.heap.size := by rw [<- zz.out]; exact hsv.out
 replace hT := A8 hT
 replace hI := A8 hI
 replace hfe := A8 hfe
 clear t5 hb2 hb3 H VA OP
 have hms : t.m = s.m := by rw [t1.out, hsm.out]
 have hns : t.n = s.n + s.m + 1 := by rw [t2.out, hsn.out, hsm.out]
 have hks : t.k = s.n := by rw [t3.out, hsn.out]
 have htm1 : t.m <= 18 := by rw [t1.out]; exact p3
 have htk1 : t.k <= 64 := by rw [t3.out]; exact c64
 have htn1 : t.n <= 1000 := by rw [t2.out]; omega
 obtain ⟨la, hla⟩ : ∃ la, la = s.n + s.m := ⟨_, rfl⟩
 have hlan : la < t.n := by omega
 have hla' : (la : Int) < t.n := by omega
 have hla0 : (0 : Int) <= la := by omega
 have hw1 : IntKind.i64.wrap ((t.n : Int) - 1) = la := by rw [BT _ Ad]; omega
 have hcw := hwd.out.C B hI.out la Ad
 have hlac : la = cols + n := by rw [hla, hsn.out, hsm.out]
 have hFc : ∀ j, GH s B t.m j = s.C B j := fun j => by unfold GH; rw [AP Ad]
 have hFr : ∀ i, i < t.m -> ∀ j, GH s B i j = s.T B i j := fun i hi j => by unfold GH; rw [AU Ad]
 have c1 := hT.out.c1
 obtain ⟨b0, b1, b2, b3, b4, b5, b6, b7, b8, b9, b10, b11⟩ := Eo ((hT.out.grid.row t.m Ad).rd la hlan)
 rw [hFc la] at b0 b1 b2 b3 b4 b5 b6 b7 b8 b9 b10 b11
 obtain ⟨z, hz⟩ : ∃ z, z = s.C B la := ⟨_, rfl⟩
 rw [<- hz] at b0 b1 b2 b3 b4 b5 b6 b7 b8 b9 b10 b11 hcw
 have EQ := fun W => F8 hcw (b := decide (z = 0)) rfl W
 obtain ⟨fz, hfz⟩ : ∃ f, f = wd z := ⟨_, rfl⟩
 rw [<- hfz] at b0 b1 b2 b3 b4 b5 b6 b7 b8 b9 b10 b11 EQ
 dsimp only [wc] at EQ
 replace hz := A8 hz
 replace hla := A8 hla
 replace hlac := A8 hlac
 replace hns := A8 hns
 replace hms := A8 hms
 replace hks := A8 hks
 replace hFc := A8 hFc
 replace hFr := A8 hFr
 have tbl3 : t.tb < w3.heap.size := hT.out.lt
 clear hcw hfz
 by_cases hz0 : z = 0
 case neg =>
   rw [show decide (z = 0) = false by simp [hz0]] at EQ
   have hm0 : 0 < t.m := by
     refine Nat.pos_of_ne_zero fun e => hz0 ?_
     have e2 : s.m = 0 := by rw [<- hms.out]; exact e
     rw [hz.out, hla.out, LnM.C_val, e2]; rfl
   have hm0' : ¬ (t.m : Int) = 0 := by omega
   go_upto_region 7 with fail
   clear b0 b1 b2 b3 b4 b5 b6 b7 b8 b9 b10 b11 c1 EQ
   replace hz0 := A8 hz0
   go_upto_region 8 with fail
   obtain ⟨X, hX⟩ : ∃ X, X = w3.heap.size := ⟨_, rfl⟩
   obtain ⟨W4, hW4, S4, z4⟩ := (BL.start w3).add' #[.bool false, .slice none 0 0, .string ⟨#[]⟩, .slice none 0 0] 38
   rw [<- hW4]
   rw [<- hX] at S4 |-
   have c3 : W4.cell? ⟨t.tb, 3, none⟩ = some (sl t.m t.sb t.cs) := (hT.out.below S4.below).c3
   rw [Gq hm0] at c3
   have hb4 := S4.below
   have kX := A8 (S4.blks _ Ah)
   have hX' := A8 hX
   have hX1 : w1.heap.size <= X := by omega
   clear hW4 S4 hX
   go_wp2_with fail
   clear c3
   go_loopw [41] (fun o wr => ∃ (i : Nat) (wv : Value), o = .int .i64 i /\ i <= t.m /\ Hid (Below w3.heap.size w3 wr) /\ Hid (Ds wr X #[.bool false, .slice none 0 0, .string ⟨#[]⟩, wv] 38) /\ Hid (wr.ownsRow w3.heap.size 9 1 wv i ((List.range i).map fun j => .string (L3 (sg j * s.w B j))))) (fun o _ => t.m - (intOf o).toNat)
   case atStart => exact ⟨0, _, rfl, by omega, A8 hb4, kX, A8 (World.ownsRow_nil _ _ _ _)⟩
   case round =>
     clear hb4 kX z4
     obtain ⟨i, wv, rfl, him, hB, kX, own⟩ := hrel
     by_cases hi : i < t.m
     case pos =>
       have hi' : (i : Int) < t.m := by omega
       have hi0 : (0 : Int) <= i := by omega
       have hTr := A8 (hT.out.below hB.out)
       have y0 := hTr.out.sgn i hi
       obtain ⟨si, hsi⟩ : ∃ si, si = sg i := ⟨_, rfl⟩
       rw [<- hsi] at y0
       have hsgi := hsg.out i
       rw [<- hsi] at hsgi
       replace hsi := A8 hsi
       go_upto_region 11 with fail
       clear y0
       refine Tq (i := i) (q := cols + i) hTr (by rw [hks.out, hsn.out, BT _ Ad]; omega) (by rw [hns.out, hsn.out, <- hms.out]; omega) (by have : cols + i < t.n := (by rw [hns.out, hsn.out, <- hms.out]; omega); omega) Ad Ab ?_
       intro v46 v47 v48 v49 v50 v51 v52 v53 v54 v55 v56 v57 v58 v59 v60 v61 v62 g W5 hb5 kG hgw
       have kX5 := A8 (kX.out.below hb5)
       have own5 := A8 (E8 own.out hb5)
       have hB5 := A8 (hB.out.trans (hb5.mono hB.out.size))
       have hwt := htx.out.w B hI.out i (by rw [<- hms.out]; exact hi)
       have hD : Hid (GH s B t.m (cols + i) - s.d B = s.w B i) := A8 (by rw [hFc.out]; unfold LnM.Sys.w; rw [hsn.out])
       obtain ⟨D, hDD⟩ : ∃ D, D = GH s B t.m (cols + i) - s.d B := ⟨_, rfl⟩
       rw [<- hDD] at kG
       rw [<- hDD] at hD
       clear hDD hb5
       have hsz5 : w3.heap.size <= W5.heap.size := hB5.out.size
       have hX5 : w3.heap.size <= X := by rw [hX'.out]; exact Aa _
       have hgw3 : w3.heap.size <= g := Bc hB.out.size hgw
       have hBw5 := A8 (hS.below.trans (hB5.out.mono hS.below.size))
       rcases hsgi with e1 | e1
       · rw [e1]
         have he : Hid (s.w B i = sg i * s.w B i) := A8 (by rw [<- hsi.out, e1, B7])
         clear e1
         go_upto_region 14 with fail
         refine Nc (base := w3.heap.size) (z := D) (w0 := w) hE (A8 ⟨hBw5.out, hS.below.size, hsz5, hX5⟩) (A8 (by rw [hD.out]; exact hwt)) (by have := t1.out; omega) kX5 (A8 kG) own5 Ab ?_
         intro v68 v69 v70 v71 v72 v73 v74 ga cap W6 hO6 kX6 own6
         have hB6 := A8 (hB5.out.trans (hO6.toBelow hsz5 (by
           intro k hk
           rcases Aw.1 hk with rfl | hk
           · exact hX5
           · exact (own5.out.lt k (by simpa using hk)).1)))
         have own7 : Hid (W6.ownsRow w3.heap.size 9 1 (.slice (some ⟨ga, 0, none⟩) (i + 1) cap) (i + 1) ((List.range (i + 1)).map fun j => .string (L3 (sg j * s.w B j)))) := A8 (by
           rw [AZ, Bg]
           show W6.ownsRow _ _ 1 _ _ (_ ++ [Value.string (L3 (sg i * s.w B i))])
           rw [<- he.out, <- hD.out]; exact own6)
         replace kX6 := A8 kX6
         clear hO6 own6 kG
         go_wp2_with fail
         go_roundw
         case rel => exact ⟨i + 1, _, by go_num, by omega, hB6, kX6, own7⟩
         case measure => simp [intOf]; omega
       · rw [e1]
         have he : Hid (-(s.w B i) = sg i * s.w B i) := A8 (by rw [<- hsi.out, e1]; omega)
         clear e1
         obtain ⟨E, hEE⟩ : ∃ E, E = 0 - D := ⟨_, rfl⟩
         have MI := A8 (fun W => (by have := FY 0 D W; rw [<- hEE] at this; rwa [show wc (wd 0) = wc (fun _ => 0) from Eu fun i _ => LnM.wd_zero i] at this : Calls Tryz.prog 32 #[.agg (wc (fun _ => 0)), .agg (wc (wd D))] W (DR W (.agg (wc (wd E))))))
         replace hEE := A8 hEE
         obtain ⟨y0, y1, y2, y3, y4, y5, y6, y7, y8, y9, y10, y11⟩ := DN kG
         go_wp2_with fail
         refine Calls.mono (MI.out _) ?_
         rintro e w6 ⟨rfl, hb6⟩
         clear y0 y1 y2 y3 y4 y5 y6 y7 y8 y9 y10 y11
         replace kG := kG.below hb6
         replace kX5 := A8 (kX5.out.below hb6)
         replace own5 := A8 (E8 own5.out hb6)
         replace hB5 := A8 (hB5.out.trans (hb6.mono hsz5))
         replace hBw5 := A8 (hS.below.trans (hB5.out.mono hS.below.size))
         replace hsz5 : w3.heap.size <= w6.heap.size := hB5.out.size
         clear hb6
         obtain ⟨y0, y1, y2, y3, y4, y5, y6, y7, y8, y9, y10, y11⟩ := DN kG
         obtain ⟨q0, q1, q2, q3, q4, q5, q6, q7, q8, q9, q10, q11⟩ := Fy kG
         go_upto_region 14 with fail
         clear y0 y1 y2 y3 y4 y5 y6 y7 y8 y9 y10 y11 q0 q1 q2 q3 q4 q5 q6 q7 q8 q9 q10 q11
         have kG7 := Fs (f := wd E) kG
         have hO7 : Dr [g] w6 (Jg w6 g (wd E)) := by rw [<- HK]; exact Dx _ _ _
         obtain ⟨W7, hW7⟩ : ∃ W7, W7 = Jg w6 g (wd E) := ⟨_, rfl⟩
         rw [<- hW7] at kG7 hO7
         rw [show ((((((((((((w6.setCell ⟨g, 0, none⟩ (.int .u64 (wd E 0))).setCell ⟨g, 1, none⟩ (.int .u64 (wd E 1))).setCell ⟨g, 2, none⟩ (.int .u64 (wd E 2))).setCell ⟨g, 3, none⟩ (.int .u64 (wd E 3))).setCell ⟨g, 4, none⟩ (.int .u64 (wd E 4))).setCell ⟨g, 5, none⟩ (.int .u64 (wd E 5))).setCell ⟨g, 6, none⟩ (.int .u64 (wd E 6))).setCell ⟨g, 7, none⟩ (.int .u64 (wd E 7))).setCell ⟨g, 8, none⟩ (.int .u64 (wd E 8))).setCell ⟨g, 9, none⟩ (.int .u64 (wd E 9))).setCell ⟨g, 10, none⟩ (.int .u64 (wd E 10))).setCell ⟨g, 11, none⟩ (.int .u64 (wd E 11))) = W7 from hW7.symm]
         clear hW7
         have gne : X ≠ g := fun e => by
           have h1 := kX5.out
           rw [e] at h1
           have := h1.symm.trans kG
           simp at this
         have kX7 := A8 ((hO7.block X kX5.out.lt (by simpa using gne)).trans kX5.out : Ds W7 X #[.bool false, .slice none 0 0, .string ⟨#[]⟩, wv] 38)
         have own7 := A8 (I3 own5.out hO7 (fun b e hb => by rw [B3.1 hb] at e; exact kG.not_row Ae own5.out e.symm))
         have hB7 := A8 (hB5.out.trans (hO7.toBelow hsz5 (by intro x hx; rw [B3.1 hx]; exact hgw3)))
         have hBw7 := A8 (hS.below.trans (hB7.out.mono hS.below.size))
         have hsz7 : w3.heap.size <= W7.heap.size := hB7.out.size
         clear hO7 kG kX5 own5 hB5 hBw5 hsz5
         refine Nc (base := w3.heap.size) (z := E) (w0 := w) hE (A8 ⟨hBw7.out, hS.below.size, hsz7, hX5⟩) (A8 (by rw [hEE.out, hD.out, Int.zero_sub, Int.neg_neg]; exact ⟨hwt.2, hwt.1⟩)) (by have := t1.out; omega) kX7 (A8 kG7) own7 Ab ?_
         intro v68 v69 v70 v71 v72 v73 v74 ga cap W8 hO8 kX8 own8
         have hB8 := A8 (hB7.out.trans (hO8.toBelow hsz7 (by
           intro k hk
           rcases Aw.1 hk with rfl | hk
           · exact hX5
           · exact (own7.out.lt k (by simpa using hk)).1)))
         have own9 : Hid (W8.ownsRow w3.heap.size 9 1 (.slice (some ⟨ga, 0, none⟩) (i + 1) cap) (i + 1) ((List.range (i + 1)).map fun j => .string (L3 (sg j * s.w B j)))) := A8 (by
           rw [AZ, Bg]
           show W8.ownsRow _ _ 1 _ _ (_ ++ [Value.string (L3 (sg i * s.w B i))])
           rw [<- he.out, <- hD.out, <- Int.zero_sub, <- hEE.out]; exact own8)
         replace kX8 := A8 kX8
         clear hO8 own8 kG7
         go_wp2_with fail
         go_roundw
         case rel => exact ⟨i + 1, _, by go_num, by omega, hB8, kX8, own9⟩
         case measure => simp [intOf]; omega
     case neg =>
       have hi' : ¬ (i : Int) < t.m := by omega
       obtain rfl : i = t.m := by omega
       have hBl := A8 (hS.below.trans (hB.out.mono hS.below.size))
       have hBr := (hS.blks _ Ah).below (hB.out.mono (Aa _))
       obtain ⟨ga, cap, rfl⟩ : ∃ ga cap, wv = .slice (some ⟨ga, 0, none⟩) t.m cap := by
         rcases own.out.2 with ⟨e, h0⟩ | ⟨g, cp, cur, e, -⟩
         · omega
         · exact ⟨g, cp, e⟩
       obtain ⟨y0, y1, y2, y3⟩ := (⟨kX.out.cell 0, kX.out.cell 1, kX.out.cell 2, kX.out.cell 3⟩ : _ /\ _ /\ _ /\ _)
       obtain ⟨q0, q1, q2, q3⟩ := (⟨hBr.cell 0, hBr.cell 1, hBr.cell 2, hBr.cell 3⟩ : _ /\ _ /\ _ /\ _)
       have f0 := hBr.frozen 0
       have f1 := hBr.frozen 1
       have f2 := hBr.frozen 2
       have f3 := hBr.frozen 3
       obtain ⟨⟨k0, k1, k2, k3⟩, hfin, hon⟩ := Iq hBr (Cr _) hBl.out (.bool false) (.slice none 0 0) (.string ⟨#[]⟩) (.slice (some ⟨ga, 0, none⟩) t.m cap)
       have ownf := I3 own.out hon (fun b e hb => by
         have h1 := (own.out.lt b e).1
         have h2 := B3.1 hb
         dsimp only at h2
         omega)
       have hsl : Hid (DS _ (.slice (some ⟨ga, 0, none⟩) t.m cap) ((List.range t.m).map fun j => L3 (sg j * s.w B j))) := A8 (DS.of_own (by rw [List.map_map]; exact ownf))
       have hfin := A8 hfin
       clear hBr kX own hon ownf
       dsimp only at f0 f1 f2 f3 k0 k1 k2 k3 q0 q1 q2 q3
       go_wp2
       exact bodyPost_ret (v := .tuple #[.agg #[.bool false, .slice none 0 0, .string ⟨#[]⟩, .slice (some ⟨ga, 0, none⟩) t.m cap], .int .i64 0]) (by simp [results, Tryz.results9, go_sem, k0, k1, k2, k3]) rfl
         ⟨B, hI.out, fun k hk => hfe.out k (by rw [hsn.out]; exact hk), hfin.out, .inr ⟨by rw [<- hlac.out, <- hz.out]; exact hz0.out, _, rfl, by rw [<- t1.out]; exact hsl.out⟩⟩
 case pos =>
   rw [show decide (z = 0) = true by simp [hz0]] at EQ
   replace hz0 := A8 hz0
   go_upto_region 17 with fail
   clear b0 b1 b2 b3 b4 b5 b6 b7 b8 b9 b10 b11 c1 EQ
   refine Tr (w0 := w) hE (A8 hS.below) hT (A8 (htx.out.d B hI.out)) Ad Ab ?_
   intro v77 v78 v79 v80 v81 v82 v83 v84 v85 v86 v87 v88 v89 ga gb W4 hb4 hN kA hga hgb
   have hT4 := A8 (hT.out.below hb4)
   obtain ⟨ao, cc, hsl⟩ : ∃ ao cc, sl t.m t.bb t.cb = .slice ao t.m cc := ⟨_, _, rfl⟩
   have c2 := hT4.out.c2
   rw [hsl] at c2
   obtain ⟨S, hSm, hSg⟩ : ∃ S : List Nat, (∀ x ∈ S, x = gb /\ 0 < t.k) /\ (0 < t.k -> S = [gb]) := by
     by_cases h0 : 0 < t.k
     · exact ⟨[gb], fun x hx => ⟨B3.1 hx, h0⟩, fun _ => rfl⟩
     · exact ⟨[], fun x hx => (by cases hx), fun h => absurd h h0⟩
   have hne : 0 < t.k -> ga ≠ gb := fun hk0 e => by
     have := (hN.cell 0 hk0).1
     rw [<- e, kA.cell] at this; simp at this
   have N0 := A8 (hN.congr (g := K8 s B 0) (fun j _ => (Tw s B j).symm))
   replace kA := A8 kA
   replace hsl := A8 hsl
   replace hSm := A8 hSm
   replace hSg := A8 hSg
   replace hne := A8 hne
   replace hb4 := A8 hb4
   clear hN
   go_wp2_with fail
   clear c2
   go_loopw [95] (fun o wr => ∃ i : Nat, o = .int .i64 i /\ i <= t.m /\ Hid (Dr S W4 wr) /\ Hid (EZ wr gb t.k (K8 s B i))) (fun o _ => t.m - (intOf o).toNat)
   case atStart => exact ⟨0, rfl, by omega, A8 (Dr.refl _ _), N0⟩
   case round =>
     clear N0
     obtain ⟨i, rfl, him, hO, hN⟩ := hrel
     have hBr := A8 (hb4.out.trans (hO.out.toBelow hb4.out.size (by intro x hx; rw [(hSm.out x hx).1]; exact hgb)))
     by_cases hi : i < t.m
     case pos =>
       have hi' : (i : Int) < t.m := by omega
       have hi0 : (0 : Int) <= i := by omega
       have hm0 : 0 < t.m := by omega
       have hsl' := hsl.out
       rw [Gq hm0] at hsl'
       cases hsl'
       have hTr := A8 (hT.out.below hBr.out)
       have y0 := (hTr.out.bas i hi).1
       have y1 := hTr.out.c16
       obtain ⟨q, hq⟩ : ∃ q, q = B i := ⟨_, rfl⟩
       rw [<- hq] at y0
       replace hq := A8 hq
       by_cases hqk : q < t.k
       · have hqk' : (q : Int) < t.k := by omega
         have gbl : w3.heap.size <= gb := hgb
         go_upto_region 22 with fail
         clear y0 y1
         refine Ts (w0 := w) (la := la) hE (A8 ⟨hS.below.trans (hBr.out.mono hS.below.size), Bc hS.below.size hgb⟩) hTr hi hi' hi0 hlan hla' hla0 hqk hqk' Ad (A8 (by rw [hFr.out i hi, hla.out]; exact htx.out.T B hI.out i (by rw [<- hms.out]; exact hi))) (A8 ⟨A9 kA.out.lt hO.out.size, (hO.out.cell (p := ⟨ga, 1, none⟩) kA.out.lt (fun hx => hne.out Ad (hSm.out _ hx).1)).trans (kA.out.cell 1), hne.out Ad⟩) hN (A8 ⟨by have := hT.out.lt; omega, by have := hT.out.lx hm0; omega, by have := (hT.out.grid.row i Ad).lt; omega⟩) hm0 Ab ?_
         intro v106 v107 v108 v109 v110 v111 v112 v113 v114 v115 v116 v117 v118 v119 v120 v121 W5 hO5 hN5
         have hO6 := A8 (hO.out.trans (by rw [hSg.out Ad]; exact hO5))
         have hN6 := A8 (hN5.congr (g := K8 s B (i + 1)) (fun j _ => by rw [hFr.out i hi, hla.out, hq.out]; exact UX hI.out (by rw [<- hms.out]; exact hi) j))
         clear hO5 hN5
         go_wp2_with fail
         go_roundw
         case rel => exact ⟨i + 1, by go_num, by omega, hO6, hN6⟩
         case measure => simp [intOf]; omega
       · have hqk' : ¬ (q : Int) < t.k := by omega
         have hN6 := A8 (hN.out.congr (g := K8 s B (i + 1)) (fun j hj => Tx (by rw [<- hq.out]; omega)))
         go_wp2_with fail
         go_roundw
         case rel => exact ⟨i + 1, by go_num, by omega, hO, hN6⟩
         case measure => simp [intOf]; omega
     case neg =>
       have hi' : ¬ (i : Int) < t.m := by omega
       obtain rfl : i = t.m := by omega
       have hBl := A8 (hS.below.trans (hBr.out.mono hS.below.size))
       have hBz := (hS.blks _ Ah).below (hBr.out.mono (Aa _))
       have kAr : Ds wr ga #[.bool true, .slice (some ⟨gb, 0, none⟩) t.k t.k, .string (L3 (s.d B)), .slice none 0 0] 38 := (hO.out.block ga kA.out.lt (fun hx => hne.out (hSm.out _ hx).2 (hSm.out _ hx).1)).trans kA.out
       obtain ⟨y0, y1, y2, y3⟩ := (⟨kAr.cell 0, kAr.cell 1, kAr.cell 2, kAr.cell 3⟩ : _ /\ _ /\ _ /\ _)
       obtain ⟨q0, q1, q2, q3⟩ := (⟨hBz.cell 0, hBz.cell 1, hBz.cell 2, hBz.cell 3⟩ : _ /\ _ /\ _ /\ _)
       have f0 := hBz.frozen 0
       have f1 := hBz.frozen 1
       have f2 := hBz.frozen 2
       have f3 := hBz.frozen 3
       obtain ⟨⟨k0, k1, k2, k3⟩, hfin, hon⟩ := Iq hBz (Cr _) hBl.out (.bool true) (.slice (some ⟨gb, 0, none⟩) t.k t.k) (.string (L3 (s.d B))) (.slice none 0 0)
       have Nf := hN.out.only hon (by intro e; have := B3.1 e; dsimp only at this; omega)
       have hsf : Hid (DS _ (.slice (some ⟨gb, 0, none⟩) t.k t.k) ((List.range t.k).map (K8 s B t.m))) := A8 (Nf.sl (by unfold maxLen; omega))
       have hfin := A8 hfin
       clear hBz kAr hon Nf
       dsimp only at f0 f1 f2 f3 k0 k1 k2 k3 q0 q1 q2 q3 y0 y1 y2 y3
       go_wp2
       exact bodyPost_ret (v := .tuple #[.agg #[.bool true, .slice (some ⟨gb, 0, none⟩) t.k t.k, .string (L3 (s.d B)), .slice none 0 0], .int .i64 0]) (by simp [results, Tryz.results9, go_sem, k0, k1, k2, k3]) rfl
         ⟨B, hI.out, fun k hk => hfe.out k (by rw [hsn.out]; exact hk), hfin.out, .inl ⟨by rw [<- hlac.out, <- hz.out]; exact hz0.out, _, rfl, by
           have e : K8 s B t.m = fun k => L3 (s.x B k) := by funext k; unfold K8 LnM.Sys.x; rw [hms.out]
           rw [<- t3.out, <- e]; exact hsf.out⟩⟩
end
end Go.Proofs.YtioamkekjjkigaaGreatDoor
