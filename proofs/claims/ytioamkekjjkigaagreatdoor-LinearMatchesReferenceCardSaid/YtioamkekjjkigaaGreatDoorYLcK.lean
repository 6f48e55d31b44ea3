/- LcK, LcL, LcM, McA, McB, McC, McD, McE, Mem, MemA, MemB, RgL, RgV -/
import Derived.Test.YtioamkekjjkigaaGreatDoorYLcE
import Derived.Deep.RegionHeld3
import Derived.Deep.Upon
set_option maxHeartbeats 8000000
set_option maxRecDepth 100000
namespace Go.Proofs.YtioamkekjjkigaaGreatDoor
section
open Go.RowKit
structure DG where
 p:Int
 q:Int
 na:List ByteArray
 nb:List ByteArray
 da:ByteArray
 db:ByteArray
def DG.num (x:DG):Nat->Int
 | 0=>(x.p+x.q)*zS x.da*zS x.db
 | i+1=>x.p*zS (DH x.na i)*zS x.db+x.q*zS (DH x.nb i)*zS x.da
def DG.z (x:DG) (f:Bool) (i:Nat):Int:=zS (Ha f [I x.p,DH x.na i,x.db] 3)+zS (Ha (FK f [I x.p,DH x.na i,x.db] 3) [I x.q,DH x.nb i,x.da] 3)
def DG.flag (x:DG):Nat->Bool
 | 0=>FK true [I (x.p+x.q),x.da,x.db] 3
 | i+1=>FK (FK (x.flag i) [I x.p,DH x.na i,x.db] 3) [I x.q,DH x.nb i,x.da] 3&&decide (Do (x.z (x.flag i) i))
def DG.txt (x:DG):Nat->ByteArray
 | 0=>Ha true [I (x.p+x.q),x.da,x.db] 3
 | i+1=>⟨(Go.Proofs.YtioamkekjjkigaaGreatDoor.txt (x.z (x.flag i) i)).toArray⟩
theorem I9 {b:Bool} {l:List ByteArray} {n:Nat} (h:FK b l n=true):b=true/\Fv l n=true:=by unfold FK at h;simpa using h
theorem Ia {l:List ByteArray} {n:Nat} (h:Fv l n=true):Ha true l n=I (EV l n):=by unfold Ha;rw [h];rfl
theorem prod3 (a b c:ByteArray):EV [a,b,c] 3=zS a*zS b*zS c:=by show 1*zS a*zS b*zS c=_;rw [B7]
theorem DG.good (x:DG):∀ {i:Nat},x.flag i=true->x.txt i=I (x.num i)/\Do (x.num i)
 | 0,h=>by
  obtain ⟨_,h1⟩:=I9 h;have e:EV [I (x.p+x.q),x.da,x.db] 3=x.num 0:=by rw [prod3,Ee];rfl
  exact ⟨by show Ha true _ 3=_;rw [Ia h1,e],by rw [<-e];exact JF h1⟩
 | i+1,h=>by
  have h':(FK (FK (x.flag i) [I x.p,DH x.na i,x.db] 3) [I x.q,DH x.nb i,x.da] 3&&decide (Do (x.z (x.flag i) i)))=true:=h;rw [Ap,Aq] at h';obtain ⟨h1,h2⟩:=h';obtain ⟨h3,h4⟩:=I9 h1;obtain ⟨h5,h6⟩:=I9 h3;have e:x.z (x.flag i) i=x.num (i+1):=by
   unfold DG.z;rw [h3,h5,Ia h6,Ia h4,Ee,Ee,prod3,prod3,Ee,Ee];rfl
  rw [e] at h2;refine ⟨?_,h2⟩;show ByteArray.mk (Go.Proofs.YtioamkekjjkigaaGreatDoor.txt (x.z (x.flag i) i)).toArray=_;rw [e,MZ h2];rfl
theorem DG.flag_le (x:DG) {i n:Nat} (h:x.flag n=true) (hi:i<=n):x.flag i=true:=by
 induction n with
 | zero=>obtain rfl:i=0:=Ad;exact h
 | succ n ih =>
  by_cases e:i=n+1
  ·subst e;exact h
  ·refine ih ?_ Ad
   have h':(FK (FK (x.flag n) [I x.p,DH x.na n,x.db] 3) [I x.q,DH x.nb n,x.da] 3&&decide (Do (x.z (x.flag n) n)))=true:=h;rw [Ap] at h';exact (I9 (I9 h'.1).1).1
theorem DG.add_T (x:DG) (i:Nat):∃ E:Int,EY true (x.z (x.flag i) i)=.tuple #[.string (x.txt (i+1)),.int .i64 E]/\(E==0)=decide (Do (x.z (x.flag i) i)):=by
 refine ⟨MT (x.z (x.flag i) i),by unfold EY;rw [AU rfl];rfl,?_⟩;unfold MT;by_cases h:Do (x.z (x.flag i) i)
 ·rw [AU h,AF h];rfl
 ·rw [AP h,Al h];rfl
def DG.gcd (x:DG):Nat->Int
 | 0=>0
 | k+1=>EM (x.gcd k) (x.num k)
end
section
open Go.RowKit
attribute [local go_sem] Oper.semAt_some
theorem Mi {ops:Array Oper} {rest:List Oper} {o:Oper} {a:Act} {Q:Exit->Act->World->Prop} {w:World} {base:Nat} (hgd:o.guard=none) (t e:TypeId) (z:Value) (bytes:Nat) (ht:Tryz.prog.underlying t=some (.slice e)) (hi:(Tryz.prog.info? e).map (fun i=>(i.zero,i.size,i.bytes))=some (some z,1,bytes)) (hz:z.cells.size=1)
  (s x:Operand) (ho:o.op=.call { callee:=.builtin .append,args:=#[s,x],argTypes:=#[t,t] }) (v:Value) (n:Nat) (xs:List Value) (hs:a.eval s=v) (hown:w.ownsRow base e 1 v n xs)
  (g:Nat) (u:Value) (hx:a.eval x=.slice (some ⟨g,0,none⟩) 1 1) (hu:w.cell? ⟨g,0,none⟩=some u) (h1:u.oneCell'=true) (hn:(n+1)*bytes<=140737488355328) (hn2:n<=1000000) (hbase:base<=w.heap.size)
  (h:∀ g' cap w',w'.ownsRow base e 1 (.slice (some ⟨g',0,none⟩) (n+1) cap) (n+1) (xs++[u])->w.grownBy w' v.ownBlock->(∀ b,(Value.slice (some ⟨g',0,none⟩) (n+1) cap).ownBlock=some b->v.ownBlock=some b∨w.heap.size<=b)->wpList Tryz.prog ops Q rest (a.put o.dst (.slice (some ⟨g',0,none⟩) (n+1) cap)) w') :
  wpList Tryz.prog ops Q (o :: rest) a w :=
 wpList_plain hgd fun _ hK=>F9 t e z bytes ht hi hz s x ho v n xs hs hown g u hx hu h1 hn hn2 hbase fun v' w' r1 r2 r3=>by
  have r1':=r1;rcases r1.2 with ⟨rfl,h0⟩ | ⟨g',cap,cur,rfl,_⟩
  ·omega
  ·exact hK _ _ (h g' cap w' r1' r2 r3)
theorem mix_l0 {Q:Exit->Act->World->Prop} {u0 u1 u6 u7 u8 u9 u13 u14 u15 u16 u17 u18 u19 u20 u21 u22 u23 u24 u25 u26 u27 u28 u29 u30 u31 u32 u33 u34 u35 u36 u37 u38 u39 u40 u41 u42 u43 u44 u45 u46 u47 u48 u49 u50 u51 u52 u53 u54 u55 u56 u57 u58 u59 u60 u61 u62 u63 u66 u67 u68 u69 u70 u71 u72 u73 u74 u75 u76 u77 u78 u79 u80 u81 u82 u83 u84 u85 u86 u87 u88 u89 u90 u91 u92 u93 u94 u95 u96 u97 u98 u99 u100 u101 u102 u103 u104 u105 u106 u107 u108 u109 u110 u111 u112 u113 u114 u115 u116 u117 u118 u119 u120 u121 u122 u123 u124 u125 u126 u127 u128 u129 u130 u131 u132 u133 u134 u135 u136 u137 u138 u139 u140 u141 u142 u143 u144 u145 u146 u147 u148 u149 u150 u151 u152:Value} {x:DG} {b0 b1 Bk n base g0:Nat} {aa ab:Option Addr} {ca cb:Nat} {w0 w:World} (hE:Hid (Fp w0)) (h0:Hid (Below w0.heap.size w0 w/\w0.heap.size<=Bk/\Bk<base/\base<=w.heap.size)) (hp:Hid ((1<=x.p/\x.p<=1000)/\(1<=x.q/\x.q<=1000))) (hn:Hid (n=x.na.length/\n=x.nb.length/\n<=64)) (hok:Hid ((∀ i,i<n->DK (DH x.na i)=true/\DK (DH x.nb i)=true)/\DK x.da=true/\DK x.db=true))
  (hc:Hid ((b0<base/\b0≠Bk/\w.cell? ⟨b0,0,none⟩=some (.slice aa n ca)/\w.cell? ⟨b0,1,none⟩=some (.string x.da))/\(b1<base/\b1≠Bk/\w.cell? ⟨b1,0,none⟩=some (.slice ab n cb)/\w.cell? ⟨b1,1,none⟩=some (.string x.db)))) (hA:Hid (DS w0 (.slice aa n ca) x.na)) (hB:Hid (DS w0 (.slice ab n cb) x.nb))
  (hk:Hid (Ds w Bk #[.bool (x.flag 0)] 4)) (hr:Hid (w.ownsRow base 9 1 (.slice (some ⟨g0,0,none⟩) 1 1) (0+1) ((List.range (0+1)).map fun j=>.string (x.txt j)))) {body:Code} (hbody:EN Tryz.f18.body 0=some body)
  (hQ:∀ (gf cf:Nat) (v13 v14 v15 v65 v66 v67 v68 v69 v70 v71 v72 v73 v74 v75 v76 v77 v78 v79 v80 v81 v82 v83 v84 v85 v86 v87 v88 v89 v90 v91 v92 v93 v94 v95 v96 v97 v98 v99 v100 v101 v102 v103 v104 v105:Value) (W':World),Hid (Below w0.heap.size w0 W')->Hid (Ds W' Bk #[.bool (x.flag n)] 4)->Hid (W'.ownsRow base 9 1 (.slice (some ⟨gf,0,none⟩) (n+1) cf) (n+1) ((List.range (n+1)).map fun j=>.string (x.txt j)))->Hid (∀ b,b<base->b≠Bk->W'.heap[b]? = w.heap[b]?)->Q (.exit 0) { tmps:=List.toArray (u0::u1::.int .i64 x.p::.int .i64 x.q::.pointer (some ⟨b0,0,none⟩)::.pointer (some ⟨b1,0,none⟩)::u6::u7::u8::u9::.pointer (some ⟨Bk,0,none⟩)::.func (.func 52) #[] #[.pointer (some ⟨Bk,0,none⟩)]::.slice (some ⟨gf,0,none⟩) (n+1) cf::v13::v14::v15::u16::u17::u18::u19::u20::u21::u22::u23::u24::u25::u26::u27::u28::u29::u30::u31::u32::u33::u34::u35::u36::u37::u38::u39::u40::u41::u42::u43::u44::u45::u46::u47::u48::u49::u50::u51::u52::u53::u54::u55::u56::u57::u58::u59::u60::u61::u62::u63::.int .i64 n::v65::v66::v67::v68::v69::v70::v71::v72::v73::v74::v75::v76::v77::v78::v79::v80::v81::v82::v83::v84::v85::v86::v87::v88::v89::v90::v91::v92::v93::v94::v95::v96::v97::v98::v99::v100::v101::v102::v103::v104::v105::u106::u107::u108::u109::u110::u111::u112::u113::u114::u115::u116::u117::u118::u119::u120::u121::u122::u123::u124::u125::u126::u127::u128::u129::u130::u131::u132::u133::u134::u135::u136::u137::u138::u139::u140::u141::u142::u143::u144::u145::u146::u147::u148::u149::u150::u151::u152::[]),defers:=[] } W') :
  (Code.loop body).wp Tryz.prog Q { tmps:=List.toArray (u0::u1::.int .i64 x.p::.int .i64 x.q::.pointer (some ⟨b0,0,none⟩)::.pointer (some ⟨b1,0,none⟩)::u6::u7::u8::u9::.pointer (some ⟨Bk,0,none⟩)::.func (.func 52) #[] #[.pointer (some ⟨Bk,0,none⟩)]::.slice (some ⟨g0,0,none⟩) 1 1::u13::u14::u15::u16::u17::u18::u19::u20::u21::u22::u23::u24::u25::u26::u27::u28::u29::u30::u31::u32::u33::u34::u35::u36::u37::u38::u39::u40::u41::u42::u43::u44::u45::u46::u47::u48::u49::u50::u51::u52::u53::u54::u55::u56::u57::u58::u59::u60::u61::u62::u63::.int .i64 n::.int .i64 0::u66::u67::u68::u69::u70::u71::u72::u73::u74::u75::u76::u77::u78::u79::u80::u81::u82::u83::u84::u85::u86::u87::u88::u89::u90::u91::u92::u93::u94::u95::u96::u97::u98::u99::u100::u101::u102::u103::u104::u105::u106::u107::u108::u109::u110::u111::u112::u113::u114::u115::u116::u117::u118::u119::u120::u121::u122::u123::u124::u125::u126::u127::u128::u129::u130::u131::u132::u133::u134::u135::u136::u137::u138::u139::u140::u141::u142::u143::u144::u145::u146::u147::u148::u149::u150::u151::u152::[]),defers:=[] } w:=by
 obtain rfl:=B4 (hbody.symm.trans (rfl:EN Tryz.f18.body 0=some _))
 clear hbody
 replace hQ:=A8 hQ
 go_loopw [12,65] (fun s o wr=>∃ (i g c:Nat),s=.slice (some ⟨g,0,none⟩) (i+1) c/\o=.int .i64 i/\i<=n/\Hid (Below w0.heap.size w0 wr/\base<=wr.heap.size)/\Hid (Ds wr Bk #[.bool (x.flag i)] 4)/\Hid (wr.ownsRow base 9 1 (.slice (some ⟨g,0,none⟩) (i+1) c) (i+1) ((List.range (i+1)).map fun j=>.string (x.txt j)))/\Hid (∀ b,b<base->b≠Bk->wr.heap[b]? = w.heap[b]?)) (fun _ o _=>n-(intOf o).toNat)
 case atStart=>exact ⟨0,g0,1,rfl,rfl,Ad,A8 ⟨h0.out.1,h0.out.2.2.2⟩,hk,hr,A8 (fun _ _ _=>rfl)⟩
 case round =>
  clear hk hr;obtain ⟨i,g,c,rfl,rfl,hi,hb,hk,hr,hs⟩:=hrel;by_cases hin:i<n;case neg =>
   have hin':¬ (i:Int)<n:=by omega
   obtain rfl:i=n:=by omega
   go_wp2_with fail;exact hQ.out g c _ _ _ _ _ _ _ _ _ _ _ _ _ _ _ _ _ _ _ _ _ _ _ _ _ _ _ _ _ _ _ _ _ _ _ _ _ _ _ _ _ _ _ _ _ (A8 hb.out.1) hk hr hs
  case pos =>
   have hin':(i:Int)<n:=by omega
   have hi0:(0:Int)<=i:=by omega
   obtain ⟨ba,oa,ea,hba,xa⟩:∃ b off,aa=some ⟨b,off,none⟩/\b<w0.heap.size/\w0.cell? ⟨b,off+i,none⟩=some (.string (DH x.na i)):=by
    rcases hA.out with ⟨e,e2⟩ | ⟨b,off,cap',e,h1,h2,h3,h4⟩
    ·have:=hn.out.1;rw [e2] at this;simp at this;omega
    ·cases e
     have:=h4 i _ (FD (by have:=hn.out.1;omega));rw [AY] at this;exact ⟨b,off,rfl,h3,this⟩
   obtain ⟨bb,ob,eb,hbb,xb⟩:∃ b off,ab=some ⟨b,off,none⟩/\b<w0.heap.size/\w0.cell? ⟨b,off+i,none⟩=some (.string (DH x.nb i)):=by
    rcases hB.out with ⟨e,e2⟩ | ⟨b,off,cap',e,h1,h2,h3,h4⟩
    ·have:=hn.out.2.1;rw [e2] at this;simp at this;omega
    ·cases e
     have:=h4 i _ (FD (by have:=hn.out.2.1;omega));rw [AY] at this;exact ⟨b,off,rfl,h3,this⟩
   subst ea;subst eb;obtain ⟨k1,k2⟩:=hok.out.1 i hin;obtain ⟨E,hT,hEz⟩:=x.add_T i;have hgE:Hid (x.flag (i+1)=(FK (FK (x.flag i) [I x.p,DH x.na i,x.db] 3) [I x.q,DH x.nb i,x.da] 3&&(E==0))):=A8 (by rw [hEz];rfl);have hsz:base<=wr.heap.size:=hb.out.2;have hc':=hc.out;have cc:∀ b,b<base->b≠Bk->∀ k u,w.cell? ⟨b,k,none⟩=some u->∀ W,Dr [Bk] wr W->W.cell? ⟨b,k,none⟩=some u:=fun b hbl hbn k u hu W hW=>((hW.cell (p:=⟨b,k,none⟩) (by show b<_;omega) (by simpa using hbn)).trans (Dw (hs.out b hbl hbn) k)).trans hu
   have ce:∀ b,b<w0.heap.size->∀ k u,w0.cell? ⟨b,k,none⟩=some u->∀ W,Dr [Bk] wr W->W.cell? ⟨b,k,none⟩=some u:=fun b hbl k u hu W hW=>((hW.cell (p:=⟨b,k,none⟩) (by show b<_;have:=hb.out.1.size;omega) (by have:=h0.out.2.1;simp;omega)).trans (hb.out.1.cell (p:=⟨b,k,none⟩) hbl)).trans hu
   go_upto_region 9 with fail;refine mix_r9 (p:=x.p) (q:=x.q) (n:=n) (i:=i) (ga:=ba) (oa:=oa) (gb:=bb) (ob:=ob) (fl:=x.flag i) (da:=x.da) (db:=x.db) (sa:=DH x.na i) (sb:=DH x.nb i) (S:=x.txt (i+1)) (E:=E) hE (A8 ⟨hb.out.1,h0.out.2.1⟩) (A8 (by have:=hp.out.1;exact ⟨by unfold Dy;omega,(bd11 Ad).small Ae⟩)) (A8 (by have:=hp.out.2;exact ⟨by unfold Dy;omega,(bd11 Ad).small Ae⟩)) (A8 ⟨hok.out.2.1,hok.out.2.2,k1,k2⟩) hin' hi0
    (A8 (fun W hW=>⟨cc _ hc'.1.1 hc'.1.2.1 0 _ hc'.1.2.2.1 W hW,cc _ hc'.1.1 hc'.1.2.1 1 _ hc'.1.2.2.2 W hW,cc _ hc'.2.1 hc'.2.2.1 0 _ hc'.2.2.2.1 W hW,cc _ hc'.2.1 hc'.2.2.1 1 _ hc'.2.2.2.2 W hW,ce _ hba _ _ xa W hW,ce _ hbb _ _ xb W hW⟩)) (A8 (by have:=h0.out.2.2.1;omega)) hk (A8 hT) Ab ?_
   intro v69 v70 v71 v72 v73 v74 v75 v76 v77 v78 v79 v80 v81 v82 v83 v84 v85 v86 v87 v88 v89 v90 v91 v92 v93 v68 v94 v95 W5 hO5 hk5;have hr5:=I3 hr.out hO5 (fun b e hb=>by have:=(hr.out.lt b e).1;have h2:=B3.1 hb;have:=h0.out.2.2.1;omega);have hb5:=A8 (hb.out.1.trans (hO5.toBelow hb.out.1.size (by intro z hz;rw [B3.1 hz];exact h0.out.2.1)));have hsz5:base<=W5.heap.size:=Bc hsz hO5.size;have hs5:=A8 (fun b (hbl:b<base) (hbn:b≠Bk)=>(hO5.block b Ad (by simpa using hbn)).trans (hs.out b hbl hbn));obtain ⟨f2,hf2⟩:∃ f,f=FK (FK (x.flag i) [I x.p,DH x.na i,x.db] 3) [I x.q,DH x.nb i,x.da] 3:=⟨_,rfl⟩;rw [<-hf2] at hk5 hgE;obtain ⟨ez,hez⟩:∃ b,b=(E==0):=⟨_,rfl⟩;rw [<-hez] at hgE;have hez':=hez.symm;have y0:=hk5.cell 0;have y1:=hk5.frozen 0;have hk6:=hk5.set 0 (.bool (f2&&ez));have hg6:=DE W5 Bk 0 (.bool (f2&&ez));have hr6:=hr5.kept hg6 (.inr (by intro e;have:=(hr5.lt Bk e).1;have:=h0.out.2.2.1;omega));have hO6:=A8 ((Dr.refl [Bk] W5).setCell (p:=⟨Bk,0,none⟩) Af (.bool (f2&&ez)));have hk6':Ds (W5.setCell ⟨Bk,0,none⟩ (.bool (f2&&ez))) Bk #[.bool (x.flag (i+1))] 4:=by rw [hgE.out];exact hk6
   clear hE hT hEz hez hk6 cc ce hO5 hc' xa xb k1 k2 hgE hf2 hr5;have hbB:=h0.out.2.2.1;have hbW:=h0.out.2.1;have hend:Hid (∀ (g2 c2:Nat) (W7 W8:World),W7=(W5.setCell ⟨Bk,0,none⟩ (.bool (f2&&ez))).alloc (.cells #[.string (x.txt (i+1))] 9)->W8.ownsRow base 9 1 (.slice (some ⟨g2,0,none⟩) (i+1+1) c2) (i+1+1) (((List.range (i+1)).map fun j=>Value.string (x.txt j))++[.string (x.txt (i+1))])->W7.grownBy W8 (some g) ->
     (Below w0.heap.size w0 W8/\base<=W8.heap.size)/\Ds W8 Bk #[.bool (x.flag (i+1))] 4/\W8.ownsRow base 9 1 (.slice (some ⟨g2,0,none⟩) (i+1+1) c2) (i+1+1) ((List.range (i+1+1)).map fun j=>.string (x.txt j))/\(∀ b,b<base->b≠Bk->W8.heap[b]? = w.heap[b]?)):=A8 (fun g2 c2 W7 W8 e7 own8 gr8=>by
    have hgb:base<=g:=(hr6.lt g rfl).1
    have h6:Below w0.heap.size w0 (W5.setCell ⟨Bk,0,none⟩ (.bool (f2&&ez))):=hb5.out.trans (hO6.out.toBelow hb5.out.size (by intro z hz;rw [B3.1 hz];exact hbW))
    have h67:Below (W5.setCell ⟨Bk,0,none⟩ (.bool (f2&&ez))).heap.size (W5.setCell ⟨Bk,0,none⟩ (.bool (f2&&ez))) W7:=by rw [e7];exact (Below.refl _ _).alloc (Aa _) _
    have s6:W5.heap.size<=(W5.setCell ⟨Bk,0,none⟩ (.bool (f2&&ez))).heap.size:=hg6.size
    have h7:Below w0.heap.size w0 W7:=h6.trans (h67.mono h6.size)
    have s7:base<=W7.heap.size:=Bc hsz5 (Bc s6 h67.size)
    have hg0:w0.heap.size<=g:=by omega
    refine ⟨⟨h7.grown gr8 h7.size (fun k e=>by cases e;exact hg0),Bc s7 gr8.size⟩,(hk6'.below h67).kept gr8 (by intro e;cases e;omega),by rw [AZ (n:=i+1),Bg];exact own8,fun b hbl hbn=>?_⟩
    have sb:b<W7.heap.size:=by omega
    rw [gr8.block b sb (by intro e;cases e;omega),h67.block b Ad,hO6.out.block b Ad (by simpa using hbn),hs5.out b hbl hbn])
   have hr7:=hr6.alloc (.cells #[.string (x.txt (i+1))] 9);have hs7:base<=((W5.setCell ⟨Bk,0,none⟩ (.bool (f2&&ez))).alloc (.cells #[.string (x.txt (i+1))] 9)).heap.size:=by rw [Bh];have:=hg6.size;omega
   have hu7:((W5.setCell ⟨Bk,0,none⟩ (.bool (f2&&ez))).alloc (.cells #[.string (x.txt (i+1))] 9)).cell? ⟨W5.heap.size,0,none⟩=some (Value.string (x.txt (i+1))):=by
    have es:(W5.setCell ⟨Bk,0,none⟩ (.bool (f2&&ez))).heap.size=W5.heap.size:=World.size_setCell ..;have:=(Ds.new (W5.setCell ⟨Bk,0,none⟩ (.bool (f2&&ez))) #[.string (x.txt (i+1))] 9).cell 0;rw [es] at this;exact this
   replace hr7:=A8 hr7;replace hs7:=A8 hs7;replace hu7:=A8 hu7;have hi64:i+1<=64:=by have:=hn.out.2.2;omega
   generalize hxt:x.txt (i+1)=xt at *
   replace hxt:=A8 hxt;clear hr6 hk6' hg6 hO6 hk5 hb5 hs5 hb hk hr hs;cases f2 <;> cases ez <;>
   ·go_wp2_with (at_builtin;refine Mi rfl _ 9 (.string ⟨#[]⟩) 16 Tryz.underlying28 IK rfl _ _ rfl (.slice (some ⟨g,0,none⟩) (i+1) c) (i+1) _ rfl hr7.out _ (.string xt) rfl hu7.out rfl Ad Ad hs7.out ?_;intro g2 c2 W8 own8 gr8 bl8;replace gr8:=hend.out g2 c2 _ W8 rfl own8 gr8;clear own8 bl8;have own8:=A8 gr8.1;have bl8:=A8 gr8.2.1;have q3:=A8 gr8.2.2.1;replace gr8:=A8 gr8.2.2.2)
    go_roundw;case rel=>exact ⟨i+1,_,_,rfl,by go_num,Ad,by assumption,by assumption,by assumption,by assumption⟩
    case measure=>simp [intOf];omega
def Gk (x:DG):Bool:=DX x.na x.da&&DX x.nb x.db&&decide ((x.na.length:Int)=x.nb.length)&&(decide (1<=x.p)&&decide (x.p<=1000))&&(decide (1<=x.q)&&decide (x.q<=1000))
def DG.quo (x:DG) (i:Nat):Int:=x.num i / x.gcd (x.na.length+1)
def JG (x:DG):Bool:=Gk x&&x.flag x.na.length&&(List.range (x.na.length+1)).all (fun i=>decide (Bd 100 (x.quo i)))
theorem DD {w W:World} {b:Nat} (h:Ds W b #[.slice none 0 0,.string ⟨#[]⟩] 30) (hb:w.heap.size<=b) (hW:Below w.heap.size w W) (a c:Value) :
  let V:=(W.setCell ⟨b,0,none⟩ a).setCell ⟨b,1,none⟩ c
  (V.cell? ⟨b,0,none⟩=some a/\V.cell? ⟨b,1,none⟩=some c)/\Below w.heap.size w V/\Dr [b] W V:=by
 have hB:=(h.set 0 a).set 1 c
 have hon:Dr [b] W ((W.setCell ⟨b,0,none⟩ a).setCell ⟨b,1,none⟩ c):=((Dr.refl [b] W).setCell (p:=⟨b,0,none⟩) Af _).setCell (p:=⟨b,1,none⟩) Af _
 exact ⟨⟨hB.cell 0,hB.cell 1⟩,hW.trans (hon.toBelow hW.size (by intro x hx;rw [B3.1 hx];exact hb)),hon⟩
theorem mix_bad (x:DG) (va vb:Value) (w:World) (hA:DS w va x.na) (hB:DS w vb x.nb) (h:Gk x=false) :
  Calls Tryz.prog 18 #[.agg #[va,.string x.da],.agg #[vb,.string x.db],.int .i64 x.p,.int .i64 x.q] w (DR w (.tuple #[.agg #[.slice none 0 0,.string ⟨#[]⟩],.int .i64 60])):=by
 obtain ⟨p,q,na,nb,da,db⟩:=x
 dsimp only at hA hB |-
 unfold Gk at h
 dsimp only at h
 obtain ⟨aa,ca,rfl⟩:=hA.shape
 obtain ⟨ab,cb,rfl⟩:=hB.shape
 have HA:=A8 hA
 have HB:=A8 hB
 have FA:=A8 (fun W (hW:DS W (.slice aa na.length ca) na)=>Fa _ na da W hW)
 have FB:=A8 (fun W (hW:DS W (.slice ab nb.length cb) nb)=>Fa _ nb db W hW)
 clear hA hB
 generalize DX na da=b1 at *
 generalize DX nb db=b2 at *
 generalize na.length=n at *
 generalize nb.length=m at *
 cases b1
 ·clear h
  skip;obtain ⟨V1,e1,S1,z1⟩:=(BL.start w).add' #[.slice aa n ca,.string da] 30;obtain ⟨V2,e2,S2,z2⟩:=S1.add' #[.slice ab m cb,.string db] 30;obtain ⟨V3,e3,hS,z3⟩:=S2.add' #[.slice none 0 0,.string ⟨#[]⟩] 30;rw [z2,z1] at hS;replace hS:BL w [(w.heap.size+2,#[.slice none 0 0,.string ⟨#[]⟩],30),(w.heap.size+1,#[.slice ab m cb,.string db],30),(w.heap.size,#[.slice aa n ca,.string da],30)] V3:=hS;have hV:V3=((w.alloc (.cells #[.slice aa n ca,.string da] 30)).alloc (.cells #[.slice ab m cb,.string db] 30)).alloc (.cells #[.slice none 0 0,.string ⟨#[]⟩] 30):=by rw [e3,e2,e1]
  have zz:=A8 (show V3.heap.size=w.heap.size+3 by rw [z3,z2,z1]);clear e1 e2 e3 S1 S2 z1 z2 z3;obtain ⟨x0,x1⟩:=hS.c2 w.heap.size _ _ _ Aj;obtain ⟨y0,y1⟩:=hS.c2 (w.heap.size+1) _ _ _ Ai;go_enter Tryz.func18,Tryz.ntmps18;go_upto_region 1 with fail;rw [<-hV];clear hV;go_wp2_with fail;refine Calls.mono (FA.out _ (HA.out.below hS.below)) ?_;rintro e w1 ⟨rfl,hb⟩;replace hS:=hS.call hb;have hsz1:=A8 hb.size;clear x0 x1 y0 y1 hb;obtain ⟨x0,x1⟩:=hS.c2 w.heap.size _ _ _ Aj;obtain ⟨y0,y1⟩:=hS.c2 (w.heap.size+1) _ _ _ Ai;skip;obtain ⟨r0,r1⟩:=hS.c2 (w.heap.size+2) _ _ _ Ah;have hB:=hS.blks _ Ah;have f0:=hB.frozen 0;have f1:=hB.frozen 1;obtain ⟨⟨k0,k1⟩,hfin,-⟩:=DD hB (by show w.heap.size<=w.heap.size+2;omega) hS.below (.slice none 0 0) (.string ⟨#[]⟩);have hfin:=A8 hfin;clear hS hB;dsimp only at f0 f1 k0 k1;go_wp2;exact bodyPost_ret (v:=.tuple #[.agg #[.slice none 0 0,.string ⟨#[]⟩],.int .i64 60]) (by simp [results,Tryz.results18,go_sem,k0,k1]) rfl ⟨rfl,hfin.out⟩
 cases b2
 ·clear h
  skip;obtain ⟨V1,e1,S1,z1⟩:=(BL.start w).add' #[.slice aa n ca,.string da] 30;obtain ⟨V2,e2,S2,z2⟩:=S1.add' #[.slice ab m cb,.string db] 30;obtain ⟨V3,e3,hS,z3⟩:=S2.add' #[.slice none 0 0,.string ⟨#[]⟩] 30;rw [z2,z1] at hS;replace hS:BL w [(w.heap.size+2,#[.slice none 0 0,.string ⟨#[]⟩],30),(w.heap.size+1,#[.slice ab m cb,.string db],30),(w.heap.size,#[.slice aa n ca,.string da],30)] V3:=hS;have hV:V3=((w.alloc (.cells #[.slice aa n ca,.string da] 30)).alloc (.cells #[.slice ab m cb,.string db] 30)).alloc (.cells #[.slice none 0 0,.string ⟨#[]⟩] 30):=by rw [e3,e2,e1]
  have zz:=A8 (show V3.heap.size=w.heap.size+3 by rw [z3,z2,z1]);clear e1 e2 e3 S1 S2 z1 z2 z3;obtain ⟨x0,x1⟩:=hS.c2 w.heap.size _ _ _ Aj;obtain ⟨y0,y1⟩:=hS.c2 (w.heap.size+1) _ _ _ Ai;go_enter Tryz.func18,Tryz.ntmps18;go_upto_region 1 with fail;rw [<-hV];clear hV;go_wp2_with fail;refine Calls.mono (FA.out _ (HA.out.below hS.below)) ?_;rintro e w1 ⟨rfl,hb⟩;replace hS:=hS.call hb;have hsz1:=A8 hb.size;clear x0 x1 y0 y1 hb;obtain ⟨x0,x1⟩:=hS.c2 w.heap.size _ _ _ Aj;obtain ⟨y0,y1⟩:=hS.c2 (w.heap.size+1) _ _ _ Ai;go_wp2_with fail;refine Calls.mono (FB.out _ (HB.out.below hS.below)) ?_;rintro e w2 ⟨rfl,hb⟩;replace hS:=hS.call hb;have hsz2:=A8 hb.size;clear x0 x1 y0 y1 hb;obtain ⟨x0,x1⟩:=hS.c2 w.heap.size _ _ _ Aj;obtain ⟨y0,y1⟩:=hS.c2 (w.heap.size+1) _ _ _ Ai;skip;obtain ⟨r0,r1⟩:=hS.c2 (w.heap.size+2) _ _ _ Ah;have hB:=hS.blks _ Ah;have f0:=hB.frozen 0;have f1:=hB.frozen 1;obtain ⟨⟨k0,k1⟩,hfin,-⟩:=DD hB (by show w.heap.size<=w.heap.size+2;omega) hS.below (.slice none 0 0) (.string ⟨#[]⟩);have hfin:=A8 hfin;clear hS hB;dsimp only at f0 f1 k0 k1;go_wp2;exact bodyPost_ret (v:=.tuple #[.agg #[.slice none 0 0,.string ⟨#[]⟩],.int .i64 60]) (by simp [results,Tryz.results18,go_sem,k0,k1]) rfl ⟨rfl,hfin.out⟩
 by_cases hnm:(n:Int)=m
 case neg =>
  clear h;skip;obtain ⟨V1,e1,S1,z1⟩:=(BL.start w).add' #[.slice aa n ca,.string da] 30;obtain ⟨V2,e2,S2,z2⟩:=S1.add' #[.slice ab m cb,.string db] 30;obtain ⟨V3,e3,hS,z3⟩:=S2.add' #[.slice none 0 0,.string ⟨#[]⟩] 30;rw [z2,z1] at hS;replace hS:BL w [(w.heap.size+2,#[.slice none 0 0,.string ⟨#[]⟩],30),(w.heap.size+1,#[.slice ab m cb,.string db],30),(w.heap.size,#[.slice aa n ca,.string da],30)] V3:=hS;have hV:V3=((w.alloc (.cells #[.slice aa n ca,.string da] 30)).alloc (.cells #[.slice ab m cb,.string db] 30)).alloc (.cells #[.slice none 0 0,.string ⟨#[]⟩] 30):=by rw [e3,e2,e1]
  have zz:=A8 (show V3.heap.size=w.heap.size+3 by rw [z3,z2,z1]);clear e1 e2 e3 S1 S2 z1 z2 z3;obtain ⟨x0,x1⟩:=hS.c2 w.heap.size _ _ _ Aj;obtain ⟨y0,y1⟩:=hS.c2 (w.heap.size+1) _ _ _ Ai;go_enter Tryz.func18,Tryz.ntmps18;go_upto_region 1 with fail;rw [<-hV];clear hV;go_wp2_with fail;refine Calls.mono (FA.out _ (HA.out.below hS.below)) ?_;rintro e w1 ⟨rfl,hb⟩;replace hS:=hS.call hb;have hsz1:=A8 hb.size;clear x0 x1 y0 y1 hb;obtain ⟨x0,x1⟩:=hS.c2 w.heap.size _ _ _ Aj;obtain ⟨y0,y1⟩:=hS.c2 (w.heap.size+1) _ _ _ Ai;go_wp2_with fail;refine Calls.mono (FB.out _ (HB.out.below hS.below)) ?_;rintro e w2 ⟨rfl,hb⟩;replace hS:=hS.call hb;have hsz2:=A8 hb.size;clear x0 x1 y0 y1 hb;obtain ⟨x0,x1⟩:=hS.c2 w.heap.size _ _ _ Aj;obtain ⟨y0,y1⟩:=hS.c2 (w.heap.size+1) _ _ _ Ai;skip;obtain ⟨r0,r1⟩:=hS.c2 (w.heap.size+2) _ _ _ Ah;have hB:=hS.blks _ Ah;have f0:=hB.frozen 0;have f1:=hB.frozen 1;obtain ⟨⟨k0,k1⟩,hfin,-⟩:=DD hB (by show w.heap.size<=w.heap.size+2;omega) hS.below (.slice none 0 0) (.string ⟨#[]⟩);have hfin:=A8 hfin;clear hS hB;dsimp only at f0 f1 k0 k1;go_wp2;exact bodyPost_ret (v:=.tuple #[.agg #[.slice none 0 0,.string ⟨#[]⟩],.int .i64 60]) (by simp [results,Tryz.results18,go_sem,k0,k1]) rfl ⟨rfl,hfin.out⟩
 by_cases hp:1<=p/\p<=1000
 case neg =>
  have hb3:(decide (1<=p)&&decide (p<=1000))=false:=by simp;omega
  have P3:=G9 p 1 1000;rw [hb3] at P3;replace P3:=A8 P3;clear h hp hb3;skip;obtain ⟨V1,e1,S1,z1⟩:=(BL.start w).add' #[.slice aa n ca,.string da] 30;obtain ⟨V2,e2,S2,z2⟩:=S1.add' #[.slice ab m cb,.string db] 30;obtain ⟨V3,e3,hS,z3⟩:=S2.add' #[.slice none 0 0,.string ⟨#[]⟩] 30;rw [z2,z1] at hS;replace hS:BL w [(w.heap.size+2,#[.slice none 0 0,.string ⟨#[]⟩],30),(w.heap.size+1,#[.slice ab m cb,.string db],30),(w.heap.size,#[.slice aa n ca,.string da],30)] V3:=hS;have hV:V3=((w.alloc (.cells #[.slice aa n ca,.string da] 30)).alloc (.cells #[.slice ab m cb,.string db] 30)).alloc (.cells #[.slice none 0 0,.string ⟨#[]⟩] 30):=by rw [e3,e2,e1]
  have zz:=A8 (show V3.heap.size=w.heap.size+3 by rw [z3,z2,z1]);clear e1 e2 e3 S1 S2 z1 z2 z3;obtain ⟨x0,x1⟩:=hS.c2 w.heap.size _ _ _ Aj;obtain ⟨y0,y1⟩:=hS.c2 (w.heap.size+1) _ _ _ Ai;go_enter Tryz.func18,Tryz.ntmps18;go_upto_region 1 with fail;rw [<-hV];clear hV;go_wp2_with fail;refine Calls.mono (FA.out _ (HA.out.below hS.below)) ?_;rintro e w1 ⟨rfl,hb⟩;replace hS:=hS.call hb;have hsz1:=A8 hb.size;clear x0 x1 y0 y1 hb;obtain ⟨x0,x1⟩:=hS.c2 w.heap.size _ _ _ Aj;obtain ⟨y0,y1⟩:=hS.c2 (w.heap.size+1) _ _ _ Ai;go_wp2_with fail;refine Calls.mono (FB.out _ (HB.out.below hS.below)) ?_;rintro e w2 ⟨rfl,hb⟩;replace hS:=hS.call hb;have hsz2:=A8 hb.size;clear x0 x1 y0 y1 hb;obtain ⟨x0,x1⟩:=hS.c2 w.heap.size _ _ _ Aj;obtain ⟨y0,y1⟩:=hS.c2 (w.heap.size+1) _ _ _ Ai;go_wp2_with fail;refine Calls.mono (P3.out _) ?_;rintro e w3 ⟨rfl,hb⟩;replace hS:=hS.call hb;have hsz3:=A8 hb.size;clear x0 x1 y0 y1 hb;obtain ⟨x0,x1⟩:=hS.c2 w.heap.size _ _ _ Aj;obtain ⟨y0,y1⟩:=hS.c2 (w.heap.size+1) _ _ _ Ai;skip;obtain ⟨r0,r1⟩:=hS.c2 (w.heap.size+2) _ _ _ Ah;have hB:=hS.blks _ Ah;have f0:=hB.frozen 0;have f1:=hB.frozen 1;obtain ⟨⟨k0,k1⟩,hfin,-⟩:=DD hB (by show w.heap.size<=w.heap.size+2;omega) hS.below (.slice none 0 0) (.string ⟨#[]⟩);have hfin:=A8 hfin;clear hS hB;dsimp only at f0 f1 k0 k1;go_wp2;exact bodyPost_ret (v:=.tuple #[.agg #[.slice none 0 0,.string ⟨#[]⟩],.int .i64 60]) (by simp [results,Tryz.results18,go_sem,k0,k1]) rfl ⟨rfl,hfin.out⟩
 have hq:¬ (1<=q/\q<=1000):=fun hq=>by simp [hnm,hp,hq] at h
 have hb3:(decide (1<=p)&&decide (p<=1000))=true:=by simp [hp]
 have hb4:(decide (1<=q)&&decide (q<=1000))=false:=by simp;omega
 have P3:=G9 p 1 1000
 have P4:=G9 q 1 1000
 rw [hb3] at P3
 rw [hb4] at P4
 replace P3:=A8 P3
 replace P4:=A8 P4
 clear h hp hq hb3 hb4
 skip
 obtain ⟨V1,e1,S1,z1⟩:=(BL.start w).add' #[.slice aa n ca,.string da] 30
 obtain ⟨V2,e2,S2,z2⟩:=S1.add' #[.slice ab m cb,.string db] 30
 obtain ⟨V3,e3,hS,z3⟩:=S2.add' #[.slice none 0 0,.string ⟨#[]⟩] 30
 rw [z2,z1] at hS
 replace hS:BL w [(w.heap.size+2,#[.slice none 0 0,.string ⟨#[]⟩],30),(w.heap.size+1,#[.slice ab m cb,.string db],30),(w.heap.size,#[.slice aa n ca,.string da],30)] V3:=hS
 have hV:V3=((w.alloc (.cells #[.slice aa n ca,.string da] 30)).alloc (.cells #[.slice ab m cb,.string db] 30)).alloc (.cells #[.slice none 0 0,.string ⟨#[]⟩] 30):=by rw [e3,e2,e1]
 have zz:=A8 (show V3.heap.size=w.heap.size+3 by rw [z3,z2,z1])
 clear e1 e2 e3 S1 S2 z1 z2 z3
 obtain ⟨x0,x1⟩:=hS.c2 w.heap.size _ _ _ Aj
 obtain ⟨y0,y1⟩:=hS.c2 (w.heap.size+1) _ _ _ Ai
 go_enter Tryz.func18,Tryz.ntmps18
 go_upto_region 1 with fail
 rw [<-hV]
 clear hV
 go_wp2_with fail
 refine Calls.mono (FA.out _ (HA.out.below hS.below)) ?_
 rintro e w1 ⟨rfl,hb⟩
 replace hS:=hS.call hb
 have hsz1:=A8 hb.size
 clear x0 x1 y0 y1 hb
 obtain ⟨x0,x1⟩:=hS.c2 w.heap.size _ _ _ Aj
 obtain ⟨y0,y1⟩:=hS.c2 (w.heap.size+1) _ _ _ Ai
 go_wp2_with fail
 refine Calls.mono (FB.out _ (HB.out.below hS.below)) ?_
 rintro e w2 ⟨rfl,hb⟩
 replace hS:=hS.call hb
 have hsz2:=A8 hb.size
 clear x0 x1 y0 y1 hb
 obtain ⟨x0,x1⟩:=hS.c2 w.heap.size _ _ _ Aj
 obtain ⟨y0,y1⟩:=hS.c2 (w.heap.size+1) _ _ _ Ai
 go_wp2_with fail
 refine Calls.mono (P3.out _) ?_
 rintro e w3 ⟨rfl,hb⟩
 replace hS:=hS.call hb
 have hsz3:=A8 hb.size
 clear x0 x1 y0 y1 hb
 obtain ⟨x0,x1⟩:=hS.c2 w.heap.size _ _ _ Aj
 obtain ⟨y0,y1⟩:=hS.c2 (w.heap.size+1) _ _ _ Ai
 go_wp2_with fail
 refine Calls.mono (P4.out _) ?_
 rintro e w4 ⟨rfl,hb⟩
 replace hS:=hS.call hb
 have hsz4:=A8 hb.size
 clear x0 x1 y0 y1 hb
 obtain ⟨x0,x1⟩:=hS.c2 w.heap.size _ _ _ Aj
 obtain ⟨y0,y1⟩:=hS.c2 (w.heap.size+1) _ _ _ Ai
 skip
 obtain ⟨r0,r1⟩:=hS.c2 (w.heap.size+2) _ _ _ Ah
 have hB:=hS.blks _ Ah
 have f0:=hB.frozen 0
 have f1:=hB.frozen 1
 obtain ⟨⟨k0,k1⟩,hfin,-⟩:=DD hB (by show w.heap.size<=w.heap.size+2;omega) hS.below (.slice none 0 0) (.string ⟨#[]⟩)
 have hfin:=A8 hfin
 clear hS hB
 dsimp only at f0 f1 k0 k1
 go_wp2
 exact bodyPost_ret (v:=.tuple #[.agg #[.slice none 0 0,.string ⟨#[]⟩],.int .i64 60]) (by simp [results,Tryz.results18,go_sem,k0,k1]) rfl ⟨rfl,hfin.out⟩
theorem Tz (c m:Int) (hc:Dy c) (h0:0<m) (h1:m<=9223372036854775807) (w:World):Calls Tryz.prog 19 #[.int .i64 c,.int .i64 m] w (DR w (.int .i64 (Ge c m))):=by
 obtain ⟨hc0,hc1⟩:=hc;have hmz:(m==0)=false:=by rw [Am];omega
 by_cases hc:c<0
 ·have hp:0<=-(c+1):=by omega
  have e:=A8 (show -(c+1) % m=Ge c m by unfold Ge;rw [AU hc]);have e2:=A8 (show -((c+1).tmod m)=-(c+1) % m by rw [<-Int.neg_tmod,Bi hp]);go_enter Tryz.func19,Tryz.ntmps19;go_wp2;go_ret;first | exact ⟨ER e.out,Below.refl _ _⟩ | exact ⟨ER (e2.out.trans e.out),Below.refl _ _⟩
 ·have hp:0<=c:=by omega
  have e:=A8 (show c % m=Ge c m by unfold Ge;rw [AP hc]);go_enter Tryz.func19,Tryz.ntmps19;go_wp2;go_ret;exact ⟨ER e.out,Below.refl _ _⟩
theorem Ed (c m:Int) (hc:Dy c) (h0:0<m) (h1:m<=9223372036854775807) (w:World):Calls Tryz.prog 26 #[.int .i64 c,.int .i64 m] w (DR w (.int .i64 (Ge c m))):=by
 obtain ⟨hc0,hc1⟩:=hc;have hmz:(m==0)=false:=by rw [Am];omega
 by_cases hc:c<0
 ·have hp:0<=-(c+1):=by omega
  have e:=A8 (show -(c+1) % m=Ge c m by unfold Ge;rw [AU hc]);have e2:=A8 (show -((c+1).tmod m)=-(c+1) % m by rw [<-Int.neg_tmod,Bi hp]);go_enter Tryz.func26,Tryz.ntmps26;go_wp2;go_ret;first | exact ⟨ER e.out,Below.refl _ _⟩ | exact ⟨ER (e2.out.trans e.out),Below.refl _ _⟩
 ·have hp:0<=c:=by omega
  have e:=A8 (show c % m=Ge c m by unfold Ge;rw [AP hc]);go_enter Tryz.func26,Tryz.ntmps26;go_wp2;go_ret;exact ⟨ER e.out,Below.refl _ _⟩
def GI (l:List Int) (i:Nat):Int:=gi l (i % l.length)
theorem K9 (v:Value) (l:List Int) (i:Nat) (w:World) (h:Sl w v l):Calls Tryz.prog 27 #[v,.int .i64 i] w (DR w (.int .i64 (GI l i))):=by
 have hl:=h.len_le;unfold maxLen at hl;unfold GI;rcases h with ⟨rfl,rfl⟩ | ⟨b,off,cap,rfl,h1,h2,h3,h4⟩
 ·go_enter Tryz.func27,Tryz.ntmps27
  go_wp2;go_ret;exact ⟨rfl,Below.refl _ _⟩
 ·by_cases h0:l.length=0
  ·have hz:gi l (i % l.length)=0:=Gl Ad
   rw [hz];have e0:((l.length:Int)==0)=true:=by simp [h0]
   generalize l.length=n at *
   clear h4 hz;subst h0;go_enter Tryz.func27,Tryz.ntmps27;go_wp2;go_ret;exact ⟨rfl,Below.refl _ _⟩
  ·have hlt:i % l.length<l.length:=Nat.mod_lt _ Ad
   have x0:=h4 (i % l.length) hlt;have e0:((l.length:Int)==0)=false:=by rw [Am];omega
   have e1:((i:Int)).tmod (l.length:Int)=((i % l.length:Nat):Int):=by rw [Bi (Int.natCast_nonneg i)];rfl
   generalize gi l (i % l.length)=z at *
   generalize hq:i % l.length=q at *
   generalize l.length=n at *
   have hq1:(q:Int)<n:=by omega
   have hq0:(0:Int)<=q:=by omega
   have hn0:¬ (n:Int)=0:=by omega
   have hn1:¬ n=0:=h0;replace hq:=A8 hq;clear h4;go_enter Tryz.func27,Tryz.ntmps27;go_wp2;go_ret;exact ⟨rfl,Below.refl _ _⟩
theorem Re (c r m:Int) (v u:Value) (a a2:Option Addr) (cp cp2 n n2:Nat) (hv:v=.slice a n cp) (hu:u=.slice a2 n2 cp2) (hm:Dy m) (w:World) :
  Calls Tryz.prog 28 #[.agg #[.int .i64 c,.int .i64 r,v,u,.int .i64 m]] w (DR w (.bool (Ge m 3==2))):=by
 subst hv
 subst hu
 have PK:=A8 (fun W=>Ed m 3 hm Ae Ae W)
 obtain ⟨V,hV,hS,z1⟩:=(BL.start w).add' #[.int .i64 c,.int .i64 r,.slice a n cp,.slice a2 n2 cp2,.int .i64 m] 24
 have x4:V.cell? ⟨w.heap.size,4,none⟩=some (.int .i64 m):=hS.cell _ _ _ Ah 4
 generalize Ge m 3=z at *
 clear z1
 go_enter Tryz.func28,Tryz.ntmps28
 go_upto_region 1 with fail
 rw [<-hV]
 clear hV
 go_wp2_with fail
 refine Calls.mono (PK.out _) ?_
 rintro e w1 ⟨rfl,hb⟩
 replace hS:=hS.call hb
 go_wp2
 go_ret
 exact ⟨rfl,hS.below⟩
def Ir (l:List ByteArray) (i:Nat):ByteArray:=l[i]?.getD ⟨#[]⟩
theorem S9 {l:List ByteArray} {i:Nat} (h:i<l.length):l[i]? = some (Ir l i):=by unfold Ir;rw [Ax h];rfl
theorem V8 (a b:ByteArray):(a.toList==b.toList)=decide (a=b):=by
 by_cases h:a=b
 ·subst h;simp
 ·rw [Al h,Am]
  intro e;rw [ByteArray.toList_eq,ByteArray.toList_eq] at e;exact h (Ao (Array.toList_inj.1 e))
theorem Rh {l m:List ByteArray} (hl:l.length=m.length) (h:∀ j,j<l.length->Ir l j=Ir m j):l=m:=by
 refine List.ext_getElem hl fun j h1 h2=>?_
 have:=h j h1;unfold Ir at this;rwa [Ax h1,Ax h2] at this
theorem PT (va vb:Value) (la lb:List ByteArray) (w:World) (hA:DS w va la) (hB:DS w vb lb):Calls Tryz.prog 61 #[va,vb] w (DR w (.bool (decide (la=lb)))):=by
 have hla:la.length<=maxLen:=hA.len_le;unfold maxLen at hla;obtain ⟨aa,ca,rfl⟩:=hA.shape;obtain ⟨ab,cb,rfl⟩:=hB.shape;by_cases hl:la.length=lb.length;case neg =>
  have hn:la≠lb:=fun e=>hl (by rw [e])
  have h1:((la.length:Int) != lb.length)=true:=by simp;omega
  rw [Al hn];clear hA hB hn;generalize la.length=n at *
  generalize lb.length=m at *
  go_enter Tryz.func61,Tryz.ntmps61;go_wp2;go_ret;exact ⟨rfl,Below.refl _ _⟩
 case pos =>
  have h1:((la.length:Int) != lb.length)=false:=by simp [hl]
  have HA:=A8 hA;have HB:=A8 hB;have hpost:Hid (∀ (b:Bool) k,(b=false/\k<la.length/\Ir la k≠Ir lb k)∨(b=true/\∀ j,j<la.length->Ir la j=Ir lb j)->decide (la=lb)=b):=A8 (fun b k h=>by
   rcases h with ⟨rfl,h1,h2⟩ | ⟨rfl,h1⟩
   ·exact Al (fun e=>h2 (by rw [e]))
   ·exact AF (Rh hl h1))
  obtain ⟨n,hn⟩:∃ n,n=la.length:=⟨_,rfl⟩;obtain ⟨m,hm⟩:∃ n,n=lb.length:=⟨_,rfl⟩;rw [<-hn] at HA h1 hpost hl hla |-;rw [<-hm] at HB h1 hl |-;replace hn:=A8 hn;replace hm:=A8 hm;replace hl:=A8 hl;clear hA hB;generalize decide (la=lb)=bb at *
  go_enter Tryz.func61,Tryz.ntmps61;go_wp2_with fail;go_loopw [5] (fun o wr=>∃ i:Nat,o=.int .i64 i/\i<=n/\Hid (∀ j,j<i->Ir la j=Ir lb j)/\Hid (Below w.heap.size w wr)) (fun o _=>n-(intOf o).toNat);case atStart=>exact ⟨0,rfl,Ad,A8 (fun j hj=>absurd hj Ad),A8 (Below.refl _ _)⟩
  case round =>
   obtain ⟨i,rfl,hi,hall,hb⟩:=hrel;by_cases hil:i<n;case neg =>
    have hil':¬ (i:Int)<n:=by omega
    obtain rfl:i=n:=by omega
    have hp:=A8 (hpost.out true 0 (.inr ⟨rfl,hall.out⟩));go_wp2;go_ret;exact ⟨Dm hp.out.symm,hb.out⟩
   case pos =>
    have hil':(i:Int)<n:=by omega
    have hil2:(i:Int)<m:=by have:=hl.out;omega
    have hi0:(0:Int)<=i:=by omega
    obtain ⟨ba,oa,ea,hba,xa⟩:∃ b off,aa=some ⟨b,off,none⟩/\b<w.heap.size/\w.cell? ⟨b,off+i,none⟩=some (.string (Ir la i)):=by
     rcases HA.out with ⟨e,e2⟩ | ⟨b,off,cap',e,h1,h2,h3,h4⟩
     ·have:=hn.out;rw [e2] at this;simp at this;omega
     ·cases e
      have:=h4 i _ (S9 (by rw [<-hn.out];exact hil));rw [AY] at this;exact ⟨b,off,rfl,h3,this⟩
    obtain ⟨bb',ob,eb,hbb,xb⟩:∃ b off,ab=some ⟨b,off,none⟩/\b<w.heap.size/\w.cell? ⟨b,off+i,none⟩=some (.string (Ir lb i)):=by
     rcases HB.out with ⟨e,e2⟩ | ⟨b,off,cap',e,h1,h2,h3,h4⟩
     ·have e3:=hm.out;rw [e2] at e3;simp at e3;have:=hl.out;omega
     ·cases e
      have:=h4 i _ (S9 (by rw [<-hm.out,<-hl.out];exact hil));rw [AY] at this;exact ⟨b,off,rfl,h3,this⟩
    subst ea;subst eb;replace xa:=(hb.out.cell (p:=⟨_,_,none⟩) hba).trans xa;replace xb:=(hb.out.cell (p:=⟨_,_,none⟩) hbb).trans xb;have hse:=V8 (Ir la i) (Ir lb i);obtain ⟨sa,hsa⟩:∃ s,s=Ir la i:=⟨_,rfl⟩;obtain ⟨sb,hsb⟩:∃ s,s=Ir lb i:=⟨_,rfl⟩;rw [<-hsa] at xa hse;rw [<-hsb] at xb hse;replace hsa:=A8 hsa;replace hsb:=A8 hsb;have hb2:=A8 (hb.out.trans (Dq wr 1 |>.mono hb.out.size));by_cases heq:sa=sb
    ·rw [AF heq] at hse
     have hall2:=A8 (show ∀ j,j<i+1->Ir la j=Ir lb j from fun j hj=>by
      by_cases e:j=i
      ·subst e;rw [<-hsa.out,<-hsb.out];exact heq
      ·exact hall.out j Ad)
     clear heq hall;go_upto_region 6 with fail;go_region_held3 (fun w'=>w'.cell? ⟨ba,oa+i,none⟩=some (.string sa)/\w'.cell? ⟨bb',ob+i,none⟩=some (.string sb))
      (first | go_keep)
      (fail)
     all_goals (go_wp2_with fail;go_roundw)
     case rel=>exact ⟨i+1,by go_num,Ad,hall2,hb2⟩
     case measure=>simp [intOf];omega
    ·rw [Al heq] at hse
     have hp:=A8 (hpost.out false i (.inl ⟨rfl,hil,by rw [<-hsa.out,<-hsb.out];exact heq⟩));clear heq;go_upto_region 6 with fail;go_region_held3 (fun w'=>w'.cell? ⟨ba,oa+i,none⟩=some (.string sa)/\w'.cell? ⟨bb',ob+i,none⟩=some (.string sb))
      (first | go_keep)
      (fail)
     all_goals (go_wp2;go_ret;exact ⟨Dm hp.out.symm,hb2.out⟩)
def EI (a b:Int):List (List Int×Int):=[([1,1],a),([1,-1],b)]
theorem Gh (a b:Int) (w:World):Calls Tryz.prog 25 #[.int .i64 a,.int .i64 b] w fun e w'=>∃ v,e=.returned (.agg #[.int .i64 2,v])/\EX w' v (EI a b)/\Below w.heap.size w w':=by
 obtain ⟨V0,e0,S0,z0⟩:=(BL.start w).add' #[.int .i64 2,.slice (some ⟨w.heap.size+1+1+1,0,none⟩) 2 2] 27;obtain ⟨V1,e1,S1,z1⟩:=S0.add' #[.int .i64 1,.int .i64 1] 3;obtain ⟨V2,e2,S2,z2⟩:=S1.add' #[.int .i64 1,.int .i64 (-1)] 3;obtain ⟨V3,e3,S3,z3⟩:=S2.add' #[.slice (some ⟨w.heap.size+1,0,none⟩) 2 2,.int .i64 a,.slice (some ⟨w.heap.size+1+1,0,none⟩) 2 2,.int .i64 b] 57;rw [z0] at S1 S2 S3 z1;rw [z1] at S2 S3 z2;rw [z2] at S3;have hV:V3=((((w.alloc (.cells #[.int .i64 2,.slice (some ⟨w.heap.size+1+1+1,0,none⟩) 2 2] 27)).alloc (.cells #[.int .i64 1,.int .i64 1] 3)).alloc (.cells #[.int .i64 1,.int .i64 (-1)] 3)).alloc (.cells #[.slice (some ⟨w.heap.size+1,0,none⟩) 2 2,.int .i64 a,.slice (some ⟨w.heap.size+1+1,0,none⟩) 2 2,.int .i64 b] 57)):=by rw [e3,e2,e1,e0]
 have hlt:=S3.lts;have k0:=(S3.c2 (w.heap.size) _ _ _ Ak);have hsl:EX V3 (.slice (some ⟨w.heap.size+1+1+1,0,none⟩) 2 2) (EI a b):=by
  have c4:=S3.c4 (w.heap.size+1+1+1) _ _ _ _ _ Ah;have c1:=S3.c2 (w.heap.size+1) _ _ _ Aj;have c2:=S3.c2 (w.heap.size+1+1) _ _ _ Ai;have l3:=hlt _ Ah;have l1:=hlt _ Aj;have l2:=hlt _ Ai;refine .inr ⟨w.heap.size+1+1+1,0,2,rfl,Aa _,by unfold maxLen;decide,l3,fun j x hj=>?_⟩;match j,hj with
  | 0,hj =>
   cases hj;exact ⟨_,c4.1,.inr ⟨w.heap.size+1,0,2,rfl,Aa _,by unfold maxLen;decide,l1,fun k hk=>(match k,hk with | 0,_=>c1.1 | 1,_=>c1.2)⟩,c4.2.1⟩
  | 1,hj =>
   cases hj;exact ⟨_,c4.2.2.1,.inr ⟨w.heap.size+1+1,0,2,rfl,Aa _,by unfold maxLen;decide,l2,fun k hk=>(match k,hk with | 0,_=>c2.1 | 1,_=>c2.2)⟩,c4.2.2.2⟩
 have hfin:=S3.below;rw [hV] at hsl hfin k0;replace hsl:=A8 hsl;replace hfin:=A8 hfin;clear hlt hV e0 e1 e2 e3 S0 S1 S2 S3 z0 z1 z2 z3;go_enter Tryz.func25,Tryz.ntmps25;go_wp2;exact bodyPost_ret (v:=.agg #[.int .i64 2,.slice (some ⟨w.heap.size+1+1+1,0,none⟩) 2 2]) (by simp [results,Tryz.results25,go_sem,k0.1,k0.2]) rfl ⟨_,rfl,hsl.out,hfin.out⟩
theorem PU (va vb:Value) (la lb:List ByteArray) (da db:ByteArray) (w:World) (hA:DS w va la) (hB:DS w vb lb) :
  Calls Tryz.prog 21 #[.agg #[va,.string da],.agg #[vb,.string db]] w (DR w (.bool (decide (da=db)&&decide (la=lb)))):=by
 obtain ⟨aa,ca,rfl⟩:=hA.shape
 obtain ⟨ab,cb,rfl⟩:=hB.shape
 have HA:=A8 hA
 have HB:=A8 hB
 have ST:=A8 (fun W (h1:DS W (.slice aa la.length ca) la) (h2:DS W (.slice ab lb.length cb) lb)=>PT _ _ la lb W h1 h2)
 clear hA hB
 have hs:=V8 da db
 generalize decide (la=lb)=b2 at *
 generalize la.length=n at *
 generalize lb.length=m at *
 by_cases hd:da=db
 ·rw [AF hd] at hs |-
  clear hd;obtain ⟨V1,e1,S1,z1⟩:=(BL.start w).add' #[.slice aa n ca,.string da] 30;obtain ⟨V2,e2,hS,z2⟩:=S1.add' #[.slice ab m cb,.string db] 30;rw [z1] at hS;have hV:V2=(w.alloc (.cells #[.slice aa n ca,.string da] 30)).alloc (.cells #[.slice ab m cb,.string db] 30):=by rw [e2,e1]
  clear e1 e2 S1 z1 z2;obtain ⟨x0,x1⟩:=hS.c2 w.heap.size _ _ _ Ai;obtain ⟨y0,y1⟩:=hS.c2 (w.heap.size+1) _ _ _ Ah;go_enter Tryz.func21,Tryz.ntmps21;go_upto_region 1 with fail;rw [<-hV];clear hV;go_wp2_with fail;refine Calls.mono (ST.out _ (HA.out.below hS.below) (HB.out.below hS.below)) ?_;rintro e w1 ⟨rfl,hb⟩;replace hS:=hS.call hb;clear hb x0 x1 y0 y1;go_wp2;go_ret;exact ⟨Dm Af,hS.below⟩
 ·rw [Al hd] at hs |-
  clear hd;obtain ⟨V1,e1,S1,z1⟩:=(BL.start w).add' #[.slice aa n ca,.string da] 30;obtain ⟨V2,e2,hS,z2⟩:=S1.add' #[.slice ab m cb,.string db] 30;rw [z1] at hS;have hV:V2=(w.alloc (.cells #[.slice aa n ca,.string da] 30)).alloc (.cells #[.slice ab m cb,.string db] 30):=by rw [e2,e1]
  clear e1 e2 S1 z1 z2;obtain ⟨x0,x1⟩:=hS.c2 w.heap.size _ _ _ Ai;obtain ⟨y0,y1⟩:=hS.c2 (w.heap.size+1) _ _ _ Ah;go_enter Tryz.func21,Tryz.ntmps21;go_upto_region 1 with fail;rw [<-hV];clear hV;go_wp2;go_ret;exact ⟨Dm Af,hS.below⟩
end
section
open Go.RowKit
structure E6 where
 cols:Int
 rows:Int
 coefs:List Int
 hidden:List Int
 miss:Int
def E6.c (x:E6):Nat:=(1+Ge x.cols 8).toNat
def E6.r (x:E6):Nat:=(1+Ge x.rows 5).toNat
def E6.coef (x:E6) (i j:Nat):Int:=Ge (GI x.coefs (i*x.c+j)) 19-9
def E6.hid (x:E6) (j:Nat):Int:=Ge (GI x.hidden j) 6
def E6.sum (x:E6) (i:Nat):Nat->Int
 | 0=>0
 | k+1=>x.sum i k+x.coef i k*x.hid k
def E6.misses (x:E6):Bool:=Ge x.miss 3==2
def E6.hit (x:E6) (i:Nat):Bool:=x.misses&&((i:Int)==Ge (x.miss.tdiv 3) x.r)
def E6.val (x:E6) (i:Nat):Int:=if x.hit i then x.sum i x.c+Ge (x.miss.tdiv 30) 41-20 else x.sum i x.c
def E6.row (x:E6) (i:Nat):List Int×Int:=((List.range x.c).map (x.coef i),x.val i)
def E6.made (x:E6):List (List Int×Int):=(List.range x.r).map x.row
theorem E6.c_eq (x:E6):(x.c:Int)=1+Ge x.cols 8/\1<=x.c/\x.c<=8:=by
 have h1:=Ec (c:=x.cols) (m:=8) Ae;have h2:=FX (c:=x.cols) (m:=8) Ae;unfold E6.c;omega
theorem E6.r_eq (x:E6):(x.r:Int)=1+Ge x.rows 5/\1<=x.r/\x.r<=5:=by
 have h1:=Ec (c:=x.rows) (m:=5) Ae;have h2:=FX (c:=x.rows) (m:=5) Ae;unfold E6.r;omega
theorem E6.coef_bd (x:E6) (i j:Nat):-9<=x.coef i j/\x.coef i j<=9:=by
 have h1:=Ec (c:=GI x.coefs (i*x.c+j)) (m:=19) Ae;have h2:=FX (c:=GI x.coefs (i*x.c+j)) (m:=19) Ae;unfold E6.coef;omega
theorem E6.hid_bd (x:E6) (j:Nat):0<=x.hid j/\x.hid j<=5:=by
 have h1:=Ec (c:=GI x.hidden j) (m:=6) Ae;have h2:=FX (c:=GI x.hidden j) (m:=6) Ae;unfold E6.hid;omega
theorem E6.prod_bd (x:E6) (i j:Nat):-45<=x.coef i j*x.hid j/\x.coef i j*x.hid j<=45:=by
 obtain ⟨h1,h2⟩:=x.coef_bd i j;obtain ⟨h3,h4⟩:=x.hid_bd j;generalize x.coef i j=a at *
 generalize x.hid j=b at *
 have e1:=AJ h2 h3;have e2:=AJ h1 h3;omega
theorem E6.sum_bd (x:E6) (i:Nat):∀ k:Nat,-45*(k:Int)<=x.sum i k/\x.sum i k<=45*(k:Int)
 | 0=>⟨by show _<=(0:Int);omega,by show (0:Int)<=_;omega⟩
 | k+1=>by
  obtain ⟨h1,h2⟩:=x.sum_bd i k;obtain ⟨h3,h4⟩:=x.prod_bd i k;show _<=x.sum i k+x.coef i k*x.hid k/\x.sum i k+x.coef i k*x.hid k<=_;omega
theorem E6.val_bd (x:E6) (i:Nat):-400<=x.val i/\x.val i<=400:=by
 have h1:=Ec (c:=x.miss.tdiv 30) (m:=41) Ae;have h2:=FX (c:=x.miss.tdiv 30) (m:=41) Ae;obtain ⟨h3,h4⟩:=x.sum_bd i x.c;obtain ⟨_,_,h5⟩:=x.c_eq;unfold E6.val;split <;> omega
theorem E6.made_len (x:E6):x.made.length=x.r:=by unfold E6.made;simp
theorem E6.made_valid (x:E6):Ea x.c x.made=true:=by
 obtain ⟨_,h1,h2⟩:=x.c_eq;obtain ⟨_,h3,h4⟩:=x.r_eq;unfold Ea;simp only [Ap,Aq,Ar,As,x.made_len];refine ⟨⟨⟨Ad,Ad⟩,Ad⟩,fun e he=>?_⟩;unfold E6.made at he;obtain ⟨i,_,rfl⟩:=AV.1 he;obtain ⟨v1,v2⟩:=x.val_bd i;have hany:((List.range x.c).map (x.coef i)).any Gg=false:=by
  rw [As];intro z hz;obtain ⟨j,_,rfl⟩:=AV.1 hz;obtain ⟨c1,c2⟩:=x.coef_bd i j;unfold Gg;simp;omega
 unfold Hn E6.row;rw [hany];simp;omega
end
section
open Go.RowKit
attribute [local go_sem] Oper.semAt_some
theorem info_eq:(Tryz.prog.info? 57).map (fun i=>(i.zero,i.size,i.bytes))=some (some (.agg #[.slice none 0 0,.int .i64 0]),2,32):=by kernel_rfl
theorem Ol {P:Program} {w:World} {base:Nat} (t ty e:TypeId) (z:Value) (bytes:Nat) (ht:P.underlying t=some (.slice e)) (hi:(P.info? e).map (fun i=>(i.zero,i.size,i.bytes))=some (some z,2,bytes)) (hz:z.cells.size=2)
  (v:Value) (n:Nat) (xs:List Value) (hown:w.ownsRow base e 2 v n xs) (g:Nat) (u1 u2:Value) (hu1:w.cell? ⟨g,0,none⟩=some u1) (hu2:w.cell? ⟨g,1,none⟩=some u2) (h1:u1.oneCell'=true) (h2:u2.oneCell'=true) (hn:(n+1)*bytes<=140737488355328) (hn2:n<=1000000) (hbase:base<=w.heap.size) :
  ∃ v' w',(Builtin.append_ #[t,t] ty #[v,.slice (some ⟨g,0,none⟩) 1 1]).run P w=.ok v' w'/\w'.ownsRow base e 2 v' (n+1) (xs++[u1,u2])/\w.grownBy w' v.ownBlock/\∀ b,v'.ownBlock=some b->v.ownBlock=some b∨w.heap.size<=b:=by
 obtain ⟨i0,hi,hz0,hz1,hz2⟩:=info_parts hi
 have hnews:∀ j y,[u1,u2][j]? = some y->w.cell? ((⟨g,0,none⟩:Addr).add j)=some y:=fun j y hj=>by
  match j,hj with
  | 0,hj=>cases hj;rw [Es];exact hu1
  | 1,hj=>cases hj;rw [Es];exact hu2
 have h1c:∀ y∈[u1,u2],y.oneCell'=true:=by
  intro y hy;simp only [Aw,Bj,Bl] at hy;rcases hy with rfl | rfl
  ·exact h1
  ·exact h2
 have blkOf:∀ {v':Value} {w':World} {n':Nat} {xs':List Value},w'.ownsRow w.heap.size e 2 v' n' xs'->∀ b,v'.ownBlock=some b->v.ownBlock=some b∨w.heap.size<=b:=fun h b hb=>.inr (h.lt b hb).1
 have hown0:=hown
 rcases hown.2 with ⟨rfl,rfl⟩ | ⟨g0,cap,cur,rfl,hb,hg,hcap,hmax,hsz,htk⟩
 ·obtain ⟨v',w',hrun,r1,r2,_⟩:=run_append_own (P:=P) w w.heap.size t ty e i0 z 2 bytes ht hi hz0 hz1 hz2 hz Ae (.slice none 0 0) 0 [] (World.ownsRow_nil w _ _ 2) ⟨g,0,none⟩ 1 1 [u1,u2] rfl hnews h1c (by unfold maxLen;omega) Ad (Aa _)
  obtain rfl:xs=[]:=Bo (by have:=hown.1;simpa using this);exact ⟨v',w',hrun,IL r1 hbase,r2,blkOf r1⟩
 ·by_cases hroom:n+1<=cap
  ·obtain ⟨w',hrun,r1,r2⟩:=run_append_own_spare (P:=P) w base t ty e i0 2 ht hi hz1 g0 n cap xs hown0 ⟨g,0,none⟩ 1 1 [u1,u2] rfl hnews h1c hroom
   exact ⟨_,w',hrun,r1,r2,fun b hb=>.inl hb⟩
  ·obtain ⟨v',w',hrun,r1,r2⟩:=run_append_arg_grows (P:=P) w t ty e i0 z 2 bytes ht hi hz0 hz1 hz2 hz Ae ⟨g0,0,none⟩ n cap xs (by have:=hown.1;simpa using this) (fun j y hj=>hown0.cells (g:=g0) rfl j y hj) ⟨g,0,none⟩ 1 1 [u1,u2] rfl hnews Ad (by unfold maxLen;omega) hn
   exact ⟨v',w',hrun,IL r1 hbase,⟨r2.os,r2.tape,r2.output,r2.size,fun k hk _=>r2.block k hk Af⟩,blkOf r1⟩
theorem Jp {o:Oper} {a:Act} {K:Act->World->Prop} {Q:Exit->Act->World->Prop} {w:World} {base:Nat} (t:TypeId) (ht:Tryz.prog.underlying t=some (.slice 57))
  (s x:Operand) (ho:o.op=.call { callee:=.builtin .append,args:=#[s,x],argTypes:=#[t,t] }) (v:Value) (n:Nat) (xs:List Value) (hs:a.eval s=v) (hown:w.ownsRow base 57 2 v n xs)
  (g:Nat) (u1 u2:Value) (hx:a.eval x=.slice (some ⟨g,0,none⟩) 1 1) (hu1:w.cell? ⟨g,0,none⟩=some u1) (hu2:w.cell? ⟨g,1,none⟩=some u2) (h1:u1.oneCell'=true) (h2:u2.oneCell'=true) (hn2:n<=1000000) (hbase:base<=w.heap.size)
  (h:∀ v' w',w'.ownsRow base 57 2 v' (n+1) (xs++[u1,u2])->w.grownBy w' v.ownBlock->(∀ b,v'.ownBlock=some b->v.ownBlock=some b∨w.heap.size<=b)->K (a.put o.dst v') w') :
  Oper.wp Tryz.prog o a w K Q:=by
 obtain ⟨v',w',hrun,r1,r2,r3⟩:=Ol (P:=Tryz.prog) t o.type 57 _ 32 ht info_eq rfl v n xs hown g u1 u2 hu1 hu2 h1 h2 Ad hn2 hbase
 unfold Oper.wp
 simp [execOp,ho,resolve,invoke,builtin,hs,hx,hrun,Result.andThen]
 exact h v' w' r1 r2 r3
end
section
open Go.RowKit
structure En where
 e:TypeId
 k:Nat
 v:Value
 n:Nat
 xs:List Value
structure Dp (w:World) (L:Ei) (R:List En) (W:World):Prop where
 below:Below w.heap.size w W
 ge:∀ p∈L,w.heap.size<=p.1
 blks:∀ p∈L,Ds W p.1 p.2.1 p.2.2
 dup:L.Pairwise (fun p q=>p.1≠q.1)
 rows:∀ r∈R,W.ownsRow w.heap.size r.e r.k r.v r.n r.xs
 rdis:R.Pairwise (fun r s=>∀ b,r.v.ownBlock=some b->s.v.ownBlock≠some b)
 rL:∀ r∈R,∀ p∈L,r.v.ownBlock≠some p.1
section
variable {w W W':World} {L A C:Ei} {R RA RC:List En} {B:Nat} {cs:Array Value} {t:TypeId}
theorem Dp.start (w:World):Dp w [] [] w:=⟨Below.refl _ _,fun p h=>(by cases h),fun p h=>(by cases h),.nil,fun p h=>(by cases h),.nil,fun p h=>(by cases h)⟩
theorem Dp.call (h:Dp w L R W) (hb:Below W.heap.size W W'):Dp w L R W' :=
 ⟨Dn hb h.below (Aa _),h.ge,fun p hp=>(h.blks p hp).below hb,h.dup,fun r hr=>E8 (h.rows r hr) hb,h.rdis,h.rL⟩
theorem Dp.drew (h:Dp w L R W):Dp w L R W.drew:=h.call (Dq W 1)
theorem Dp.drewN (h:Dp w L R W) (n:Nat):Dp w L R (W.drewN n):=h.call (Dq W n)
theorem Dp.new (h:Dp w L R W) (o:Obj):Dp w L R (W.alloc o):=h.call ((Below.refl _ _).alloc (Aa _) o)
theorem Dp.lt (h:Dp w L R W):∀ p∈L,p.1<W.heap.size:=fun p hp=>(h.blks p hp).lt
theorem Dp.add (h:Dp w L R W) (cs:Array Value) (t:TypeId):Dp w ((W.heap.size,cs,t) :: L) R (W.alloc (.cells cs t)):=by
 have h1:=h.new (.cells cs t);refine ⟨h1.below,fun p hp=>?_,fun p hp=>?_,Bp.2 ⟨fun p hp=>?_,h.dup⟩,h1.rows,h.rdis,fun r hr p hp=>?_⟩
 ·rcases Aw.1 hp with rfl | hp
  ·exact h.below.size
  ·exact h.ge p hp
 ·rcases Aw.1 hp with rfl | hp
  ·exact Ds.new _ _ _
  ·exact h1.blks p hp
 ·have:=h.lt p hp;show W.heap.size≠p.1;omega
 ·rcases Aw.1 hp with rfl | hp
  ·intro e;have:=((h.rows r hr).lt _ e).2;omega
  ·exact h.rL r hr p hp
theorem Dp.add' (h:Dp w L R W) (cs:Array Value) (t:TypeId):∃ W',W'=W.alloc (.cells cs t)/\Dp w ((W.heap.size,cs,t) :: L) R W'/\W'.heap.size=W.heap.size+1:=⟨_,rfl,h.add cs t,Bh _ _⟩
theorem Dp.sub {L':Ei} (h:Dp w L R W) (hs:L'.Sublist L):Dp w L' R W :=
 ⟨h.below,fun p hp=>h.ge p (hs.subset hp),fun p hp=>h.blks p (hs.subset hp),h.dup.sublist hs,h.rows,h.rdis,fun r hr p hp=>h.rL r hr p (hs.subset hp)⟩
theorem Dp.rsub {R':List En} (h:Dp w L R W) (hs:R'.Sublist R):Dp w L R' W :=
 ⟨h.below,h.ge,h.blks,h.dup,fun r hr=>h.rows r (hs.subset hr),h.rdis.sublist hs,fun r hr=>h.rL r (hs.subset hr)⟩
theorem Dp.perm {L':Ei} (h:Dp w L R W) (hs:L.Perm L'):Dp w L' R W :=
 ⟨h.below,fun p hp=>h.ge p (hs.mem_iff.2 hp),fun p hp=>h.blks p (hs.mem_iff.2 hp),(hs.pairwise_iff (fun {_ _} hab e=>hab e.symm)).1 h.dup,h.rows,h.rdis,fun r hr p hp=>h.rL r hr p (hs.mem_iff.2 hp)⟩
theorem Dp.cell (h:Dp w L R W) (B:Nat) (cs:Array Value) (t:TypeId) (hm:(B,cs,t)∈L) (i:Nat):W.cell? ⟨B,i,none⟩=cs[i]? := (h.blks _ hm).cell i
theorem Dp.frozen (h:Dp w L R W) (B:Nat) (cs:Array Value) (t:TypeId) (hm:(B,cs,t)∈L) (i:Nat):W.frozen? ⟨B,i,none⟩=false:=(h.blks _ hm).frozen i
theorem Dp.old (h:Dp w L R W) {b k:Nat} {u:Value} (hb:b<w.heap.size) (hu:w.cell? ⟨b,k,none⟩=some u):W.cell? ⟨b,k,none⟩=some u:=(h.below.cell (p:=⟨b,k,none⟩) hb).trans hu
theorem Dp.size (h:Dp w L R W):w.heap.size<=W.heap.size:=h.below.size
theorem Dp.put (h:Dp w (A++(B,cs,t) :: C) R W) (i:Nat) (x:Value):Dp w (A++(B,cs.setIfInBounds i x,t) :: C) R (W.setCell ⟨B,i,none⟩ x):=by
 have hB:(B,cs,t)∈A++(B,cs,t) :: C:=Bq _ Br;have ho:Dr [B] W (W.setCell ⟨B,i,none⟩ x):=(Dr.refl [B] W).setCell (p:=⟨B,i,none⟩) Af x;have hd:=Bt.1 h.dup;have hdc:=Bp.1 hd.2.1;have hge:=h.ge _ hB;have old:∀ p,p∈A∨p∈C->p∈A++(B,cs,t) :: C/\p.1≠B:=fun p hp=>by
  rcases hp with hp | hp
  ·exact ⟨Bu _ hp,hd.2.2 p hp _ Br⟩
  ·exact ⟨Bq _ (Bw _ hp),fun e=>hdc.1 p hp e.symm⟩
 have split:∀ p,p∈A++(B,cs.setIfInBounds i x,t) :: C->p=(B,cs.setIfInBounds i x,t)∨(p∈A∨p∈C):=fun p hp=>by
  rcases Bz.1 hp with h1 | h1
  ·exact .inr (.inl h1)
  ·rcases Aw.1 h1 with h1 | h1
   ·exact .inl h1
   ·exact .inr (.inr h1)
 refine ⟨h.below.trans (ho.toBelow h.below.size (by simpa using hge)),fun p hp=>?_,fun p hp=>?_,?_,fun r hr=>?_,h.rdis,fun r hr p hp=>?_⟩
 ·rcases split p hp with rfl | hp
  ·exact hge
  ·exact h.ge p (old p hp).1
 ·rcases split p hp with rfl | hp
  ·exact (h.blks _ hB).set i x
  ·exact (h.blks p (old p hp).1).only ho (by simpa using (old p hp).2)
 ·refine Bt.2 ⟨hd.1,Bp.2 ⟨hdc.1,hdc.2⟩,fun p hp q hq=>?_⟩
  rcases Aw.1 hq with rfl | hq
  ·exact hd.2.2 p hp (B,cs,t) Br
  ·exact hd.2.2 p hp q (Bw _ hq)
 ·refine (h.rows r hr).kept (DE W B i x) ?_
  cases hb:r.v.ownBlock with
  | none=>exact .inl rfl
  | some b=>exact .inr fun e=>h.rL r hr _ hB (by rw [hb,e])
 ·rcases split p hp with rfl | hp
  ·exact h.rL r hr (B,cs,t) hB
  ·exact h.rL r hr p (old p hp).1
theorem Dp.row0 (h:Dp w L R W) (e:TypeId) (k:Nat):Dp w L (⟨e,k,.slice none 0 0,0,[]⟩ :: R) W:=by
 refine ⟨h.below,h.ge,h.blks,h.dup,fun r hr=>?_,Bp.2 ⟨fun s _ b hb=>(by cases hb),h.rdis⟩,fun r hr p hp=>?_⟩
 ·rcases Aw.1 hr with rfl | hr
  ·exact World.ownsRow_nil _ _ _ _
  ·exact h.rows r hr
 ·rcases Aw.1 hr with rfl | hr
  ·intro e;cases e
  ·exact h.rL r hr p hp
theorem Dp.app {e:TypeId} {k n n':Nat} {v v':Value} {xs xs':List Value} (h:Dp w L (RA++⟨e,k,v,n,xs⟩ :: RC) W) (hg:W.grownBy W' v.ownBlock) (hr:W'.ownsRow w.heap.size e k v' n' xs') (hv:∀ b,v'.ownBlock=some b->v.ownBlock=some b∨W.heap.size<=b) :
  Dp w L (RA++⟨e,k,v',n',xs'⟩ :: RC) W':=by
 have hM:(⟨e,k,v,n,xs⟩:En)∈RA++⟨e,k,v,n,xs⟩ :: RC:=Bq _ Br
 have hd:=Bt.1 h.rdis
 have hdc:=Bp.1 hd.2.1
 have old:∀ s,s∈RA∨s∈RC->s∈RA++⟨e,k,v,n,xs⟩ :: RC/\(∀ b,s.v.ownBlock=some b->v.ownBlock≠some b):=fun s hs=>by
  rcases hs with hs | hs
  ·exact ⟨Bu _ hs,fun b hb=>hd.2.2 s hs _ Br b hb⟩
  ·exact ⟨Bq _ (Bw _ hs),fun b hb e'=>hdc.1 s hs b e' hb⟩
 have split:∀ s,s∈RA++⟨e,k,v',n',xs'⟩ :: RC->s=⟨e,k,v',n',xs'⟩∨(s∈RA∨s∈RC):=fun p hp=>by
  rcases Bz.1 hp with h1 | h1
  ·exact .inr (.inl h1)
  ·rcases Aw.1 h1 with h1 | h1
   ·exact .inl h1
   ·exact .inr (.inr h1)
 have hge:∀ b,v.ownBlock=some b->w.heap.size<=b:=fun b hb=>((h.rows _ hM).lt b hb).1
 have dis:∀ s,s∈RA∨s∈RC->∀ b,s.v.ownBlock=some b->v'.ownBlock≠some b:=fun s hs b hb e'=>by
  rcases hv b e' with h1 | h1
  ·exact (old s hs).2 b hb h1
  ·have:=((h.rows s (old s hs).1).lt b hb).2;omega
 refine ⟨⟨hg.os.trans h.below.os,hg.tape.trans h.below.tape,hg.output.trans h.below.output,Bc h.below.size hg.size,fun i hi=>(hg.block i (A9 hi h.below.size) (fun e'=>by have:=hge i e'.symm;omega)).trans (h.below.block i hi)⟩,h.ge,fun p hp=>?_,h.dup,fun s hs=>?_,?_,fun s hs p hp=>?_⟩
 ·exact (h.blks p hp).kept hg (fun e'=>h.rL _ hM p hp e'.symm)
 ·rcases split s hs with rfl | hs
  ·exact hr
  ·refine (h.rows s (old s hs).1).kept hg ?_
   cases hb:s.v.ownBlock with
   | none=>exact .inl rfl
   | some b=>exact .inr fun e'=>(old s hs).2 b hb e'.symm
 ·refine Bt.2 ⟨hd.1,Bp.2 ⟨fun s hs b hb e'=>dis s (.inr hs) b e' hb,hdc.2⟩,fun s hs q hq=>?_⟩
  rcases Aw.1 hq with rfl | hq
  ·exact fun b hb=>dis s (.inl hs) b hb
  ·exact hd.2.2 s hs q (Bw _ hq)
 ·rcases split s hs with rfl | hs
  ·intro e'
   rcases hv p.1 e' with h1 | h1
   ·exact h.rL _ hM p hp h1
   ·have:=h.lt p hp;omega
  ·exact h.rL s (old s hs).1 p hp
theorem Dp.own {e:TypeId} {k n:Nat} {v:Value} {xs:List Value} (h:Dp w L R W) (hr:(⟨e,k,v,n,xs⟩:En)∈R):W.ownsRow w.heap.size e k v n xs:=h.rows _ hr
theorem Dp.freeze {e:TypeId} {k n:Nat} {v:Value} {xs:List Value} (h:Dp w L (⟨e,k,v,n,xs⟩ :: R) W) :
  (v=.slice none 0 0/\n=0/\xs=[]/\Dp w L R W)∨∃ g cap cs,v=.slice (some ⟨g,0,none⟩) n cap/\n<=cap/\cap<=maxLen/\cs.size=cap*k/\cs.toList.take (n*k)=xs/\Dp w ((g,cs,e) :: L) R W:=by
 have hr:=h.rows _ Br
 have hR:=h.rsub (BA _ _)
 rcases hr.2 with ⟨h1,h2⟩ | ⟨g,cap,cs,h1,h2,h3,h4,h5,h6,h7⟩
 ·have h1':v=.slice none 0 0:=h1
  have h2':n=0:=h2;subst h2';exact .inl ⟨h1',rfl,Bo (by have:=hr.1;simpa using this),hR⟩
 ·have h1':v=.slice (some ⟨g,0,none⟩) n cap:=h1
  subst h1';refine .inr ⟨g,cap,cs,rfl,h4,h5,h6,h7,h.below,fun p hp=>?_,fun p hp=>?_,Bp.2 ⟨fun p hp e'=>?_,h.dup⟩,hR.rows,hR.rdis,fun r hr' p hp=>?_⟩
  ·rcases Aw.1 hp with rfl | hp
   ·exact h2
   ·exact h.ge p hp
  ·rcases Aw.1 hp with rfl | hp
   ·exact h3
   ·exact h.blks p hp
  ·exact h.rL _ Br p hp (by rw [<-e'];rfl)
  ·rcases Aw.1 hp with rfl | hp
   ·intro e'
    exact (Bp.1 h.rdis).1 r hr' g rfl e'
   ·exact hR.rL r hr' p hp
theorem Dp.thaw {e:TypeId} {k n cap:Nat} {xs:List Value} (h:Dp w ((B,cs,e) :: L) R W) (hn:n<=cap) (hm:cap<=maxLen) (hs:cs.size=cap*k) (hx:cs.toList.take (n*k)=xs):Dp w L (⟨e,k,.slice (some ⟨B,0,none⟩) n cap,n,xs⟩ :: R) W:=by
 have hL:=h.sub (BA _ _);have hd:=Bp.1 h.dup;refine ⟨h.below,hL.ge,hL.blks,hL.dup,fun r hr=>?_,Bp.2 ⟨fun s hs b hb e'=>?_,h.rdis⟩,fun r hr p hp=>?_⟩
 ·rcases Aw.1 hr with rfl | hr
  ·refine ⟨by subst hx;rw [BB,BC,hs];exact BE (BF _ hn),.inr ⟨B,cap,cs,rfl,h.ge _ Br,h.blks _ Br,hn,hm,hs,hx⟩⟩
  ·exact h.rows r hr
 ·cases hb
  exact h.rL s hs _ Br e'
 ·rcases Aw.1 hr with rfl | hr
  ·intro e'
   exact hd.1 p hp (B4 e')
  ·exact hL.rL r hr p hp
theorem Dp.env (h:Dp w L R W) (hE:Fp w):Fp W:=hE.below h.below (Aa _)
theorem Dp.within (h:Dp w L R W) (hs:Dp W A RA W'):Dp w (A++L) (RA++R) W':=by
 have h1:=h.call hs.below;refine ⟨h1.below,fun p hp=>?_,fun p hp=>?_,Bt.2 ⟨hs.dup,h.dup,fun p hp q hq e=>?_⟩,fun r hr=>?_,Bt.2 ⟨hs.rdis,h.rdis,fun r hr s hs' b hb e=>?_⟩,fun r hr p hp=>?_⟩
 ·rcases Bz.1 hp with hp | hp
  ·exact Bc h.size (hs.ge p hp)
  ·exact h.ge p hp
 ·rcases Bz.1 hp with hp | hp
  ·exact hs.blks p hp
  ·exact h1.blks p hp
 ·have:=hs.ge p hp;have:=h.lt q hq;omega
 ·rcases Bz.1 hr with hr | hr
  ·obtain ⟨a,b⟩:=hs.rows r hr
   exact ⟨a,b.imp id fun ⟨g,cap,cur,e1,e2,r⟩=>⟨g,cap,cur,e1,Bc h.size e2,r⟩⟩
  ·exact h1.rows r hr
 ·have:=((hs.rows r hr).lt b hb).1;have:=((h.rows s hs').lt b e).2;omega
 ·rcases Bz.1 hr with hr | hr
  ·rcases Bz.1 hp with hp | hp
   ·exact hs.rL r hr p hp
   ·intro e;have:=((hs.rows r hr).lt _ e).1;have:=h.lt p hp;omega
  ·rcases Bz.1 hp with hp | hp
   ·intro e;have:=hs.ge p hp;have:=((h.rows r hr).lt _ e).2;omega
   ·exact h1.rL r hr p hp
theorem Dp.tail (h:Dp w ((B,cs,t) :: L) R W):Dp w L R W:=h.sub (BA _ _)
theorem Dp.join {W0:World} {cs':Array Value} {t':TypeId} (h0:Dp w ((B,cs,t) :: L) R W0) (h:Dp w L R W) (hb:Ds W B cs' t'):Dp w ((B,cs',t') :: L) R W:=by
 refine ⟨h.below,fun p hp=>?_,fun p hp=>?_,Bp.2 ⟨(Bp.1 h0.dup).1,h.dup⟩,h.rows,h.rdis,fun r hr p hp=>?_⟩
 ·rcases Aw.1 hp with rfl | hp
  ·exact h0.ge (B,cs,t) Br
  ·exact h.ge p hp
 ·rcases Aw.1 hp with rfl | hp
  ·exact hb
  ·exact h.blks p hp
 ·rcases Aw.1 hp with rfl | hp
  ·exact h0.rL r hr (B,cs,t) Br
  ·exact h.rL r hr p hp
theorem Dp.put0 (h:Dp w ((B,cs,t) :: L) R W) (i:Nat) (x:Value):Dp w ((B,cs.setIfInBounds i x,t) :: L) R (W.setCell ⟨B,i,none⟩ x):=h.put (A:=[]) i x
theorem Dp.off {W0:World} {ds:Array Value} {t':TypeId} (h0:Dp w ((B,ds,t') :: L) R W0) (h:Dp w L R W) (hb:Ds W B cs t) (i:Nat) (x:Value):Dp w L R (W.setCell ⟨B,i,none⟩ x):=((h0.join h hb).put0 i x).tail
theorem Dp.app0 {e:TypeId} {k n n':Nat} {v v':Value} {xs xs':List Value} (h:Dp w L (⟨e,k,v,n,xs⟩ :: R) W) (hg:W.grownBy W' v.ownBlock) (hr:W'.ownsRow w.heap.size e k v' n' xs') (hv:∀ b,v'.ownBlock=some b->v.ownBlock=some b∨W.heap.size<=b) :
 Dp w L (⟨e,k,v',n',xs'⟩ :: R) W':=h.app (RA:=[]) hg hr hv
theorem Dp.own0 {e:TypeId} {k n:Nat} {v:Value} {xs:List Value} (h:Dp w L (⟨e,k,v,n,xs⟩ :: R) W):W.ownsRow w.heap.size e k v n xs:=h.rows _ Br
theorem Dp.rtail {r:En} (h:Dp w L (r :: R) W):Dp w L R W:=h.rsub (BA _ _)
theorem Dp.front {p:Nat×Array Value×TypeId} (h:Dp w (A++p :: C) R W):Dp w (p :: (A++C)) R W:=h.perm List.perm_middle
theorem Dp.front2 {p q:Nat×Array Value×TypeId} (h:Dp w (A++p :: q :: C) R W):Dp w (q :: (A++C)) R W:=(h.sub (List.Sublist.append (List.Sublist.refl A) (BA p (q :: C)))).front
theorem Gj {O:Nat} {a b:Value} (h:Ds W O #[a,b] t) (x y:Value):W.cell? ⟨O,0,none⟩=some a/\W.cell? ⟨O,1,none⟩=some b/\W.frozen? ⟨O,0,none⟩=false/\W.frozen? ⟨O,1,none⟩=false /\
  ((W.setCell ⟨O,0,none⟩ x).setCell ⟨O,1,none⟩ y).cell? ⟨O,0,none⟩=some x/\((W.setCell ⟨O,0,none⟩ x).setCell ⟨O,1,none⟩ y).cell? ⟨O,1,none⟩=some y :=
 ⟨h.cell 0,h.cell 1,h.frozen 0,h.frozen 1,((h.set 0 x).set 1 y).cell 0,((h.set 0 x).set 1 y).cell 1⟩
theorem Dp.out2 {O:Nat} {a b:Value} (h:Dp w ((O,#[a,b],t) :: L) R W) (x y:Value):Dp w ((O,#[x,y],t) :: L) R ((W.setCell ⟨O,0,none⟩ x).setCell ⟨O,1,none⟩ y):=(h.put0 0 x).put0 1 y
end
end
section
open Go.RowKit
attribute [local go_sem] Oper.semAt_some
section
variable {ops:Array Oper} {rest:List Oper} {o:Oper} {a:Act} {Q:Exit->Act->World->Prop} {K:Act->World->Prop} {w0 w:World} {L:Ei} {R:List En} {s x:Operand} {v:Value} {n:Nat} {xs:List Value} {g:Nat}
theorem Jc {e:TypeId} {k:Nat} {v:Value} {xs:List Value} (h:w.ownsRow w0.heap.size e k v (n+1) xs):∃ g' cap,v=.slice (some ⟨g',0,none⟩) (n+1) cap:=by
 rcases h.2 with ⟨_,h0⟩ | ⟨g',cap,cur,e,_⟩
 ·omega
 ·exact ⟨g',cap,e⟩
theorem Nl (ho:o.op=.call { callee:=.builtin .append,args:=#[s,x],argTypes:=#[22,22] }) (hM:Dp w0 L (⟨3,1,v,n,xs⟩ :: R) w) (hs:a.eval s=v)
  {z:Int} (hx:a.eval x=.slice (some ⟨g,0,none⟩) 1 1) (hu:w.cell? ⟨g,0,none⟩=some (.int .i64 z)) (hn:n<=1000000)
  (h:∀ g' cap w',Dp w0 L (⟨3,1,.slice (some ⟨g',0,none⟩) (n+1) cap,n+1,xs++[.int .i64 z]⟩ :: R) w'->K (a.put o.dst (.slice (some ⟨g',0,none⟩) (n+1) cap)) w'):Oper.wp Tryz.prog o a w K Q :=
 F9 22 3 (.int .i64 0) 8 Tryz.underlying22 FJ rfl s x ho v n xs hs hM.own0 g _ hx hu rfl Ad hn hM.size fun v' w' r1 r2 r3=>by
  obtain ⟨g',cap,rfl⟩:=Jc r1;exact h g' cap w' (hM.app0 r2 r1 r3)
theorem Jd (ho:o.op=.call { callee:=.builtin .append,args:=#[s,x],argTypes:=#[28,28] }) (hM:Dp w0 L (⟨9,1,v,n,xs⟩ :: R) w) (hs:a.eval s=v)
  {z:ByteArray} (hx:a.eval x=.slice (some ⟨g,0,none⟩) 1 1) (hu:w.cell? ⟨g,0,none⟩=some (.string z)) (hn:n<=1000000)
  (h:∀ g' cap w',Dp w0 L (⟨9,1,.slice (some ⟨g',0,none⟩) (n+1) cap,n+1,xs++[.string z]⟩ :: R) w'->K (a.put o.dst (.slice (some ⟨g',0,none⟩) (n+1) cap)) w'):Oper.wp Tryz.prog o a w K Q :=
 F9 28 9 (.string ⟨#[]⟩) 16 Tryz.underlying28 IK rfl s x ho v n xs hs hM.own0 g _ hx hu rfl Ad hn hM.size fun v' w' r1 r2 r3=>by
  obtain ⟨g',cap,rfl⟩:=Jc r1;exact h g' cap w' (hM.app0 r2 r1 r3)
theorem KJ (ho:o.op=.call { callee:=.builtin .append,args:=#[s,x],argTypes:=#[25,25] }) (hM:Dp w0 L (⟨57,2,v,n,xs⟩ :: R) w) (hs:a.eval s=v)
  {u1 u2:Value} (hx:a.eval x=.slice (some ⟨g,0,none⟩) 1 1) (hu1:w.cell? ⟨g,0,none⟩=some u1) (hu2:w.cell? ⟨g,1,none⟩=some u2) (h1:u1.oneCell'=true) (h2:u2.oneCell'=true) (hn:n<=1000000)
  (h:∀ g' cap w',Dp w0 L (⟨57,2,.slice (some ⟨g',0,none⟩) (n+1) cap,n+1,xs++[u1,u2]⟩ :: R) w'->K (a.put o.dst (.slice (some ⟨g',0,none⟩) (n+1) cap)) w'):Oper.wp Tryz.prog o a w K Q :=
 Jp 25 Tryz.underlying25 s x ho v n xs hs hM.own0 g u1 u2 hx hu1 hu2 h1 h2 hn hM.size fun v' w' r1 r2 r3=>by
  obtain ⟨g',cap,rfl⟩:=Jc r1;exact h g' cap w' (hM.app0 r2 r1 r3)
theorem Q5 (hgd:o.guard=none) (ho:o.op=.call { callee:=.builtin .append,args:=#[s,x],argTypes:=#[22,22] }) (hM:Dp w0 L (⟨3,1,v,n,xs⟩ :: R) w) (hs:a.eval s=v)
  {z:Int} (hx:a.eval x=.slice (some ⟨g,0,none⟩) 1 1) (hu:w.cell? ⟨g,0,none⟩=some (.int .i64 z)) (hn:n<=1000000)
  (h:∀ g' cap w',Dp w0 L (⟨3,1,.slice (some ⟨g',0,none⟩) (n+1) cap,n+1,xs++[.int .i64 z]⟩ :: R) w'->wpList Tryz.prog ops Q rest (a.put o.dst (.slice (some ⟨g',0,none⟩) (n+1) cap)) w'):wpList Tryz.prog ops Q (o :: rest) a w :=
 wpList_plain hgd fun _ hK=>Nl ho hM hs hx hu hn fun g' cap w' hm=>hK _ _ (h g' cap w' hm)
theorem IU (hgd:o.guard=none) (ho:o.op=.call { callee:=.builtin .append,args:=#[s,x],argTypes:=#[28,28] }) (hM:Dp w0 L (⟨9,1,v,n,xs⟩ :: R) w) (hs:a.eval s=v)
  {z:ByteArray} (hx:a.eval x=.slice (some ⟨g,0,none⟩) 1 1) (hu:w.cell? ⟨g,0,none⟩=some (.string z)) (hn:n<=1000000)
  (h:∀ g' cap w',Dp w0 L (⟨9,1,.slice (some ⟨g',0,none⟩) (n+1) cap,n+1,xs++[.string z]⟩ :: R) w'->wpList Tryz.prog ops Q rest (a.put o.dst (.slice (some ⟨g',0,none⟩) (n+1) cap)) w'):wpList Tryz.prog ops Q (o :: rest) a w :=
 wpList_plain hgd fun _ hK=>Jd ho hM hs hx hu hn fun g' cap w' hm=>hK _ _ (h g' cap w' hm)
theorem IW (hgd:o.guard=none) (ho:o.op=.call { callee:=.builtin .append,args:=#[s,x],argTypes:=#[25,25] }) (hM:Dp w0 L (⟨57,2,v,n,xs⟩ :: R) w) (hs:a.eval s=v)
  {u1 u2:Value} (hx:a.eval x=.slice (some ⟨g,0,none⟩) 1 1) (hu1:w.cell? ⟨g,0,none⟩=some u1) (hu2:w.cell? ⟨g,1,none⟩=some u2) (h1:u1.oneCell'=true) (h2:u2.oneCell'=true) (hn:n<=1000000)
  (h:∀ g' cap w',Dp w0 L (⟨57,2,.slice (some ⟨g',0,none⟩) (n+1) cap,n+1,xs++[u1,u2]⟩ :: R) w'->wpList Tryz.prog ops Q rest (a.put o.dst (.slice (some ⟨g',0,none⟩) (n+1) cap)) w'):wpList Tryz.prog ops Q (o :: rest) a w :=
 wpList_plain hgd fun _ hK=>KJ ho hM hs hx hu1 hu2 h1 h2 hn fun g' cap w' hm=>hK _ _ (h g' cap w' hm)
end
end
section
open Go.RowKit
structure Rm (w:World) (L:Ei) (R:List En) (ids:List Nat) (b:Nat) (cs:Array Value) (t:TypeId) (W:World):Prop where
 ge:w.heap.size<=b
 ids:∀ q∈ids,q≠b
 L:∀ p∈L,p.1≠b
 R:∀ r∈R,r.v.ownBlock≠some b
 blk:Ds W b cs t
theorem Rm.below {w W W':World} {L:Ei} {R:List En} {ids:List Nat} {b:Nat} {cs:Array Value} {t:TypeId} (h:Rm w L R ids b cs t W) (hb:Below W.heap.size W W'):Rm w L R ids b cs t W':=⟨h.ge,h.ids,h.L,h.R,h.blk.below hb⟩
theorem Rm.of {w W:World} {L:Ei} {R:List En} {ids:List Nat} (cs:Array Value) (t:TypeId) (h:Dp w L R W) (hi:∀ q∈ids,q<W.heap.size):Rm w L R ids W.heap.size cs t (W.alloc (.cells cs t)) :=
 ⟨h.size,fun q hq e=>by have:=hi q hq;omega,fun p hp e=>by have:=h.lt p hp;omega,fun r hr e=>by have:=((h.rows r hr).lt _ e).2;omega,Ds.new _ _ _⟩
theorem Ds.type {W:World} {b:Nat} {cs ds:Array Value} {t s:TypeId} (h:Ds W b cs t) (g:Ds W b ds s):t=s:=by
 have:=h.symm.trans g;cases this;rfl
theorem Dp.adopt {w W:World} {L L1:Ei} {R R1:List En} {ids:List Nat} {b:Nat} {cs:Array Value} {t:TypeId} (h:Dp w L R W) (hb:Rm w L1 R1 ids b cs t W) (hL:∀ p∈L,p.1≠b∨p.2.2≠t) (hR:∀ r∈R,r.v.ownBlock≠some b∨r.e≠t):Dp w ((b,cs,t) :: L) R W:=by
 refine ⟨h.below,fun p hp=>?_,fun p hp=>?_,Bp.2 ⟨fun p hp e=>?_,h.dup⟩,h.rows,h.rdis,fun r hr p hp=>?_⟩
 ·rcases Aw.1 hp with rfl | hp
  ·exact hb.ge
  ·exact h.ge p hp
 ·rcases Aw.1 hp with rfl | hp
  ·exact hb.blk
  ·exact h.blks p hp
 ·rcases hL p hp with h1 | h1
  ·exact h1 e.symm
  ·have h2:=h.blks p hp
   rw [<-show b=p.1 from e] at h2;exact h1 (Ds.type h2 hb.blk)
 ·rcases Aw.1 hp with rfl | hp
  ·intro e
   rcases hR r hr with h1 | h1
   ·exact h1 e
   ·rcases (h.rows r hr).2 with ⟨e1,_⟩ | ⟨g,cap,cur,e1,_,h2,_⟩
    ·rw [e1] at e;cases e
    ·rw [e1] at e
     obtain rfl:g=b:=B4 e;exact h1 (Ds.type h2 hb.blk)
  ·exact h.rL r hr p hp
theorem Dp.keep {w0 w w':World} {L:Ei} {R:List En} {e:TypeId} {k n:Nat} {v:Value} {xs:List Value} (hM:Dp w0 L (⟨e,k,v,n,xs⟩ :: R) w) (hg:w.grownBy w' v.ownBlock):∀ b cs t,Ds w b cs t->t≠e->Ds w' b cs t:=fun b cs t hb hne=>hb.kept hg fun h=>by
 rcases hM.own0.2 with ⟨e1,_⟩ | ⟨g,cap,cur,e1,_,h2,_⟩
 ·rw [e1] at h;cases h
 ·rw [e1] at h
  obtain rfl:b=g:=B4 h;exact hne (Ds.type hb h2)
section
variable {ops:Array Oper} {rest:List Oper} {o:Oper} {a:Act} {Q:Exit->Act->World->Prop} {K:Act->World->Prop} {w0 w:World} {L:Ei} {R:List En} {s x:Operand} {v:Value} {n:Nat} {xs:List Value} {g:Nat}
theorem Rn (ho:o.op=.call { callee:=.builtin .append,args:=#[s,x],argTypes:=#[25,25] }) (hM:Dp w0 L (⟨57,2,v,n,xs⟩ :: R) w) (hs:a.eval s=v)
  {u1 u2:Value} (hx:a.eval x=.slice (some ⟨g,0,none⟩) 1 1) (hu1:w.cell? ⟨g,0,none⟩=some u1) (hu2:w.cell? ⟨g,1,none⟩=some u2) (h1:u1.oneCell'=true) (h2:u2.oneCell'=true) (hn:n<=1000000)
  (h:∀ g' cap w',Dp w0 L (⟨57,2,.slice (some ⟨g',0,none⟩) (n+1) cap,n+1,xs++[u1,u2]⟩ :: R) w'->(∀ b cs t,Ds w b cs t->t≠57->Ds w' b cs t)->K (a.put o.dst (.slice (some ⟨g',0,none⟩) (n+1) cap)) w'):Oper.wp Tryz.prog o a w K Q :=
 Jp 25 Tryz.underlying25 s x ho v n xs hs hM.own0 g u1 u2 hx hu1 hu2 h1 h2 hn hM.size fun v' w' r1 r2 r3=>by
  obtain ⟨g',cap,rfl⟩:=Jc r1;exact h g' cap w' (hM.app0 r2 r1 r3) (hM.keep r2)
end
theorem Rm.made {w W W':World} {L:Ei} {R:List En} {ids:List Nat} {cs:Array Value} {t:TypeId} (h:Dp w L R W) (hi:∀ q∈ids,q<W.heap.size) (hk:Ds W' W.heap.size cs t):Rm w L R ids W.heap.size cs t W' :=
 ⟨h.size,fun q hq e=>by have:=hi q hq;omega,fun p hp e=>by have:=h.lt p hp;omega,fun r hr e=>by have:=((h.rows r hr).lt _ e).2;omega,hk⟩
theorem MF {o:Oper} {a:Act} {K:Act->World->Prop} {Q:Exit->Act->World->Prop} {w:World} (l c:Operand) (ho:o.op=Op.makeSlice 22 l c) (n:Nat) (hl:a.eval l=.int .i64 n) (hc:a.eval c=.int .i64 n) (hn:n<=1000000)
  (h:∀ w',Ds w' w.heap.size (Array.replicate n (.int .i64 0)) 3->Below w.heap.size w w'->K (a.put o.dst (.slice (some ⟨w.heap.size,0,none⟩) n n)) w'):Oper.wp Tryz.prog o a w K Q:=by
 obtain ⟨w',hrun,h1,h2⟩:=Ih w 22 Tryz.underlying22 .i64 .i64 n hn
 have h3:Ds w' w.heap.size (Array.replicate n (.int .i64 0)) 3:=by
  rcases h1.2 with ⟨e,_⟩ | ⟨g,cap,cur,e,_,hk,_,_,hs,hx⟩
  ·cases e
  ·cases e
   have e2:cur=Array.replicate n (.int .i64 0):=by
    apply Array.ext';rw [Array.toList_replicate];rw [BG (by rw [BC,hs];exact Aa _),List.map_replicate] at hx;exact hx
   rw [<-e2];exact hk
 unfold Oper.wp
 simp [execOp,ho,hl,hc,hrun,Result.andThen]
 exact h w' h3 h2
section
variable {P:Program} {ops:Array Oper} {Q:Exit->Act->World->Prop} {l:Nat->Bool} {a:Act} {W W':World}
variable {Γ:Type} {N:Nat} {us:List Value} {ds ms:List Nat} {F:Γ->FL} {M:Γ->ML} {es:List Nat} {C:World->Prop} {SL:Γ->List (World->Prop)} {g:Γ} {o:Oper}
def Mf (b:Nat):ML->ML->ML
 | r' :: M',r :: M=>(if b.testBit r'.1=true then r' else r) :: Mf b M' M
 | _,_=>[]
theorem Mg {b:Nat}:∀ {M' M:ML} {j:Nat} {r:Nat×Nat×(Value->World->Prop)×Option Nat},(Mf b M' M)[j]? = some r->b.testBit r.1=true∨M[j]? = some r
 | r' :: M',r :: M,0,x,h=>by
  have h1:some (if b.testBit r'.1=true then r' else r)=some x:=h;obtain rfl:=B4 h1;by_cases e:b.testBit r'.1=true
  ·rw [AU e];exact .inl e
  ·rw [AP e];exact .inr rfl
 | r' :: M',r :: M,j+1,x,h=>Mg (M':=M') (M:=M) (j:=j) h
 | [],_,j,x,h=>by cases j <;> simp [Mf] at h
 | r' :: M',[],j,x,h=>by cases j <;> simp [Mf] at h
theorem stN (St:Iu N ds ms F M C SL) (i q k:Nat) {d:Nat} {e:Option Nat} {V:Γ->Value} {p:Γ->Value->World->Prop} (ho:ops[i]? = some o) (hd':o.dst=some d) (h0:Wn ops F o) (he:es.contains i=false) (hi:∀ g,(F g)[i]? = some (some (d,V g))) (hq:∀ g,(M g)[q]? = some (i,d,p g,e)) (hc:Jo ops es k i=true)
  (h:∀ g l a W,l i=false->(∀ n,Er o n=true->l n=true)->Fb ops l->Rg ops N us ds (F g) (M g) es C (SL g) l a W->∀ K:Act->World->Prop,(∀ g' W',Below W.heap.size W W'->F g'=Kd (after ops i ops.size) 0 (F g') (F g)->M g'=(Mf (after ops i ops.size) (M g') (M g)).set q (i,d,p g',e)->(SL g').take (k+1)=(SL g).take (k+1)->p g' (V g') W'->K (a.put (some d) (V g')) W')->Oper.wp P o a W K Q):Hb P ops Q (Iv ops N us ds F M es C SL) i o:=fun l a W hl hw hsh ⟨g,z⟩ K hK=>by
 refine want (h0.is hw z) (h g l a W hl hw hsh z K fun g' W' hb e1 e2 e3 hp=>hK.out _ _ ⟨g',?_⟩)
 obtain ⟨k1,k2,k5,k6⟩:=St.parts g'
 obtain ⟨h3,h4,_⟩:=It k2 (hi g')
 have z':=z.world St hb
 have hd:d<a.tmps.size:=by rw [z.f.size,BH,z.n];exact h4
 refine ⟨z'.f.put d _ h3,z'.b.put ho hd' _,z'.n,(Iw z'.v hl hsh e1).put k1 i (hi g') hd,?_,z'.c,?_⟩
 ·have hm:GO (M g') l a W':=by
   intro r hr hlr her;obtain ⟨j,hj⟩:=BI.1 hr;by_cases ej:q=j
   ·subst ej
    rw [hq g'] at hj;obtain rfl:=B4 hj;rw [hl] at hlr;cases hlr
   ·rw [e2,BJ ej] at hj
    rcases Mg hj with h1 | h1
    ·rcases Me h1 with h2 | h2
     ·rw [h2,hl] at hlr;cases hlr
     ·rw [Gr hsh hl h2] at hlr;cases hlr
    ·exact z'.m r (Ay h1) hlr her
  exact hm.add q i (hq g') k5 k6 hd hp
 ·rw [I7 he]
  have hle:=Oh hsh hl hc;have h5:=z'.s;unfold At at h5 |-;have h6:(SL g')[EB l es]? = (SL g)[EB l es]? := by
   have:=BK (fun z=>z[EB l es]?) e3;simpa [BM,Nat.lt_succ_of_le hle] using this
  rw [h6];exact h5
end
section
variable {P:Program} {ops:Array Oper} {Q:Exit->Act->World->Prop}
variable {Γ:Type} {N:Nat} {us:List Value} {ds ms:List Nat} {F:Γ->FL} {M:Γ->ML} {es:List Nat} {C:World->Prop} {SL:Γ->List (World->Prop)} {o:Oper}
structure Zs (ops:Array Oper) (N:Nat) (us:List Value) (ds:List Nat) (F:Γ->FL) (M:Γ->ML) (es:List Nat) (C:World->Prop) (SL:Γ->List (World->Prop)) (i:Nat) (o:Oper) (g:Γ) (l:Nat->Bool) (a:Act) (W:World):Prop where
 hl:l i=false
 hw:∀ n,Er o n=true->l n=true
 hs:Fb ops l
 z:Rg ops N us ds (F g) (M g) es C (SL g) l a W
section
variable {i:Nat} {g:Γ} {l:Nat->Bool} {a:Act} {W:World}
theorem Zs.c (y:Zs ops N us ds F M es C SL i o g l a W):C W:=y.z.c
theorem Zs.u (y:Zs ops N us ds F M es C SL i o g l a W) {n:Nat} {v:Value} (hv:us[n]? = some v) (hn:ds.contains n=false:=by kernel_rfl):a.tmps[n]? = some v:=y.z.u hv hn
theorem Zs.x (y:Zs ops N us ds F M es C SL i o g l a W) (j:Nat) {d:Nat} {v:Value} (hj:(F g)[j]? = some (some (d,v))) (hj':Er o j=true:=by kernel_rfl):a.tmps[d]? = some v:=y.z.x j y.hw hj hj'
theorem Zs.w (y:Zs ops N us ds F M es C SL i o g l a W) {n:Nat} {v:Value} (hv:us[n]? = some v) (hn:lastB ops n i=true:=by kernel_rfl):a.tmps[n]? = some v:=y.z.w i y.hl y.hs hv hn
end
variable {A B D E G:Γ->Act->World->Prop} {i:Nat} {rest:List Oper}
def DQ (w:World) (L:Ei) (R:List En) (b k:Nat) (v:Value):Prop:=∀ W,Dp w L R W->W.cell? ⟨b,k,none⟩=some v
def EW (w:World) (L:Ei) (R:List En) (f:FuncId) (xs:Array Value) (v:Value):Prop:=∀ W,Dp w L R W->Calls Tryz.prog f xs W fun e W'=>e=.returned v/\Below W.heap.size W W'
theorem sV (St:Iu N ds ms F M C SL) (hr:F0 P ops Q (Iv ops N us ds F M es C SL) (i+1) rest) (fa:∀ {g l a W},Zs ops N us ds F M es C SL i o g l a W->A g a W:=by exact fun _=>trivial) (fb:∀ {g l a W},Zs ops N us ds F M es C SL i o g l a W->B g a W:=by exact fun _=>trivial) (fd:∀ {g l a W},Zs ops N us ds F M es C SL i o g l a W->D g a W:=by exact fun _=>trivial) (fe:∀ {g l a W},Zs ops N us ds F M es C SL i o g l a W->E g a W:=by exact fun _=>trivial) (fg:∀ {g l a W},Zs ops N us ds F M es C SL i o g l a W->G g a W:=by exact fun _=>trivial)
  {d:Nat} {V:Γ->Value} (ho:ops[i]? = some o:=by rfl) (hd:o.dst=some d:=by rfl) (h0:KH o es ms i=true:=by rfl) (hi:∀ g,(F g)[i]? = some (some (d,V g)):=by exact fun _=>rfl)
  (h:∀ g a W,A g a W->B g a W->D g a W->E g a W->G g a W->∀ K:Act->World->Prop,K (a.put (some d) (V g)) W->Oper.wp P o a W K Q:=by intro _ _ _ _ _ _ _ _ _ J;go_simp;exact J):F0 P ops Q (Iv ops N us ds F M es C SL) i (o :: rest) :=
 Dk (stV St i ho hd h0 hi fun g _ a W hl hw hs z K J=>have y:=⟨hl,hw,hs,z⟩;h g a W (fa y) (fb y) (fd y) (fe y) (fg y) K J) hr
theorem sG (St:Iu N ds ms F M C SL) (hr:F0 P ops Q (Iv ops N us ds F M es C SL) (i+1) rest) (j:Nat) (fa:∀ {g l a W},Zs ops N us ds F M es C SL i o g l a W->A g a W:=by exact fun _=>trivial) (fb:∀ {g l a W},Zs ops N us ds F M es C SL i o g l a W->B g a W:=by exact fun _=>trivial) (fd:∀ {g l a W},Zs ops N us ds F M es C SL i o g l a W->D g a W:=by exact fun _=>trivial) (fe:∀ {g l a W},Zs ops N us ds F M es C SL i o g l a W->E g a W:=by exact fun _=>trivial) (fg:∀ {g l a W},Zs ops N us ds F M es C SL i o g l a W->G g a W:=by exact fun _=>trivial)
  {d e:Nat} {b:Bool} {V:Γ->Value} (ho:ops[i]? = some o:=by rfl) (hd:o.dst=some d:=by rfl) (h1:o.guard=some (j,b):=by rfl) (h2:(ops[j]?).bind (·.dst)=some e:=by rfl) (h3:Er o j=true:=by kernel_rfl) (h4:∀ g,(F g)[j]? = some (some (e,.bool b)):=by exact fun _=>rfl) (he:(es++ms).contains i=false:=by rfl) (hi:∀ g,(F g)[i]? = some (some (d,V g)):=by exact fun _=>rfl)
  (h:∀ g a W,A g a W->B g a W->D g a W->E g a W->G g a W->∀ K:Act->World->Prop,K (a.put (some d) (V g)) W->Oper.wp P o a W K Q:=by intro _ _ _ _ _ _ _ _ _ J;go_simp;exact J):F0 P ops Q (Iv ops N us ds F M es C SL) i (o :: rest) :=
 Dk (stG St i ho hd (wg j h1 h2 h3 h4) he hi fun g _ a W hl hw hs z K J=>have y:=⟨hl,hw,hs,z⟩;h g a W (fa y) (fb y) (fd y) (fe y) (fg y) K J) hr
theorem sC (St:Iu N ds ms F M C SL) (hr:F0 P ops Q (Iv ops N us ds F M es C SL) (i+1) rest) {f:FuncId} {xs:Array Value} {V:Γ->Value} (fc:∀ {g l a W},Zs ops N us ds F M es C SL i o g l a W->Calls P f xs W (fun e W'=>e=.returned (V g)/\Below W.heap.size W W')) (fa:∀ {g l a W},Zs ops N us ds F M es C SL i o g l a W->A g a W:=by exact fun _=>trivial) (fb:∀ {g l a W},Zs ops N us ds F M es C SL i o g l a W->B g a W:=by exact fun _=>trivial) (fd:∀ {g l a W},Zs ops N us ds F M es C SL i o g l a W->D g a W:=by exact fun _=>trivial) (fe:∀ {g l a W},Zs ops N us ds F M es C SL i o g l a W->E g a W:=by exact fun _=>trivial) (fg:∀ {g l a W},Zs ops N us ds F M es C SL i o g l a W->G g a W:=by exact fun _=>trivial)
  {d:Nat} (ho:ops[i]? = some o:=by rfl) (hd:o.dst=some d:=by rfl) (h0:KH o es ms i=true:=by rfl) (hi:∀ g,(F g)[i]? = some (some (d,V g)):=by exact fun _=>rfl)
  (h:∀ g a W,A g a W->B g a W->D g a W->E g a W->G g a W->Calls P f xs W (fun e W'=>e=.returned (V g)/\Below W.heap.size W W')->∀ K:Act->World->Prop,(∀ W',Below W.heap.size W W'->K (a.put (some d) (V g)) W')->Oper.wp P o a W K Q:=by intro _ _ _ _ _ _ _ _ c _ J;go_simp;refine Calls.mono c ?_;rintro _ _ ⟨rfl,hb⟩;exact J _ hb):F0 P ops Q (Iv ops N us ds F M es C SL) i (o :: rest) :=
 Dk (stC St i ho hd h0 hi fun g _ a W hl hw hs z K J=>have y:=⟨hl,hw,hs,z⟩;h g a W (fa y) (fb y) (fd y) (fe y) (fg y) (fc y) K J) hr
theorem sH (St:Iu N ds ms F M C SL) (hr:F0 P ops Q (Iv ops N us ds F M es C SL) (i+1) rest) (j:Nat) {f:FuncId} {xs:Array Value} {V:Γ->Value} (fc:∀ {g l a W},Zs ops N us ds F M es C SL i o g l a W->Calls P f xs W (fun e W'=>e=.returned (V g)/\Below W.heap.size W W')) (fa:∀ {g l a W},Zs ops N us ds F M es C SL i o g l a W->A g a W:=by exact fun _=>trivial) (fb:∀ {g l a W},Zs ops N us ds F M es C SL i o g l a W->B g a W:=by exact fun _=>trivial) (fd:∀ {g l a W},Zs ops N us ds F M es C SL i o g l a W->D g a W:=by exact fun _=>trivial) (fe:∀ {g l a W},Zs ops N us ds F M es C SL i o g l a W->E g a W:=by exact fun _=>trivial) (fg:∀ {g l a W},Zs ops N us ds F M es C SL i o g l a W->G g a W:=by exact fun _=>trivial)
  {d e:Nat} {b:Bool} (ho:ops[i]? = some o:=by rfl) (hd:o.dst=some d:=by rfl) (h1:o.guard=some (j,b):=by rfl) (h2:(ops[j]?).bind (·.dst)=some e:=by rfl) (h3:Er o j=true:=by kernel_rfl) (h4:∀ g,(F g)[j]? = some (some (e,.bool b)):=by exact fun _=>rfl) (he:(es++ms).contains i=false:=by rfl) (hi:∀ g,(F g)[i]? = some (some (d,V g)):=by exact fun _=>rfl)
  (h:∀ g a W,A g a W->B g a W->D g a W->E g a W->G g a W->Calls P f xs W (fun e W'=>e=.returned (V g)/\Below W.heap.size W W')->∀ K:Act->World->Prop,(∀ W',Below W.heap.size W W'->K (a.put (some d) (V g)) W')->Oper.wp P o a W K Q:=by intro _ _ _ _ _ _ _ _ c _ J;go_simp;refine Calls.mono c ?_;rintro _ _ ⟨rfl,hb⟩;exact J _ hb):F0 P ops Q (Iv ops N us ds F M es C SL) i (o :: rest) :=
 Dk (stH St i ho hd (wg j h1 h2 h3 h4) he hi fun g _ a W hl hw hs z K J=>have y:=⟨hl,hw,hs,z⟩;h g a W (fa y) (fb y) (fd y) (fe y) (fg y) (fc y) K J) hr
theorem sK (hr:F0 P ops Q (Iv ops N us ds F M es C SL) (i+1) rest) (j:Nat) {b c:Bool} {d e:Nat} (ho:ops[i]? = some o:=by rfl) (h0:o.guard=some (j,b):=by rfl) (hd:(ops[j]?).bind (·.dst)=some e:=by rfl) (hj:∀ g,(F g)[j]? = some (some (e,.bool c)):=by exact fun _=>rfl) (hw':Er o j=true:=by kernel_rfl) (hne:c≠b:=by decide) (hdst:o.dst=some d:=by rfl) (hk:∀ g,(okO ds (F g) es i d&&!(IR (M g)).contains i&&!(Gi (M g)).contains d)=true:=by exact fun _=>by kernel_rfl):F0 P ops Q (Iv ops N us ds F M es C SL) i (o :: rest) :=
 Dk (stK i j ho h0 hd hj hw' hne hdst hk) hr
theorem FM (_:Iu N ds ms F M C SL) (us:List Value) (es:List Nat) (g:Γ) {id:Nat} {W:World} (hN:us.length=N) (h0:C W.drew) (h1:At (SL g) 0 W.drew)
 (hs:F0 P ops Q (Iv ops N us ds F M es C SL) 0 ops.toList) (hend:∀ g a W,Rg ops N us ds (F g) (M g) es C (SL g) (fun j=>decide (j<ops.size)) a W->At (SL g) es.length W->Q .normal a W)
 (hm:P.follows .mixedOrders=true:=by kernel_rfl) (hb:IF ops=true:=by kernel_rfl) (hp:(EB (fun j=>decide (j<ops.size)) es==es.length)=true:=by kernel_rfl) :
 (Code.region id ops true).wp P Q { tmps:=us.toArray,defers:=[] } W:=Oj N us ds F M es C SL hN hm hb g h0 h1 hp hs hend
end
def lit:Nat->Nat->(Nat->Value)->List Value
 | 0,_,_=>[]
 | n+1,i,u=>u i :: lit n (i+1) u
theorem Rj:∀ (n i:Nat) (u:Nat->Value) (k:Nat),k<n->(lit n i u)[k]? = some (u (i+k))
 | n+1,i,u,0,_=>rfl
 | n+1,i,u,k+1,h=>by
  have:=Rj n (i+1) u k Ad;rw [show i+(k+1)=i+1+k by omega];simpa [lit] using this
theorem Om:∀ (n i:Nat) (u:Nat->Value),(lit n i u).length=n
 | 0,_,_=>rfl
 | n+1,i,u=>by rw [lit,CG,Om]
theorem KL {us:List Value} {n:Nat} (h:us.length=n):∃ u:Nat->Value,us=lit n 0 u:=⟨fun k=>us.getD k undef,List.ext_getElem? fun k=>by
 by_cases hk:k<n
 ·rw [Rj n 0 _ k hk,BN,List.getD_eq_getElem?_getD,Ax Ad];rfl
 ·rw [BX Ad,BX (by rw [Om];omega)]⟩
theorem DC {n:Nat} {u:Nat->Value} {k:Nat} {v:Value} (h:(lit n 0 u)[k]? = some v):u k=v:=by
 by_cases hk:k<n
 ·rw [Rj n 0 u k hk,BN] at h;exact B4 h
 ·rw [BX (by rw [Om];omega)] at h;cases h
theorem lexit {Q:Exit->Act->World->Prop} {e:Exit} {W:World} {fr us:List Value} (ds:List Nat) (h:Q e { tmps:=(Eb ds (fun n=>fr.getD n undef) us).toArray,defers:=[] } W) (he:fr=Eb ds (fun n=>fr.getD n undef) us):Q e { tmps:=fr.toArray,defers:=[] } W:=by rw [he];exact h
end
end Go.Proofs.YtioamkekjjkigaaGreatDoor
