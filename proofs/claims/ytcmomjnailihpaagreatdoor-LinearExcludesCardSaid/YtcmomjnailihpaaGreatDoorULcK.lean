/- LcK, LcL, LcM, McA, McB, McC, McD, McE, LcN, LqA, SnA, OrP, EqP, NoP -/
import Derived.Test.YtcmomjnailihpaaGreatDoorULcD
import Derived.Deep.RegionHeld3
set_option maxHeartbeats 8000000
set_option maxRecDepth 100000
namespace Go.Proofs.YtcmomjnailihpaaGreatDoor
section
open Go.RowKit
structure MixA where
 p:Int
 q:Int
 na:List ByteArray
 nb:List ByteArray
 da:ByteArray
 db:ByteArray
def MixA.num (x:MixA):Nat→Int
 | 0=>(x.p+x.q)*zS x.da*zS x.db
 | i+1=>x.p*zS (sAt x.na i)*zS x.db+x.q*zS (sAt x.nb i)*zS x.da
def MixA.z (x:MixA) (f:Bool) (i:Nat):Int:=zS (mixS f [I x.p,sAt x.na i,x.db] 3)+zS (mixS (mixF f [I x.p,sAt x.na i,x.db] 3) [I x.q,sAt x.nb i,x.da] 3)
def MixA.flag (x:MixA):Nat→Bool
 | 0=>mixF true [I (x.p+x.q),x.da,x.db] 3
 | i+1=>mixF (mixF (x.flag i) [I x.p,sAt x.na i,x.db] 3) [I x.q,sAt x.nb i,x.da] 3&&decide (Small (x.z (x.flag i) i))
def MixA.txt (x:MixA):Nat→ByteArray
 | 0=>mixS true [I (x.p+x.q),x.da,x.db] 3
 | i+1=>⟨(Go.Proofs.YtcmomjnailihpaaGreatDoor.txt (x.z (x.flag i) i)).toArray⟩
theorem Cw {b:Bool} {l:List ByteArray} {n:Nat} (h:mixF b l n=true):b=true∧prodB l n=true:=by unfold mixF at h;simpa using h
theorem E6 {l:List ByteArray} {n:Nat} (h:prodB l n=true):mixS true l n=I (prodZ l n):=by unfold mixS;rw [h];rfl
theorem prod3 (a b c:ByteArray):prodZ [a,b,c] 3=zS a*zS b*zS c:=by show 1*zS a*zS b*zS c=_;rw [Int.one_mul]
theorem MixA.good (x:MixA):∀ {i:Nat},x.flag i=true→x.txt i=I (x.num i)∧Small (x.num i)
 | 0,h=>by
  obtain ⟨_,h1⟩:=Cw h
  have e:prodZ [I (x.p+x.q),x.da,x.db] 3=x.num 0:=by rw [prod3,BA];rfl
  exact ⟨by show mixS true _ 3=_;rw [E6 h1,e],by rw [←e];exact Dp h1⟩
 | i+1,h=>by
  have h':(mixF (mixF (x.flag i) [I x.p,sAt x.na i,x.db] 3) [I x.q,sAt x.nb i,x.da] 3&&decide (Small (x.z (x.flag i) i)))=true:=h
  rw [Bool.and_eq_true,decide_eq_true_eq] at h'
  obtain ⟨h1,h2⟩:=h'
  obtain ⟨h3,h4⟩:=Cw h1
  obtain ⟨h5,h6⟩:=Cw h3
  have e:x.z (x.flag i) i=x.num (i+1):=by
   unfold MixA.z
   rw [h3,h5,E6 h6,E6 h4,BA,BA,prod3,prod3,BA,BA];rfl
  rw [e] at h2
  refine ⟨?_,h2⟩
  show ByteArray.mk (Go.Proofs.YtcmomjnailihpaaGreatDoor.txt (x.z (x.flag i) i)).toArray=_
  rw [e,FV h2];rfl
theorem MixA.flag_le (x : MixA) {i n : Nat} (h : x.flag n = true) (hi : i ≤ n) : x.flag i = true := by
 induction n with
 | zero => obtain rfl : i = 0 := by omega
           exact h
 | succ n ih =>
   by_cases e : i = n + 1
   · subst e; exact h
   · refine ih ?_ (by omega)
     have h' : (mixF (mixF (x.flag n) [I x.p, sAt x.na n, x.db] 3) [I x.q, sAt x.nb n, x.da] 3 && decide (Small (x.z (x.flag n) n))) = true := h
     rw [Bool.and_eq_true] at h'
     exact (Cw (Cw h'.1).1).1
theorem MixA.add_T (x:MixA) (i:Nat):∃ E:Int,resT true (x.z (x.flag i) i)=.tuple #[.string (x.txt (i+1)),.int .i64 E]∧(E==0)=decide (Small (x.z (x.flag i) i)):=by
 refine ⟨erz (x.z (x.flag i) i),by unfold resT;rw [if_pos rfl];rfl,?_⟩
 unfold erz
 by_cases h:Small (x.z (x.flag i) i)
 ·rw [if_pos h,decide_eq_true h];rfl
 ·rw [if_neg h,decide_eq_false h];rfl
def MixA.gcd (x:MixA):Nat→Int
 | 0=>0
 | k+1=>gcdZ (x.gcd k) (x.num k)
end
section
open Go.RowKit
attribute [local go_sem] Oper.semAt_some
theorem Ff {ops:Array Oper} {rest:List Oper} {o:Oper} {a:Act} {Q:Exit→Act→World→Prop} {w:World} {base:Nat} (hgd:o.guard=none) (t e:TypeId) (z:Value) (bytes:Nat) (ht:Tryz.prog.underlying t=some (.slice e)) (hi:(Tryz.prog.info? e).map (fun i=>(i.zero,i.size,i.bytes))=some (some z,1,bytes)) (hz:z.cells.size=1)
  (s x:Operand) (ho:o.op=.call { callee:=.builtin .append,args:=#[s,x],argTypes:=#[t,t] }) (v:Value) (n:Nat) (xs:List Value) (hs:a.eval s=v) (hown:w.ownsRow base e 1 v n xs)
  (g:Nat) (u:Value) (hx:a.eval x=.slice (some ⟨g,0,none⟩) 1 1) (hu:w.cell? ⟨g,0,none⟩=some u) (h1:u.oneCell'=true) (hn:(n+1)*bytes≤140737488355328) (hn2:n≤1000000) (hbase:base≤w.heap.size)
  (h:∀ g' cap w',w'.ownsRow base e 1 (.slice (some ⟨g',0,none⟩) (n+1) cap) (n+1) (xs++[u])→w.grownBy w' v.ownBlock→(∀ b,(Value.slice (some ⟨g',0,none⟩) (n+1) cap).ownBlock=some b→v.ownBlock=some b∨w.heap.size≤b)→wpList Tryz.prog ops Q rest (a.put o.dst (.slice (some ⟨g',0,none⟩) (n+1) cap)) w') :
  wpList Tryz.prog ops Q (o :: rest) a w :=
 wpList_plain hgd fun _ hK=>AP t e z bytes ht hi hz s x ho v n xs hs hown g u hx hu h1 hn hn2 hbase fun v' w' r1 r2 r3=>by
  have r1':=r1
  rcases r1.2 with ⟨rfl,h0⟩ | ⟨g',cap,cur,rfl,_⟩
  ·omega
  ·exact hK _ _ (h g' cap w' r1' r2 r3)
theorem mix_l0 {Q:Exit→Act→World→Prop} {u0 u1 u6 u7 u8 u9 u13 u14 u15 u16 u17 u18 u19 u20 u21 u22 u23 u24 u25 u26 u27 u28 u29 u30 u31 u32 u33 u34 u35 u36 u37 u38 u39 u40 u41 u42 u43 u44 u45 u46 u47 u48 u49 u50 u51 u52 u53 u54 u55 u56 u57 u58 u59 u60 u61 u62 u63 u66 u67 u68 u69 u70 u71 u72 u73 u74 u75 u76 u77 u78 u79 u80 u81 u82 u83 u84 u85 u86 u87 u88 u89 u90 u91 u92 u93 u94 u95 u96 u97 u98 u99 u100 u101 u102 u103 u104 u105 u106 u107 u108 u109 u110 u111 u112 u113 u114 u115 u116 u117 u118 u119 u120 u121 u122 u123 u124 u125 u126 u127 u128 u129 u130 u131 u132 u133 u134 u135 u136 u137 u138 u139 u140 u141 u142 u143 u144 u145 u146 u147 u148 u149 u150 u151 u152:Value} {x:MixA} {b0 b1 Bk n base g0:Nat} {aa ab:Option Addr} {ca cb:Nat} {w0 w:World} (hE:Hid (Env w0)) (h0:Hid (Below w0.heap.size w0 w∧w0.heap.size≤Bk∧Bk<base∧base≤w.heap.size)) (hp:Hid ((1≤x.p∧x.p≤1000)∧(1≤x.q∧x.q≤1000))) (hn:Hid (n=x.na.length∧n=x.nb.length∧n≤64)) (hok:Hid ((∀ i,i<n→okS (sAt x.na i)=true∧okS (sAt x.nb i)=true)∧okS x.da=true∧okS x.db=true))
  (hc:Hid ((b0<base∧b0≠Bk∧w.cell? ⟨b0,0,none⟩=some (.slice aa n ca)∧w.cell? ⟨b0,1,none⟩=some (.string x.da))∧(b1<base∧b1≠Bk∧w.cell? ⟨b1,0,none⟩=some (.slice ab n cb)∧w.cell? ⟨b1,1,none⟩=some (.string x.db)))) (hA:Hid (SlS w0 (.slice aa n ca) x.na)) (hB:Hid (SlS w0 (.slice ab n cb) x.nb))
  (hk:Hid (Blk w Bk #[.bool (x.flag 0)] 4)) (hr:Hid (w.ownsRow base 9 1 (.slice (some ⟨g0,0,none⟩) 1 1) (0+1) ((List.range (0+1)).map fun j=>.string (x.txt j)))) {body:Code} (hbody:getLoop Tryz.f23.body 0=some body)
  (hQ:∀ (gf cf:Nat) (v13 v14 v15 v65 v66 v67 v68 v69 v70 v71 v72 v73 v74 v75 v76 v77 v78 v79 v80 v81 v82 v83 v84 v85 v86 v87 v88 v89 v90 v91 v92 v93 v94 v95 v96 v97 v98 v99 v100 v101 v102 v103 v104 v105:Value) (W':World),Hid (Below w0.heap.size w0 W')→Hid (Blk W' Bk #[.bool (x.flag n)] 4)→Hid (W'.ownsRow base 9 1 (.slice (some ⟨gf,0,none⟩) (n+1) cf) (n+1) ((List.range (n+1)).map fun j=>.string (x.txt j)))→Hid (∀ b,b<base→b≠Bk→W'.heap[b]? = w.heap[b]?)→Q (.exit 0) { tmps:=List.toArray (u0::u1::.int .i64 x.p::.int .i64 x.q::.pointer (some ⟨b0,0,none⟩)::.pointer (some ⟨b1,0,none⟩)::u6::u7::u8::u9::.pointer (some ⟨Bk,0,none⟩)::.func (.func 58) #[] #[.pointer (some ⟨Bk,0,none⟩)]::.slice (some ⟨gf,0,none⟩) (n+1) cf::v13::v14::v15::u16::u17::u18::u19::u20::u21::u22::u23::u24::u25::u26::u27::u28::u29::u30::u31::u32::u33::u34::u35::u36::u37::u38::u39::u40::u41::u42::u43::u44::u45::u46::u47::u48::u49::u50::u51::u52::u53::u54::u55::u56::u57::u58::u59::u60::u61::u62::u63::.int .i64 n::v65::v66::v67::v68::v69::v70::v71::v72::v73::v74::v75::v76::v77::v78::v79::v80::v81::v82::v83::v84::v85::v86::v87::v88::v89::v90::v91::v92::v93::v94::v95::v96::v97::v98::v99::v100::v101::v102::v103::v104::v105::u106::u107::u108::u109::u110::u111::u112::u113::u114::u115::u116::u117::u118::u119::u120::u121::u122::u123::u124::u125::u126::u127::u128::u129::u130::u131::u132::u133::u134::u135::u136::u137::u138::u139::u140::u141::u142::u143::u144::u145::u146::u147::u148::u149::u150::u151::u152::[]),defers:=[] } W') :
  (Code.loop body).wp Tryz.prog Q { tmps:=List.toArray (u0::u1::.int .i64 x.p::.int .i64 x.q::.pointer (some ⟨b0,0,none⟩)::.pointer (some ⟨b1,0,none⟩)::u6::u7::u8::u9::.pointer (some ⟨Bk,0,none⟩)::.func (.func 58) #[] #[.pointer (some ⟨Bk,0,none⟩)]::.slice (some ⟨g0,0,none⟩) 1 1::u13::u14::u15::u16::u17::u18::u19::u20::u21::u22::u23::u24::u25::u26::u27::u28::u29::u30::u31::u32::u33::u34::u35::u36::u37::u38::u39::u40::u41::u42::u43::u44::u45::u46::u47::u48::u49::u50::u51::u52::u53::u54::u55::u56::u57::u58::u59::u60::u61::u62::u63::.int .i64 n::.int .i64 0::u66::u67::u68::u69::u70::u71::u72::u73::u74::u75::u76::u77::u78::u79::u80::u81::u82::u83::u84::u85::u86::u87::u88::u89::u90::u91::u92::u93::u94::u95::u96::u97::u98::u99::u100::u101::u102::u103::u104::u105::u106::u107::u108::u109::u110::u111::u112::u113::u114::u115::u116::u117::u118::u119::u120::u121::u122::u123::u124::u125::u126::u127::u128::u129::u130::u131::u132::u133::u134::u135::u136::u137::u138::u139::u140::u141::u142::u143::u144::u145::u146::u147::u148::u149::u150::u151::u152::[]),defers:=[] } w:=by
 obtain rfl:=Option.some.inj (hbody.symm.trans (rfl:getLoop Tryz.f23.body 0=some _))
 clear hbody
 replace hQ:=A8 hQ
 go_loopw [12,65] (fun s o wr=>∃ (i g c:Nat),s=.slice (some ⟨g,0,none⟩) (i+1) c∧o=.int .i64 i∧i≤n∧Hid (Below w0.heap.size w0 wr∧base≤wr.heap.size)∧Hid (Blk wr Bk #[.bool (x.flag i)] 4)∧Hid (wr.ownsRow base 9 1 (.slice (some ⟨g,0,none⟩) (i+1) c) (i+1) ((List.range (i+1)).map fun j=>.string (x.txt j)))∧Hid (∀ b,b<base→b≠Bk→wr.heap[b]? = w.heap[b]?)) (fun _ o _=>n-(intOf o).toNat)
 case atStart=>exact ⟨0,g0,1,rfl,rfl,by omega,A8 ⟨h0.out.1,h0.out.2.2.2⟩,hk,hr,A8 (fun _ _ _=>rfl)⟩
 case round =>
  clear hk hr
  obtain ⟨i,g,c,rfl,rfl,hi,hb,hk,hr,hs⟩:=hrel
  by_cases hin:i<n
  case neg =>
   have hin':¬ (i:Int)<n:=by omega
   obtain rfl:i=n:=by omega
   go_wp2_with fail
   exact hQ.out g c _ _ _ _ _ _ _ _ _ _ _ _ _ _ _ _ _ _ _ _ _ _ _ _ _ _ _ _ _ _ _ _ _ _ _ _ _ _ _ _ _ _ _ _ _ (A8 hb.out.1) hk hr hs
  case pos =>
   have hin':(i:Int)<n:=by omega
   have hi0:(0:Int)≤i:=by omega
   obtain ⟨ba,oa,ea,hba,xa⟩:∃ b off,aa=some ⟨b,off,none⟩∧b<w0.heap.size∧w0.cell? ⟨b,off+i,none⟩=some (.string (sAt x.na i)):=by
    rcases hA.out with ⟨e,e2⟩ | ⟨b,off,cap',e,h1,h2,h3,h4⟩
    ·have:=hn.out.1;rw [e2] at this;simp at this;omega
    ·cases e
     have:=h4 i _ (Do (by have:=hn.out.1;omega))
     rw [Nat.mul_one] at this
     exact ⟨b,off,rfl,h3,this⟩
   obtain ⟨bb,ob,eb,hbb,xb⟩:∃ b off,ab=some ⟨b,off,none⟩∧b<w0.heap.size∧w0.cell? ⟨b,off+i,none⟩=some (.string (sAt x.nb i)):=by
    rcases hB.out with ⟨e,e2⟩ | ⟨b,off,cap',e,h1,h2,h3,h4⟩
    ·have:=hn.out.2.1;rw [e2] at this;simp at this;omega
    ·cases e
     have:=h4 i _ (Do (by have:=hn.out.2.1;omega))
     rw [Nat.mul_one] at this
     exact ⟨b,off,rfl,h3,this⟩
   subst ea
   subst eb
   obtain ⟨k1,k2⟩:=hok.out.1 i hin
   obtain ⟨E,hT,hEz⟩:=x.add_T i
   have hgE:Hid (x.flag (i+1)=(mixF (mixF (x.flag i) [I x.p,sAt x.na i,x.db] 3) [I x.q,sAt x.nb i,x.da] 3&&(E==0))):=A8 (by rw [hEz];rfl)
   have hsz:base≤wr.heap.size:=hb.out.2
   have hc':=hc.out
   have cc:∀ b,b<base→b≠Bk→∀ k u,w.cell? ⟨b,k,none⟩=some u→∀ W,Only [Bk] wr W→W.cell? ⟨b,k,none⟩=some u:=fun b hbl hbn k u hu W hW=>((hW.cell (p:=⟨b,k,none⟩) (by show b<_;omega) (by simpa using hbn)).trans (Ah (hs.out b hbl hbn) k)).trans hu
   have ce:∀ b,b<w0.heap.size→∀ k u,w0.cell? ⟨b,k,none⟩=some u→∀ W,Only [Bk] wr W→W.cell? ⟨b,k,none⟩=some u:=fun b hbl k u hu W hW=>((hW.cell (p:=⟨b,k,none⟩) (by show b<_;have:=hb.out.1.size;omega) (by have:=h0.out.2.1;simp;omega)).trans (hb.out.1.cell (p:=⟨b,k,none⟩) hbl)).trans hu
   go_upto_region 9 with fail
   refine mix_r9 (p:=x.p) (q:=x.q) (n:=n) (i:=i) (ga:=ba) (oa:=oa) (gb:=bb) (ob:=ob) (fl:=x.flag i) (da:=x.da) (db:=x.db) (sa:=sAt x.na i) (sb:=sAt x.nb i) (S:=x.txt (i+1)) (E:=E) hE (A8 ⟨hb.out.1,h0.out.2.1⟩) (A8 (by have:=hp.out.1;exact ⟨by unfold Fits;omega,(bd11 (by omega)).small (by decide)⟩)) (A8 (by have:=hp.out.2;exact ⟨by unfold Fits;omega,(bd11 (by omega)).small (by decide)⟩)) (A8 ⟨hok.out.2.1,hok.out.2.2,k1,k2⟩) hin' hi0
    (A8 (fun W hW=>⟨cc _ hc'.1.1 hc'.1.2.1 0 _ hc'.1.2.2.1 W hW,cc _ hc'.1.1 hc'.1.2.1 1 _ hc'.1.2.2.2 W hW,cc _ hc'.2.1 hc'.2.2.1 0 _ hc'.2.2.2.1 W hW,cc _ hc'.2.1 hc'.2.2.1 1 _ hc'.2.2.2.2 W hW,ce _ hba _ _ xa W hW,ce _ hbb _ _ xb W hW⟩)) (A8 (by have:=h0.out.2.2.1;omega)) hk (A8 hT) (by kernel_rfl) ?_
   intro v69 v70 v71 v72 v73 v74 v75 v76 v77 v78 v79 v80 v81 v82 v83 v84 v85 v86 v87 v88 v89 v90 v91 v92 v93 v68 v94 v95 W5 hO5 hk5
   have hr5:=Cu hr.out hO5 (fun b e hb=>by have:=(hr.out.lt b e).1;have h2:=List.mem_singleton.1 hb;have:=h0.out.2.2.1;omega)
   have hb5:=A8 (hb.out.1.trans (hO5.toBelow hb.out.1.size (by intro z hz;rw [List.mem_singleton.1 hz];exact h0.out.2.1)))
   have hsz5:base≤W5.heap.size:=Nat.le_trans hsz hO5.size
   have hs5:=A8 (fun b (hbl:b<base) (hbn:b≠Bk)=>(hO5.block b (by omega) (by simpa using hbn)).trans (hs.out b hbl hbn))
   obtain ⟨f2,hf2⟩:∃ f,f=mixF (mixF (x.flag i) [I x.p,sAt x.na i,x.db] 3) [I x.q,sAt x.nb i,x.da] 3:=⟨_,rfl⟩
   rw [←hf2] at hk5 hgE
   obtain ⟨ez,hez⟩:∃ b,b=(E==0):=⟨_,rfl⟩
   rw [←hez] at hgE
   have hez':=hez.symm
   have y0:=hk5.cell 0
   have y1:=hk5.frozen 0
   have hk6:=hk5.set 0 (.bool (f2&&ez))
   have hg6:=Aj W5 Bk 0 (.bool (f2&&ez))
   have hr6:=hr5.kept hg6 (.inr (by intro e;have:=(hr5.lt Bk e).1;have:=h0.out.2.2.1;omega))
   have hO6:=A8 ((Only.refl [Bk] W5).setCell (p:=⟨Bk,0,none⟩) (by simp) (.bool (f2&&ez)))
   have hk6':Blk (W5.setCell ⟨Bk,0,none⟩ (.bool (f2&&ez))) Bk #[.bool (x.flag (i+1))] 4:=by rw [hgE.out];exact hk6
   clear hE hT hEz hez hk6 cc ce hO5 hc' xa xb k1 k2 hgE hf2 hr5
   have hbB:=h0.out.2.2.1
   have hbW:=h0.out.2.1
   have hend:Hid (∀ (g2 c2:Nat) (W7 W8:World),W7=(W5.setCell ⟨Bk,0,none⟩ (.bool (f2&&ez))).alloc (.cells #[.string (x.txt (i+1))] 9)→W8.ownsRow base 9 1 (.slice (some ⟨g2,0,none⟩) (i+1+1) c2) (i+1+1) (((List.range (i+1)).map fun j=>Value.string (x.txt j))++[.string (x.txt (i+1))])→W7.grownBy W8 (some g) →
     (Below w0.heap.size w0 W8∧base≤W8.heap.size)∧Blk W8 Bk #[.bool (x.flag (i+1))] 4∧W8.ownsRow base 9 1 (.slice (some ⟨g2,0,none⟩) (i+1+1) c2) (i+1+1) ((List.range (i+1+1)).map fun j=>.string (x.txt j))∧(∀ b,b<base→b≠Bk→W8.heap[b]? = w.heap[b]?)):=A8 (fun g2 c2 W7 W8 e7 own8 gr8=>by
    have hgb:base≤g:=(hr6.lt g rfl).1
    have h6:Below w0.heap.size w0 (W5.setCell ⟨Bk,0,none⟩ (.bool (f2&&ez))):=hb5.out.trans (hO6.out.toBelow hb5.out.size (by intro z hz;rw [List.mem_singleton.1 hz];exact hbW))
    have h67:Below (W5.setCell ⟨Bk,0,none⟩ (.bool (f2&&ez))).heap.size (W5.setCell ⟨Bk,0,none⟩ (.bool (f2&&ez))) W7:=by rw [e7];exact (Below.refl _ _).alloc (Aa _) _
    have s6:W5.heap.size≤(W5.setCell ⟨Bk,0,none⟩ (.bool (f2&&ez))).heap.size:=hg6.size
    have h7:Below w0.heap.size w0 W7:=h6.trans (h67.mono h6.size)
    have s7:base≤W7.heap.size:=Nat.le_trans hsz5 (Nat.le_trans s6 h67.size)
    have hg0:w0.heap.size≤g:=by omega
    refine ⟨⟨h7.grown gr8 h7.size (fun k e=>by cases e;exact hg0),Nat.le_trans s7 gr8.size⟩,(hk6'.below h67).kept gr8 (by intro e;cases e;omega),by rw [List.range_succ (n:=i+1),List.map_append];exact own8,fun b hbl hbn=>?_⟩
    have sb:b<W7.heap.size:=by omega
    rw [gr8.block b sb (by intro e;cases e;omega),h67.block b (by omega),hO6.out.block b (by omega) (by simpa using hbn),hs5.out b hbl hbn])
   have hr7:=hr6.alloc (.cells #[.string (x.txt (i+1))] 9)
   have hs7:base≤((W5.setCell ⟨Bk,0,none⟩ (.bool (f2&&ez))).alloc (.cells #[.string (x.txt (i+1))] 9)).heap.size:=by rw [World.size_alloc];have:=hg6.size;omega
   have hu7:((W5.setCell ⟨Bk,0,none⟩ (.bool (f2&&ez))).alloc (.cells #[.string (x.txt (i+1))] 9)).cell? ⟨W5.heap.size,0,none⟩=some (Value.string (x.txt (i+1))):=by
    have es:(W5.setCell ⟨Bk,0,none⟩ (.bool (f2&&ez))).heap.size=W5.heap.size:=World.size_setCell ..
    have:=(Blk.new (W5.setCell ⟨Bk,0,none⟩ (.bool (f2&&ez))) #[.string (x.txt (i+1))] 9).cell 0
    rw [es] at this
    exact this
   replace hr7:=A8 hr7
   replace hs7:=A8 hs7
   replace hu7:=A8 hu7
   have hi64:i+1≤64:=by have:=hn.out.2.2;omega
   generalize hxt:x.txt (i+1)=xt at *
   replace hxt:=A8 hxt
   clear hr6 hk6' hg6 hO6 hk5 hb5 hs5 hb hk hr hs
   cases f2 <;> cases ez <;>
   ·go_wp2_with (at_builtin;refine Ff rfl _ 9 (.string ⟨#[]⟩) 16 Tryz.underlying28 CY rfl _ _ rfl (.slice (some ⟨g,0,none⟩) (i+1) c) (i+1) _ rfl hr7.out _ (.string xt) rfl hu7.out rfl (by omega) (by omega) hs7.out ?_;intro g2 c2 W8 own8 gr8 bl8;replace gr8:=hend.out g2 c2 _ W8 rfl own8 gr8;clear own8 bl8;have own8:=A8 gr8.1;have bl8:=A8 gr8.2.1;have q3:=A8 gr8.2.2.1;replace gr8:=A8 gr8.2.2.2)
    go_roundw
    case rel=>exact ⟨i+1,_,_,rfl,by go_num,by omega,by assumption,by assumption,by assumption,by assumption⟩
    case measure=>simp [intOf];omega
def mixArg (x:MixA):Bool:=formedL x.na x.da&&formedL x.nb x.db&&decide ((x.na.length:Int)=x.nb.length)&&(decide (1≤x.p)&&decide (x.p≤1000))&&(decide (1≤x.q)&&decide (x.q≤1000))
def MixA.quo (x:MixA) (i:Nat):Int:=x.num i / x.gcd (x.na.length+1)
def mixB (x:MixA):Bool:=mixArg x&&x.flag x.na.length&&(List.range (x.na.length+1)).all (fun i=>decide (Bd 100 (x.quo i)))
theorem CU {w W:World} {b:Nat} (h:Blk W b #[.slice none 0 0,.string ⟨#[]⟩] 30) (hb:w.heap.size≤b) (hW:Below w.heap.size w W) (a c:Value) :
  let V:=(W.setCell ⟨b,0,none⟩ a).setCell ⟨b,1,none⟩ c
  (V.cell? ⟨b,0,none⟩=some a∧V.cell? ⟨b,1,none⟩=some c)∧Below w.heap.size w V∧Only [b] W V:=by
 have hB:=(h.set 0 a).set 1 c
 have hon:Only [b] W ((W.setCell ⟨b,0,none⟩ a).setCell ⟨b,1,none⟩ c):=((Only.refl [b] W).setCell (p:=⟨b,0,none⟩) (by simp) _).setCell (p:=⟨b,1,none⟩) (by simp) _
 exact ⟨⟨hB.cell 0,hB.cell 1⟩,hW.trans (hon.toBelow hW.size (by intro x hx;rw [List.mem_singleton.1 hx];exact hb)),hon⟩
theorem Au (c m:Int) (hc:Fits c) (h0:0<m) (h1:m≤9223372036854775807) (w:World):Calls Tryz.prog 35 #[.int .i64 c,.int .i64 m] w (Rets w (.int .i64 (pkv c m))):=by
 obtain ⟨hc0,hc1⟩:=hc
 have hmz:(m==0)=false:=by rw [beq_eq_false_iff_ne];omega
 by_cases hc:c<0
 ·have hp:0≤-(c+1):=by omega
  have e:=A8 (show -(c+1) % m=pkv c m by unfold pkv;rw [if_pos hc])
  have e2:=A8 (show -((c+1).tmod m)=-(c+1) % m by rw [←Int.neg_tmod,Int.tmod_eq_emod_of_nonneg hp])
  go_enter Tryz.func35,Tryz.ntmps35
  go_wp2
  go_ret
  first | exact ⟨Cc e.out,Below.refl _ _⟩ | exact ⟨Cc (e2.out.trans e.out),Below.refl _ _⟩
 ·have hp:0≤c:=by omega
  have e:=A8 (show c % m=pkv c m by unfold pkv;rw [if_neg hc])
  go_enter Tryz.func35,Tryz.ntmps35
  go_wp2
  go_ret
  exact ⟨Cc e.out,Below.refl _ _⟩
def atv (l:List Int) (i:Nat):Int:=gi l (i % l.length)
theorem CK (v:Value) (l:List Int) (i:Nat) (w:World) (h:Sl w v l):Calls Tryz.prog 36 #[v,.int .i64 i] w (Rets w (.int .i64 (atv l i))):=by
 have hl:=h.len_le
 unfold maxLen at hl
 unfold atv
 rcases h with ⟨rfl,rfl⟩ | ⟨b,off,cap,rfl,h1,h2,h3,h4⟩
 ·go_enter Tryz.func36,Tryz.ntmps36
  go_wp2
  go_ret
  exact ⟨rfl,Below.refl _ _⟩
 ·by_cases h0:l.length=0
  ·have hz:gi l (i % l.length)=0:=BT (by omega)
   rw [hz]
   have e0:((l.length:Int)==0)=true:=by simp [h0]
   generalize l.length=n at *
   clear h4 hz
   subst h0
   go_enter Tryz.func36,Tryz.ntmps36
   go_wp2
   go_ret
   exact ⟨rfl,Below.refl _ _⟩
  ·have hlt:i % l.length<l.length:=Nat.mod_lt _ (by omega)
   have x0:=h4 (i % l.length) hlt
   have e0:((l.length:Int)==0)=false:=by rw [beq_eq_false_iff_ne];omega
   have e1:((i:Int)).tmod (l.length:Int)=((i % l.length:Nat):Int):=by rw [Int.tmod_eq_emod_of_nonneg (Int.natCast_nonneg i)];rfl
   generalize gi l (i % l.length)=z at *
   generalize hq:i % l.length=q at *
   generalize l.length=n at *
   have hq1:(q:Int)<n:=by omega
   have hq0:(0:Int)≤q:=by omega
   have hn0:¬ (n:Int)=0:=by omega
   have hn1:¬ n=0:=h0
   replace hq:=A8 hq
   clear h4
   go_enter Tryz.func36,Tryz.ntmps36
   go_wp2
   go_ret
   exact ⟨rfl,Below.refl _ _⟩
theorem ES (c r m:Int) (v u:Value) (a a2:Option Addr) (cp cp2 n n2:Nat) (hv:v=.slice a n cp) (hu:u=.slice a2 n2 cp2) (hm:Fits m) (w:World) :
  Calls Tryz.prog 30 #[.agg #[.int .i64 c,.int .i64 r,v,u,.int .i64 m]] w (Rets w (.bool (pkv m 3==2))):=by
 subst hv
 subst hu
 have PK:=A8 (fun W=>Au m 3 hm (by decide) (by decide) W)
 obtain ⟨V,hV,hS,z1⟩:=(BL.start w).add' #[.int .i64 c,.int .i64 r,.slice a n cp,.slice a2 n2 cp2,.int .i64 m] 24
 have x4:V.cell? ⟨w.heap.size,4,none⟩=some (.int .i64 m):=hS.cell _ _ _ (.head _) 4
 generalize pkv m 3=z at *
 clear z1
 go_enter Tryz.func30,Tryz.ntmps30
 go_upto_region 1 with fail
 rw [←hV]
 clear hV
 go_wp2_with fail
 refine Calls.mono (PK.out _) ?_
 rintro e w1 ⟨rfl,hb⟩
 replace hS:=hS.call hb
 go_wp2
 go_ret
 exact ⟨rfl,hS.below⟩
def sAt6 (l:List ByteArray) (i:Nat):ByteArray:=l[i]?.getD ⟨#[]⟩
theorem JJ {l:List ByteArray} {i:Nat} (h:i<l.length):l[i]? = some (sAt6 l i):=by unfold sAt6;rw [List.getElem?_eq_getElem h];rfl
theorem LB (a b:ByteArray):(a.toList==b.toList)=decide (a=b):=by
 by_cases h:a=b
 ·subst h;simp
 ·rw [decide_eq_false h,beq_eq_false_iff_ne]
  intro e
  rw [ByteArray.toList_eq,ByteArray.toList_eq] at e
  exact h (ByteArray.ext (Array.toList_inj.1 e))
theorem Je {l m:List ByteArray} (hl:l.length=m.length) (h:∀ j,j<l.length→sAt6 l j=sAt6 m j):l=m:=by
 refine List.ext_getElem hl fun j h1 h2=>?_
 have:=h j h1
 unfold sAt6 at this
 rwa [List.getElem?_eq_getElem h1,List.getElem?_eq_getElem h2] at this
theorem HQ (va vb:Value) (la lb:List ByteArray) (w:World) (hA:SlS w va la) (hB:SlS w vb lb):Calls Tryz.prog 67 #[va,vb] w (Rets w (.bool (decide (la=lb)))):=by
 have hla:la.length≤maxLen:=hA.len_le
 unfold maxLen at hla
 obtain ⟨aa,ca,rfl⟩:=hA.shape
 obtain ⟨ab,cb,rfl⟩:=hB.shape
 by_cases hl:la.length=lb.length
 case neg =>
  have hn:la≠lb:=fun e=>hl (by rw [e])
  have h1:((la.length:Int) != lb.length)=true:=by simp;omega
  rw [decide_eq_false hn]
  clear hA hB hn
  generalize la.length=n at *
  generalize lb.length=m at *
  go_enter Tryz.func67,Tryz.ntmps67
  go_wp2
  go_ret
  exact ⟨rfl,Below.refl _ _⟩
 case pos =>
  have h1:((la.length:Int) != lb.length)=false:=by simp [hl]
  have HA:=A8 hA
  have HB:=A8 hB
  have hpost:Hid (∀ (b:Bool) k,(b=false∧k<la.length∧sAt6 la k≠sAt6 lb k)∨(b=true∧∀ j,j<la.length→sAt6 la j=sAt6 lb j)→decide (la=lb)=b):=A8 (fun b k h=>by
   rcases h with ⟨rfl,h1,h2⟩ | ⟨rfl,h1⟩
   ·exact decide_eq_false (fun e=>h2 (by rw [e]))
   ·exact decide_eq_true (Je hl h1))
  obtain ⟨n,hn⟩:∃ n,n=la.length:=⟨_,rfl⟩
  obtain ⟨m,hm⟩:∃ n,n=lb.length:=⟨_,rfl⟩
  rw [←hn] at HA h1 hpost hl hla ⊢
  rw [←hm] at HB h1 hl ⊢
  replace hn:=A8 hn
  replace hm:=A8 hm
  replace hl:=A8 hl
  clear hA hB
  generalize decide (la=lb)=bb at *
  go_enter Tryz.func67,Tryz.ntmps67
  go_wp2_with fail
  go_loopw [5] (fun o wr=>∃ i:Nat,o=.int .i64 i∧i≤n∧Hid (∀ j,j<i→sAt6 la j=sAt6 lb j)∧Hid (Below w.heap.size w wr)) (fun o _=>n-(intOf o).toNat)
  case atStart=>exact ⟨0,rfl,by omega,A8 (fun j hj=>absurd hj (by omega)),A8 (Below.refl _ _)⟩
  case round =>
   obtain ⟨i,rfl,hi,hall,hb⟩:=hrel
   by_cases hil:i<n
   case neg =>
    have hil':¬ (i:Int)<n:=by omega
    obtain rfl:i=n:=by omega
    have hp:=A8 (hpost.out true 0 (.inr ⟨rfl,hall.out⟩))
    go_wp2
    go_ret
    exact ⟨Ae hp.out.symm,hb.out⟩
   case pos =>
    have hil':(i:Int)<n:=by omega
    have hil2:(i:Int)<m:=by have:=hl.out;omega
    have hi0:(0:Int)≤i:=by omega
    obtain ⟨ba,oa,ea,hba,xa⟩:∃ b off,aa=some ⟨b,off,none⟩∧b<w.heap.size∧w.cell? ⟨b,off+i,none⟩=some (.string (sAt6 la i)):=by
     rcases HA.out with ⟨e,e2⟩ | ⟨b,off,cap',e,h1,h2,h3,h4⟩
     ·have:=hn.out;rw [e2] at this;simp at this;omega
     ·cases e
      have:=h4 i _ (JJ (by rw [←hn.out];exact hil))
      rw [Nat.mul_one] at this
      exact ⟨b,off,rfl,h3,this⟩
    obtain ⟨bb',ob,eb,hbb,xb⟩:∃ b off,ab=some ⟨b,off,none⟩∧b<w.heap.size∧w.cell? ⟨b,off+i,none⟩=some (.string (sAt6 lb i)):=by
     rcases HB.out with ⟨e,e2⟩ | ⟨b,off,cap',e,h1,h2,h3,h4⟩
     ·have e3:=hm.out;rw [e2] at e3;simp at e3;have:=hl.out;omega
     ·cases e
      have:=h4 i _ (JJ (by rw [←hm.out,←hl.out];exact hil))
      rw [Nat.mul_one] at this
      exact ⟨b,off,rfl,h3,this⟩
    subst ea
    subst eb
    replace xa:=(hb.out.cell (p:=⟨_,_,none⟩) hba).trans xa
    replace xb:=(hb.out.cell (p:=⟨_,_,none⟩) hbb).trans xb
    have hse:=LB (sAt6 la i) (sAt6 lb i)
    obtain ⟨sa,hsa⟩:∃ s,s=sAt6 la i:=⟨_,rfl⟩
    obtain ⟨sb,hsb⟩:∃ s,s=sAt6 lb i:=⟨_,rfl⟩
    rw [←hsa] at xa hse
    rw [←hsb] at xb hse
    replace hsa:=A8 hsa
    replace hsb:=A8 hsb
    have hb2:=A8 (hb.out.trans (Ac wr 1 |>.mono hb.out.size))
    by_cases heq:sa=sb
    ·rw [decide_eq_true heq] at hse
     have hall2:=A8 (show ∀ j,j<i+1→sAt6 la j=sAt6 lb j from fun j hj=>by
      by_cases e:j=i
      ·subst e;rw [←hsa.out,←hsb.out];exact heq
      ·exact hall.out j (by omega))
     clear heq hall
     go_upto_region 6 with fail
     go_region_held3 (fun w'=>w'.cell? ⟨ba,oa+i,none⟩=some (.string sa)∧w'.cell? ⟨bb',ob+i,none⟩=some (.string sb))
      (first | go_keep)
      (fail)
     all_goals (go_wp2_with fail;go_roundw)
     case rel=>exact ⟨i+1,by go_num,by omega,hall2,hb2⟩
     case measure=>simp [intOf];omega
    ·rw [decide_eq_false heq] at hse
     have hp:=A8 (hpost.out false i (.inl ⟨rfl,hil,by rw [←hsa.out,←hsb.out];exact heq⟩))
     clear heq
     go_upto_region 6 with fail
     go_region_held3 (fun w'=>w'.cell? ⟨ba,oa+i,none⟩=some (.string sa)∧w'.cell? ⟨bb',ob+i,none⟩=some (.string sb))
      (first | go_keep)
      (fail)
     all_goals (go_wp2;go_ret;exact ⟨Ae hp.out.symm,hb2.out⟩)
def twoL (a b:Int):List (List Int×Int):=[([1,1],a),([1,-1],b)]
theorem Bz (a b:Int) (w:World):Calls Tryz.prog 34 #[.int .i64 a,.int .i64 b] w fun e w'=>∃ v,e=.returned (.agg #[.int .i64 2,v])∧SlE w' v (twoL a b)∧Below w.heap.size w w':=by
 obtain ⟨V0,e0,S0,z0⟩:=(BL.start w).add' #[.int .i64 2,.slice (some ⟨w.heap.size+1+1+1,0,none⟩) 2 2] 27
 obtain ⟨V1,e1,S1,z1⟩:=S0.add' #[.int .i64 1,.int .i64 1] 3
 obtain ⟨V2,e2,S2,z2⟩:=S1.add' #[.int .i64 1,.int .i64 (-1)] 3
 obtain ⟨V3,e3,S3,z3⟩:=S2.add' #[.slice (some ⟨w.heap.size+1,0,none⟩) 2 2,.int .i64 a,.slice (some ⟨w.heap.size+1+1,0,none⟩) 2 2,.int .i64 b] 60
 rw [z0] at S1 S2 S3 z1
 rw [z1] at S2 S3 z2
 rw [z2] at S3
 have hV:V3=((((w.alloc (.cells #[.int .i64 2,.slice (some ⟨w.heap.size+1+1+1,0,none⟩) 2 2] 27)).alloc (.cells #[.int .i64 1,.int .i64 1] 3)).alloc (.cells #[.int .i64 1,.int .i64 (-1)] 3)).alloc (.cells #[.slice (some ⟨w.heap.size+1,0,none⟩) 2 2,.int .i64 a,.slice (some ⟨w.heap.size+1+1,0,none⟩) 2 2,.int .i64 b] 60)):=by rw [e3,e2,e1,e0]
 have hlt:=S3.lts
 have k0:=(S3.c2 (w.heap.size) _ _ _ (.tail _ (.tail _ (.tail _ (.head _)))))
 have hsl:SlE V3 (.slice (some ⟨w.heap.size+1+1+1,0,none⟩) 2 2) (twoL a b):=by
  have c4:=S3.c4 (w.heap.size+1+1+1) _ _ _ _ _ (.head _)
  have c1:=S3.c2 (w.heap.size+1) _ _ _ (.tail _ (.tail _ (.head _)))
  have c2:=S3.c2 (w.heap.size+1+1) _ _ _ (.tail _ (.head _))
  have l3:=hlt _ (.head _)
  have l1:=hlt _ (.tail _ (.tail _ (.head _)))
  have l2:=hlt _ (.tail _ (.head _))
  refine .inr ⟨w.heap.size+1+1+1,0,2,rfl,Aa _,by unfold maxLen;decide,l3,fun j x hj=>?_⟩
  match j,hj with
  | 0,hj =>
   cases hj
   exact ⟨_,c4.1,.inr ⟨w.heap.size+1,0,2,rfl,Aa _,by unfold maxLen;decide,l1,fun k hk=>(match k,hk with | 0,_=>c1.1 | 1,_=>c1.2)⟩,c4.2.1⟩
  | 1,hj =>
   cases hj
   exact ⟨_,c4.2.2.1,.inr ⟨w.heap.size+1+1,0,2,rfl,Aa _,by unfold maxLen;decide,l2,fun k hk=>(match k,hk with | 0,_=>c2.1 | 1,_=>c2.2)⟩,c4.2.2.2⟩
 have hfin:=S3.below
 rw [hV] at hsl hfin k0
 replace hsl:=A8 hsl
 replace hfin:=A8 hfin
 clear hlt hV e0 e1 e2 e3 S0 S1 S2 S3 z0 z1 z2 z3
 go_enter Tryz.func34,Tryz.ntmps34
 go_wp2
 exact bodyPost_ret (v:=.agg #[.int .i64 2,.slice (some ⟨w.heap.size+1+1+1,0,none⟩) 2 2]) (by simp [results,Tryz.results34,go_sem,k0.1,k0.2]) rfl ⟨_,rfl,hsl.out,hfin.out⟩
theorem LC (va vb:Value) (la lb:List ByteArray) (da db:ByteArray) (w:World) (hA:SlS w va la) (hB:SlS w vb lb) :
  Calls Tryz.prog 26 #[.agg #[va,.string da],.agg #[vb,.string db]] w (Rets w (.bool (decide (da=db)&&decide (la=lb)))):=by
 obtain ⟨aa,ca,rfl⟩:=hA.shape
 obtain ⟨ab,cb,rfl⟩:=hB.shape
 have HA:=A8 hA
 have HB:=A8 hB
 have ST:=A8 (fun W (h1:SlS W (.slice aa la.length ca) la) (h2:SlS W (.slice ab lb.length cb) lb)=>HQ _ _ la lb W h1 h2)
 clear hA hB
 have hs:=LB da db
 generalize decide (la=lb)=b2 at *
 generalize la.length=n at *
 generalize lb.length=m at *
 by_cases hd:da=db
 ·rw [decide_eq_true hd] at hs ⊢
  clear hd
  obtain ⟨V1,e1,S1,z1⟩:=(BL.start w).add' #[.slice aa n ca,.string da] 30
  obtain ⟨V2,e2,hS,z2⟩:=S1.add' #[.slice ab m cb,.string db] 30
  rw [z1] at hS
  have hV:V2=(w.alloc (.cells #[.slice aa n ca,.string da] 30)).alloc (.cells #[.slice ab m cb,.string db] 30):=by rw [e2,e1]
  clear e1 e2 S1 z1 z2
  obtain ⟨x0,x1⟩:=hS.c2 w.heap.size _ _ _ (.tail _ (.head _))
  obtain ⟨y0,y1⟩:=hS.c2 (w.heap.size+1) _ _ _ (.head _)
  go_enter Tryz.func26,Tryz.ntmps26
  go_upto_region 1 with fail
  rw [←hV]
  clear hV
  go_wp2_with fail
  refine Calls.mono (ST.out _ (HA.out.below hS.below) (HB.out.below hS.below)) ?_
  rintro e w1 ⟨rfl,hb⟩
  replace hS:=hS.call hb
  clear hb x0 x1 y0 y1
  go_wp2
  go_ret
  exact ⟨Ae (by simp),hS.below⟩
 ·rw [decide_eq_false hd] at hs ⊢
  clear hd
  obtain ⟨V1,e1,S1,z1⟩:=(BL.start w).add' #[.slice aa n ca,.string da] 30
  obtain ⟨V2,e2,hS,z2⟩:=S1.add' #[.slice ab m cb,.string db] 30
  rw [z1] at hS
  have hV:V2=(w.alloc (.cells #[.slice aa n ca,.string da] 30)).alloc (.cells #[.slice ab m cb,.string db] 30):=by rw [e2,e1]
  clear e1 e2 S1 z1 z2
  obtain ⟨x0,x1⟩:=hS.c2 w.heap.size _ _ _ (.tail _ (.head _))
  obtain ⟨y0,y1⟩:=hS.c2 (w.heap.size+1) _ _ _ (.head _)
  go_enter Tryz.func26,Tryz.ntmps26
  go_upto_region 1 with fail
  rw [←hV]
  clear hV
  go_wp2
  go_ret
  exact ⟨Ae (by simp),hS.below⟩
end
section
open Go.RowKit
structure NumL where
 cols:Int
 rows:Int
 coefs:List Int
 hidden:List Int
 miss:Int
def NumL.c (x:NumL):Nat:=(1+pkv x.cols 8).toNat
def NumL.r (x:NumL):Nat:=(1+pkv x.rows 5).toNat
def NumL.coef (x:NumL) (i j:Nat):Int:=pkv (atv x.coefs (i*x.c+j)) 19-9
def NumL.hid (x:NumL) (j:Nat):Int:=pkv (atv x.hidden j) 6
def NumL.sum (x:NumL) (i:Nat):Nat→Int
 | 0=>0
 | k+1=>x.sum i k+x.coef i k*x.hid k
def NumL.misses (x:NumL):Bool:=pkv x.miss 3==2
def NumL.hit (x:NumL) (i:Nat):Bool:=x.misses&&((i:Int)==pkv (x.miss.tdiv 3) x.r)
def NumL.val (x:NumL) (i:Nat):Int:=if x.hit i then x.sum i x.c+pkv (x.miss.tdiv 30) 41-20 else x.sum i x.c
def NumL.row (x:NumL) (i:Nat):List Int×Int:=((List.range x.c).map (x.coef i),x.val i)
def NumL.made (x:NumL):List (List Int×Int):=(List.range x.r).map x.row
theorem NumL.c_eq (x:NumL):(x.c:Int)=1+pkv x.cols 8∧1≤x.c∧x.c≤8:=by
 have h1:=Av (c:=x.cols) (m:=8) (by decide)
 have h2:=BF (c:=x.cols) (m:=8) (by decide)
 unfold NumL.c;omega
theorem NumL.r_eq (x:NumL):(x.r:Int)=1+pkv x.rows 5∧1≤x.r∧x.r≤5:=by
 have h1:=Av (c:=x.rows) (m:=5) (by decide)
 have h2:=BF (c:=x.rows) (m:=5) (by decide)
 unfold NumL.r;omega
theorem NumL.coef_bd (x:NumL) (i j:Nat):-9≤x.coef i j∧x.coef i j≤9:=by
 have h1:=Av (c:=atv x.coefs (i*x.c+j)) (m:=19) (by decide)
 have h2:=BF (c:=atv x.coefs (i*x.c+j)) (m:=19) (by decide)
 unfold NumL.coef;omega
theorem NumL.hid_bd (x:NumL) (j:Nat):0≤x.hid j∧x.hid j≤5:=by
 have h1:=Av (c:=atv x.hidden j) (m:=6) (by decide)
 have h2:=BF (c:=atv x.hidden j) (m:=6) (by decide)
 unfold NumL.hid;omega
theorem NumL.prod_bd (x:NumL) (i j:Nat):-45≤x.coef i j*x.hid j∧x.coef i j*x.hid j≤45:=by
 obtain ⟨h1,h2⟩:=x.coef_bd i j
 obtain ⟨h3,h4⟩:=x.hid_bd j
 generalize x.coef i j=a at *
 generalize x.hid j=b at *
 have e1:=Int.mul_le_mul_of_nonneg_right h2 h3
 have e2:=Int.mul_le_mul_of_nonneg_right h1 h3
 omega
theorem NumL.sum_bd (x:NumL) (i:Nat):∀ k:Nat,-45*(k:Int)≤x.sum i k∧x.sum i k≤45*(k:Int)
 | 0=>⟨by show _≤(0:Int);omega,by show (0:Int)≤_;omega⟩
 | k+1=>by
  obtain ⟨h1,h2⟩:=x.sum_bd i k
  obtain ⟨h3,h4⟩:=x.prod_bd i k
  show _≤x.sum i k+x.coef i k*x.hid k∧x.sum i k+x.coef i k*x.hid k≤_
  omega
theorem NumL.val_bd (x:NumL) (i:Nat):-400≤x.val i∧x.val i≤400:=by
 have h1:=Av (c:=x.miss.tdiv 30) (m:=41) (by decide)
 have h2:=BF (c:=x.miss.tdiv 30) (m:=41) (by decide)
 obtain ⟨h3,h4⟩:=x.sum_bd i x.c
 obtain ⟨_,_,h5⟩:=x.c_eq
 unfold NumL.val
 split <;> omega
theorem NumL.made_len (x:NumL):x.made.length=x.r:=by unfold NumL.made;simp
theorem NumL.made_valid (x:NumL):validL x.c x.made=true:=by
 obtain ⟨_,h1,h2⟩:=x.c_eq
 obtain ⟨_,h3,h4⟩:=x.r_eq
 unfold validL
 simp only [Bool.and_eq_true,decide_eq_true_eq,Bool.not_eq_true',List.any_eq_false,x.made_len]
 refine ⟨⟨⟨by omega,by omega⟩,by omega⟩,fun e he=>?_⟩
 unfold NumL.made at he
 obtain ⟨i,_,rfl⟩:=List.mem_map.1 he
 obtain ⟨v1,v2⟩:=x.val_bd i
 have hany:((List.range x.c).map (x.coef i)).any largeB=false:=by
  rw [List.any_eq_false]
  intro z hz
  obtain ⟨j,_,rfl⟩:=List.mem_map.1 hz
  obtain ⟨c1,c2⟩:=x.coef_bd i j
  unfold largeB
  simp;omega
 unfold badE NumL.row
 rw [hany]
 simp;omega
end
section
open Go.RowKit
attribute [local go_sem] Oper.semAt_some
theorem info_eq:(Tryz.prog.info? 60).map (fun i=>(i.zero,i.size,i.bytes))=some (some (.agg #[.slice none 0 0,.int .i64 0]),2,32):=by kernel_rfl
theorem GP {P:Program} {w:World} {base:Nat} (t ty e:TypeId) (z:Value) (bytes:Nat) (ht:P.underlying t=some (.slice e)) (hi:(P.info? e).map (fun i=>(i.zero,i.size,i.bytes))=some (some z,2,bytes)) (hz:z.cells.size=2)
  (v:Value) (n:Nat) (xs:List Value) (hown:w.ownsRow base e 2 v n xs) (g:Nat) (u1 u2:Value) (hu1:w.cell? ⟨g,0,none⟩=some u1) (hu2:w.cell? ⟨g,1,none⟩=some u2) (h1:u1.oneCell'=true) (h2:u2.oneCell'=true) (hn:(n+1)*bytes≤140737488355328) (hn2:n≤1000000) (hbase:base≤w.heap.size) :
  ∃ v' w',(Builtin.append_ #[t,t] ty #[v,.slice (some ⟨g,0,none⟩) 1 1]).run P w=.ok v' w'∧w'.ownsRow base e 2 v' (n+1) (xs++[u1,u2])∧w.grownBy w' v.ownBlock∧∀ b,v'.ownBlock=some b→v.ownBlock=some b∨w.heap.size≤b:=by
 obtain ⟨i0,hi,hz0,hz1,hz2⟩:=info_parts hi
 have hnews:∀ j y,[u1,u2][j]? = some y→w.cell? ((⟨g,0,none⟩:Addr).add j)=some y:=fun j y hj=>by
  match j,hj with
  | 0,hj=>cases hj;rw [AE];exact hu1
  | 1,hj=>cases hj;rw [AE];exact hu2
 have h1c:∀ y∈[u1,u2],y.oneCell'=true:=by
  intro y hy
  simp only [List.mem_cons,List.not_mem_nil,or_false] at hy
  rcases hy with rfl | rfl
  ·exact h1
  ·exact h2
 have blkOf:∀ {v':Value} {w':World} {n':Nat} {xs':List Value},w'.ownsRow w.heap.size e 2 v' n' xs'→∀ b,v'.ownBlock=some b→v.ownBlock=some b∨w.heap.size≤b:=fun h b hb=>.inr (h.lt b hb).1
 have hown0:=hown
 rcases hown.2 with ⟨rfl,rfl⟩ | ⟨g0,cap,cur,rfl,hb,hg,hcap,hmax,hsz,htk⟩
 ·obtain ⟨v',w',hrun,r1,r2,_⟩:=run_append_own (P:=P) w w.heap.size t ty e i0 z 2 bytes ht hi hz0 hz1 hz2 hz (by decide) (.slice none 0 0) 0 [] (World.ownsRow_nil w _ _ 2) ⟨g,0,none⟩ 1 1 [u1,u2] rfl hnews h1c (by unfold maxLen;omega) (by omega) (Aa _)
  obtain rfl:xs=[]:=List.eq_nil_of_length_eq_zero (by have:=hown.1;simpa using this)
  exact ⟨v',w',hrun,DJ r1 hbase,r2,blkOf r1⟩
 ·by_cases hroom:n+1≤cap
  ·obtain ⟨w',hrun,r1,r2⟩:=run_append_own_spare (P:=P) w base t ty e i0 2 ht hi hz1 g0 n cap xs hown0 ⟨g,0,none⟩ 1 1 [u1,u2] rfl hnews h1c hroom
   exact ⟨_,w',hrun,r1,r2,fun b hb=>.inl hb⟩
  ·obtain ⟨v',w',hrun,r1,r2⟩:=run_append_arg_grows (P:=P) w t ty e i0 z 2 bytes ht hi hz0 hz1 hz2 hz (by decide) ⟨g0,0,none⟩ n cap xs (by have:=hown.1;simpa using this) (fun j y hj=>hown0.cells (g:=g0) rfl j y hj) ⟨g,0,none⟩ 1 1 [u1,u2] rfl hnews (by omega) (by unfold maxLen;omega) hn
   exact ⟨v',w',hrun,DJ r1 hbase,⟨r2.os,r2.tape,r2.output,r2.size,fun k hk _=>r2.block k hk (by simp)⟩,blkOf r1⟩
theorem FM {o:Oper} {a:Act} {K:Act→World→Prop} {Q:Exit→Act→World→Prop} {w:World} {base:Nat} (t:TypeId) (ht:Tryz.prog.underlying t=some (.slice 60))
  (s x:Operand) (ho:o.op=.call { callee:=.builtin .append,args:=#[s,x],argTypes:=#[t,t] }) (v:Value) (n:Nat) (xs:List Value) (hs:a.eval s=v) (hown:w.ownsRow base 60 2 v n xs)
  (g:Nat) (u1 u2:Value) (hx:a.eval x=.slice (some ⟨g,0,none⟩) 1 1) (hu1:w.cell? ⟨g,0,none⟩=some u1) (hu2:w.cell? ⟨g,1,none⟩=some u2) (h1:u1.oneCell'=true) (h2:u2.oneCell'=true) (hn2:n≤1000000) (hbase:base≤w.heap.size)
  (h:∀ v' w',w'.ownsRow base 60 2 v' (n+1) (xs++[u1,u2])→w.grownBy w' v.ownBlock→(∀ b,v'.ownBlock=some b→v.ownBlock=some b∨w.heap.size≤b)→K (a.put o.dst v') w') :
  Oper.wp Tryz.prog o a w K Q:=by
 obtain ⟨v',w',hrun,r1,r2,r3⟩:=GP (P:=Tryz.prog) t o.type 60 _ 32 ht info_eq rfl v n xs hown g u1 u2 hu1 hu2 h1 h2 (by omega) hn2 hbase
 unfold Oper.wp
 simp [execOp,ho,resolve,invoke,builtin,hs,hx,hrun,Result.andThen]
 exact h v' w' r1 r2 r3
def mixR (x:MixA):List ByteArray×ByteArray×Int:=if mixB x=true then ((List.range x.na.length).map (fun j=>I (x.quo (j+1))),I (x.quo 0),0) else ([],⟨#[]⟩,60)
def MixP (x:MixA) (w:World) (e:Ending) (w':World):Prop:=Below w.heap.size w w'∧∃ v,SlS w' v (mixR x).1∧e=.returned (.tuple #[.agg #[v,.string (mixR x).2.1],.int .i64 (mixR x).2.2])
theorem MixP.bad {x:MixA} {w w':World} (h:mixB x=false) (hb:Below w.heap.size w w'):MixP x w (.returned (.tuple #[.agg #[.slice none 0 0,.string ⟨#[]⟩],.int .i64 60])) w':=by
 refine ⟨hb,.slice none 0 0,?_,?_⟩
 ·unfold mixR;rw [h];exact .inl ⟨rfl,rfl⟩
 ·unfold mixR;rw [h];rfl
theorem MixA.gcd_pos (x:MixA) (h:x.num 0≠0):∀ k,0<x.gcd (k+1)
 | 0=>by
  show 0<gcdZ 0 (x.num 0)
  unfold gcdZ;rw [Int.zero_gcd];omega
 | k+1=>by
  show 0<gcdZ (x.gcd (k+1)) (x.num (k+1))
  have h1:=x.gcd_pos h k
  have:Int.gcd (x.gcd (k+1)) (x.num (k+1))≠0:=fun e=>by rw [Int.gcd_eq_zero_iff] at e;omega
  unfold gcdZ;omega
theorem MixA.gcd_small (x:MixA) {m:Nat} (h:∀ j,j<m→Small (x.num j)):∀ {k:Nat},k≤m→Small (x.gcd k)
 | 0,_=>EP
 | k+1,hk=>J1 (x.gcd_small h (by omega)) (h k (by omega))
theorem numB_I {z:Int} (h:Small z):numB (I z)=decide (Bd 100 z):=by unfold numB;rw [BS h,BA,Bool.true_and]
def MixA.row (x:MixA) (i j:Nat):ByteArray:=if j<i then I (x.quo j) else I (x.num j)
theorem MixA.row_open (x:MixA) {n base g c:Nat} {W:World} (hf:x.flag n=true) (h:W.ownsRow base 9 1 (.slice (some ⟨g,0,none⟩) (n+1) c) (n+1) ((List.range (n+1)).map fun j=>.string (x.txt j))) :
  ∃ cs,Blk W g cs 9∧base≤g∧n+1≤c∧c≤maxLen∧∀ j,j≤n→cs[j]? = some (.string (x.row 0 j)):=by
 rcases h.2 with ⟨e,_⟩ | ⟨g',cap,cur,e,hb,hg,hn,hm,hs,ht⟩
 ·cases e
 ·cases e
  have hk:Blk W g cur 9:=hg
  refine ⟨cur,hk,hb,hn,hm,fun j hj=>?_⟩
  have hc:=h.cells (g:=g) rfl j (.string (x.txt j)) (by simp [List.getElem?_map,List.getElem?_range (show j<n+1 by omega)])
  have hadd:(⟨g,0,none⟩:Addr).add j=⟨g,0+j,none⟩:=by unfold Addr.add;split <;> simp_all
  rw [hadd,Nat.zero_add,hk.cell j,(x.good (x.flag_le hf hj)).1] at hc
  rw [hc];unfold MixA.row;rw [if_neg (by omega)]
theorem MixA.row_set (x:MixA) {n i:Nat} {cs:Array Value} (h:∀ j,j≤n→cs[j]? = some (.string (x.row i j))) (hi:i≤n):∀ j,j≤n→(cs.setIfInBounds i (.string (I (x.quo i))))[j]? = some (.string (x.row (i+1) j)):=fun j hj=>by
 rw [Array.getElem?_setIfInBounds]
 have hsz:i<cs.size:=(Array.getElem?_eq_some_iff.1 (h i hi)).1
 by_cases e:i=j
 ·subst e;rw [if_pos rfl,if_pos hsz];unfold MixA.row;rw [if_pos (by omega)]
 ·rw [if_neg e,h j hj];unfold MixA.row
  by_cases e2:j<i
  ·rw [if_pos e2,if_pos (by omega)]
  ·rw [if_neg e2,if_neg (by omega)]
theorem far_two {W:World} {g b:Nat} {u x y:Value} (hg:g≠b) (h:W.cell? ⟨g,0,none⟩=some u):((W.setCell ⟨b,0,none⟩ x).setCell ⟨b,1,none⟩ y).cell? ⟨g,0,none⟩=some u:=by
 have hon:Only [b] W ((W.setCell ⟨b,0,none⟩ x).setCell ⟨b,1,none⟩ y):=((Only.refl [b] W).setCell (p:=⟨b,0,none⟩) (by simp) _).setCell (p:=⟨b,1,none⟩) (by simp) _
 have hlt:g<W.heap.size:=by
  rcases Nat.lt_or_ge g W.heap.size with h1 | h1
  ·exact h1
  ·exfalso;simp [World.cell?,Array.getElem?_eq_none h1] at h
 exact (hon.cell (p:=⟨g,0,none⟩) hlt (by simpa using hg)).trans h
theorem MixA.small_m (x:MixA) {n m:Nat} (hm:m=n+1) (h:∀ j,j<n+1→Small (x.num j)):∀ j,j<m→Small (x.num j):=by subst hm;exact h
structure MixI (x:MixA) (w W8:World) (n gf:Nat) (i:Nat) (cs:Array Value) (wr:World):Prop where
 blk:Blk wr gf cs 9
 row:∀ j,j≤n→cs[j]? = some (.string (x.row i j))
 bd:∀ j,j<i→Bd 100 (x.quo j)
 bel:Below w.heap.size w wr
 res:Blk wr (w.heap.size+2) #[.slice none 0 0,.string ⟨#[]⟩] 30
theorem MixI.call {x:MixA} {w W8 W W':World} {n gf i:Nat} {cs:Array Value} (h:MixI x w W8 n gf i cs W) (hb:Below W.heap.size W W'):MixI x w W8 n gf i cs W' :=
 ⟨h.blk.below hb,h.row,h.bd,h.bel.trans (hb.mono h.bel.size),h.res.below hb⟩
theorem MixP.good {x:MixA} {w w':World} {v:Value} (h:mixB x=true) (hb:Below w.heap.size w w') (hs:SlS w' v ((List.range x.na.length).map (fun j=>I (x.quo (j+1))))):MixP x w (.returned (.tuple #[.agg #[v,.string (I (x.quo 0))],.int .i64 0])) w':=by
 refine ⟨hb,v,?_,?_⟩
 ·unfold mixR;rw [if_pos h];exact hs
 ·unfold mixR;rw [if_pos h]
theorem MixI.slice {x:MixA} {w W8 W W':World} {n gf k cf:Nat} {cs:Array Value} (h:MixI x w W8 n gf k cs W) (hk:k=n+1) (hc:k≤cf) (hm:cf≤maxLen) (_hn:n=x.na.length) (hon:Only [w.heap.size+2] W W') (hne:gf≠w.heap.size+2) :
  SlS W' (.slice (if cf=1 then some ⟨gf,0,none⟩ else some ⟨gf,1,none⟩) (k-1) (cf-1)) ((List.range n).map (fun j=>I (x.quo (j+1)))):=by
 have hb:Blk W' gf cs 9:=(hon.block _ h.blk.lt (by simpa using hne)).trans h.blk
 have hl:((List.range n).map (fun j=>I (x.quo (j+1)))).length=k-1:=by simp;omega
 by_cases e:cf=1
 ·rw [if_pos e]
  refine .inr ⟨gf,0,cf-1,by rw [hl],by rw [hl];omega,by omega,hb.lt,fun j y hj=>?_⟩
  have:=(List.getElem?_eq_some_iff.1 hj).1
  rw [hl] at this;omega
 ·rw [if_neg e]
  refine .inr ⟨gf,1,cf-1,by rw [hl],by rw [hl];omega,by omega,hb.lt,fun j y hj=>?_⟩
  have hjl:=(List.getElem?_eq_some_iff.1 hj).1
  rw [hl] at hjl
  rw [List.getElem?_map,List.getElem?_range (by omega)] at hj
  have hy:=(Option.some.inj hj).symm
  show W'.cell? ⟨gf,1+j*1,none⟩=some (.string y)
  rw [hb.cell,Nat.mul_one,Nat.add_comm,h.row (j+1) (by omega),show x.row k (j+1)=I (x.quo (j+1)) from if_pos (by omega),hy]
theorem MixI.put {x:MixA} {w W8 W:World} {n gf i:Nat} {cs:Array Value} (h:MixI x w W8 n gf i cs W) (hi:i≤n) (hg:w.heap.size+2<gf) :
  Blk (W.setCell ⟨gf,i,none⟩ (.string (I (x.quo i)))) gf (cs.setIfInBounds i (.string (I (x.quo i)))) 9∧(∀ j,j≤n→(cs.setIfInBounds i (.string (I (x.quo i))))[j]? = some (.string (x.row (i+1) j)))∧Below w.heap.size w (W.setCell ⟨gf,i,none⟩ (.string (I (x.quo i))))∧Blk (W.setCell ⟨gf,i,none⟩ (.string (I (x.quo i)))) (w.heap.size+2) #[.slice none 0 0,.string ⟨#[]⟩] 30:=by
 have hon:Only [gf] W (W.setCell ⟨gf,i,none⟩ (.string (I (x.quo i)))):=(Only.refl [gf] W).setCell (p:=⟨gf,i,none⟩) (by simp) _
 exact ⟨h.blk.set i _,x.row_set h.row hi,h.bel.trans (hon.toBelow h.bel.size (by intro z hz;rw [List.mem_singleton.1 hz];omega)),(hon.block _ h.res.lt (by simp;omega)).trans h.res⟩
theorem mix_ok (x:MixA) (va vb:Value) (w:World) (hE:Env w) (hA:SlS w va x.na) (hB:SlS w vb x.nb) (h:mixArg x=true) :
  Calls Tryz.prog 23 #[.agg #[va,.string x.da],.agg #[vb,.string x.db],.int .i64 x.p,.int .i64 x.q] w (MixP x w):=by
 obtain ⟨aa,ca,rfl⟩:=hA.shape
 obtain ⟨ab,cb,rfl⟩:=hB.shape
 have hmB:mixB x=(x.flag x.na.length&&(List.range (x.na.length+1)).all (fun i=>decide (Bd 100 (x.quo i)))):=by unfold mixB;rw [h,Bool.true_and]
 unfold mixArg at h
 simp only [Bool.and_eq_true,decide_eq_true_eq] at h
 obtain ⟨⟨⟨⟨h1,h2⟩,h3⟩,h4⟩,h5⟩:=h
 obtain ⟨g1,g2,g3,g4,g5⟩:=Bq h1
 obtain ⟨t1,t2,t3,t4,t5⟩:=Bq h2
 have FA:=fun W (hW:SlS W (.slice aa x.na.length ca) x.na)=>Bw _ x.na x.da W hW
 have FB:=fun W (hW:SlS W (.slice ab x.nb.length cb) x.nb)=>Bw _ x.nb x.db W hW
 have P3:=Cq x.p 1 1000
 have P4:=Cq x.q 1 1000
 rw [show (decide (1≤x.p)&&decide (x.p≤1000))=true by simp [h4]] at P3
 rw [show (decide (1≤x.q)&&decide (x.q≤1000))=true by simp [h5]] at P4
 rw [h1] at FA
 rw [h2] at FB
 have hnum0:x.num 0≠0:=by
  have:=Int.mul_pos (Int.mul_pos (show 0<x.p+x.q by omega) g5) t5
  show (x.p+x.q)*zS x.da*zS x.db≠0
  omega
 obtain ⟨n,hn⟩:∃ n,n=x.na.length:=⟨_,rfl⟩
 have hn2:n=x.nb.length:=by omega
 have HA:=A8 hA
 have HB:=A8 hB
 have hok:Hid ((∀ i,i<n→okS (sAt x.na i)=true∧okS (sAt x.nb i)=true)∧okS x.da=true∧okS x.db=true):=A8 ⟨fun i hi=>⟨(g2 i (by omega)).1,(t2 i (by omega)).1⟩,g3,t3⟩
 have hpq:Hid ((1≤x.p∧x.p≤1000)∧(1≤x.q∧x.q≤1000)):=A8 ⟨h4,h5⟩
 have hnn:Hid (n=x.na.length∧n=x.nb.length∧n≤64):=A8 ⟨hn,hn2,by omega⟩
 clear hA hB h1 h2 h3 h4 h5 g1 g2 g3 g4 g5 t1 t2 t3 t4 t5
 rw [←hn] at FA HA hmB ⊢
 rw [←hn2] at FB HB ⊢
 replace FA:=A8 FA
 replace FB:=A8 FB
 replace P3:=A8 P3
 replace P4:=A8 P4
 replace hE:=A8 hE
 replace hmB:=A8 hmB
 replace hnum0:=A8 hnum0
 replace hn:=A8 hn
 clear hn2
 obtain ⟨V1,e1,S1,z1⟩:=(BL.start w).add' #[.slice aa n ca,.string x.da] 30
 obtain ⟨V2,e2,S2,z2⟩:=S1.add' #[.slice ab n cb,.string x.db] 30
 obtain ⟨V3,e3,hS,z3⟩:=S2.add' #[.slice none 0 0,.string ⟨#[]⟩] 30
 rw [z2,z1] at hS
 replace hS:BL w [(w.heap.size+2,#[.slice none 0 0,.string ⟨#[]⟩],30),(w.heap.size+1,#[.slice ab n cb,.string x.db],30),(w.heap.size,#[.slice aa n ca,.string x.da],30)] V3:=hS
 have hV:V3=((w.alloc (.cells #[.slice aa n ca,.string x.da] 30)).alloc (.cells #[.slice ab n cb,.string x.db] 30)).alloc (.cells #[.slice none 0 0,.string ⟨#[]⟩] 30):=by rw [e3,e2,e1]
 have zz:=A8 (show V3.heap.size=w.heap.size+3 by rw [z3,z2,z1])
 clear e1 e2 e3 S1 S2 z1 z2 z3
 obtain ⟨x0,x1⟩:=hS.c2 w.heap.size _ _ _ (.tail _ (.tail _ (.head _)))
 obtain ⟨y0,y1⟩:=hS.c2 (w.heap.size+1) _ _ _ (.tail _ (.head _))
 go_enter Tryz.func23,Tryz.ntmps23
 go_upto_region 1 with fail
 rw [←hV]
 clear hV
 go_wp2_with fail
 refine Calls.mono (FA.out _ (HA.out.below hS.below)) ?_
 rintro e w1 ⟨rfl,hb⟩
 replace hS:=hS.call hb
 have hsz1:=A8 hb.size
 clear x0 x1 y0 y1 hb
 obtain ⟨x0,x1⟩:=hS.c2 w.heap.size _ _ _ (.tail _ (.tail _ (.head _)))
 obtain ⟨y0,y1⟩:=hS.c2 (w.heap.size+1) _ _ _ (.tail _ (.head _))
 go_wp2_with fail
 refine Calls.mono (FB.out _ (HB.out.below hS.below)) ?_
 rintro e w2 ⟨rfl,hb⟩
 replace hS:=hS.call hb
 have hsz2:=A8 hb.size
 clear x0 x1 y0 y1 hb
 obtain ⟨x0,x1⟩:=hS.c2 w.heap.size _ _ _ (.tail _ (.tail _ (.head _)))
 obtain ⟨y0,y1⟩:=hS.c2 (w.heap.size+1) _ _ _ (.tail _ (.head _))
 go_wp2_with fail
 refine Calls.mono (P3.out _) ?_
 rintro e w3 ⟨rfl,hb⟩
 replace hS:=hS.call hb
 have hsz3:=A8 hb.size
 clear x0 x1 y0 y1 hb
 obtain ⟨x0,x1⟩:=hS.c2 w.heap.size _ _ _ (.tail _ (.tail _ (.head _)))
 obtain ⟨y0,y1⟩:=hS.c2 (w.heap.size+1) _ _ _ (.tail _ (.head _))
 go_wp2_with fail
 refine Calls.mono (P4.out _) ?_
 rintro e w4 ⟨rfl,hb⟩
 replace hS:=hS.call hb
 have hsz4:=A8 hb.size
 clear x0 x1 y0 y1 hb
 obtain ⟨x0,x1⟩:=hS.c2 w.heap.size _ _ _ (.tail _ (.tail _ (.head _)))
 obtain ⟨y0,y1⟩:=hS.c2 (w.heap.size+1) _ _ _ (.tail _ (.head _))
 go_upto_region 5 with fail
 clear x0 x1 y0 y1
 have hlt4:w.heap.size+3≤w4.heap.size:=by have:=zz.out;have:=hsz1.out;have:=hsz2.out;have:=hsz3.out;have:=hsz4.out;omega
 obtain ⟨W5,hW5⟩:∃ W,W=w4.alloc (.cells #[.bool true] 4):=⟨_,rfl⟩
 rw [←hW5]
 have hk5:Blk W5 w4.heap.size #[.bool true] 4:=by rw [hW5];exact Blk.new w4 #[.bool true] 4
 have hs5:W5.heap.size=w4.heap.size+1:=by rw [hW5,World.size_alloc]
 have ho5:Only [] w4 W5:=by rw [hW5];exact (Only.refl [] w4).alloc _
 have hS5:=hS.call (ho5.toBelow (Aa _) (by simp))
 clear hW5 ho5 hS hsz1 hsz2 hsz3 hsz4 zz FA FB P3 P4
 generalize w4.heap.size=Bk at *
 have hA5:=hS5.blks _ (.tail _ (.tail _ (.head _)))
 have hB5:=hS5.blks _ (.tail _ (.head _))
 have hR5:=hS5.blks _ (.head _)
 dsimp only at hA5 hB5 hR5
 have cc:∀ (W:World),Only [Bk] W5 W→Blk W w.heap.size #[.slice aa n ca,.string x.da] 30∧Blk W (w.heap.size+1) #[.slice ab n cb,.string x.db] 30∧Blk W (w.heap.size+2) #[.slice none 0 0,.string ⟨#[]⟩] 30:=fun W hW =>
  ⟨(hW.block _ hA5.lt (by simp;omega)).trans hA5,(hW.block _ hB5.lt (by simp;omega)).trans hB5,(hW.block _ hR5.lt (by simp;omega)).trans hR5⟩
 replace cc:=A8 cc
 replace hs5:=A8 hs5
 replace hlt4:=A8 hlt4
 have hbel5:=A8 hS5.below
 clear hA5 hB5 hR5 hS5
 refine mix_r5 (p:=x.p) (q:=x.q) (pq:=x.p+x.q) (b0:=w.heap.size) (b1:=w.heap.size+1) (Bk:=Bk) (da:=x.da) (db:=x.db) (w0:=w) hE (A8 ⟨hbel5.out,by have:=hlt4.out;omega⟩) (by have:=hpq.out;exact IntWalk.i64_in _ (by omega)) (A8 (by have:=hpq.out;exact ⟨by unfold Fits;omega,(bd11 (by omega)).small (by decide)⟩)) (A8 hok.out.2)
  (A8 (fun W hW=>⟨(cc.out W hW).1.cell 1,(cc.out W hW).2.1.cell 1⟩)) (A8 (by have:=hs5.out;omega)) (A8 hk5) (by kernel_rfl) ?_
 intro v50 v51 v52 v53 v54 v55 v56 v57 v58 v59 v60 v61 gr W6 hO6 hk6 hr6
 clear hk5
 obtain ⟨a6,b6,r6⟩:=cc.out W6 hO6
 have hbel6:=A8 (hbel5.out.trans (hO6.toBelow hbel5.out.size (by intro z hz;rw [List.mem_singleton.1 hz];have:=hlt4.out;omega)))
 have hs6:=A8 hO6.size
 have x0:=a6.cell 0
 replace a6:=A8 a6
 replace b6:=A8 b6
 replace r6:=A8 r6
 replace hk6:=A8 hk6
 replace hr6:=A8 hr6
 clear hO6 cc
 go_wp2_with fail
 refine mix_l0 (x:=x) (b0:=w.heap.size) (b1:=w.heap.size+1) (Bk:=Bk) (n:=n) (base:=W5.heap.size) (g0:=gr) (w0:=w) hE (A8 ⟨hbel6.out,by have:=hlt4.out;omega,by have:=hs5.out;omega,hs6.out⟩) hpq hnn hok
  (A8 ⟨⟨by have:=hs5.out;have:=hlt4.out;omega,by have:=hlt4.out;omega,a6.out.cell 0,a6.out.cell 1⟩,⟨by have:=hs5.out;have:=hlt4.out;omega,by have:=hlt4.out;omega,b6.out.cell 0,b6.out.cell 1⟩⟩) HA HB hk6 hr6 (by kernel_rfl) ?_
 intro gf cf u13 u14 u15 u65 u66 u67 u68 u69 u70 u71 u72 u73 u74 u75 u76 u77 u78 u79 u80 u81 u82 u83 u84 u85 u86 u87 u88 u89 u90 u91 u92 u93 u94 u95 u96 u97 u98 u99 u100 u101 u102 u103 u104 u105 W7 hbW hk7 hr7 hs7
 have kR:Hid (Blk W7 (w.heap.size+2) #[.slice none 0 0,.string ⟨#[]⟩] 30):=A8 ((hs7.out (w.heap.size+2) (by have:=hs5.out;have:=hlt4.out;omega) (by have:=hlt4.out;omega)).trans r6.out:Blk W7 (w.heap.size+2) #[.slice none 0 0,.string ⟨#[]⟩] 30)
 have hbs:=A8 (show w.heap.size+3<W5.heap.size by have:=hs5.out;have:=hlt4.out;omega)
 clear x0 hs7 r6 a6 b6 hs6 hbel6 hbel5 hs5 hlt4 hk6 hr6 HA HB hok hpq
 have z0:=(hk7.out.cell 0).trans (show _=some (Value.bool (x.flag n)) from rfl)
 cases hfl:x.flag n
 case false =>
  rw [hfl] at z0
  have hbad:Hid (mixB x=false):=A8 (by rw [hmB.out,hfl];rfl)
  have f0:=kR.out.frozen 0
  have f1:=kR.out.frozen 1
  have r0:=(kR.out.cell 0).trans (show _=some (Value.slice none 0 0) from rfl)
  have r1:=(kR.out.cell 1).trans (show _=some (Value.string ⟨#[]⟩) from rfl)
  obtain ⟨⟨k0,k1⟩,hfin,-⟩:=CU kR.out (by show w.heap.size≤w.heap.size+2;omega) hbW.out (.slice none 0 0) (.string ⟨#[]⟩)
  have hfin:=A8 (MixP.bad hbad.out hfin)
  try dsimp only at k0 k1
  clear kR hbW hbad hk7 hr7 hfl
  go_wp2
  exact bodyPost_ret (v:=.tuple #[.agg #[.slice none 0 0,.string ⟨#[]⟩],.int .i64 60]) (by simp [results,Tryz.results23,go_sem,k0,k1]) rfl hfin.out
 case true =>
  rw [hfl] at z0
  obtain ⟨cs,kr,hgb,hnc,hcm,hcs⟩:=x.row_open hfl hr7.out
  have hsm:∀ j,j<n+1→Small (x.num j):=fun j hj=>(x.good (x.flag_le hfl (show j≤n by omega))).2
  clear hk7 hr7
  obtain ⟨m,hm⟩:∃ m,m=n+1:=⟨_,rfl⟩
  rw [←hm] at hnc ⊢
  have hsM:=A8 (x.small_m hm hsm)
  have I1:MixI x w W7 n gf 0 cs W7:=⟨kr,hcs,fun j hj=>by omega,hbW.out,kR.out⟩
  replace I1:=A8 I1
  have hgp:Hid (0<x.gcd m):=A8 (by rw [hm];exact x.gcd_pos hnum0.out n)
  have hg2:Hid (w.heap.size+2<gf):=A8 (by have:=hbs.out;omega)
  replace hmB:Hid (mixB x=(List.range m).all fun i=>decide (Bd 100 (x.quo i))):=A8 (by rw [hmB.out,hfl,hm];rfl)
  have hqe:Hid (∀ i,x.quo i=x.num i / x.gcd m):=A8 (fun i=>by unfold MixA.quo;rw [hm,hn.out])
  have hI0:Value.string ⟨#[48]⟩=.string (I (x.gcd 0)):=by rw [show x.gcd 0=0 from rfl,JX]
  have hm64:m≤65:=by have:=hnn.out.2.2;omega
  replace hm:=A8 hm
  replace hI0:=A8 hI0
  replace hfl:=A8 hfl
  clear hsm hcs kr kR hbW hbs hgb hnn hnum0
  go_wp2_with fail
  go_loopw [16,111] (fun s o wr=>∃ i:Nat,s=.string (I (x.gcd i))∧o=.int .i64 i∧i≤m∧Hid (Below W7.heap.size W7 wr)) (fun _ o _=>m-(intOf o).toNat)
  case atStart=>exact ⟨0,hI0.out,rfl,by omega,A8 (Below.refl _ _)⟩
  case round =>
   clear z0
   obtain ⟨i,rfl,rfl,hi,hB⟩:=hrel
   by_cases him:i<m
   case pos =>
    have him':(i:Int)<m:=by omega
    have hi0:(0:Int)≤i:=by omega
    have y0:=((I1.out.call hB.out).blk.cell i).trans ((I1.out.call hB.out).row i (by have:=hm.out;omega))
    rw [show x.row 0 i=I (x.num i) from if_neg (by omega)] at y0
    have GC:=A8 (fun W (hW:Env W)=>(by have:=gcd_any (I (x.gcd i)) (I (x.num i)) W hW;rw [BS (x.gcd_small hsM.out hi),BS (hsM.out i him),BA,BA,Bool.and_self,show gcdZ (x.gcd i) (x.num i)=x.gcd (i+1) from rfl,BE (x.gcd_small hsM.out him)] at this;exact this:Calls Tryz.prog 60 #[.string (I (x.gcd i)),.string (I (x.num i))] W (Gives W fun r _=>r=.tuple #[.string (I (x.gcd (i+1))),.int .i64 0])))
    have hEr:=A8 (hE.out.below (I1.out.call hB.out).bel (Aa _))
    generalize I (x.num i)=t1 at *
    generalize I (x.gcd i)=t2 at *
    generalize ht3:I (x.gcd (i+1))=t3 at *
    replace ht3:=A8 ht3
    go_wp2_with fail
    refine Calls.mono (GC.out _ hEr.out) ?_
    rintro e w9 ⟨⟨r,rfl,rfl⟩,hb⟩
    replace hB:=A8 (hB.out.trans (hb.mono hB.out.size))
    clear y0 GC hEr hb
    go_wp2_with fail
    go_roundw
    case rel=>exact ⟨i+1,by rw [ht3.out],by go_num,by omega,hB⟩
    case measure=>simp [intOf];omega
   case neg =>
    have him':¬ (i:Int)<m:=by omega
    obtain rfl:i=m:=by omega
    replace I1:=A8 (I1.out.call hB.out)
    clear hB hi
    have hGs:=A8 (x.gcd_small hsM.out (Aa _))
    go_wp2_with fail
    go_loopw [124] (fun o wr2=>∃ (k:Nat) (ds:Array Value),o=.int .i64 k∧k≤i∧Hid (MixI x w W7 n gf k ds wr2)) (fun o _=>i-(intOf o).toNat)
    case atStart=>exact ⟨0,cs,rfl,by omega,I1⟩
    case round =>
     clear I1 him him'
     obtain ⟨k,ds,rfl,hk,J⟩:=hrel
     by_cases hki:k<i
     case pos =>
      have hki':(k:Int)<i:=by omega
      have hk0:(0:Int)≤k:=by omega
      have hkn:k≤n:=by have:=hm.out;omega
      have y0:=(J.out.blk.cell k).trans (J.out.row k hkn)
      rw [show x.row k k=I (x.num k) from if_neg (by omega)] at y0
      have hqs:Small (x.quo k):=by rw [hqe.out];exact (DU (hsM.out k hki)).1
      have DV:=A8 (fun W (hW:Env W)=>(by have:=div_any (I (x.num k)) (I (x.gcd i)) W hW;rw [BS hGs.out,BS (hsM.out k hki),BA,BA,Bool.and_self] at this;unfold divT at this;rw [if_pos (by have:=hgp.out;simp;omega),←hqe.out k] at this;exact this:Calls Tryz.prog 61 #[.string (I (x.num k)),.string (I (x.gcd i))] W (Gives W fun r _=>r=.tuple #[.string (I (x.quo k)),.string (I (x.num k % x.gcd i)),.int .i64 0])))
      have IN:=A8 (fun W=>(by have:=CJ (I (x.quo k)) W;rw [numB_I hqs] at this;exact this:Calls Tryz.prog 62 #[.string (I (x.quo k))] W (Rets W (.bool (decide (Bd 100 (x.quo k)))))))
      have hEr:=A8 (hE.out.below J.out.bel (Aa _))
      obtain ⟨tq,htq⟩:∃ t,t=I (x.quo k):=⟨_,rfl⟩
      rw [←htq] at DV IN
      generalize I (x.num k)=t1 at *
      generalize ht2:I (x.gcd i)=t2 at *
      generalize I (x.num k % x.gcd i)=t3 at *
      replace ht2:=A8 ht2
      clear hqs
      go_wp2_with fail
      refine Calls.mono (DV.out _ hEr.out) ?_
      rintro e w9 ⟨⟨r,rfl,rfl⟩,hb⟩
      replace J:=A8 (J.out.call hb)
      clear y0 DV hEr hb
      have y0:=(J.out.blk.cell k).trans (J.out.row k hkn)
      have y1:=J.out.blk.frozen k
      obtain ⟨q1,q2,q3,q4⟩:=J.out.put hkn hg2.out
      rw [←htq] at q1 q2 q3 q4
      have q5:=(q1.cell k).trans ((q2 k hkn).trans (by rw [show x.row (k+1) k=I (x.quo k) from if_pos (by omega),←htq]))
      replace htq:=A8 htq
      replace q1:=A8 q1
      replace q2:=A8 q2
      replace q3:=A8 q3
      replace q4:=A8 q4
      go_upto_region 25 with fail
      generalize w9.setCell ⟨gf,k,none⟩ (.string tq)=W10 at *
      clear y0 y1
      go_wp2_with fail
      refine Calls.mono (IN.out _) ?_
      rintro e w11 ⟨rfl,hb⟩
      replace q1:=A8 (q1.out.below hb)
      replace q3:=A8 (q3.out.trans (hb.mono q3.out.size))
      replace q4:=A8 (q4.out.below hb)
      clear q5 hb IN
      by_cases hbd:Bd 100 (x.quo k)
      ·rw [decide_eq_true hbd]
       have J2:=A8 (⟨q1.out,q2.out,fun j hj=>if e:j=k then e ▸ hbd else J.out.bd j (by omega),q3.out,q4.out⟩:MixI x w W7 n gf (k+1) _ w11)
       clear q1 q2 q3 q4 J hbd
       go_wp2_with fail
       go_roundw
       case rel=>exact ⟨k+1,_,by go_num,by omega,J2⟩
       case measure=>simp [intOf];omega
      ·rw [decide_eq_false hbd]
       have hbad:Hid (mixB x=false):=A8 (by rw [hmB.out,List.all_eq_false];exact ⟨k,List.mem_range.2 hki,by simpa using hbd⟩)
       have hbW:=q3
       have kR:=q4
       clear q1 q2 q3 q4 hbd J
       have f0:=kR.out.frozen 0
       have f1:=kR.out.frozen 1
       have r0:=(kR.out.cell 0).trans (show _=some (Value.slice none 0 0) from rfl)
       have r1:=(kR.out.cell 1).trans (show _=some (Value.string ⟨#[]⟩) from rfl)
       obtain ⟨⟨k0,k1⟩,hfin,-⟩:=CU kR.out (by show w.heap.size≤w.heap.size+2;omega) hbW.out (.slice none 0 0) (.string ⟨#[]⟩)
       have hfin:=A8 (MixP.bad hbad.out hfin)
       try dsimp only at k0 k1
       clear kR hbW hbad
       go_wp2
       exact bodyPost_ret (v:=.tuple #[.agg #[.slice none 0 0,.string ⟨#[]⟩],.int .i64 60]) (by simp [results,Tryz.results23,go_sem,k0,k1]) rfl hfin.out
     case neg =>
      have hki':¬ (k:Int)<i:=by omega
      obtain rfl:k=i:=by omega
      have hgood:Hid (mixB x=true):=A8 (by rw [hmB.out,List.all_eq_true];intro j hj;simpa using J.out.bd j (List.mem_range.1 hj))
      have hk1:(1:Int)≤k:=by have:=hm.out;omega
      have hkc:(k:Int)≤cf:=by omega
      have y0:=(J.out.blk.cell 0).trans (J.out.row 0 (by omega))
      rw [show x.row k 0=I (x.quo 0) from if_pos (by omega)] at y0
      have hne:gf≠w.heap.size+2:=by have:=hg2.out;omega
      have f0:=J.out.res.frozen 0
      have f1:=J.out.res.frozen 1
      have r0:=(J.out.res.cell 0).trans (show _=some (Value.slice none 0 0) from rfl)
      have r1:=(J.out.res.cell 1).trans (show _=some (Value.string ⟨#[]⟩) from rfl)
      go_upto_region 28 with fail
      clear hE hqe hm64 hsM hmB
      have hC:=A8 (fun (W:World) (hW:Below wr.heap.size wr W)=>(hW.cell (p:=⟨gf,0,none⟩) J.out.blk.lt).trans y0)
      have hk01:(0:Int)<k:=by omega
      have hk02:0<k:=by omega
      have hk03:1≤k:=by omega
      have hk04:1≤cf:=by omega
      have hk05:k≤cf:=by omega
      have hk06:(1:Int)≤cf:=by omega
      generalize hq0:I (x.quo 0)=q0 at *
      replace hq0:=A8 hq0
      go_region_held3 (fun w'=>w'.cell? ⟨gf,0,none⟩=some (.string q0))
       (first | (with_reducible exact y0) | (with_reducible exact hC.out _ (Ac wr 1)) | (refine far_two hne ?_;first | (with_reducible exact y0) | (with_reducible exact hC.out _ (Ac wr 1))) | go_keep) (fail)
      obtain ⟨⟨k0,k1⟩,hfin,hon⟩:=CU J.out.res (by show w.heap.size≤w.heap.size+2;omega) J.out.bel (.slice (if cf=1 then some ⟨gf,0,none⟩ else some ⟨gf,1,none⟩) (k-1) (cf-1)) (.string q0)
      have hsl:=J.out.slice hm.out hnc hcm hn.out hon hne
      try dsimp only at k0 k1
      generalize (if cf=1 then some (⟨gf,0,none⟩:Addr) else some ⟨gf,1,none⟩)=sa at *
      have hend:=A8 (MixP.good hgood.out (hfin.trans ((Ac _ 1).mono hfin.size)) (by rw [←hn.out];exact hsl.below (Ac _ 1)))
      rw [hq0.out] at hend
      clear hfin hon hsl y0 r0 r1 f0 f1 hC J hgood
      go_wp2
      exact bodyPost_ret (v:=.tuple #[.agg #[.slice sa (k-1) (cf-1),.string q0],.int .i64 0]) (by simp [results,Tryz.results23,go_sem,k0,k1]) rfl hend.out
end
section
open Go.RowKit
open LnM (sm)
structure SolZ (rows:List (List Int×Int)) (n:Nat) (x:Nat→Int) (d:Int):Prop where
 pos:0<d
 nn:∀ k,k<n→0≤x k
 eq:∀ i,i<rows.length→sm n (fun k=>x k*gi (rowOf rows i).1 k)=d*(rowOf rows i).2
structure RefZ (rows:List (List Int×Int)) (n:Nat) (w:Nat→Int):Prop where
 nn:∀ k,k<n→0≤sm rows.length (fun i=>w i*gi (rowOf rows i).1 k)
 neg:sm rows.length (fun i=>w i*(rowOf rows i).2)<0
theorem Ed {rows:List (List Int×Int)} {n:Nat} {x w:Nat→Int} {d:Int} (h:SolZ rows n x d) (g:RefZ rows n w):False:=by
 have e1:sm rows.length (fun i=>w i*sm n (fun k=>x k*gi (rowOf rows i).1 k))=d*sm rows.length (fun i=>w i*(rowOf rows i).2):=by
  rw [←LnM.sm_mul]
  exact LnM.sm_congr fun i hi=>by rw [h.eq i hi,←Int.mul_assoc,Int.mul_comm (w i),Int.mul_assoc]
 have e2:sm rows.length (fun i=>w i*sm n (fun k=>x k*gi (rowOf rows i).1 k))=sm n (fun k=>x k*sm rows.length (fun i=>w i*gi (rowOf rows i).1 k)):=by
  rw [show (fun i=>w i*sm n (fun k=>x k*gi (rowOf rows i).1 k))=(fun i=>sm n (fun k=>w i*(x k*gi (rowOf rows i).1 k))) from by funext i;rw [LnM.sm_mul],LnM.sm_swap]
  refine LnM.sm_congr fun k _=>?_
  rw [←LnM.sm_mul]
  exact LnM.sm_congr fun i _=>by rw [←Int.mul_assoc,Int.mul_comm (w i),Int.mul_assoc]
 have e3:0≤sm n (fun k=>x k*sm rows.length (fun i=>w i*gi (rowOf rows i).1 k)):=LnM.sm_nonneg fun k hk=>Int.mul_nonneg (h.nn k hk) (g.nn k hk)
 have e4:=Int.mul_neg_of_pos_of_neg h.pos g.neg
 omega
theorem CA {cols:Int} {rows:List (List Int×Int)} {nums:List ByteArray} {den:ByteArray} (h:checkL cols rows nums den=true):validL cols rows=true∧formedL nums den=true∧(nums.length:Int)=cols:=by
 unfold checkL at h
 simp only [Bool.and_eq_true,beq_iff_eq] at h
 exact ⟨h.1.1.1,h.1.1.2,h.1.2⟩
theorem Dr {cols:Int} {rows:List (List Int×Int)} {nums:List ByteArray} {den:ByteArray} (h:checkL cols rows nums den=true):SolZ rows nums.length (fun k=>zS (sAt nums k)) (zS den):=by
 obtain ⟨_,hf,_⟩:=CA h
 obtain ⟨_,q2,_,_,q5⟩:=Bq hf
 unfold checkL at h
 simp only [Bool.and_eq_true] at h
 refine ⟨q5,fun k hk=>(q2 k hk).2.2,fun i hi=>?_⟩
 have:=List.all_eq_true.1 h.2 _ (C0 hi)
 rw [decide_eq_true_eq] at this
 exact this
theorem Ju {cols:Int} {rows:List (List Int×Int)} {nums:List ByteArray} {den:ByteArray} (hv:validL cols rows=true) (hf:formedL nums den=true) (hl:(nums.length:Int)=cols) (h:SolZ rows nums.length (fun k=>zS (sAt nums k)) (zS den)):checkL cols rows nums den=true:=by
 unfold checkL
 rw [hv,hf]
 simp only [Bool.and_eq_true,Bool.true_and,beq_iff_eq]
 refine ⟨hl,?_⟩
 rw [List.all_eq_true]
 intro r hr
 obtain ⟨i,hi,rfl⟩:=List.mem_iff_getElem.1 hr
 have hrow:rowOf rows i=rows[i]:=by unfold rowOf;rw [List.getElem?_eq_getElem hi];rfl
 rw [←hrow,decide_eq_true_eq]
 exact h.eq i hi
theorem Eq {cols:Int} {rows:List (List Int×Int)} {ws:List ByteArray} (h:refutesL cols rows ws=true):validL cols rows=true∧ws.length=rows.length∧(∀ s∈ws,numB s=true):=by
 unfold refutesL at h
 simp only [Bool.and_eq_true,decide_eq_true_eq,beq_iff_eq,Bool.not_eq_true',List.any_eq_false] at h
 exact ⟨h.1.1.1.1,by have:=h.1.1.1.2;omega,fun s hs=>by have:=h.1.1.2 s hs;simpa using this⟩
theorem CT {cols:Nat} {rows:List (List Int×Int)} {ws:List ByteArray} (h:refutesL cols rows ws=true):RefZ rows cols (fun i=>zS (sAt ws i)):=by
 obtain ⟨_,hl,_⟩:=Eq h
 unfold refutesL at h
 simp only [Bool.and_eq_true,decide_eq_true_eq] at h
 obtain ⟨⟨_,hk⟩,hneg⟩:=h
 rw [hl] at hk hneg
 refine ⟨fun k hkc=>?_,hneg⟩
 have:=List.all_eq_true.1 hk k (List.mem_range.2 (by simpa using hkc))
 rw [decide_eq_true_eq] at this
 exact this
theorem GT {cols:Nat} {rows:List (List Int×Int)} {ws:List ByteArray} (hv:validL cols rows=true) (hl:ws.length=rows.length) (hn:∀ s∈ws,numB s=true) (h:RefZ rows cols (fun i=>zS (sAt ws i))):refutesL cols rows ws=true:=by
 unfold refutesL
 have hany:(ws.any fun s=>!numB s)=false:=by
  rw [List.any_eq_false];intro t ht;rw [hn t ht];decide
 rw [hv,hany,hl]
 simp only [Bool.true_and,beq_self_eq_true,Bool.not_false,Bool.and_eq_true,decide_eq_true_eq,List.all_eq_true]
 refine ⟨fun k hk=>h.nn k (by simpa using hk),h.neg⟩
def NumL.hidN (x:NumL):List ByteArray:=(List.range x.c).map (fun k=>I (x.hid k))
theorem NumL.sum_sm (x:NumL) (i:Nat):∀ k,x.sum i k=sm k (fun j=>x.coef i j*x.hid j)
 | 0=>rfl
 | k+1=>by show x.sum i k+_=_;rw [x.sum_sm i k];rfl
theorem NumL.rowOf_made (x:NumL) {i:Nat} (h:i<x.r):rowOf x.made i=x.row i:=by
 unfold rowOf NumL.made
 rw [List.getElem?_map,List.getElem?_range h];rfl
theorem D2 {n:Nat} (f:Nat→Int) {k:Nat} (h:k<n):gi ((List.range n).map f) k=f k:=by
 unfold gi
 rw [List.getElem?_map,List.getElem?_range h];rfl
theorem NumL.made_sol (x:NumL) (h:x.misses=false):SolZ x.made x.c x.hid 1:=by
 refine ⟨by decide,fun k _=>(x.hid_bd k).1,fun i hi=>?_⟩
 rw [x.made_len] at hi
 rw [x.rowOf_made hi]
 have e:(x.row i).2=x.sum i x.c:=by
  show x.val i=_
  unfold NumL.val NumL.hit
  rw [h];rfl
 rw [e,x.sum_sm,Int.one_mul]
 refine LnM.sm_congr fun k hk=>?_
 show x.hid k*gi ((List.range x.c).map (x.coef i)) k=_
 rw [D2 _ hk,Int.mul_comm]
theorem Mf {z:Int} (h:z.natAbs<10 ^ 9):Bd 100 z:=by
 have:Bd 9 z:=by unfold Bd;omega
 exact this.mono (by decide)
theorem Ds {z:Int} (h:z.natAbs<10 ^ 9):numB (I z)=true:=EA (Mf h)
theorem GU {n:Nat} {f:Nat→Int} {d:Int} (hn:n≤64) (hf:∀ k,k<n→0≤f k∧f k<10 ^ 9) (hd:0<d∧d<10 ^ 9):formedL ((List.range n).map fun k=>I (f k)) (I d)=true:=by
 unfold formedL
 have h1:((List.range n).map fun k=>I (f k)).any badB=false:=by
  rw [List.any_eq_false]
  intro t ht
  obtain ⟨k,hk,rfl⟩:=List.mem_map.1 ht
  have:=hf k (List.mem_range.1 hk)
  unfold badB
  rw [Ds (by omega),BA]
  simp;omega
 rw [h1,Ds (by omega),BA,decide_eq_true hd.1]
 simp [hn]
theorem sAt_I {n:Nat} (f:Nat→Int) {k:Nat} (h:k<n):zS (sAt ((List.range n).map fun k=>I (f k)) k)=f k:=by
 rw [GS (fun k=>I (f k)) h,BA]
theorem NumL.made_check (x:NumL) (h:x.misses=false):checkL x.c x.made x.hidN (I 1)=true:=by
 obtain ⟨_,_,h8⟩:=x.c_eq
 have hl:x.hidN.length=x.c:=by unfold NumL.hidN;simp
 refine Ju x.made_valid (GU (by omega) (fun k _=>by have:=x.hid_bd k;omega) (by decide)) (by rw [hl]) ?_
 rw [hl,BA]
 have hs:=x.made_sol h
 refine ⟨by decide,fun k hk=>?_,fun i hi=>?_⟩
 ·unfold NumL.hidN;rw [sAt_I _ hk];exact hs.nn k hk
 ·rw [←hs.eq i hi]
  exact LnM.sm_congr fun k hk=>by unfold NumL.hidN;rw [sAt_I _ hk]
theorem tdivL3 {m:Int} (h:Fits m):Fits (m.tdiv 3)∧IntKind.i64.wrap (m.tdiv 3)=m.tdiv 3:=by
 have h1:m.tdiv 3≤9223372036854775807∧-9223372036854775808≤m.tdiv 3:=by
  have:=Int.natAbs_tdiv_le_natAbs m 3
  unfold Fits at h
  refine ⟨?_,by omega⟩
  rcases Int.lt_or_le 0 m with h0 | h0
  ·omega
  ·obtain ⟨b,rfl⟩:∃ b:Int,m=-b:=⟨-m,by omega⟩
   rw [Int.neg_tdiv,Int.tdiv_eq_ediv_of_nonneg (by omega)]
   omega
 exact ⟨⟨h1.2,h1.1⟩,IntWalk.i64_in _ ⟨h1.2,h1.1⟩⟩
theorem tdivL30 {m:Int} (h:Fits m):Fits (m.tdiv 30)∧IntKind.i64.wrap (m.tdiv 30)=m.tdiv 30:=by
 have h1:m.tdiv 30≤9223372036854775807∧-9223372036854775808≤m.tdiv 30:=by
  have:=Int.natAbs_tdiv_le_natAbs m 30
  unfold Fits at h
  refine ⟨?_,by omega⟩
  rcases Int.lt_or_le 0 m with h0 | h0
  ·omega
  ·obtain ⟨b,rfl⟩:∃ b:Int,m=-b:=⟨-m,by omega⟩
   rw [Int.neg_tdiv,Int.tdiv_eq_ediv_of_nonneg (by omega)]
   omega
 exact ⟨⟨h1.2,h1.1⟩,IntWalk.i64_in _ ⟨h1.2,h1.1⟩⟩
theorem sm2 (f:Nat→Int):sm 2 f=f 0+f 1:=by show (0+f 0)+f 1=_;omega
theorem Iy {a b:Int} {x:Nat→Int} {d:Int} (h:SolZ (twoL a b) 2 x d):x 0+x 1=d*a∧x 0-x 1=d*b∧0≤x 0∧0≤x 1∧0<d:=by
 have e0:=h.eq 0 (show 0<2 by decide)
 have e1:=h.eq 1 (show 1<2 by decide)
 rw [sm2] at e0 e1
 have g0:x 0*1+x 1*1=d*a:=e0
 have g1:x 0*1+x 1*(-1)=d*b:=e1
 exact ⟨by omega,by omega,h.nn 0 (by decide),h.nn 1 (by decide),h.pos⟩
theorem Iz {a b:Int} (x:Nat→Int) {d:Int} (h0:x 0+x 1=d*a) (h1:x 0-x 1=d*b) (h2:0≤x 0) (h3:0≤x 1) (h4:0<d):SolZ (twoL a b) 2 x d:=by
 refine ⟨h4,fun k hk=>?_,fun i hi=>?_⟩
 ·match k,hk with
  | 0,_=>exact h2
  | 1,_=>exact h3
 ·rw [sm2]
  match i,hi with
  | 0,_=>show x 0*1+x 1*1=d*a;omega
  | 1,_=>show x 0*1+x 1*(-1)=d*b;omega
theorem Gg {a b:Int} (ha:-1000≤a∧a≤1000) (hb:-1000≤b∧b≤1000):validL 2 (twoL a b)=true:=by
 unfold validL twoL badE
 have l1:([1,1]:List Int).any largeB=false:=by decide
 have l2:([1,-1]:List Int).any largeB=false:=by decide
 simp only [List.any_cons,List.any_nil,l1,l2]
 simp
 omega
theorem two_eq {nums:List ByteArray} {den:ByteArray} (h:checkL 2 (twoL 3 1) nums den=true):equalL nums den [⟨#[52]⟩,⟨#[50]⟩] ⟨#[50]⟩=true:=by
 obtain ⟨_,hf,hl⟩:=CA h
 have hl2:nums.length=2:=by omega
 have hs:=Dr h
 rw [hl2] at hs
 obtain ⟨e0,e1,_,_,_⟩:=Iy hs
 have f2:formedL [⟨#[52]⟩,⟨#[50]⟩] ⟨#[50]⟩=true:=by kernel_rfl
 have z2:zS ⟨#[50]⟩=2:=by kernel_rfl
 have z4:zS ⟨#[52]⟩=4:=by kernel_rfl
 unfold equalL
 rw [hf,f2,hl2]
 simp only [Bool.true_and,Bool.and_eq_true,List.all_eq_true,decide_eq_true_eq]
 refine ⟨by simp,fun i hi=>?_⟩
 rw [z2]
 match i,List.mem_range.1 hi with
 | 0,_=>show _=zS ⟨#[52]⟩*_;rw [z4];omega
 | 1,_=>show _=zS ⟨#[50]⟩*_;rw [z2];omega
theorem Er (cols:Nat) (v:Value) (rows:List (List Int×Int)) (w:World) (hE:Env w) (h:SlE w v rows) (hv:validL cols rows=true) (h8:rows.length≤8) {x:Nat→Int} {d:Int} (hs:SolZ rows cols x d) :
  Calls Tryz.prog 14 #[.agg #[.int .i64 cols,v]] w fun e w'=>∃ nv nums den,e=.returned (.tuple #[.agg #[.bool true,nv,.string den,.slice none 0 0],.int .i64 0])∧SlS w' nv nums∧checkL cols rows nums den=true∧Below w.heap.size w w' :=
 (Ec cols v rows w hE h hv h8).mono fun e w' ⟨hb,hh⟩=>by
  rcases hh with ⟨nv,nums,den,he,hn,hc⟩ | ⟨wv,ws,he,hw,hr⟩
  ·exact ⟨nv,nums,den,he,hn,hc,hb⟩
  ·exact (Ed hs (CT hr)).elim
theorem Dt (cols:Nat) (v:Value) (rows:List (List Int×Int)) (w:World) (hE:Env w) (h:SlE w v rows) (hv:validL cols rows=true) (h8:rows.length≤8) (hs:∀ x d,¬ SolZ rows cols x d) :
  Calls Tryz.prog 14 #[.agg #[.int .i64 cols,v]] w fun e w'=>∃ wv ws,e=.returned (.tuple #[.agg #[.bool false,.slice none 0 0,.string ⟨#[]⟩,wv],.int .i64 0])∧SlS w' wv ws∧refutesL cols rows ws=true∧Below w.heap.size w w' :=
 (Ec cols v rows w hE h hv h8).mono fun e w' ⟨hb,hh⟩=>by
  rcases hh with ⟨nv,nums,den,he,hn,hc⟩ | ⟨wv,ws,he,hw,hr⟩
  ·have hl:=(CA hc).2.2
   have hl2:nums.length=cols:=by omega
   have:=Dr hc
   rw [hl2] at this
   exact (hs _ _ this).elim
  ·exact ⟨wv,ws,he,hw,hr,hb⟩
theorem solve31 (v:Value) (w:World) (hE:Env w) (h:SlE w v (twoL 3 1)) :
  Calls Tryz.prog 14 #[.agg #[.int .i64 2,v]] w fun e w'=>∃ a nums den cp,e=.returned (.tuple #[.agg #[.bool true,.slice a nums.length cp,.string den,.slice none 0 0],.int .i64 0])∧SlS w' (.slice a nums.length cp) nums∧equalL nums den [⟨#[52]⟩,⟨#[50]⟩] ⟨#[50]⟩=true∧Below w.heap.size w w' :=
 (Er 2 v (twoL 3 1) w hE h (Gg (by omega) (by omega)) (by decide) (Iz (fun k=>if k=0 then 2 else 1) (d:=1) (by decide) (by decide) (by decide) (by decide) (by decide))).mono fun e w' ⟨nv,nums,den,he,hn,hc,hb⟩=>by
  obtain ⟨a,cp,rfl⟩:=hn.shape
  exact ⟨a,nums,den,cp,he,hn,two_eq hc,hb⟩
theorem solve34 (v:Value) (w:World) (hE:Env w) (h:SlE w v (twoL 3 4)) :
  Calls Tryz.prog 14 #[.agg #[.int .i64 2,v]] w fun e w'=>∃ a ws cp,e=.returned (.tuple #[.agg #[.bool false,.slice none 0 0,.string ⟨#[]⟩,.slice a ws.length cp],.int .i64 0])∧SlS w' (.slice a ws.length cp) ws∧refutesL 2 (twoL 3 4) ws=true∧Below w.heap.size w w' :=
 (Dt 2 v (twoL 3 4) w hE h (Gg (by omega) (by omega)) (by decide) (fun x d hs=>by
  obtain ⟨e0,e1,_,h1,h2⟩:=Iy hs
  omega)).mono fun e w' ⟨wv,ws,he,hn,hr,hb⟩=>by
  obtain ⟨a,cp,rfl⟩:=hn.shape
  exact ⟨a,ws,cp,he,hn,hr,hb⟩
theorem solve00 (v:Value) (w:World) (hE:Env w) (h:SlE w v [([],0)]) :
  Calls Tryz.prog 14 #[.agg #[.int .i64 0,v]] w fun e w'=>∃ a den cp,e=.returned (.tuple #[.agg #[.bool true,.slice a 0 cp,.string den,.slice none 0 0],.int .i64 0])∧Below w.heap.size w w' :=
 (Er 0 v [([],0)] w hE h (by rw [show ((0:Nat):Int)=0 from rfl];decide) (by decide) (x:=fun _=>0) (d:=1) ⟨by decide,fun k hk=>by omega,fun i hi=>by
  obtain rfl:i=0:=by simp at hi;exact hi
  rfl⟩).mono fun e w' ⟨nv,nums,den,he,hn,hc,hb⟩=>by
  obtain ⟨a,cp,rfl⟩:=hn.shape
  have hl:=(CA hc).2.2
  rw [show nums.length=0 by omega] at he
  exact ⟨a,den,cp,he,hb⟩
theorem solve01 (v:Value) (w:World) (hE:Env w) (h:SlE w v [([],1)]) :
  Calls Tryz.prog 14 #[.agg #[.int .i64 0,v]] w fun e w'=>∃ a cp,e=.returned (.tuple #[.agg #[.bool false,.slice none 0 0,.string ⟨#[]⟩,.slice a 1 cp],.int .i64 0])∧Below w.heap.size w w' :=
 (Dt 0 v [([],1)] w hE h (by rw [show ((0:Nat):Int)=0 from rfl];decide) (by decide) (fun x d hs=>by
  have e:=hs.eq 0 (by decide)
  have g:(0:Int)=d*1:=e
  have:=hs.pos
  omega)).mono fun e w' ⟨wv,ws,he,hn,hr,hb⟩=>by
  obtain ⟨a,cp,rfl⟩:=hn.shape
  have hl:=(Eq hr).2.1
  rw [show ws.length=1 from hl] at he
  exact ⟨a,cp,he,hb⟩
theorem solve10 (v:Value) (w:World) (h:SlE w v [([],0)]) :
  Calls Tryz.prog 14 #[.agg #[.int .i64 1,v]] w (Rets w (.tuple #[.agg #[.bool false,.slice none 0 0,.string ⟨#[]⟩,.slice none 0 0],.int .i64 60])) :=
 KY 1 v [([],0)] w h (by decide)
theorem SlS.of2 {W:World} {B:Nat} {s t:ByteArray} (h:Blk W B #[.string s,.string t] 9):SlS W (.slice (some ⟨B,0,none⟩) 2 2) [s,t]:=by
 refine .inr ⟨B,0,2,rfl,Aa _,by unfold maxLen;decide,h.lt,fun j x hj=>?_⟩
 match j,hj with
 | 0,hj=>cases hj;exact h.cell 0
 | 1,hj=>cases hj;exact h.cell 1
theorem SlE.of1 {W:World} {B:Nat} {z:Int} (h:Blk W B #[.slice none 0 0,.int .i64 z] 60):SlE W (.slice (some ⟨B,0,none⟩) 1 1) [([],z)]:=by
 refine .inr ⟨B,0,1,rfl,Aa _,by unfold maxLen;decide,h.lt,fun j x hj=>?_⟩
 match j,hj with
 | 0,hj=>cases hj;exact ⟨_,h.cell 0,.inl ⟨rfl,rfl⟩,h.cell 1⟩
theorem mix13:mixR { p:=1,q:=3,na:=[⟨#[49]⟩,⟨#[48]⟩],nb:=[⟨#[48]⟩,⟨#[49]⟩],da:=⟨#[49]⟩,db:=⟨#[49]⟩ }=([⟨#[49]⟩,⟨#[51]⟩],⟨#[52]⟩,0):=by kernel_rfl
structure MS (w:World) (L:BLs) (ss:List (Value×List ByteArray)) (W:World):Prop where
 mem:Mem w L [] W
 ss:∀ p∈ss,SlS W p.1 p.2
section
variable {w W W':World} {L:BLs} {ss:List (Value×List ByteArray)}
theorem MS.start (w:World):MS w [] [] w:=⟨Mem.start w,fun p h=>by cases h⟩
theorem MS.call (h:MS w L ss W) (hb:Below W.heap.size W W'):MS w L ss W':=⟨h.mem.call hb,fun p hp=>(h.ss p hp).below hb⟩
theorem MS.new (h:MS w L ss W) (o:Obj):MS w L ss (W.alloc o):=h.call ((Below.refl _ _).alloc (Aa _) o)
theorem MS.add' (h:MS w L ss W) (cs:Array Value) (t:TypeId):∃ W' B,W'=W.alloc (.cells cs t)∧B=W.heap.size∧MS w ((B,cs,t) :: L) ss W':=⟨_,_,rfl,rfl,h.mem.add cs t,(h.new _).ss⟩
theorem MS.slice (h:MS w L ss W) {v:Value} {l:List ByteArray} (hv:SlS W v l):MS w L ((v,l) :: ss) W:=⟨h.mem,fun p hp=>by
 rcases List.mem_cons.1 hp with rfl | hp
 ·exact hv
 ·exact h.ss p hp⟩
theorem MS.cell (h:MS w L ss W) (B:Nat) (cs:Array Value) (t:TypeId) (hm:(B,cs,t)∈L) (i:Nat):W.cell? ⟨B,i,none⟩=cs[i]? := h.mem.cell B cs t hm i
theorem MS.env (h:MS w L ss W) (hE:Env w):Env W:=h.mem.env hE
end
theorem ck31:checkL 2 (twoL 3 1) [⟨#[52]⟩,⟨#[50]⟩] ⟨#[50]⟩=true:=by kernel_rfl
theorem ck32:checkL 2 (twoL 3 2) [⟨#[52]⟩,⟨#[50]⟩] ⟨#[50]⟩=false:=by kernel_rfl
theorem rf34:refutesL 2 (twoL 3 4) [⟨#[49]⟩,⟨#[45,49]⟩]=true:=by kernel_rfl
theorem rf34n:refutesL 2 (twoL 3 4) [⟨#[45,49]⟩,⟨#[49]⟩]=false:=by kernel_rfl
theorem rf31n:refutesL 2 (twoL 3 1) [⟨#[49]⟩,⟨#[45,49]⟩]=false:=by kernel_rfl
theorem vl11:validL 2 (twoL 1 1)=true:=by kernel_rfl
theorem vl65:validL 65 []=false:=by kernel_rfl
end
section
open LnM (sm)
theorem Mn {cols:Nat} {rows:List (List Int×Int)} (hc:cols≤64) (hl:rows.length≤18) (h:∀ r∈rows,r.1.length=cols∧(∀ x∈r.1,-30000≤x∧x≤30000)∧-1000000000≤r.2∧r.2≤1000000000):validL cols rows=true:=by
 unfold validL
 simp only [Bool.and_eq_true,decide_eq_true_eq,Bool.not_eq_true',List.any_eq_false]
 refine ⟨⟨⟨by omega,by omega⟩,hl⟩,fun e he=>?_⟩
 obtain ⟨h1,h2,h3,h4⟩:=h e he
 have hany:e.1.any largeB=false:=by
  rw [List.any_eq_false]
  intro z hz
  have:=h2 z hz
  unfold largeB
  simp;omega
 unfold badE
 rw [hany]
 simp;omega
section
variable {rows:List (List Int×Int)} {g:Nat→List Int×Int→List Int×Int} {i j:Nat}
end
def upK (l:List Int) (h:Nat→Int) (k:Nat):List Int:=(List.range l.length).map fun q=>if q<k then h q else gi l q
section
variable {l:List Int} {h:Nat→Int} {k q:Nat}
theorem D9:(upK l h k).length=l.length:=by unfold upK;simp
theorem Fk (hq:q<l.length):(upK l h k)[q]? = some (if q<k then h q else gi l q):=by
 unfold upK;rw [List.getElem?_map,List.getElem?_range hq];rfl
theorem gi_upK (hq:q<l.length):gi (upK l h k) q=if q<k then h q else gi l q:=by
 show ((upK l h k)[q]?).getD 0=_
 rw [Fk hq];rfl
theorem IC:upK l h 0=l:=by
 refine List.ext_getElem? fun q=>?_
 by_cases hq:q<l.length
 ·rw [Fk hq,if_neg (by omega),Bo hq,List.getElem?_eq_getElem hq]
 ·rw [List.getElem?_eq_none (by rw [D9];omega),List.getElem?_eq_none (by omega)]
theorem ID:upK l h (k+1)=(upK l h k).set k (h k):=by
 refine List.ext_getElem? fun q=>?_
 by_cases hq:q<l.length
 ·by_cases e:k=q
  ·subst e
   rw [List.getElem?_set_self (by rw [D9];exact hq),Fk hq,if_pos (by omega)]
  ·rw [List.getElem?_set_ne e,Fk hq,Fk hq]
   by_cases h2:q<k
   ·rw [if_pos (by omega),if_pos h2]
   ·rw [if_neg (by omega),if_neg h2]
 ·rw [List.getElem?_eq_none (by rw [D9];omega),List.getElem?_eq_none (by rw [List.length_set,D9];omega)]
end
def SmallR (n:Nat) (K V:Int) (rows:List (List Int×Int)):Prop:=∀ r∈rows,r.1.length=n∧(∀ x∈r.1,-K≤x∧x≤K)∧-V≤r.2∧r.2≤V
theorem SmallR.gi {n:Nat} {K V:Int} {rows:List (List Int×Int)} (h:SmallR n K V rows) {i:Nat} (hi:i<rows.length) (q:Nat) (hK:0≤K):-K≤gi (rowOf rows i).1 q∧gi (rowOf rows i).1 q≤K:=by
 obtain ⟨_,h2,_⟩:=h _ (C0 hi)
 by_cases hq:q<(rowOf rows i).1.length
 ·rw [Bo hq];exact h2 _ (List.getElem_mem hq)
 ·rw [BT (by omega)];omega
theorem GW {a f K F:Int} (ha:-K≤a∧a≤K) (hf:-F≤f∧f≤F):-(K*F)≤a*f∧a*f≤K*F:=by
 have h1:(a.natAbs:Int)≤K:=by omega
 have h2:(f.natAbs:Int)≤F:=by omega
 have h3:((a*f).natAbs:Int)≤K*F:=by
  rw [Int.natAbs_mul,Int.natCast_mul]
  exact Int.mul_le_mul h1 h2 (by omega) (by omega)
 omega
def nBase (x:NumL) (k:Nat):Int:=pkv (atv x.hidden k) 5
def nC (w:List Int) (i:Nat):Int:=pkv (atv w i) 7-3
def nCoef (x:NumL) (w:List Int) (i k:Nat):Int:=nBase x k-sm i (fun q=>nC w q*x.coef q k)
def nVal (x:NumL) (w:List Int) (i:Nat):Int:=-1-pkv x.miss 9-sm i (fun q=>nC w q*x.val q)
def nRow (x:NumL) (w:List Int) (i:Nat):List Int:=(List.range x.c).map (nCoef x w i)
def noneR (x:NumL) (w:List Int):List (List Int×Int):=x.made++[(nRow x w x.r,nVal x w x.r)]
def noneW (x:NumL) (w:List Int):List ByteArray:=(List.range x.r).map (fun q=>I (nC w q))++[⟨#[49]⟩]
theorem IE (x:NumL) (k:Nat):0≤nBase x k∧nBase x k≤4:=by
 have h1:=Av (c:=atv x.hidden k) (m:=5) (by decide)
 have h2:=BF (c:=atv x.hidden k) (m:=5) (by decide)
 unfold nBase;omega
theorem K4 (w:List Int) (i:Nat):-3≤nC w i∧nC w i≤3:=by
 have h1:=Av (c:=atv w i) (m:=7) (by decide)
 have h2:=BF (c:=atv w i) (m:=7) (by decide)
 unfold nC;omega
theorem Mo {f:Nat→Int} {M:Int} (h:∀ q,-M≤f q∧f q≤M):∀ i:Nat,-(M*i)≤sm i f∧sm i f≤M*i
 | 0=>⟨by show _≤(0:Int);omega,by show (0:Int)≤_;omega⟩
 | i+1=>by
  obtain ⟨h1,h2⟩:=Mo h i
  obtain ⟨h3,h4⟩:=h i
  have e:M*((i+1:Nat):Int)=M*i+M:=by rw [Int.natCast_add,Int.mul_add];simp
  rw [e]
  show _≤sm i f+f i∧sm i f+f i≤_
  omega
theorem IF (x:NumL) (w:List Int) {i:Nat} (hi:i≤5) (k:Nat):-139≤nCoef x w i k∧nCoef x w i k≤139:=by
 have h1:=Mo (M:=27) (f:=fun q=>nC w q*x.coef q k) (fun q=>GW (K:=3) (F:=9) (K4 w q) (x.coef_bd q k)) i
 have h2:=IE x k
 unfold nCoef;omega
theorem K5 (x:NumL) (w:List Int) {i:Nat} (hi:i≤5):-6009≤nVal x w i∧nVal x w i≤6009:=by
 have h1:=Mo (M:=1200) (f:=fun q=>nC w q*x.val q) (fun q=>GW (K:=3) (F:=400) (K4 w q) (x.val_bd q)) i
 have h2:=Av (c:=x.miss) (m:=9) (by decide)
 have h3:=BF (c:=x.miss) (m:=9) (by decide)
 unfold nVal;omega
theorem C5 (x:NumL) (w:List Int):(noneR x w).length=x.r+1:=by unfold noneR;simp [x.made_len]
theorem Le (x:NumL) (w:List Int):(noneW x w).length=x.r+1:=by unfold noneW;simp
theorem Fm (x:NumL) (w:List Int):validL x.c (noneR x w)=true:=by
 obtain ⟨_,_,hc⟩:=x.c_eq
 obtain ⟨_,_,hr⟩:=x.r_eq
 obtain ⟨_,_,_,a4⟩:=AQ x.made_valid
 refine Mn (by omega) (by rw [C5];omega) fun r hr'=>?_
 rcases List.mem_append.1 hr' with h | h
 ·obtain ⟨b1,b2,b3⟩:=a4 r h
  exact ⟨by omega,b2,b3⟩
 ·rw [List.mem_singleton.1 h]
  refine ⟨by unfold nRow;simp,fun y hy=>?_,by have:=K5 x w (i:=x.r) hr;show _≤nVal x w x.r∧nVal x w x.r≤_;omega⟩
  have hy':y∈nRow x w x.r:=hy
  unfold nRow at hy'
  obtain ⟨k,_,rfl⟩:=List.mem_map.1 hy'
  have:=IF x w (i:=x.r) hr k
  omega
theorem Fn {x:NumL} {w:List Int} {i:Nat} (h:i<x.r):rowOf (noneR x w) i=x.row i:=by
 unfold noneR rowOf
 rw [List.getElem?_append_left (by rw [x.made_len];exact h)]
 exact x.rowOf_made h
theorem Fo (x:NumL) (w:List Int):rowOf (noneR x w) x.r=(nRow x w x.r,nVal x w x.r):=by
 unfold noneR rowOf
 rw [List.getElem?_append_right (by rw [x.made_len];exact Aa _),x.made_len];simp
theorem zS_one:zS ⟨#[49]⟩=1:=by kernel_rfl
theorem Fp {x:NumL} {w:List Int} {i:Nat} (h:i<x.r):zS (sAt (noneW x w) i)=nC w i:=by
 unfold noneW sAt
 rw [List.getElem?_append_left (by simpa using h),List.getElem?_map,List.getElem?_range h]
 exact BA _
theorem Fq (x:NumL) (w:List Int):zS (sAt (noneW x w) x.r)=1:=by
 unfold noneW sAt
 rw [List.getElem?_append_right (by simp)]
 simp [zS_one]
theorem GX (x:NumL) (w:List Int):refutesL x.c (noneR x w) (noneW x w)=true:=by
 refine GT (Fm x w) (by rw [Le,C5]) (fun s hs=>?_) ⟨fun k hk=>?_,?_⟩
 ·unfold noneW at hs
  rcases List.mem_append.1 hs with h | h
  ·obtain ⟨q,_,rfl⟩:=List.mem_map.1 h
   exact Ds (by have:=K4 w q;omega)
  ·rw [List.mem_singleton.1 h];kernel_rfl
 ·rw [C5]
  show 0≤sm x.r _+zS (sAt (noneW x w) x.r)*gi (rowOf (noneR x w) x.r).1 k
  rw [Fq,Fo]
  have e:sm x.r (fun i=>zS (sAt (noneW x w) i)*gi (rowOf (noneR x w) i).1 k)=sm x.r (fun q=>nC w q*x.coef q k):=LnM.sm_congr fun i hi=>by
   rw [Fp hi,Fn hi]
   show _*gi ((List.range x.c).map (x.coef i)) k=_
   rw [D2 _ hk]
  rw [e]
  show 0≤_+1*gi (nRow x w x.r) k
  unfold nRow
  rw [D2 _ hk]
  have:=IE x k
  unfold nCoef;omega
 ·rw [C5]
  show sm x.r _+zS (sAt (noneW x w) x.r)*(rowOf (noneR x w) x.r).2<0
  rw [Fq,Fo]
  have e:sm x.r (fun i=>zS (sAt (noneW x w) i)*(rowOf (noneR x w) i).2)=sm x.r (fun q=>nC w q*x.val q):=LnM.sm_congr fun i hi=>by
   rw [Fp hi,Fn hi];rfl
  rw [e]
  have:=Av (c:=x.miss) (m:=9) (by decide)
  show _+1*nVal x w x.r<0
  unfold nVal;omega
def intArr (l:List Int):Array Value:=(l.map (Value.int .i64)).toArray
theorem Fs {l:List Int} {k:Nat} (h:k<l.length):(intArr l)[k]? = some (.int .i64 (gi l k)):=by
 unfold intArr
 rw [List.getElem?_toArray,List.getElem?_map,List.getElem?_eq_getElem h,Bo h];rfl
theorem Ft (l:List Int) (k:Nat) (y:Int):(intArr l).setIfInBounds k (.int .i64 y)=intArr (l.set k y):=by
 unfold intArr
 rw [A0,List.map_set]
theorem IG (n:Nat):Array.replicate n (Value.int .i64 0)=intArr (List.replicate n 0):=by
 unfold intArr
 apply Array.ext'
 simp
theorem K6 {l:List Int} {h:Nat→Int} {n:Nat} (hn:n=l.length):upK l h n=(List.range n).map h:=by
 subst hn
 unfold upK
 exact List.map_congr_left fun q hq=>if_pos (List.mem_range.1 hq)
end
end Go.Proofs.YtcmomjnailihpaaGreatDoor
