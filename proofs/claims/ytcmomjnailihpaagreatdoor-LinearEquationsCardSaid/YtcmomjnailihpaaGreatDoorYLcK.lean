/- LcK, LcL, LcM, McA, McB, McC, McD, McE, MemA, MemB, Eqs, Eqd, MdA, MdB -/
import Derived.Test.YtcmomjnailihpaaGreatDoorYLcD
import Derived.Deep.RegionHeld3
import Derived.Deep.Upon
set_option maxHeartbeats 8000000
set_option maxRecDepth 100000
namespace Go.Proofs.YtcmomjnailihpaaGreatDoor
section
open Go.RowKit
structure MixA where
 p:Int
 q:Int
 na:List ByteArray
 nb:List ByteArray
 da:ByteArray
 db:ByteArray
def MixA.num (x:MixA):Nat→Int
 | 0=>(x.p+x.q)*zS x.da*zS x.db
 | i+1=>x.p*zS (sAt x.na i)*zS x.db+x.q*zS (sAt x.nb i)*zS x.da
def MixA.z (x:MixA) (f:Bool) (i:Nat):Int:=zS (mixS f [I x.p,sAt x.na i,x.db] 3)+zS (mixS (mixF f [I x.p,sAt x.na i,x.db] 3) [I x.q,sAt x.nb i,x.da] 3)
def MixA.flag (x:MixA):Nat→Bool
 | 0=>mixF true [I (x.p+x.q),x.da,x.db] 3
 | i+1=>mixF (mixF (x.flag i) [I x.p,sAt x.na i,x.db] 3) [I x.q,sAt x.nb i,x.da] 3&&decide (Small (x.z (x.flag i) i))
def MixA.txt (x:MixA):Nat→ByteArray
 | 0=>mixS true [I (x.p+x.q),x.da,x.db] 3
 | i+1=>⟨(Go.Proofs.YtcmomjnailihpaaGreatDoor.txt (x.z (x.flag i) i)).toArray⟩
theorem Cw {b:Bool} {l:List ByteArray} {n:Nat} (h:mixF b l n=true):b=true∧prodB l n=true:=by unfold mixF at h;simpa using h
theorem DZ {l:List ByteArray} {n:Nat} (h:prodB l n=true):mixS true l n=I (prodZ l n):=by unfold mixS;rw [h];rfl
theorem prod3 (a b c:ByteArray):prodZ [a,b,c] 3=zS a*zS b*zS c:=by show 1*zS a*zS b*zS c=_;rw [Int.one_mul]
theorem MixA.good (x:MixA):∀ {i:Nat},x.flag i=true→x.txt i=I (x.num i)∧Small (x.num i)
 | 0,h=>by
  obtain ⟨_,h1⟩:=Cw h
  have e:prodZ [I (x.p+x.q),x.da,x.db] 3=x.num 0:=by rw [prod3,C8];rfl
  exact ⟨by show mixS true _ 3=_;rw [DZ h1,e],by rw [←e];exact Dm h1⟩
 | i+1,h=>by
  have h':(mixF (mixF (x.flag i) [I x.p,sAt x.na i,x.db] 3) [I x.q,sAt x.nb i,x.da] 3&&decide (Small (x.z (x.flag i) i)))=true:=h
  rw [Bool.and_eq_true,decide_eq_true_eq] at h'
  obtain ⟨h1,h2⟩:=h'
  obtain ⟨h3,h4⟩:=Cw h1
  obtain ⟨h5,h6⟩:=Cw h3
  have e:x.z (x.flag i) i=x.num (i+1):=by
   unfold MixA.z
   rw [h3,h5,DZ h6,DZ h4,C8,C8,prod3,prod3,C8,C8];rfl
  rw [e] at h2
  refine ⟨?_,h2⟩
  show ByteArray.mk (Go.Proofs.YtcmomjnailihpaaGreatDoor.txt (x.z (x.flag i) i)).toArray=_
  rw [e,FD h2];rfl
theorem MixA.flag_le (x : MixA) {i n : Nat} (h : x.flag n = true) (hi : i ≤ n) : x.flag i = true := by
 induction n with
 | zero => obtain rfl : i = 0 := by omega
           exact h
 | succ n ih =>
   by_cases e : i = n + 1
   · subst e; exact h
   · refine ih ?_ (by omega)
     have h' : (mixF (mixF (x.flag n) [I x.p, sAt x.na n, x.db] 3) [I x.q, sAt x.nb n, x.da] 3 && decide (Small (x.z (x.flag n) n))) = true := h
     rw [Bool.and_eq_true] at h'
     exact (Cw (Cw h'.1).1).1
theorem MixA.add_T (x:MixA) (i:Nat):∃ E:Int,resT true (x.z (x.flag i) i)=.tuple #[.string (x.txt (i+1)),.int .i64 E]∧(E==0)=decide (Small (x.z (x.flag i) i)):=by
 refine ⟨erz (x.z (x.flag i) i),by unfold resT;rw [if_pos rfl];rfl,?_⟩
 unfold erz
 by_cases h:Small (x.z (x.flag i) i)
 ·rw [if_pos h,decide_eq_true h];rfl
 ·rw [if_neg h,decide_eq_false h];rfl
def MixA.gcd (x:MixA):Nat→Int
 | 0=>0
 | k+1=>gcdZ (x.gcd k) (x.num k)
end
section
open Go.RowKit
attribute [local go_sem] Oper.semAt_some
theorem Fa {ops:Array Oper} {rest:List Oper} {o:Oper} {a:Act} {Q:Exit→Act→World→Prop} {w:World} {base:Nat} (hgd:o.guard=none) (t e:TypeId) (z:Value) (bytes:Nat) (ht:Tryz.prog.underlying t=some (.slice e)) (hi:(Tryz.prog.info? e).map (fun i=>(i.zero,i.size,i.bytes))=some (some z,1,bytes)) (hz:z.cells.size=1)
  (s x:Operand) (ho:o.op=.call { callee:=.builtin .append,args:=#[s,x],argTypes:=#[t,t] }) (v:Value) (n:Nat) (xs:List Value) (hs:a.eval s=v) (hown:w.ownsRow base e 1 v n xs)
  (g:Nat) (u:Value) (hx:a.eval x=.slice (some ⟨g,0,none⟩) 1 1) (hu:w.cell? ⟨g,0,none⟩=some u) (h1:u.oneCell'=true) (hn:(n+1)*bytes≤140737488355328) (hn2:n≤1000000) (hbase:base≤w.heap.size)
  (h:∀ g' cap w',w'.ownsRow base e 1 (.slice (some ⟨g',0,none⟩) (n+1) cap) (n+1) (xs++[u])→w.grownBy w' v.ownBlock→(∀ b,(Value.slice (some ⟨g',0,none⟩) (n+1) cap).ownBlock=some b→v.ownBlock=some b∨w.heap.size≤b)→wpList Tryz.prog ops Q rest (a.put o.dst (.slice (some ⟨g',0,none⟩) (n+1) cap)) w') :
  wpList Tryz.prog ops Q (o :: rest) a w :=
 wpList_plain hgd fun _ hK=>AP t e z bytes ht hi hz s x ho v n xs hs hown g u hx hu h1 hn hn2 hbase fun v' w' r1 r2 r3=>by
  have r1':=r1
  rcases r1.2 with ⟨rfl,h0⟩ | ⟨g',cap,cur,rfl,_⟩
  ·omega
  ·exact hK _ _ (h g' cap w' r1' r2 r3)
theorem mix_l0 {Q:Exit→Act→World→Prop} {u0 u1 u6 u7 u8 u9 u13 u14 u15 u16 u17 u18 u19 u20 u21 u22 u23 u24 u25 u26 u27 u28 u29 u30 u31 u32 u33 u34 u35 u36 u37 u38 u39 u40 u41 u42 u43 u44 u45 u46 u47 u48 u49 u50 u51 u52 u53 u54 u55 u56 u57 u58 u59 u60 u61 u62 u63 u66 u67 u68 u69 u70 u71 u72 u73 u74 u75 u76 u77 u78 u79 u80 u81 u82 u83 u84 u85 u86 u87 u88 u89 u90 u91 u92 u93 u94 u95 u96 u97 u98 u99 u100 u101 u102 u103 u104 u105 u106 u107 u108 u109 u110 u111 u112 u113 u114 u115 u116 u117 u118 u119 u120 u121 u122 u123 u124 u125 u126 u127 u128 u129 u130 u131 u132 u133 u134 u135 u136 u137 u138 u139 u140 u141 u142 u143 u144 u145 u146 u147 u148 u149 u150 u151 u152:Value} {x:MixA} {b0 b1 Bk n base g0:Nat} {aa ab:Option Addr} {ca cb:Nat} {w0 w:World} (hE:Hid (Env w0)) (h0:Hid (Below w0.heap.size w0 w∧w0.heap.size≤Bk∧Bk<base∧base≤w.heap.size)) (hp:Hid ((1≤x.p∧x.p≤1000)∧(1≤x.q∧x.q≤1000))) (hn:Hid (n=x.na.length∧n=x.nb.length∧n≤64)) (hok:Hid ((∀ i,i<n→okS (sAt x.na i)=true∧okS (sAt x.nb i)=true)∧okS x.da=true∧okS x.db=true))
  (hc:Hid ((b0<base∧b0≠Bk∧w.cell? ⟨b0,0,none⟩=some (.slice aa n ca)∧w.cell? ⟨b0,1,none⟩=some (.string x.da))∧(b1<base∧b1≠Bk∧w.cell? ⟨b1,0,none⟩=some (.slice ab n cb)∧w.cell? ⟨b1,1,none⟩=some (.string x.db)))) (hA:Hid (SlS w0 (.slice aa n ca) x.na)) (hB:Hid (SlS w0 (.slice ab n cb) x.nb))
  (hk:Hid (Blk w Bk #[.bool (x.flag 0)] 4)) (hr:Hid (w.ownsRow base 9 1 (.slice (some ⟨g0,0,none⟩) 1 1) (0+1) ((List.range (0+1)).map fun j=>.string (x.txt j)))) {body:Code} (hbody:getLoop Tryz.f23.body 0=some body)
  (hQ:∀ (gf cf:Nat) (v13 v14 v15 v65 v66 v67 v68 v69 v70 v71 v72 v73 v74 v75 v76 v77 v78 v79 v80 v81 v82 v83 v84 v85 v86 v87 v88 v89 v90 v91 v92 v93 v94 v95 v96 v97 v98 v99 v100 v101 v102 v103 v104 v105:Value) (W':World),Hid (Below w0.heap.size w0 W')→Hid (Blk W' Bk #[.bool (x.flag n)] 4)→Hid (W'.ownsRow base 9 1 (.slice (some ⟨gf,0,none⟩) (n+1) cf) (n+1) ((List.range (n+1)).map fun j=>.string (x.txt j)))→Hid (∀ b,b<base→b≠Bk→W'.heap[b]? = w.heap[b]?)→Q (.exit 0) { tmps:=List.toArray (u0::u1::.int .i64 x.p::.int .i64 x.q::.pointer (some ⟨b0,0,none⟩)::.pointer (some ⟨b1,0,none⟩)::u6::u7::u8::u9::.pointer (some ⟨Bk,0,none⟩)::.func (.func 58) #[] #[.pointer (some ⟨Bk,0,none⟩)]::.slice (some ⟨gf,0,none⟩) (n+1) cf::v13::v14::v15::u16::u17::u18::u19::u20::u21::u22::u23::u24::u25::u26::u27::u28::u29::u30::u31::u32::u33::u34::u35::u36::u37::u38::u39::u40::u41::u42::u43::u44::u45::u46::u47::u48::u49::u50::u51::u52::u53::u54::u55::u56::u57::u58::u59::u60::u61::u62::u63::.int .i64 n::v65::v66::v67::v68::v69::v70::v71::v72::v73::v74::v75::v76::v77::v78::v79::v80::v81::v82::v83::v84::v85::v86::v87::v88::v89::v90::v91::v92::v93::v94::v95::v96::v97::v98::v99::v100::v101::v102::v103::v104::v105::u106::u107::u108::u109::u110::u111::u112::u113::u114::u115::u116::u117::u118::u119::u120::u121::u122::u123::u124::u125::u126::u127::u128::u129::u130::u131::u132::u133::u134::u135::u136::u137::u138::u139::u140::u141::u142::u143::u144::u145::u146::u147::u148::u149::u150::u151::u152::[]),defers:=[] } W') :
  (Code.loop body).wp Tryz.prog Q { tmps:=List.toArray (u0::u1::.int .i64 x.p::.int .i64 x.q::.pointer (some ⟨b0,0,none⟩)::.pointer (some ⟨b1,0,none⟩)::u6::u7::u8::u9::.pointer (some ⟨Bk,0,none⟩)::.func (.func 58) #[] #[.pointer (some ⟨Bk,0,none⟩)]::.slice (some ⟨g0,0,none⟩) 1 1::u13::u14::u15::u16::u17::u18::u19::u20::u21::u22::u23::u24::u25::u26::u27::u28::u29::u30::u31::u32::u33::u34::u35::u36::u37::u38::u39::u40::u41::u42::u43::u44::u45::u46::u47::u48::u49::u50::u51::u52::u53::u54::u55::u56::u57::u58::u59::u60::u61::u62::u63::.int .i64 n::.int .i64 0::u66::u67::u68::u69::u70::u71::u72::u73::u74::u75::u76::u77::u78::u79::u80::u81::u82::u83::u84::u85::u86::u87::u88::u89::u90::u91::u92::u93::u94::u95::u96::u97::u98::u99::u100::u101::u102::u103::u104::u105::u106::u107::u108::u109::u110::u111::u112::u113::u114::u115::u116::u117::u118::u119::u120::u121::u122::u123::u124::u125::u126::u127::u128::u129::u130::u131::u132::u133::u134::u135::u136::u137::u138::u139::u140::u141::u142::u143::u144::u145::u146::u147::u148::u149::u150::u151::u152::[]),defers:=[] } w:=by
 obtain rfl:=Option.some.inj (hbody.symm.trans (rfl:getLoop Tryz.f23.body 0=some _))
 clear hbody
 replace hQ:=A8 hQ
 go_loopw [12,65] (fun s o wr=>∃ (i g c:Nat),s=.slice (some ⟨g,0,none⟩) (i+1) c∧o=.int .i64 i∧i≤n∧Hid (Below w0.heap.size w0 wr∧base≤wr.heap.size)∧Hid (Blk wr Bk #[.bool (x.flag i)] 4)∧Hid (wr.ownsRow base 9 1 (.slice (some ⟨g,0,none⟩) (i+1) c) (i+1) ((List.range (i+1)).map fun j=>.string (x.txt j)))∧Hid (∀ b,b<base→b≠Bk→wr.heap[b]? = w.heap[b]?)) (fun _ o _=>n-(intOf o).toNat)
 case atStart=>exact ⟨0,g0,1,rfl,rfl,by omega,A8 ⟨h0.out.1,h0.out.2.2.2⟩,hk,hr,A8 (fun _ _ _=>rfl)⟩
 case round =>
  clear hk hr
  obtain ⟨i,g,c,rfl,rfl,hi,hb,hk,hr,hs⟩:=hrel
  by_cases hin:i<n
  case neg =>
   have hin':¬ (i:Int)<n:=by omega
   obtain rfl:i=n:=by omega
   go_wp2_with fail
   exact hQ.out g c _ _ _ _ _ _ _ _ _ _ _ _ _ _ _ _ _ _ _ _ _ _ _ _ _ _ _ _ _ _ _ _ _ _ _ _ _ _ _ _ _ _ _ _ _ (A8 hb.out.1) hk hr hs
  case pos =>
   have hin':(i:Int)<n:=by omega
   have hi0:(0:Int)≤i:=by omega
   obtain ⟨ba,oa,ea,hba,xa⟩:∃ b off,aa=some ⟨b,off,none⟩∧b<w0.heap.size∧w0.cell? ⟨b,off+i,none⟩=some (.string (sAt x.na i)):=by
    rcases hA.out with ⟨e,e2⟩ | ⟨b,off,cap',e,h1,h2,h3,h4⟩
    ·have:=hn.out.1;rw [e2] at this;simp at this;omega
    ·cases e
     have:=h4 i _ (DX (by have:=hn.out.1;omega))
     rw [Nat.mul_one] at this
     exact ⟨b,off,rfl,h3,this⟩
   obtain ⟨bb,ob,eb,hbb,xb⟩:∃ b off,ab=some ⟨b,off,none⟩∧b<w0.heap.size∧w0.cell? ⟨b,off+i,none⟩=some (.string (sAt x.nb i)):=by
    rcases hB.out with ⟨e,e2⟩ | ⟨b,off,cap',e,h1,h2,h3,h4⟩
    ·have:=hn.out.2.1;rw [e2] at this;simp at this;omega
    ·cases e
     have:=h4 i _ (DX (by have:=hn.out.2.1;omega))
     rw [Nat.mul_one] at this
     exact ⟨b,off,rfl,h3,this⟩
   subst ea
   subst eb
   obtain ⟨k1,k2⟩:=hok.out.1 i hin
   obtain ⟨E,hT,hEz⟩:=x.add_T i
   have hgE:Hid (x.flag (i+1)=(mixF (mixF (x.flag i) [I x.p,sAt x.na i,x.db] 3) [I x.q,sAt x.nb i,x.da] 3&&(E==0))):=A8 (by rw [hEz];rfl)
   have hsz:base≤wr.heap.size:=hb.out.2
   have hc':=hc.out
   have cc:∀ b,b<base→b≠Bk→∀ k u,w.cell? ⟨b,k,none⟩=some u→∀ W,Only [Bk] wr W→W.cell? ⟨b,k,none⟩=some u:=fun b hbl hbn k u hu W hW=>((hW.cell (p:=⟨b,k,none⟩) (by show b<_;omega) (by simpa using hbn)).trans (Ah (hs.out b hbl hbn) k)).trans hu
   have ce:∀ b,b<w0.heap.size→∀ k u,w0.cell? ⟨b,k,none⟩=some u→∀ W,Only [Bk] wr W→W.cell? ⟨b,k,none⟩=some u:=fun b hbl k u hu W hW=>((hW.cell (p:=⟨b,k,none⟩) (by show b<_;have:=hb.out.1.size;omega) (by have:=h0.out.2.1;simp;omega)).trans (hb.out.1.cell (p:=⟨b,k,none⟩) hbl)).trans hu
   go_upto_region 9 with fail
   refine mix_r9 (p:=x.p) (q:=x.q) (n:=n) (i:=i) (ga:=ba) (oa:=oa) (gb:=bb) (ob:=ob) (fl:=x.flag i) (da:=x.da) (db:=x.db) (sa:=sAt x.na i) (sb:=sAt x.nb i) (S:=x.txt (i+1)) (E:=E) hE (A8 ⟨hb.out.1,h0.out.2.1⟩) (A8 (by have:=hp.out.1;exact ⟨by unfold Fits;omega,(bd11 (by omega)).small (by decide)⟩)) (A8 (by have:=hp.out.2;exact ⟨by unfold Fits;omega,(bd11 (by omega)).small (by decide)⟩)) (A8 ⟨hok.out.2.1,hok.out.2.2,k1,k2⟩) hin' hi0
    (A8 (fun W hW=>⟨cc _ hc'.1.1 hc'.1.2.1 0 _ hc'.1.2.2.1 W hW,cc _ hc'.1.1 hc'.1.2.1 1 _ hc'.1.2.2.2 W hW,cc _ hc'.2.1 hc'.2.2.1 0 _ hc'.2.2.2.1 W hW,cc _ hc'.2.1 hc'.2.2.1 1 _ hc'.2.2.2.2 W hW,ce _ hba _ _ xa W hW,ce _ hbb _ _ xb W hW⟩)) (A8 (by have:=h0.out.2.2.1;omega)) hk (A8 hT) (by kernel_rfl) ?_
   intro v69 v70 v71 v72 v73 v74 v75 v76 v77 v78 v79 v80 v81 v82 v83 v84 v85 v86 v87 v88 v89 v90 v91 v92 v93 v68 v94 v95 W5 hO5 hk5
   have hr5:=Cu hr.out hO5 (fun b e hb=>by have:=(hr.out.lt b e).1;have h2:=List.mem_singleton.1 hb;have:=h0.out.2.2.1;omega)
   have hb5:=A8 (hb.out.1.trans (hO5.toBelow hb.out.1.size (by intro z hz;rw [List.mem_singleton.1 hz];exact h0.out.2.1)))
   have hsz5:base≤W5.heap.size:=Nat.le_trans hsz hO5.size
   have hs5:=A8 (fun b (hbl:b<base) (hbn:b≠Bk)=>(hO5.block b (by omega) (by simpa using hbn)).trans (hs.out b hbl hbn))
   obtain ⟨f2,hf2⟩:∃ f,f=mixF (mixF (x.flag i) [I x.p,sAt x.na i,x.db] 3) [I x.q,sAt x.nb i,x.da] 3:=⟨_,rfl⟩
   rw [←hf2] at hk5 hgE
   obtain ⟨ez,hez⟩:∃ b,b=(E==0):=⟨_,rfl⟩
   rw [←hez] at hgE
   have hez':=hez.symm
   have y0:=hk5.cell 0
   have y1:=hk5.frozen 0
   have hk6:=hk5.set 0 (.bool (f2&&ez))
   have hg6:=Aj W5 Bk 0 (.bool (f2&&ez))
   have hr6:=hr5.kept hg6 (.inr (by intro e;have:=(hr5.lt Bk e).1;have:=h0.out.2.2.1;omega))
   have hO6:=A8 ((Only.refl [Bk] W5).setCell (p:=⟨Bk,0,none⟩) (by simp) (.bool (f2&&ez)))
   have hk6':Blk (W5.setCell ⟨Bk,0,none⟩ (.bool (f2&&ez))) Bk #[.bool (x.flag (i+1))] 4:=by rw [hgE.out];exact hk6
   clear hE hT hEz hez hk6 cc ce hO5 hc' xa xb k1 k2 hgE hf2 hr5
   have hbB:=h0.out.2.2.1
   have hbW:=h0.out.2.1
   have hend:Hid (∀ (g2 c2:Nat) (W7 W8:World),W7=(W5.setCell ⟨Bk,0,none⟩ (.bool (f2&&ez))).alloc (.cells #[.string (x.txt (i+1))] 9)→W8.ownsRow base 9 1 (.slice (some ⟨g2,0,none⟩) (i+1+1) c2) (i+1+1) (((List.range (i+1)).map fun j=>Value.string (x.txt j))++[.string (x.txt (i+1))])→W7.grownBy W8 (some g) →
     (Below w0.heap.size w0 W8∧base≤W8.heap.size)∧Blk W8 Bk #[.bool (x.flag (i+1))] 4∧W8.ownsRow base 9 1 (.slice (some ⟨g2,0,none⟩) (i+1+1) c2) (i+1+1) ((List.range (i+1+1)).map fun j=>.string (x.txt j))∧(∀ b,b<base→b≠Bk→W8.heap[b]? = w.heap[b]?)):=A8 (fun g2 c2 W7 W8 e7 own8 gr8=>by
    have hgb:base≤g:=(hr6.lt g rfl).1
    have h6:Below w0.heap.size w0 (W5.setCell ⟨Bk,0,none⟩ (.bool (f2&&ez))):=hb5.out.trans (hO6.out.toBelow hb5.out.size (by intro z hz;rw [List.mem_singleton.1 hz];exact hbW))
    have h67:Below (W5.setCell ⟨Bk,0,none⟩ (.bool (f2&&ez))).heap.size (W5.setCell ⟨Bk,0,none⟩ (.bool (f2&&ez))) W7:=by rw [e7];exact (Below.refl _ _).alloc (Aa _) _
    have s6:W5.heap.size≤(W5.setCell ⟨Bk,0,none⟩ (.bool (f2&&ez))).heap.size:=hg6.size
    have h7:Below w0.heap.size w0 W7:=h6.trans (h67.mono h6.size)
    have s7:base≤W7.heap.size:=Nat.le_trans hsz5 (Nat.le_trans s6 h67.size)
    have hg0:w0.heap.size≤g:=by omega
    refine ⟨⟨h7.grown gr8 h7.size (fun k e=>by cases e;exact hg0),Nat.le_trans s7 gr8.size⟩,(hk6'.below h67).kept gr8 (by intro e;cases e;omega),by rw [List.range_succ (n:=i+1),List.map_append];exact own8,fun b hbl hbn=>?_⟩
    have sb:b<W7.heap.size:=by omega
    rw [gr8.block b sb (by intro e;cases e;omega),h67.block b (by omega),hO6.out.block b (by omega) (by simpa using hbn),hs5.out b hbl hbn])
   have hr7:=hr6.alloc (.cells #[.string (x.txt (i+1))] 9)
   have hs7:base≤((W5.setCell ⟨Bk,0,none⟩ (.bool (f2&&ez))).alloc (.cells #[.string (x.txt (i+1))] 9)).heap.size:=by rw [World.size_alloc];have:=hg6.size;omega
   have hu7:((W5.setCell ⟨Bk,0,none⟩ (.bool (f2&&ez))).alloc (.cells #[.string (x.txt (i+1))] 9)).cell? ⟨W5.heap.size,0,none⟩=some (Value.string (x.txt (i+1))):=by
    have es:(W5.setCell ⟨Bk,0,none⟩ (.bool (f2&&ez))).heap.size=W5.heap.size:=World.size_setCell ..
    have:=(Blk.new (W5.setCell ⟨Bk,0,none⟩ (.bool (f2&&ez))) #[.string (x.txt (i+1))] 9).cell 0
    rw [es] at this
    exact this
   replace hr7:=A8 hr7
   replace hs7:=A8 hs7
   replace hu7:=A8 hu7
   have hi64:i+1≤64:=by have:=hn.out.2.2;omega
   generalize hxt:x.txt (i+1)=xt at *
   replace hxt:=A8 hxt
   clear hr6 hk6' hg6 hO6 hk5 hb5 hs5 hb hk hr hs
   cases f2 <;> cases ez <;>
   ·go_wp2_with (at_builtin;refine Fa rfl _ 9 (.string ⟨#[]⟩) 16 Tryz.underlying28 CX rfl _ _ rfl (.slice (some ⟨g,0,none⟩) (i+1) c) (i+1) _ rfl hr7.out _ (.string xt) rfl hu7.out rfl (by omega) (by omega) hs7.out ?_;intro g2 c2 W8 own8 gr8 bl8;replace gr8:=hend.out g2 c2 _ W8 rfl own8 gr8;clear own8 bl8;have own8:=A8 gr8.1;have bl8:=A8 gr8.2.1;have q3:=A8 gr8.2.2.1;replace gr8:=A8 gr8.2.2.2)
    go_roundw
    case rel=>exact ⟨i+1,_,_,rfl,by go_num,by omega,by assumption,by assumption,by assumption,by assumption⟩
    case measure=>simp [intOf];omega
def mixArg (x:MixA):Bool:=formedL x.na x.da&&formedL x.nb x.db&&decide ((x.na.length:Int)=x.nb.length)&&(decide (1≤x.p)&&decide (x.p≤1000))&&(decide (1≤x.q)&&decide (x.q≤1000))
def MixA.quo (x:MixA) (i:Nat):Int:=x.num i / x.gcd (x.na.length+1)
def mixB (x:MixA):Bool:=mixArg x&&x.flag x.na.length&&(List.range (x.na.length+1)).all (fun i=>decide (Bd 100 (x.quo i)))
theorem CR {w W:World} {b:Nat} (h:Blk W b #[.slice none 0 0,.string ⟨#[]⟩] 30) (hb:w.heap.size≤b) (hW:Below w.heap.size w W) (a c:Value) :
  let V:=(W.setCell ⟨b,0,none⟩ a).setCell ⟨b,1,none⟩ c
  (V.cell? ⟨b,0,none⟩=some a∧V.cell? ⟨b,1,none⟩=some c)∧Below w.heap.size w V∧Only [b] W V:=by
 have hB:=(h.set 0 a).set 1 c
 have hon:Only [b] W ((W.setCell ⟨b,0,none⟩ a).setCell ⟨b,1,none⟩ c):=((Only.refl [b] W).setCell (p:=⟨b,0,none⟩) (by simp) _).setCell (p:=⟨b,1,none⟩) (by simp) _
 exact ⟨⟨hB.cell 0,hB.cell 1⟩,hW.trans (hon.toBelow hW.size (by intro x hx;rw [List.mem_singleton.1 hx];exact hb)),hon⟩
theorem D7 (c m:Int) (hc:Fits c) (h0:0<m) (h1:m≤9223372036854775807) (w:World):Calls Tryz.prog 24 #[.int .i64 c,.int .i64 m] w (Rets w (.int .i64 (pkv c m))):=by
 obtain ⟨hc0,hc1⟩:=hc
 have hmz:(m==0)=false:=by rw [beq_eq_false_iff_ne];omega
 by_cases hc:c<0
 ·have hp:0≤-(c+1):=by omega
  have e:=A8 (show -(c+1) % m=pkv c m by unfold pkv;rw [if_pos hc])
  have e2:=A8 (show -((c+1).tmod m)=-(c+1) % m by rw [←Int.neg_tmod,Int.tmod_eq_emod_of_nonneg hp])
  go_enter Tryz.func24,Tryz.ntmps24
  go_wp2
  go_ret
  first | exact ⟨Bu e.out,Below.refl _ _⟩ | exact ⟨Bu (e2.out.trans e.out),Below.refl _ _⟩
 ·have hp:0≤c:=by omega
  have e:=A8 (show c % m=pkv c m by unfold pkv;rw [if_neg hc])
  go_enter Tryz.func24,Tryz.ntmps24
  go_wp2
  go_ret
  exact ⟨Bu e.out,Below.refl _ _⟩
theorem AF (c m:Int) (hc:Fits c) (h0:0<m) (h1:m≤9223372036854775807) (w:World):Calls Tryz.prog 35 #[.int .i64 c,.int .i64 m] w (Rets w (.int .i64 (pkv c m))):=by
 obtain ⟨hc0,hc1⟩:=hc
 have hmz:(m==0)=false:=by rw [beq_eq_false_iff_ne];omega
 by_cases hc:c<0
 ·have hp:0≤-(c+1):=by omega
  have e:=A8 (show -(c+1) % m=pkv c m by unfold pkv;rw [if_pos hc])
  have e2:=A8 (show -((c+1).tmod m)=-(c+1) % m by rw [←Int.neg_tmod,Int.tmod_eq_emod_of_nonneg hp])
  go_enter Tryz.func35,Tryz.ntmps35
  go_wp2
  go_ret
  first | exact ⟨Bu e.out,Below.refl _ _⟩ | exact ⟨Bu (e2.out.trans e.out),Below.refl _ _⟩
 ·have hp:0≤c:=by omega
  have e:=A8 (show c % m=pkv c m by unfold pkv;rw [if_neg hc])
  go_enter Tryz.func35,Tryz.ntmps35
  go_wp2
  go_ret
  exact ⟨Bu e.out,Below.refl _ _⟩
def atv (l:List Int) (i:Nat):Int:=gi l (i % l.length)
theorem Es (v:Value) (l:List Int) (i:Nat) (w:World) (h:Sl w v l):Calls Tryz.prog 36 #[v,.int .i64 i] w (Rets w (.int .i64 (atv l i))):=by
 have hl:=h.len_le
 unfold maxLen at hl
 unfold atv
 rcases h with ⟨rfl,rfl⟩ | ⟨b,off,cap,rfl,h1,h2,h3,h4⟩
 ·go_enter Tryz.func36,Tryz.ntmps36
  go_wp2
  go_ret
  exact ⟨rfl,Below.refl _ _⟩
 ·by_cases h0:l.length=0
  ·have hz:gi l (i % l.length)=0:=Bp (by omega)
   rw [hz]
   have e0:((l.length:Int)==0)=true:=by simp [h0]
   generalize l.length=n at *
   clear h4 hz
   subst h0
   go_enter Tryz.func36,Tryz.ntmps36
   go_wp2
   go_ret
   exact ⟨rfl,Below.refl _ _⟩
  ·have hlt:i % l.length<l.length:=Nat.mod_lt _ (by omega)
   have x0:=h4 (i % l.length) hlt
   have e0:((l.length:Int)==0)=false:=by rw [beq_eq_false_iff_ne];omega
   have e1:((i:Int)).tmod (l.length:Int)=((i % l.length:Nat):Int):=by rw [Int.tmod_eq_emod_of_nonneg (Int.natCast_nonneg i)];rfl
   generalize gi l (i % l.length)=z at *
   generalize hq:i % l.length=q at *
   generalize l.length=n at *
   have hq1:(q:Int)<n:=by omega
   have hq0:(0:Int)≤q:=by omega
   have hn0:¬ (n:Int)=0:=by omega
   have hn1:¬ n=0:=h0
   replace hq:=A8 hq
   clear h4
   go_enter Tryz.func36,Tryz.ntmps36
   go_wp2
   go_ret
   exact ⟨rfl,Below.refl _ _⟩
theorem IV (c r m:Int) (v u:Value) (a a2:Option Addr) (cp cp2 n n2:Nat) (hv:v=.slice a n cp) (hu:u=.slice a2 n2 cp2) (hm:Fits m) (w:World) :
  Calls Tryz.prog 30 #[.agg #[.int .i64 c,.int .i64 r,v,u,.int .i64 m]] w (Rets w (.bool (pkv m 3==2))):=by
 subst hv
 subst hu
 have PK:=A8 (fun W=>AF m 3 hm (by decide) (by decide) W)
 obtain ⟨V,hV,hS,z1⟩:=(BL.start w).add' #[.int .i64 c,.int .i64 r,.slice a n cp,.slice a2 n2 cp2,.int .i64 m] 24
 have x4:V.cell? ⟨w.heap.size,4,none⟩=some (.int .i64 m):=hS.cell _ _ _ (.head _) 4
 generalize pkv m 3=z at *
 clear z1
 go_enter Tryz.func30,Tryz.ntmps30
 go_upto_region 1 with fail
 rw [←hV]
 clear hV
 go_wp2_with fail
 refine Calls.mono (PK.out _) ?_
 rintro e w1 ⟨rfl,hb⟩
 replace hS:=hS.call hb
 go_wp2
 go_ret
 exact ⟨rfl,hS.below⟩
def sAt6 (l:List ByteArray) (i:Nat):ByteArray:=l[i]?.getD ⟨#[]⟩
theorem Jt {l:List ByteArray} {i:Nat} (h:i<l.length):l[i]? = some (sAt6 l i):=by unfold sAt6;rw [List.getElem?_eq_getElem h];rfl
theorem Lm (a b:ByteArray):(a.toList==b.toList)=decide (a=b):=by
 by_cases h:a=b
 ·subst h;simp
 ·rw [decide_eq_false h,beq_eq_false_iff_ne]
  intro e
  rw [ByteArray.toList_eq,ByteArray.toList_eq] at e
  exact h (ByteArray.ext (Array.toList_inj.1 e))
theorem IW {l m:List ByteArray} (hl:l.length=m.length) (h:∀ j,j<l.length→sAt6 l j=sAt6 m j):l=m:=by
 refine List.ext_getElem hl fun j h1 h2=>?_
 have:=h j h1
 unfold sAt6 at this
 rwa [List.getElem?_eq_getElem h1,List.getElem?_eq_getElem h2] at this
theorem Hs (va vb:Value) (la lb:List ByteArray) (w:World) (hA:SlS w va la) (hB:SlS w vb lb):Calls Tryz.prog 67 #[va,vb] w (Rets w (.bool (decide (la=lb)))):=by
 have hla:la.length≤maxLen:=hA.len_le
 unfold maxLen at hla
 obtain ⟨aa,ca,rfl⟩:=hA.shape
 obtain ⟨ab,cb,rfl⟩:=hB.shape
 by_cases hl:la.length=lb.length
 case neg =>
  have hn:la≠lb:=fun e=>hl (by rw [e])
  have h1:((la.length:Int) != lb.length)=true:=by simp;omega
  rw [decide_eq_false hn]
  clear hA hB hn
  generalize la.length=n at *
  generalize lb.length=m at *
  go_enter Tryz.func67,Tryz.ntmps67
  go_wp2
  go_ret
  exact ⟨rfl,Below.refl _ _⟩
 case pos =>
  have h1:((la.length:Int) != lb.length)=false:=by simp [hl]
  have HA:=A8 hA
  have HB:=A8 hB
  have hpost:Hid (∀ (b:Bool) k,(b=false∧k<la.length∧sAt6 la k≠sAt6 lb k)∨(b=true∧∀ j,j<la.length→sAt6 la j=sAt6 lb j)→decide (la=lb)=b):=A8 (fun b k h=>by
   rcases h with ⟨rfl,h1,h2⟩ | ⟨rfl,h1⟩
   ·exact decide_eq_false (fun e=>h2 (by rw [e]))
   ·exact decide_eq_true (IW hl h1))
  obtain ⟨n,hn⟩:∃ n,n=la.length:=⟨_,rfl⟩
  obtain ⟨m,hm⟩:∃ n,n=lb.length:=⟨_,rfl⟩
  rw [←hn] at HA h1 hpost hl hla ⊢
  rw [←hm] at HB h1 hl ⊢
  replace hn:=A8 hn
  replace hm:=A8 hm
  replace hl:=A8 hl
  clear hA hB
  generalize decide (la=lb)=bb at *
  go_enter Tryz.func67,Tryz.ntmps67
  go_wp2_with fail
  go_loopw [5] (fun o wr=>∃ i:Nat,o=.int .i64 i∧i≤n∧Hid (∀ j,j<i→sAt6 la j=sAt6 lb j)∧Hid (Below w.heap.size w wr)) (fun o _=>n-(intOf o).toNat)
  case atStart=>exact ⟨0,rfl,by omega,A8 (fun j hj=>absurd hj (by omega)),A8 (Below.refl _ _)⟩
  case round =>
   obtain ⟨i,rfl,hi,hall,hb⟩:=hrel
   by_cases hil:i<n
   case neg =>
    have hil':¬ (i:Int)<n:=by omega
    obtain rfl:i=n:=by omega
    have hp:=A8 (hpost.out true 0 (.inr ⟨rfl,hall.out⟩))
    go_wp2
    go_ret
    exact ⟨Ae hp.out.symm,hb.out⟩
   case pos =>
    have hil':(i:Int)<n:=by omega
    have hil2:(i:Int)<m:=by have:=hl.out;omega
    have hi0:(0:Int)≤i:=by omega
    obtain ⟨ba,oa,ea,hba,xa⟩:∃ b off,aa=some ⟨b,off,none⟩∧b<w.heap.size∧w.cell? ⟨b,off+i,none⟩=some (.string (sAt6 la i)):=by
     rcases HA.out with ⟨e,e2⟩ | ⟨b,off,cap',e,h1,h2,h3,h4⟩
     ·have:=hn.out;rw [e2] at this;simp at this;omega
     ·cases e
      have:=h4 i _ (Jt (by rw [←hn.out];exact hil))
      rw [Nat.mul_one] at this
      exact ⟨b,off,rfl,h3,this⟩
    obtain ⟨bb',ob,eb,hbb,xb⟩:∃ b off,ab=some ⟨b,off,none⟩∧b<w.heap.size∧w.cell? ⟨b,off+i,none⟩=some (.string (sAt6 lb i)):=by
     rcases HB.out with ⟨e,e2⟩ | ⟨b,off,cap',e,h1,h2,h3,h4⟩
     ·have e3:=hm.out;rw [e2] at e3;simp at e3;have:=hl.out;omega
     ·cases e
      have:=h4 i _ (Jt (by rw [←hm.out,←hl.out];exact hil))
      rw [Nat.mul_one] at this
      exact ⟨b,off,rfl,h3,this⟩
    subst ea
    subst eb
    replace xa:=(hb.out.cell (p:=⟨_,_,none⟩) hba).trans xa
    replace xb:=(hb.out.cell (p:=⟨_,_,none⟩) hbb).trans xb
    have hse:=Lm (sAt6 la i) (sAt6 lb i)
    obtain ⟨sa,hsa⟩:∃ s,s=sAt6 la i:=⟨_,rfl⟩
    obtain ⟨sb,hsb⟩:∃ s,s=sAt6 lb i:=⟨_,rfl⟩
    rw [←hsa] at xa hse
    rw [←hsb] at xb hse
    replace hsa:=A8 hsa
    replace hsb:=A8 hsb
    have hb2:=A8 (hb.out.trans (Ac wr 1 |>.mono hb.out.size))
    by_cases heq:sa=sb
    ·rw [decide_eq_true heq] at hse
     have hall2:=A8 (show ∀ j,j<i+1→sAt6 la j=sAt6 lb j from fun j hj=>by
      by_cases e:j=i
      ·subst e;rw [←hsa.out,←hsb.out];exact heq
      ·exact hall.out j (by omega))
     clear heq hall
     go_upto_region 6 with fail
     go_region_held3 (fun w'=>w'.cell? ⟨ba,oa+i,none⟩=some (.string sa)∧w'.cell? ⟨bb',ob+i,none⟩=some (.string sb))
      (first | go_keep)
      (fail)
     all_goals (go_wp2_with fail;go_roundw)
     case rel=>exact ⟨i+1,by go_num,by omega,hall2,hb2⟩
     case measure=>simp [intOf];omega
    ·rw [decide_eq_false heq] at hse
     have hp:=A8 (hpost.out false i (.inl ⟨rfl,hil,by rw [←hsa.out,←hsb.out];exact heq⟩))
     clear heq
     go_upto_region 6 with fail
     go_region_held3 (fun w'=>w'.cell? ⟨ba,oa+i,none⟩=some (.string sa)∧w'.cell? ⟨bb',ob+i,none⟩=some (.string sb))
      (first | go_keep)
      (fail)
     all_goals (go_wp2;go_ret;exact ⟨Ae hp.out.symm,hb2.out⟩)
def twoL (a b:Int):List (List Int×Int):=[([1,1],a),([1,-1],b)]
theorem BC (a b:Int) (w:World):Calls Tryz.prog 34 #[.int .i64 a,.int .i64 b] w fun e w'=>∃ v,e=.returned (.agg #[.int .i64 2,v])∧SlE w' v (twoL a b)∧Below w.heap.size w w':=by
 obtain ⟨V0,e0,S0,z0⟩:=(BL.start w).add' #[.int .i64 2,.slice (some ⟨w.heap.size+1+1+1,0,none⟩) 2 2] 27
 obtain ⟨V1,e1,S1,z1⟩:=S0.add' #[.int .i64 1,.int .i64 1] 3
 obtain ⟨V2,e2,S2,z2⟩:=S1.add' #[.int .i64 1,.int .i64 (-1)] 3
 obtain ⟨V3,e3,S3,z3⟩:=S2.add' #[.slice (some ⟨w.heap.size+1,0,none⟩) 2 2,.int .i64 a,.slice (some ⟨w.heap.size+1+1,0,none⟩) 2 2,.int .i64 b] 60
 rw [z0] at S1 S2 S3 z1
 rw [z1] at S2 S3 z2
 rw [z2] at S3
 have hV:V3=((((w.alloc (.cells #[.int .i64 2,.slice (some ⟨w.heap.size+1+1+1,0,none⟩) 2 2] 27)).alloc (.cells #[.int .i64 1,.int .i64 1] 3)).alloc (.cells #[.int .i64 1,.int .i64 (-1)] 3)).alloc (.cells #[.slice (some ⟨w.heap.size+1,0,none⟩) 2 2,.int .i64 a,.slice (some ⟨w.heap.size+1+1,0,none⟩) 2 2,.int .i64 b] 60)):=by rw [e3,e2,e1,e0]
 have hlt:=S3.lts
 have k0:=(S3.c2 (w.heap.size) _ _ _ (.tail _ (.tail _ (.tail _ (.head _)))))
 have hsl:SlE V3 (.slice (some ⟨w.heap.size+1+1+1,0,none⟩) 2 2) (twoL a b):=by
  have c4:=S3.c4 (w.heap.size+1+1+1) _ _ _ _ _ (.head _)
  have c1:=S3.c2 (w.heap.size+1) _ _ _ (.tail _ (.tail _ (.head _)))
  have c2:=S3.c2 (w.heap.size+1+1) _ _ _ (.tail _ (.head _))
  have l3:=hlt _ (.head _)
  have l1:=hlt _ (.tail _ (.tail _ (.head _)))
  have l2:=hlt _ (.tail _ (.head _))
  refine .inr ⟨w.heap.size+1+1+1,0,2,rfl,Aa _,by unfold maxLen;decide,l3,fun j x hj=>?_⟩
  match j,hj with
  | 0,hj =>
   cases hj
   exact ⟨_,c4.1,.inr ⟨w.heap.size+1,0,2,rfl,Aa _,by unfold maxLen;decide,l1,fun k hk=>(match k,hk with | 0,_=>c1.1 | 1,_=>c1.2)⟩,c4.2.1⟩
  | 1,hj =>
   cases hj
   exact ⟨_,c4.2.2.1,.inr ⟨w.heap.size+1+1,0,2,rfl,Aa _,by unfold maxLen;decide,l2,fun k hk=>(match k,hk with | 0,_=>c2.1 | 1,_=>c2.2)⟩,c4.2.2.2⟩
 have hfin:=S3.below
 rw [hV] at hsl hfin k0
 replace hsl:=A8 hsl
 replace hfin:=A8 hfin
 clear hlt hV e0 e1 e2 e3 S0 S1 S2 S3 z0 z1 z2 z3
 go_enter Tryz.func34,Tryz.ntmps34
 go_wp2
 exact bodyPost_ret (v:=.agg #[.int .i64 2,.slice (some ⟨w.heap.size+1+1+1,0,none⟩) 2 2]) (by simp [results,Tryz.results34,go_sem,k0.1,k0.2]) rfl ⟨_,rfl,hsl.out,hfin.out⟩
theorem Ln (va vb:Value) (la lb:List ByteArray) (da db:ByteArray) (w:World) (hA:SlS w va la) (hB:SlS w vb lb) :
  Calls Tryz.prog 26 #[.agg #[va,.string da],.agg #[vb,.string db]] w (Rets w (.bool (decide (da=db)&&decide (la=lb)))):=by
 obtain ⟨aa,ca,rfl⟩:=hA.shape
 obtain ⟨ab,cb,rfl⟩:=hB.shape
 have HA:=A8 hA
 have HB:=A8 hB
 have ST:=A8 (fun W (h1:SlS W (.slice aa la.length ca) la) (h2:SlS W (.slice ab lb.length cb) lb)=>Hs _ _ la lb W h1 h2)
 clear hA hB
 have hs:=Lm da db
 generalize decide (la=lb)=b2 at *
 generalize la.length=n at *
 generalize lb.length=m at *
 by_cases hd:da=db
 ·rw [decide_eq_true hd] at hs ⊢
  clear hd
  obtain ⟨V1,e1,S1,z1⟩:=(BL.start w).add' #[.slice aa n ca,.string da] 30
  obtain ⟨V2,e2,hS,z2⟩:=S1.add' #[.slice ab m cb,.string db] 30
  rw [z1] at hS
  have hV:V2=(w.alloc (.cells #[.slice aa n ca,.string da] 30)).alloc (.cells #[.slice ab m cb,.string db] 30):=by rw [e2,e1]
  clear e1 e2 S1 z1 z2
  obtain ⟨x0,x1⟩:=hS.c2 w.heap.size _ _ _ (.tail _ (.head _))
  obtain ⟨y0,y1⟩:=hS.c2 (w.heap.size+1) _ _ _ (.head _)
  go_enter Tryz.func26,Tryz.ntmps26
  go_upto_region 1 with fail
  rw [←hV]
  clear hV
  go_wp2_with fail
  refine Calls.mono (ST.out _ (HA.out.below hS.below) (HB.out.below hS.below)) ?_
  rintro e w1 ⟨rfl,hb⟩
  replace hS:=hS.call hb
  clear hb x0 x1 y0 y1
  go_wp2
  go_ret
  exact ⟨Ae (by simp),hS.below⟩
 ·rw [decide_eq_false hd] at hs ⊢
  clear hd
  obtain ⟨V1,e1,S1,z1⟩:=(BL.start w).add' #[.slice aa n ca,.string da] 30
  obtain ⟨V2,e2,hS,z2⟩:=S1.add' #[.slice ab m cb,.string db] 30
  rw [z1] at hS
  have hV:V2=(w.alloc (.cells #[.slice aa n ca,.string da] 30)).alloc (.cells #[.slice ab m cb,.string db] 30):=by rw [e2,e1]
  clear e1 e2 S1 z1 z2
  obtain ⟨x0,x1⟩:=hS.c2 w.heap.size _ _ _ (.tail _ (.head _))
  obtain ⟨y0,y1⟩:=hS.c2 (w.heap.size+1) _ _ _ (.head _)
  go_enter Tryz.func26,Tryz.ntmps26
  go_upto_region 1 with fail
  rw [←hV]
  clear hV
  go_wp2
  go_ret
  exact ⟨Ae (by simp),hS.below⟩
end
section
open Go.RowKit
structure NumL where
 cols:Int
 rows:Int
 coefs:List Int
 hidden:List Int
 miss:Int
def NumL.c (x:NumL):Nat:=(1+pkv x.cols 8).toNat
def NumL.r (x:NumL):Nat:=(1+pkv x.rows 5).toNat
def NumL.coef (x:NumL) (i j:Nat):Int:=pkv (atv x.coefs (i*x.c+j)) 19-9
def NumL.hid (x:NumL) (j:Nat):Int:=pkv (atv x.hidden j) 6
def NumL.sum (x:NumL) (i:Nat):Nat→Int
 | 0=>0
 | k+1=>x.sum i k+x.coef i k*x.hid k
def NumL.misses (x:NumL):Bool:=pkv x.miss 3==2
def NumL.hit (x:NumL) (i:Nat):Bool:=x.misses&&((i:Int)==pkv (x.miss.tdiv 3) x.r)
def NumL.val (x:NumL) (i:Nat):Int:=if x.hit i then x.sum i x.c+pkv (x.miss.tdiv 30) 41-20 else x.sum i x.c
def NumL.row (x:NumL) (i:Nat):List Int×Int:=((List.range x.c).map (x.coef i),x.val i)
def NumL.made (x:NumL):List (List Int×Int):=(List.range x.r).map x.row
theorem NumL.c_eq (x:NumL):(x.c:Int)=1+pkv x.cols 8∧1≤x.c∧x.c≤8:=by
 have h1:=Aw (c:=x.cols) (m:=8) (by decide)
 have h2:=BH (c:=x.cols) (m:=8) (by decide)
 unfold NumL.c;omega
theorem NumL.r_eq (x:NumL):(x.r:Int)=1+pkv x.rows 5∧1≤x.r∧x.r≤5:=by
 have h1:=Aw (c:=x.rows) (m:=5) (by decide)
 have h2:=BH (c:=x.rows) (m:=5) (by decide)
 unfold NumL.r;omega
theorem NumL.coef_bd (x:NumL) (i j:Nat):-9≤x.coef i j∧x.coef i j≤9:=by
 have h1:=Aw (c:=atv x.coefs (i*x.c+j)) (m:=19) (by decide)
 have h2:=BH (c:=atv x.coefs (i*x.c+j)) (m:=19) (by decide)
 unfold NumL.coef;omega
theorem NumL.hid_bd (x:NumL) (j:Nat):0≤x.hid j∧x.hid j≤5:=by
 have h1:=Aw (c:=atv x.hidden j) (m:=6) (by decide)
 have h2:=BH (c:=atv x.hidden j) (m:=6) (by decide)
 unfold NumL.hid;omega
theorem NumL.prod_bd (x:NumL) (i j:Nat):-45≤x.coef i j*x.hid j∧x.coef i j*x.hid j≤45:=by
 obtain ⟨h1,h2⟩:=x.coef_bd i j
 obtain ⟨h3,h4⟩:=x.hid_bd j
 generalize x.coef i j=a at *
 generalize x.hid j=b at *
 have e1:=Int.mul_le_mul_of_nonneg_right h2 h3
 have e2:=Int.mul_le_mul_of_nonneg_right h1 h3
 omega
theorem NumL.sum_bd (x:NumL) (i:Nat):∀ k:Nat,-45*(k:Int)≤x.sum i k∧x.sum i k≤45*(k:Int)
 | 0=>⟨by show _≤(0:Int);omega,by show (0:Int)≤_;omega⟩
 | k+1=>by
  obtain ⟨h1,h2⟩:=x.sum_bd i k
  obtain ⟨h3,h4⟩:=x.prod_bd i k
  show _≤x.sum i k+x.coef i k*x.hid k∧x.sum i k+x.coef i k*x.hid k≤_
  omega
theorem NumL.val_bd (x:NumL) (i:Nat):-400≤x.val i∧x.val i≤400:=by
 have h1:=Aw (c:=x.miss.tdiv 30) (m:=41) (by decide)
 have h2:=BH (c:=x.miss.tdiv 30) (m:=41) (by decide)
 obtain ⟨h3,h4⟩:=x.sum_bd i x.c
 obtain ⟨_,_,h5⟩:=x.c_eq
 unfold NumL.val
 split <;> omega
theorem NumL.made_len (x:NumL):x.made.length=x.r:=by unfold NumL.made;simp
theorem NumL.made_valid (x:NumL):validL x.c x.made=true:=by
 obtain ⟨_,h1,h2⟩:=x.c_eq
 obtain ⟨_,h3,h4⟩:=x.r_eq
 unfold validL
 simp only [Bool.and_eq_true,decide_eq_true_eq,Bool.not_eq_true',List.any_eq_false,x.made_len]
 refine ⟨⟨⟨by omega,by omega⟩,by omega⟩,fun e he=>?_⟩
 unfold NumL.made at he
 obtain ⟨i,_,rfl⟩:=List.mem_map.1 he
 obtain ⟨v1,v2⟩:=x.val_bd i
 have hany:((List.range x.c).map (x.coef i)).any largeB=false:=by
  rw [List.any_eq_false]
  intro z hz
  obtain ⟨j,_,rfl⟩:=List.mem_map.1 hz
  obtain ⟨c1,c2⟩:=x.coef_bd i j
  unfold largeB
  simp;omega
 unfold badE NumL.row
 rw [hany]
 simp;omega
end
section
open Go.RowKit
attribute [local go_sem] Oper.semAt_some
theorem info_eq:(Tryz.prog.info? 60).map (fun i=>(i.zero,i.size,i.bytes))=some (some (.agg #[.slice none 0 0,.int .i64 0]),2,32):=by kernel_rfl
theorem GF {P:Program} {w:World} {base:Nat} (t ty e:TypeId) (z:Value) (bytes:Nat) (ht:P.underlying t=some (.slice e)) (hi:(P.info? e).map (fun i=>(i.zero,i.size,i.bytes))=some (some z,2,bytes)) (hz:z.cells.size=2)
  (v:Value) (n:Nat) (xs:List Value) (hown:w.ownsRow base e 2 v n xs) (g:Nat) (u1 u2:Value) (hu1:w.cell? ⟨g,0,none⟩=some u1) (hu2:w.cell? ⟨g,1,none⟩=some u2) (h1:u1.oneCell'=true) (h2:u2.oneCell'=true) (hn:(n+1)*bytes≤140737488355328) (hn2:n≤1000000) (hbase:base≤w.heap.size) :
  ∃ v' w',(Builtin.append_ #[t,t] ty #[v,.slice (some ⟨g,0,none⟩) 1 1]).run P w=.ok v' w'∧w'.ownsRow base e 2 v' (n+1) (xs++[u1,u2])∧w.grownBy w' v.ownBlock∧∀ b,v'.ownBlock=some b→v.ownBlock=some b∨w.heap.size≤b:=by
 obtain ⟨i0,hi,hz0,hz1,hz2⟩:=info_parts hi
 have hnews:∀ j y,[u1,u2][j]? = some y→w.cell? ((⟨g,0,none⟩:Addr).add j)=some y:=fun j y hj=>by
  match j,hj with
  | 0,hj=>cases hj;rw [Az];exact hu1
  | 1,hj=>cases hj;rw [Az];exact hu2
 have h1c:∀ y∈[u1,u2],y.oneCell'=true:=by
  intro y hy
  simp only [List.mem_cons,List.not_mem_nil,or_false] at hy
  rcases hy with rfl | rfl
  ·exact h1
  ·exact h2
 have blkOf:∀ {v':Value} {w':World} {n':Nat} {xs':List Value},w'.ownsRow w.heap.size e 2 v' n' xs'→∀ b,v'.ownBlock=some b→v.ownBlock=some b∨w.heap.size≤b:=fun h b hb=>.inr (h.lt b hb).1
 have hown0:=hown
 rcases hown.2 with ⟨rfl,rfl⟩ | ⟨g0,cap,cur,rfl,hb,hg,hcap,hmax,hsz,htk⟩
 ·obtain ⟨v',w',hrun,r1,r2,_⟩:=run_append_own (P:=P) w w.heap.size t ty e i0 z 2 bytes ht hi hz0 hz1 hz2 hz (by decide) (.slice none 0 0) 0 [] (World.ownsRow_nil w _ _ 2) ⟨g,0,none⟩ 1 1 [u1,u2] rfl hnews h1c (by unfold maxLen;omega) (by omega) (Aa _)
  obtain rfl:xs=[]:=List.eq_nil_of_length_eq_zero (by have:=hown.1;simpa using this)
  exact ⟨v',w',hrun,CY r1 hbase,r2,blkOf r1⟩
 ·by_cases hroom:n+1≤cap
  ·obtain ⟨w',hrun,r1,r2⟩:=run_append_own_spare (P:=P) w base t ty e i0 2 ht hi hz1 g0 n cap xs hown0 ⟨g,0,none⟩ 1 1 [u1,u2] rfl hnews h1c hroom
   exact ⟨_,w',hrun,r1,r2,fun b hb=>.inl hb⟩
  ·obtain ⟨v',w',hrun,r1,r2⟩:=run_append_arg_grows (P:=P) w t ty e i0 z 2 bytes ht hi hz0 hz1 hz2 hz (by decide) ⟨g0,0,none⟩ n cap xs (by have:=hown.1;simpa using this) (fun j y hj=>hown0.cells (g:=g0) rfl j y hj) ⟨g,0,none⟩ 1 1 [u1,u2] rfl hnews (by omega) (by unfold maxLen;omega) hn
   exact ⟨v',w',hrun,CY r1 hbase,⟨r2.os,r2.tape,r2.output,r2.size,fun k hk _=>r2.block k hk (by simp)⟩,blkOf r1⟩
theorem Fv {o:Oper} {a:Act} {K:Act→World→Prop} {Q:Exit→Act→World→Prop} {w:World} {base:Nat} (t:TypeId) (ht:Tryz.prog.underlying t=some (.slice 60))
  (s x:Operand) (ho:o.op=.call { callee:=.builtin .append,args:=#[s,x],argTypes:=#[t,t] }) (v:Value) (n:Nat) (xs:List Value) (hs:a.eval s=v) (hown:w.ownsRow base 60 2 v n xs)
  (g:Nat) (u1 u2:Value) (hx:a.eval x=.slice (some ⟨g,0,none⟩) 1 1) (hu1:w.cell? ⟨g,0,none⟩=some u1) (hu2:w.cell? ⟨g,1,none⟩=some u2) (h1:u1.oneCell'=true) (h2:u2.oneCell'=true) (hn2:n≤1000000) (hbase:base≤w.heap.size)
  (h:∀ v' w',w'.ownsRow base 60 2 v' (n+1) (xs++[u1,u2])→w.grownBy w' v.ownBlock→(∀ b,v'.ownBlock=some b→v.ownBlock=some b∨w.heap.size≤b)→K (a.put o.dst v') w') :
  Oper.wp Tryz.prog o a w K Q:=by
 obtain ⟨v',w',hrun,r1,r2,r3⟩:=GF (P:=Tryz.prog) t o.type 60 _ 32 ht info_eq rfl v n xs hown g u1 u2 hu1 hu2 h1 h2 (by omega) hn2 hbase
 unfold Oper.wp
 simp [execOp,ho,resolve,invoke,builtin,hs,hx,hrun,Result.andThen]
 exact h v' w' r1 r2 r3
section
variable {ops:Array Oper} {rest:List Oper} {o:Oper} {a:Act} {Q:Exit→Act→World→Prop} {K:Act→World→Prop} {w0 w:World} {L:BLs} {R:List RowD} {s x:Operand} {v:Value} {n:Nat} {xs:List Value} {g:Nat}
theorem E0 {e:TypeId} {k:Nat} {v:Value} {xs:List Value} (h:w.ownsRow w0.heap.size e k v (n+1) xs):∃ g' cap,v=.slice (some ⟨g',0,none⟩) (n+1) cap:=by
 rcases h.2 with ⟨_,h0⟩ | ⟨g',cap,cur,e,_⟩
 ·omega
 ·exact ⟨g',cap,e⟩
theorem KJ (ho:o.op=.call { callee:=.builtin .append,args:=#[s,x],argTypes:=#[22,22] }) (hM:Mem w0 L (⟨3,1,v,n,xs⟩ :: R) w) (hs:a.eval s=v)
  {z:Int} (hx:a.eval x=.slice (some ⟨g,0,none⟩) 1 1) (hu:w.cell? ⟨g,0,none⟩=some (.int .i64 z)) (hn:n≤1000000)
  (h:∀ g' cap w',Mem w0 L (⟨3,1,.slice (some ⟨g',0,none⟩) (n+1) cap,n+1,xs++[.int .i64 z]⟩ :: R) w'→K (a.put o.dst (.slice (some ⟨g',0,none⟩) (n+1) cap)) w'):Oper.wp Tryz.prog o a w K Q :=
 AP 22 3 (.int .i64 0) 8 Tryz.underlying22 Bz rfl s x ho v n xs hs hM.own0 g _ hx hu rfl (by omega) hn hM.size fun v' w' r1 r2 r3=>by
  obtain ⟨g',cap,rfl⟩:=E0 r1
  exact h g' cap w' (hM.app0 r2 r1 r3)
theorem FX (ho:o.op=.call { callee:=.builtin .append,args:=#[s,x],argTypes:=#[28,28] }) (hM:Mem w0 L (⟨9,1,v,n,xs⟩ :: R) w) (hs:a.eval s=v)
  {z:ByteArray} (hx:a.eval x=.slice (some ⟨g,0,none⟩) 1 1) (hu:w.cell? ⟨g,0,none⟩=some (.string z)) (hn:n≤1000000)
  (h:∀ g' cap w',Mem w0 L (⟨9,1,.slice (some ⟨g',0,none⟩) (n+1) cap,n+1,xs++[.string z]⟩ :: R) w'→K (a.put o.dst (.slice (some ⟨g',0,none⟩) (n+1) cap)) w'):Oper.wp Tryz.prog o a w K Q :=
 AP 28 9 (.string ⟨#[]⟩) 16 Tryz.underlying28 CX rfl s x ho v n xs hs hM.own0 g _ hx hu rfl (by omega) hn hM.size fun v' w' r1 r2 r3=>by
  obtain ⟨g',cap,rfl⟩:=E0 r1
  exact h g' cap w' (hM.app0 r2 r1 r3)
theorem FY (ho:o.op=.call { callee:=.builtin .append,args:=#[s,x],argTypes:=#[25,25] }) (hM:Mem w0 L (⟨60,2,v,n,xs⟩ :: R) w) (hs:a.eval s=v)
  {u1 u2:Value} (hx:a.eval x=.slice (some ⟨g,0,none⟩) 1 1) (hu1:w.cell? ⟨g,0,none⟩=some u1) (hu2:w.cell? ⟨g,1,none⟩=some u2) (h1:u1.oneCell'=true) (h2:u2.oneCell'=true) (hn:n≤1000000)
  (h:∀ g' cap w',Mem w0 L (⟨60,2,.slice (some ⟨g',0,none⟩) (n+1) cap,n+1,xs++[u1,u2]⟩ :: R) w'→K (a.put o.dst (.slice (some ⟨g',0,none⟩) (n+1) cap)) w'):Oper.wp Tryz.prog o a w K Q :=
 Fv 25 Tryz.underlying25 s x ho v n xs hs hM.own0 g u1 u2 hx hu1 hu2 h1 h2 hn hM.size fun v' w' r1 r2 r3=>by
  obtain ⟨g',cap,rfl⟩:=E0 r1
  exact h g' cap w' (hM.app0 r2 r1 r3)
theorem I5 (hgd:o.guard=none) (ho:o.op=.call { callee:=.builtin .append,args:=#[s,x],argTypes:=#[22,22] }) (hM:Mem w0 L (⟨3,1,v,n,xs⟩ :: R) w) (hs:a.eval s=v)
  {z:Int} (hx:a.eval x=.slice (some ⟨g,0,none⟩) 1 1) (hu:w.cell? ⟨g,0,none⟩=some (.int .i64 z)) (hn:n≤1000000)
  (h:∀ g' cap w',Mem w0 L (⟨3,1,.slice (some ⟨g',0,none⟩) (n+1) cap,n+1,xs++[.int .i64 z]⟩ :: R) w'→wpList Tryz.prog ops Q rest (a.put o.dst (.slice (some ⟨g',0,none⟩) (n+1) cap)) w'):wpList Tryz.prog ops Q (o :: rest) a w :=
 wpList_plain hgd fun _ hK=>KJ ho hM hs hx hu hn fun g' cap w' hm=>hK _ _ (h g' cap w' hm)
theorem D0 (hgd:o.guard=none) (ho:o.op=.call { callee:=.builtin .append,args:=#[s,x],argTypes:=#[25,25] }) (hM:Mem w0 L (⟨60,2,v,n,xs⟩ :: R) w) (hs:a.eval s=v)
  {u1 u2:Value} (hx:a.eval x=.slice (some ⟨g,0,none⟩) 1 1) (hu1:w.cell? ⟨g,0,none⟩=some u1) (hu2:w.cell? ⟨g,1,none⟩=some u2) (h1:u1.oneCell'=true) (h2:u2.oneCell'=true) (hn:n≤1000000)
  (h:∀ g' cap w',Mem w0 L (⟨60,2,.slice (some ⟨g',0,none⟩) (n+1) cap,n+1,xs++[u1,u2]⟩ :: R) w'→wpList Tryz.prog ops Q rest (a.put o.dst (.slice (some ⟨g',0,none⟩) (n+1) cap)) w'):wpList Tryz.prog ops Q (o :: rest) a w :=
 wpList_plain hgd fun _ hK=>FY ho hM hs hx hu1 hu2 h1 h2 hn fun g' cap w' hm=>hK _ _ (h g' cap w' hm)
end
end
section
open Go.RowKit
structure New (w:World) (L:BLs) (R:List RowD) (ids:List Nat) (b:Nat) (cs:Array Value) (t:TypeId) (W:World):Prop where
 ge:w.heap.size≤b
 ids:∀ q∈ids,q≠b
 L:∀ p∈L,p.1≠b
 R:∀ r∈R,r.v.ownBlock≠some b
 blk:Blk W b cs t
theorem New.below {w W W':World} {L:BLs} {R:List RowD} {ids:List Nat} {b:Nat} {cs:Array Value} {t:TypeId} (h:New w L R ids b cs t W) (hb:Below W.heap.size W W'):New w L R ids b cs t W':=⟨h.ge,h.ids,h.L,h.R,h.blk.below hb⟩
theorem New.of {w W:World} {L:BLs} {R:List RowD} {ids:List Nat} (cs:Array Value) (t:TypeId) (h:Mem w L R W) (hi:∀ q∈ids,q<W.heap.size):New w L R ids W.heap.size cs t (W.alloc (.cells cs t)) :=
 ⟨h.size,fun q hq e=>by have:=hi q hq;omega,fun p hp e=>by have:=h.lt p hp;omega,fun r hr e=>by have:=((h.rows r hr).lt _ e).2;omega,Blk.new _ _ _⟩
theorem Blk.type {W:World} {b:Nat} {cs ds:Array Value} {t s:TypeId} (h:Blk W b cs t) (g:Blk W b ds s):t=s:=by
 have:=h.symm.trans g
 cases this;rfl
section
variable {ops:Array Oper} {rest:List Oper} {o:Oper} {a:Act} {Q:Exit→Act→World→Prop} {K:Act→World→Prop} {w0 w:World} {L:BLs} {R:List RowD} {s x:Operand} {v:Value} {n:Nat} {xs:List Value} {g:Nat}
end
def InB (fs:BLs) (v:Value) (l:List Int):Prop :=
 (v=.slice none 0 0∧l=[])∨∃ g cap cs,v=.slice (some ⟨g,0,none⟩) l.length cap∧l.length≤cap∧cap≤maxLen∧cs.size=cap∧(g,cs,(3:TypeId))∈fs∧cs.toList.take l.length=l.map (Value.int .i64)
theorem InB.mono {fs gs:BLs} {v:Value} {l:List Int} (h:InB fs v l) (hs:∀ p∈fs,p∈gs):InB gs v l:=by
 rcases h with h | ⟨g,cap,cs,h1,h2,h3,h4,h5,h6⟩
 ·exact .inl h
 ·exact .inr ⟨g,cap,cs,h1,h2,h3,h4,hs _ h5,h6⟩
theorem InB.shape {fs:BLs} {v:Value} {l:List Int} (h:InB fs v l):∃ a cap,v=.slice a l.length cap:=by
 rcases h with ⟨rfl,rfl⟩ | ⟨g,cap,cs,h1,_⟩
 ·exact ⟨_,_,rfl⟩
 ·exact ⟨_,_,h1⟩
theorem InB.sl {fs:BLs} {v:Value} {l:List Int} (h:InB fs v l) {w W:World} {L:BLs} {R:List RowD} (hM:Mem w L R W) (hs:∀ p∈fs,p∈L):Sl W v l:=by
 rcases h with h | ⟨g,cap,cs,h1,h2,h3,h4,h5,h6⟩
 ·exact .inl h
 ·have hb:=hM.blks _ (hs _ h5)
  refine .inr ⟨g,0,cap,h1,h2,h3,hb.lt,fun j hj=>?_⟩
  rw [Nat.zero_add,hb.cell]
  have e:=congrArg (fun z=>z[j]?) h6
  simp only [List.getElem?_take,hj,if_true,List.getElem?_map,List.getElem?_eq_getElem hj] at e
  rw [Array.getElem?_toList] at e
  rw [e,Bc hj];rfl
theorem Mem.freezeI {w W:World} {L:BLs} {R:List RowD} {v:Value} {l:List Int} {n:Nat} (hn:n=l.length) (h:Mem w L (⟨3,1,v,n,l.map (Value.int .i64)⟩ :: R) W):∃ gs:BLs,InB gs v l∧Mem w (gs++L) R W:=by
 subst hn
 rcases h.freeze with ⟨rfl,h1,h2,h3⟩ | ⟨g,cap,cs,rfl,h1,h2,h3,h4,h5⟩
 ·exact ⟨[],.inl ⟨rfl,by simpa using h2⟩,h3⟩
 ·exact ⟨[(g,cs,3)],.inr ⟨g,cap,cs,rfl,h1,h2,by omega,List.mem_cons_self,by rw [Nat.mul_one] at h4;exact h4⟩,h5⟩
structure EqsAt (fs:BLs) (rows:List (List Int×Int)) (xs:List Value):Prop where
 len:xs.length=rows.length*2
 at_:∀ j r,rows[j]? = some r→∃ v,xs[j*2]? = some v∧xs[j*2+1]? = some (.int .i64 r.2)∧InB fs v r.1
theorem EqsAt.nil (fs:BLs):EqsAt fs [] []:=⟨rfl,fun j r h=>by simp at h⟩
theorem EqsAt.snoc {fs gs:BLs} {rows:List (List Int×Int)} {xs:List Value} {v:Value} {l:List Int} {z:Int} (h:EqsAt fs rows xs) (hv:InB gs v l) (hs:∀ p∈fs,p∈gs):EqsAt gs (rows++[(l,z)]) (xs++[v,.int .i64 z]):=by
 refine ⟨by simp [h.len];omega,fun j r hj=>?_⟩
 by_cases hlt:j<rows.length
 ·rw [List.getElem?_append_left hlt] at hj
  obtain ⟨u,h1,h2,h3⟩:=h.at_ j r hj
  refine ⟨u,?_,?_,h3.mono hs⟩
  ·rw [List.getElem?_append_left (by rw [h.len];omega)];exact h1
  ·rw [List.getElem?_append_left (by rw [h.len];omega)];exact h2
 ·have hj':j=rows.length:=by
   have:=(List.getElem?_eq_some_iff.1 hj).1
   simp at this;omega
  subst hj'
  simp at hj
  subst hj
  refine ⟨v,?_,?_,hv⟩
  ·rw [List.getElem?_append_right (by rw [h.len];omega),h.len];simp
  ·rw [List.getElem?_append_right (by rw [h.len];omega),h.len,show rows.length*2+1-rows.length*2=1 by omega];rfl
theorem EqsAt.mono {fs gs:BLs} {rows:List (List Int×Int)} {xs:List Value} (h:EqsAt fs rows xs) (hs:∀ p∈fs,p∈gs):EqsAt gs rows xs:=⟨h.len,fun j r hj=>by
 obtain ⟨v,h1,h2,h3⟩:=h.at_ j r hj
 exact ⟨v,h1,h2,h3.mono hs⟩⟩
theorem EqsAt.slE {w W:World} {L fs:BLs} {R:List RowD} {v:Value} {n:Nat} {rows:List (List Int×Int)} {xs:List Value} (h:EqsAt fs rows xs) (hM:Mem w L (⟨60,2,v,n,xs⟩ :: R) W) (hn:n=rows.length) (hs:∀ p∈fs,p∈L):SlE W v rows:=by
 refine SlG.of_own hM.own0 hn fun b hb hc j r hj=>?_
 obtain ⟨u,h1,h2,h3⟩:=h.at_ j r hj
 exact ⟨u,hc _ _ h1,h3.sl hM hs,hc _ _ h2⟩
theorem GL {o:Oper} {a:Act} {Q:Exit→Act→World→Prop} {K:Act→World→Prop} {w0 w:World} {L:BLs} {R:List RowD} {s x:Operand} {g:Nat} (ho:o.op=.call { callee:=.builtin .append,args:=#[s,x],argTypes:=#[22,22] })
  (hM:Mem w0 ((g,#[],3) :: L) R w) (hs:a.eval s=.slice (some ⟨g,0,none⟩) 0 0) {u:Value} (hx:a.eval x=u) {l:List Int} (hu:Sl w u l) (hn:l.length≤1000000)
  (h:∀ (gs:BLs) (av:Option Addr) (cap:Nat) (w':World),InB gs (.slice av l.length cap) l→Mem w0 (gs++L) R w'→K (a.put o.dst (.slice av l.length cap)) w'):Oper.wp Tryz.prog o a w K Q:=by
 obtain ⟨i0,hi,hz0,hz1,hz2⟩:=info_parts Bz
 have H:∃ gs av cap w',(Builtin.append_ #[22,22] o.type #[.slice (some ⟨g,0,none⟩) 0 0,u]).run Tryz.prog w=.ok (.slice av l.length cap) w'∧InB gs (.slice av l.length cap) l∧Mem w0 (gs++L) R w':=by
  by_cases hl:l=[]
  ·subst hl
   have hsrc:Src Tryz.prog i0.size 22 u 0 [] w:=by
    rcases hu with ⟨rfl,_⟩ | ⟨b,off,cap,rfl,_⟩
    ·exact Src.ofNil w Tryz.underlying22 0
    ·exact Src.ofSlice w Tryz.underlying22 ⟨b,off,none⟩ 0 cap [] (by simp) (by simp) (by simp)
   exact ⟨[(g,#[],3)],some ⟨g,0,none⟩,0,w,run_append_nothing w 22 22 o.type 3 i0 Tryz.underlying22 hi _ 0 0 (Aa _) u hsrc,.inr ⟨g,0,#[],rfl,Aa _,Nat.zero_le _,rfl,List.mem_cons_self,rfl⟩,hM⟩
  ·rcases hu with ⟨_,e⟩ | ⟨b,off,cap,rfl,h1,h2,h3,h4⟩
   ·exact absurd e hl
   have hpos:0<l.length:=List.length_pos_iff.2 hl
   obtain ⟨v',w',hrun,r1,r2⟩:=run_append_arg_grows (P:=Tryz.prog) w 22 o.type 3 i0 (.int .i64 0) 1 8 Tryz.underlying22 hi hz0 hz1 hz2 rfl (by decide) ⟨g,0,none⟩ 0 0 [] rfl (fun j u hj=>by simp at hj) ⟨b,off,none⟩ l.length cap (l.map (Value.int .i64)) (by simp) (fun j y hj=>by
    rw [Az]
    rw [List.getElem?_map] at hj
    by_cases hjl:j<l.length
    ·rw [h4 j hjl,Bc hjl]
     rw [List.getElem?_eq_getElem hjl] at hj
     exact hj
    ·rw [List.getElem?_eq_none (by omega)] at hj;cases hj) (by omega) (by unfold maxLen;omega) (by omega)
   have hM1:Mem w0 L (⟨3,1,v',0+l.length,[]++l.map (Value.int .i64)⟩ :: R) w':=(hM.tail.row0 3 1).app0 r2 (CY r1 hM.size) (fun b hb=>.inr (r1.lt b hb).1)
   rw [Nat.zero_add,List.nil_append] at hM1
   obtain ⟨gs,hin,hM2⟩:=hM1.freezeI (l:=l) rfl
   obtain ⟨av,cp,rfl⟩:=hin.shape
   exact ⟨gs,av,cp,w',hrun,hin,hM2⟩
 obtain ⟨gs,av,cap,w',hrun,hin,hM2⟩:=H
 unfold Oper.wp
 simp [execOp,ho,resolve,invoke,builtin,hs,hx,hrun,Result.andThen]
 exact h gs av cap w' hin hM2
structure BoxI (p:Nat×Array Value×TypeId) (v:Value) (l:List Int):Prop where
 t:p.2.2=3
 at_:∃ cap,v=.slice (some ⟨p.1,0,none⟩) l.length cap∧l.length≤cap∧cap≤maxLen∧p.2.1.size=cap
 xs:p.2.1.toList.take l.length=l.map (Value.int .i64)
theorem BoxI.inB {p:Nat×Array Value×TypeId} {v:Value} {l:List Int} {fs:BLs} (h:BoxI p v l) (hp:p∈fs):InB fs v l:=by
 obtain ⟨g,cs,t⟩:=p
 obtain ⟨rfl,⟨cap,h1,h2,h3,h4⟩,h5⟩:=h
 exact .inr ⟨g,cap,cs,h1,h2,h3,h4,hp,h5⟩
theorem BoxI.cell {p:Nat×Array Value×TypeId} {v:Value} {l:List Int} (h:BoxI p v l) {k:Nat} (hk:k<l.length):p.2.1[k]? = some (.int .i64 (gi l k)):=by
 have e:=congrArg (fun z=>z[k]?) h.xs
 simp only [List.getElem?_take,hk,if_true,List.getElem?_map,List.getElem?_eq_getElem hk] at e
 rw [Array.getElem?_toList] at e
 rw [e,Bc hk];rfl
theorem BoxI.set {g:Nat} {cs:Array Value} {t:TypeId} {v:Value} {l:List Int} (h:BoxI (g,cs,t) v l) (k:Nat) (y:Int):BoxI (g,cs.setIfInBounds k (.int .i64 y),t) v (l.set k y):=by
 obtain ⟨h1,⟨cap,h2,h3,h4,h5⟩,h6⟩:=h
 refine ⟨h1,⟨cap,by rw [List.length_set];exact h2,by rw [List.length_set];exact h3,h4,by simpa using h5⟩,?_⟩
 rw [List.length_set]
 show (cs.setIfInBounds k (.int .i64 y)).toList.take l.length=(l.set k y).map _
 rw [Array.toList_setIfInBounds,List.take_set,h6,←List.map_set]
structure EqD (fs:BLs) (rows:List (List Int×Int)) (xs:List Value):Prop where
 len:xs.length=rows.length*2
 fl:fs.length=rows.length
 at_:∀ j r,rows[j]? = some r→∃ p v,fs[j]? = some p∧xs[j*2]? = some v∧xs[j*2+1]? = some (.int .i64 r.2)∧BoxI p v r.1
theorem EqD.eqs {fs:BLs} {rows:List (List Int×Int)} {xs:List Value} (h:EqD fs rows xs):EqsAt fs rows xs:=⟨h.len,fun j r hj=>by
 obtain ⟨p,v,h1,h2,h3,h4⟩:=h.at_ j r hj
 exact ⟨v,h2,h3,h4.inB (List.mem_of_getElem? h1)⟩⟩
theorem EqD.nil:EqD [] [] []:=⟨rfl,rfl,fun j r h=>by simp at h⟩
theorem EqD.snoc {fs:BLs} {rows:List (List Int×Int)} {xs:List Value} {p:Nat×Array Value×TypeId} {v:Value} {r:List Int×Int} (h:EqD fs rows xs) (hv:BoxI p v r.1):EqD (fs++[p]) (rows++[r]) (xs++[v,.int .i64 r.2]):=by
 refine ⟨by simp [h.len];omega,by simp [h.fl],fun j r' hj=>?_⟩
 by_cases hlt:j<rows.length
 ·rw [List.getElem?_append_left hlt] at hj
  obtain ⟨q,u,h1,h2,h3,h4⟩:=h.at_ j r' hj
  refine ⟨q,u,?_,?_,?_,h4⟩
  ·rw [List.getElem?_append_left (by rw [h.fl];exact hlt)];exact h1
  ·rw [List.getElem?_append_left (by rw [h.len];omega)];exact h2
  ·rw [List.getElem?_append_left (by rw [h.len];omega)];exact h3
 ·have hj':j=rows.length:=by
   have:=(List.getElem?_eq_some_iff.1 hj).1
   simp at this;omega
  subst hj'
  simp at hj
  subst hj
  refine ⟨p,v,?_,?_,?_,hv⟩
  ·rw [List.getElem?_append_right (by rw [h.fl];exact Aa _),h.fl];simp
  ·rw [List.getElem?_append_right (by rw [h.len];omega),h.len];simp
  ·rw [List.getElem?_append_right (by rw [h.len];omega),h.len,show rows.length*2+1-rows.length*2=1 by omega];rfl
theorem EqD.set {fs:BLs} {rows:List (List Int×Int)} {xs:List Value} {p:Nat×Array Value×TypeId} {v:Value} {r:List Int×Int} (h:EqD fs rows xs) (i:Nat) (hv:BoxI p v r.1):EqD (fs.set i p) (rows.set i r) ((xs.set (i*2) v).set (i*2+1) (.int .i64 r.2)):=by
 refine ⟨by simp [h.len],by simp [h.fl],fun j r' hj=>?_⟩
 have hjl:j<rows.length:=by have:=(List.getElem?_eq_some_iff.1 hj).1;simpa using this
 by_cases e:i=j
 ·subst e
  rw [List.getElem?_set_self hjl] at hj
  obtain rfl:=Option.some.inj hj
  refine ⟨p,v,List.getElem?_set_self (by rw [h.fl];exact hjl),?_,?_,hv⟩
  ·rw [List.getElem?_set_ne (by omega),List.getElem?_set_self (by rw [h.len];omega)]
  ·rw [List.getElem?_set_self (by rw [List.length_set,h.len];omega)]
 ·rw [List.getElem?_set_ne e] at hj
  obtain ⟨q,u,h1,h2,h3,h4⟩:=h.at_ j r' hj
  refine ⟨q,u,?_,?_,?_,h4⟩
  ·rw [List.getElem?_set_ne e];exact h1
  ·rw [List.getElem?_set_ne (by omega),List.getElem?_set_ne (by omega)];exact h2
  ·rw [List.getElem?_set_ne (by omega),List.getElem?_set_ne (by omega)];exact h3
theorem CA {α:Type} {l:List α} {i:Nat} {x:α} (h:l[i]? = some x):l.set i x=l:=by
 refine List.ext_getElem? fun j=>?_
 by_cases e:i=j
 ·subst e;rw [List.getElem?_set_self (List.getElem?_eq_some_iff.1 h).1,h]
 ·rw [List.getElem?_set_ne e]
theorem EqD.setC {fs:BLs} {rows:List (List Int×Int)} {xs:List Value} {p:Nat×Array Value×TypeId} {v:Value} {r:List Int×Int} {l:List Int} (h:EqD fs rows xs) {i:Nat} (hr:rows[i]? = some r) (hv:BoxI p v l):EqD (fs.set i p) (rows.set i (l,r.2)) (xs.set (i*2) v):=by
 have h1:=h.set (r:=(l,r.2)) i hv
 obtain ⟨_,_,_,_,h3,_⟩:=h.at_ i r hr
 have h4:(xs.set (i*2) v)[i*2+1]? = some (.int .i64 r.2):=by rw [List.getElem?_set_ne (by omega)];exact h3
 rw [show ((xs.set (i*2) v).set (i*2+1) (.int .i64 (l,r.2).2))=xs.set (i*2) v from CA h4] at h1
 exact h1
theorem EqD.setV {fs:BLs} {rows:List (List Int×Int)} {xs:List Value} {r:List Int×Int} (h:EqD fs rows xs) {i:Nat} (hr:rows[i]? = some r) (z:Int):EqD fs (rows.set i (r.1,z)) (xs.set (i*2+1) (.int .i64 z)):=by
 obtain ⟨p,v,h1,h2,h3,h4⟩:=h.at_ i r hr
 have h5:=h.set (r:=(r.1,z)) i h4
 rw [CA h1,CA h2] at h5
 exact h5
theorem Fe {cs:Array Value} {n i:Nat} (x:Value):(cs.setIfInBounds i x).toList.take n=(cs.toList.take n).set i x:=by
 rw [Array.toList_setIfInBounds,List.take_set]
structure SysB (B cap:Nat) (cs:Array Value) (fs:BLs) (rows:List (List Int×Int)):Prop where
 le:rows.length≤cap
 mx:cap≤maxLen
 size:cs.size=cap*2
 eq:EqD fs rows (cs.toList.take (rows.length*2))
section
variable {B cap i:Nat} {cs:Array Value} {fs:BLs} {rows:List (List Int×Int)} {r:List Int×Int}
theorem SysB.at_ (h:SysB B cap cs fs rows) (hr:rows[i]? = some r):∃ p v,fs[i]? = some p∧cs[i*2]? = some v∧cs[i*2+1]? = some (.int .i64 r.2)∧BoxI p v r.1:=by
 have hi:=(List.getElem?_eq_some_iff.1 hr).1
 obtain ⟨p,v,h1,h2,h3,h4⟩:=h.eq.at_ i r hr
 rw [List.getElem?_take,if_pos (by omega),Array.getElem?_toList] at h2 h3
 exact ⟨p,v,h1,h2,h3,h4⟩
theorem SysB.setC (h:SysB B cap cs fs rows) (hr:rows[i]? = some r) {p:Nat×Array Value×TypeId} {v:Value} {l:List Int} (hv:BoxI p v l):SysB B cap (cs.setIfInBounds (i*2) v) (fs.set i p) (rows.set i (l,r.2)):=by
 have hi:=(List.getElem?_eq_some_iff.1 hr).1
 refine ⟨by rw [List.length_set];exact h.le,h.mx,by simpa using h.size,?_⟩
 rw [List.length_set,Fe]
 exact h.eq.setC hr hv
theorem SysB.setV (h:SysB B cap cs fs rows) (hr:rows[i]? = some r) (z:Int):SysB B cap (cs.setIfInBounds (i*2+1) (.int .i64 z)) fs (rows.set i (r.1,z)):=by
 have hi:=(List.getElem?_eq_some_iff.1 hr).1
 refine ⟨by rw [List.length_set];exact h.le,h.mx,by simpa using h.size,?_⟩
 rw [List.length_set,Fe]
 exact h.eq.setV hr z
theorem SysB.setK (h:SysB B cap cs fs rows) (hr:rows[i]? = some r) {g:Nat} {ds:Array Value} {t:TypeId} (hp:fs[i]? = some (g,ds,t)) (k:Nat) (y:Int):SysB B cap cs (fs.set i (g,ds.setIfInBounds k (.int .i64 y),t)) (rows.set i (r.1.set k y,r.2)):=by
 obtain ⟨p,v,h1,h2,h3,h4⟩:=h.at_ hr
 rw [hp] at h1
 obtain rfl:=Option.some.inj h1
 have h5:=h.setC hr (h4.set k y)
 rw [show cs.setIfInBounds (i*2) v=cs from by
  apply Array.ext'
  rw [Array.toList_setIfInBounds]
  exact CA (by rw [Array.getElem?_toList];exact h2)] at h5
 exact h5
theorem SysB.slE {w W:World} {L:BLs} {R:List RowD} (h:SysB B cap cs fs rows) (hM:Mem w ((B,cs,60) :: L) R W) (hs:∀ p∈fs,p∈L):SlE W (.slice (some ⟨B,0,none⟩) rows.length cap) rows :=
 h.eq.eqs.slE (hM.thaw (n:=rows.length) (k:=2) h.le h.mx h.size rfl) rfl hs
end
theorem InB.box {fs:BLs} {v:Value} {l:List Int} (h:InB fs v l) (hl:1≤l.length):∃ p∈fs,BoxI p v l:=by
 rcases h with ⟨_,rfl⟩ | ⟨g,cap,cs,h1,h2,h3,h4,h5,h6⟩
 ·simp at hl
 ·exact ⟨_,h5,rfl,⟨cap,h1,h2,h3,h4⟩,h6⟩
theorem Mem.tuck {w W:World} {gs fs C:BLs} {R:List RowD} {T p:Nat×Array Value×TypeId} (h:Mem w (T :: (gs++(fs++C))) R W) (hp:p∈gs):Mem w (T :: ((fs++[p])++C)) R W:=by
 have h1:Mem w (T :: ([p]++(fs++C))) R W:=h.sub (List.Sublist.cons_cons _ (List.Sublist.append (List.singleton_sublist.2 hp) (List.Sublist.refl _)))
 refine h1.perm (List.Perm.cons _ ?_)
 rw [List.append_assoc]
 exact show (p :: (fs++C)).Perm (fs++p :: C) from List.perm_middle.symm
theorem Mem.pick {w W:World} {A C:BLs} {R:List RowD} {T p:Nat×Array Value×TypeId} (h:Mem w (T :: (A++p :: C)) R W):Mem w (p :: T :: (A++C)) R W:=h.perm ((List.Perm.cons _ List.perm_middle).trans (List.Perm.swap _ _ _))
theorem Mem.unpick {w W:World} {A C:BLs} {R:List RowD} {T p:Nat×Array Value×TypeId} (h:Mem w (p :: T :: (A++C)) R W):Mem w (T :: (A++p :: C)) R W:=h.perm ((List.Perm.swap _ _ _).trans (List.Perm.cons _ List.perm_middle.symm))
theorem Ii {α:Type} {l:List α} {i:Nat} {x:α} (h:l[i]? = some x):∃ A C,l=A++x :: C∧l.eraseIdx i=A++C∧∀ y,l.set i y=A++y :: C:=by
 obtain ⟨hi,rfl⟩:=List.getElem?_eq_some_iff.1 h
 refine ⟨l.take i,l.drop (i+1),by rw [List.getElem_cons_drop,List.take_append_drop],List.eraseIdx_eq_take_drop_succ _ _,fun y=>?_⟩
 rw [List.set_eq_take_append_cons_drop,if_pos hi]
section
variable {w W:World} {L fs:BLs} {R:List RowD} {T p q:Nat×Array Value×TypeId} {i:Nat}
theorem Mem.pull (h:Mem w (T :: (fs++L)) R W) (hi:fs[i]? = some p):Mem w (p :: T :: (fs.eraseIdx i++L)) R W:=by
 obtain ⟨A,C,h1,h2,_⟩:=Ii hi
 rw [h2,List.append_assoc]
 rw [h1,List.append_assoc,List.cons_append] at h
 exact h.pick
theorem Mem.push (h:Mem w (q :: T :: (fs.eraseIdx i++L)) R W) (hi:fs[i]? = some p):Mem w (T :: (fs.set i q++L)) R W:=by
 obtain ⟨A,C,h1,h2,h3⟩:=Ii hi
 rw [h2,List.append_assoc] at h
 rw [h3,List.append_assoc,List.cons_append]
 exact h.unpick
end
section
variable {w W:World} {L fs:BLs} {R:List RowD} {B cap i n:Nat} {cs:Array Value} {rows:List (List Int×Int)} {r:List Int×Int}
theorem SysB.thaw (h:SysB B cap cs fs rows) (hr:rows[i]? = some r) (hM:Mem w ((B,cs,60) :: (fs++L)) R W):∃ v,cs[i*2]? = some v∧Mem w ((B,cs,60) :: (fs.eraseIdx i++L)) (⟨3,1,v,r.1.length,r.1.map (Value.int .i64)⟩ :: R) W:=by
 obtain ⟨⟨g,ds,t⟩,v,h1,h2,_,h4⟩:=h.at_ hr
 obtain ⟨rfl,⟨cp,rfl,h5,h6,h7⟩,h8⟩:=h4
 exact ⟨_,h2,(hM.pull h1).thaw (k:=1) h5 h6 (by rw [Nat.mul_one];exact h7) (by rw [Nat.mul_one];exact h8)⟩
theorem SysB.grown (h:SysB B cap cs fs rows) (hr:rows[i]? = some r) {l:List Int} {v:Value} (hl:1≤l.length) (hn:n=l.length) (hM:Mem w ((B,cs.setIfInBounds (i*2) v,60) :: (fs.eraseIdx i++L)) (⟨3,1,v,n,l.map (Value.int .i64)⟩ :: R) W) :
  ∃ fs',SysB B cap (cs.setIfInBounds (i*2) v) fs' (rows.set i (l,r.2))∧Mem w ((B,cs.setIfInBounds (i*2) v,60) :: (fs'++L)) R W:=by
 obtain ⟨p,_,h1,_,_,_⟩:=h.at_ hr
 obtain ⟨gs,hin,hM2⟩:=hM.freezeI hn
 obtain ⟨q,hq,hb⟩:=hin.box hl
 refine ⟨fs.set i q,h.setC hr hb,Mem.push (i:=i) ?_ h1⟩
 exact hM2.sub (List.Sublist.append (List.singleton_sublist.2 hq) (List.Sublist.refl _))
end
theorem gi_fits {l:List Int} (h:∀ z∈l,Fits z) (k:Nat):Fits (gi l k):=by
 by_cases hk:k<l.length
 ·rw [Bc hk];exact h _ (List.getElem_mem hk)
 ·rw [Bp (by omega)];unfold Fits;decide
theorem Mem.addB {w W:World} {L:BLs} {R:List RowD} (h:Mem w L R W) (cs:Array Value) (t:TypeId):∃ W' B,W'=W.alloc (.cells cs t)∧B=W.heap.size∧Mem w ((B,cs,t) :: L) R W':=⟨_,_,rfl,rfl,h.add cs t⟩
theorem Mem.rot {w W:World} {L:BLs} {R:List RowD} {T p:Nat×Array Value×TypeId} (h:Mem w (T :: p :: L) R W):Mem w (p :: (L++[T])) R W:=h.perm (List.perm_append_singleton T (p :: L)).symm
def Row0 (w:World) (a:Option Addr) (n:Nat) (l:List Int):Prop:=n=0∨∃ b o,a=some ⟨b,o,none⟩∧b<w.heap.size∧∀ k,k<n→w.cell? ⟨b,o+k,none⟩=some (.int .i64 (gi l k))
theorem Row0.below {w W:World} {a:Option Addr} {n:Nat} {l:List Int} (h:Row0 w a n l) (hb:Below w.heap.size w W):Row0 W a n l:=h.imp id fun ⟨b,o,e,h1,h2⟩=>⟨b,o,e,A9 h1 hb.size,fun k hk=>(hb.cell (p:=⟨b,o+k,none⟩) h1).trans (h2 k hk)⟩
theorem Sl.row0 {w:World} {v:Value} {l:List Int} (h:Sl w v l):∃ a c,v=.slice a l.length c∧Row0 w a l.length l:=by
 rcases h with ⟨rfl,rfl⟩ | ⟨b,off,cap,rfl,h1,h2,h3,h4⟩
 ·exact ⟨_,_,rfl,.inl rfl⟩
 ·exact ⟨_,_,rfl,.inr ⟨b,off,rfl,h3,h4⟩⟩
theorem SysB.coef {B cap i:Nat} {cs:Array Value} {fs:BLs} {rows:List (List Int×Int)} {r:List Int×Int} (h:SysB B cap cs fs rows) (hr:rows[i]? = some r):∃ g ds cp,fs[i]? = some (g,ds,(3:TypeId))∧cs[i*2]? = some (.slice (some ⟨g,0,none⟩) r.1.length cp)∧∀ k,k<r.1.length→ds[k]? = some (.int .i64 (gi r.1 k)):=by
 obtain ⟨⟨g,ds,t⟩,v,h1,h2,_,h4⟩:=h.at_ hr
 have hc:=fun k (hk:k<r.1.length)=>h4.cell hk
 obtain ⟨rfl,⟨cp,rfl,_,_,_⟩,_⟩:=h4
 exact ⟨g,ds,cp,h1,h2,hc⟩
theorem KP {α:Type} {l:List α} {i j:Nat} {x:α} (h:l[j]? = some x) (hij:j≠i):x∈l.eraseIdx i:=by
 rcases Nat.lt_or_gt_of_ne hij with h1 | h1
 ·exact List.mem_of_getElem? (i:=j) (by rw [List.getElem?_eraseIdx_of_lt h1];exact h)
 ·exact List.mem_of_getElem? (i:=j-1) (by rw [List.getElem?_eraseIdx_of_ge (by omega),Nat.sub_add_cancel (by omega)];exact h)
theorem Mem.arr6 {w W:World} {gs fs:BLs} {R:List RowD} {z q t p:Nat×Array Value×TypeId} (h:Mem w (z :: q :: (gs++t :: p :: fs)) R W):Mem w (p :: q :: z :: (gs++t :: fs)) R W:=by
 have e1:(gs++t :: p :: fs).Perm (p :: (gs++t :: fs)):=by simpa using (List.perm_middle (l₁:=gs++[t]) (a:=p) (l₂:=fs))
 exact h.perm ((((e1.cons q).cons z).trans (List.Perm.swap _ _ _)).trans (((List.Perm.swap _ _ _).cons q).trans (List.Perm.swap _ _ _)))
end
section
open Go.RowKit
attribute [local go_sem] Oper.semAt_some
theorem M3 {Q:Exit→Act→World→Prop} {u0 u2 u3 u4 u5 u9 u10 u11 u12 u13 u14 u15 u16 u17 u18 u19 u20 u21 u22 u23 u24 u25 u26 u27 u28 u29 u30 u31 u32 u33 u34 u35 u36 u37 u38 u39 u40 u41 u42 u43 u44 u45 u46 u47 u48 u49 u50 u51 u52 u53 u54 u55 u56 u57 u58 u59 u60 u61 u62 u63 u64 u65 u66 u67 u68 u69 u70 u71 u72 u73 u74 u75 u76 u77 u78 u79 u80 u81 u82 u83 u84:Value} {bN bE:Nat} {v hv:Value} {w W0:World} {L:BLs} {R:List RowD} {j co at_ hd pr s0 s1:Int} (hpr:IntKind.i64.wrap (co*hd)=pr) (hsm:IntKind.i64.wrap (s0+pr)=s1) (hN:Hid (∀ W,Mem w L R W→W.cell? ⟨bN,3,none⟩=some hv)) (AT:Hid (∀ W,Mem w L R W→Calls Tryz.prog 36 #[hv,.int .i64 j] W (Rets W (.int .i64 at_)))) (PK:Hid (∀ W,Calls Tryz.prog 35 #[.int .i64 at_,.int .i64 6] W (Rets W (.int .i64 hd)))) (h0:Hid (Mem w ((bE,#[v,.int .i64 s0],60) :: L) R W0)) {ops:Array Oper} (ho:getOps Tryz.f11.body 12=some ops)
  (hQ:∀ (v47 v48 v49 v50 v51 v52 v53 v54 v55 v56 v57:Value)  (W':World),Mem w ((bE,#[v,.int .i64 s1],60) :: L) R W'→Q .normal { tmps:=List.toArray (u0::.pointer (some ⟨bN,0,none⟩)::u2::u3::u4::u5::.pointer (some ⟨bE,0,none⟩)::.int .i64 j::.int .i64 co::u9::u10::u11::u12::u13::u14::u15::u16::u17::u18::u19::u20::u21::u22::u23::u24::u25::u26::u27::u28::u29::u30::u31::u32::u33::u34::u35::u36::u37::u38::u39::u40::u41::u42::u43::u44::u45::u46::v47::v48::v49::v50::v51::v52::v53::v54::v55::v56::v57::u58::u59::u60::u61::u62::u63::u64::u65::u66::u67::u68::u69::u70::u71::u72::u73::u74::u75::u76::u77::u78::u79::u80::u81::u82::u83::u84::[]),defers:=[] } W') :
  (Code.region 12 ops true).wp Tryz.prog Q { tmps:=List.toArray (u0::.pointer (some ⟨bN,0,none⟩)::u2::u3::u4::u5::.pointer (some ⟨bE,0,none⟩)::.int .i64 j::.int .i64 co::u9::u10::u11::u12::u13::u14::u15::u16::u17::u18::u19::u20::u21::u22::u23::u24::u25::u26::u27::u28::u29::u30::u31::u32::u33::u34::u35::u36::u37::u38::u39::u40::u41::u42::u43::u44::u45::u46::u47::u48::u49::u50::u51::u52::u53::u54::u55::u56::u57::u58::u59::u60::u61::u62::u63::u64::u65::u66::u67::u68::u69::u70::u71::u72::u73::u74::u75::u76::u77::u78::u79::u80::u81::u82::u83::u84::[]),defers:=[] } W0:=by
 obtain rfl:=Option.some.inj (ho.symm.trans (rfl:getOps Tryz.f11.body 12=some _))
 clear ho
 replace hQ:=A8 hQ
 obtain ⟨Iv,hI⟩:∃ Iv:(Nat→Bool)→Act→World→Prop,∀ l a W,Iv l a W↔(∃ s47 s48 s49 s50 s51 s52 s53 s54 s55 s56 s57:Value,a={ tmps:=List.toArray (u0::.pointer (some ⟨bN,0,none⟩)::u2::u3::u4::u5::.pointer (some ⟨bE,0,none⟩)::.int .i64 j::.int .i64 co::u9::u10::u11::u12::u13::u14::u15::u16::u17::u18::u19::u20::u21::u22::u23::u24::u25::u26::u27::u28::u29::u30::u31::u32::u33::u34::u35::u36::u37::u38::u39::u40::u41::u42::u43::u44::u45::u46::s47::s48::s49::s50::s51::s52::s53::s54::s55::s56::s57::u58::u59::u60::u61::u62::u63::u64::u65::u66::u67::u68::u69::u70::u71::u72::u73::u74::u75::u76::u77::u78::u79::u80::u81::u82::u83::u84::[]),defers:=[] }∧Mem w L R W∧Vs [(0,.pointer (some ⟨bE,1,none⟩),s47),(1,.int .i64 s0,s48),(2,.int .i64 co,s49),(3,.pointer (some ⟨bN,3,none⟩),s50),(4,hv,s51),(5,.int .i64 j,s52),(6,.int .i64 at_,s53),(7,.int .i64 hd,s54),(8,.int .i64 pr,s55),(9,.int .i64 s1,s56),(10,.pointer (some ⟨bE,1,none⟩),s57)] l∧((l 11=false→Blk W bE #[v,.int .i64 s0] 60)∧(l 11=true→Blk W bE #[v,.int .i64 s1] 60))):=⟨_,fun _ _ _=>Iff.rfl⟩
 refine Ak Iv (by kernel_rfl) (by kernel_rfl) ((hI _ _ _).2 ⟨_,_,_,_,_,_,_,_,_,_,_,rfl,h0.out.tail.drew,Vs.zero,⟨fun _=>h0.out.drew.blks _ List.mem_cons_self,fun h=>off h⟩⟩) (Ab (k:=0) ?_ (Ab (k:=1) ?_ (Ab (k:=2) ?_ (Ab (k:=3) ?_ (Ab (k:=4) ?_ (Ab (k:=5) ?_ (Ab (k:=6) ?_ (Ab (k:=7) ?_ (Ab (k:=8) ?_ (Ab (k:=9) ?_ (Ab (k:=10) ?_ (Ab (k:=11) ?_ (Ag))))))))))))) ?_
 ·intro l a W hl hw hsh h K hK
  rw [hI] at h;iterate 11 obtain ⟨_,h⟩:=h
  obtain ⟨rfl,hC,hP,g⟩:=h
  go_simp
  apply hK.out;rw [hI];iterate 11 apply Exists.intro
  exact ⟨rfl,hC,hP.put 0 rfl rfl rfl,g⟩
 ·intro l a W hl hw hsh h K hK
  rw [hI] at h;iterate 11 obtain ⟨_,h⟩:=h
  obtain ⟨rfl,hC,hP,g⟩:=h
  obtain rfl:=hP.get 0 rfl (hw 0 (by kernel_rfl))
  have hst:l 11=false:=by
   cases hc:l 11 with
   | false=>rfl
   | true=>exact absurd (hsh 9 1 _ rfl (hsh 11 9 _ rfl (hc) (by kernel_rfl)) (by kernel_rfl)) (by simp [hl])
  have x1:=((g.1 hst).cell 1).trans (show _=some (Value.int .i64 s0) from rfl)
  go_simp
  apply hK.out;rw [hI];iterate 11 apply Exists.intro
  exact ⟨rfl,hC,hP.put 1 rfl rfl rfl,g⟩
 ·intro l a W hl hw hsh h K hK
  rw [hI] at h;iterate 11 obtain ⟨_,h⟩:=h
  obtain ⟨rfl,hC,hP,g⟩:=h
  go_simp
  apply hK.out;rw [hI];iterate 11 apply Exists.intro
  exact ⟨rfl,hC,hP.put 2 rfl rfl rfl,g⟩
 ·intro l a W hl hw hsh h K hK
  rw [hI] at h;iterate 11 obtain ⟨_,h⟩:=h
  obtain ⟨rfl,hC,hP,g⟩:=h
  go_simp
  apply hK.out;rw [hI];iterate 11 apply Exists.intro
  exact ⟨rfl,hC,hP.put 3 rfl rfl rfl,g⟩
 ·intro l a W hl hw hsh h K hK
  rw [hI] at h;iterate 11 obtain ⟨_,h⟩:=h
  obtain ⟨rfl,hC,hP,g⟩:=h
  obtain rfl:=hP.get 3 rfl (hw 3 (by kernel_rfl))
  have x1:=hN.out _ hC
  go_simp
  apply hK.out;rw [hI];iterate 11 apply Exists.intro
  exact ⟨rfl,hC,hP.put 4 rfl rfl rfl,g⟩
 ·intro l a W hl hw hsh h K hK
  rw [hI] at h;iterate 11 obtain ⟨_,h⟩:=h
  obtain ⟨rfl,hC,hP,g⟩:=h
  go_simp
  apply hK.out;rw [hI];iterate 11 apply Exists.intro
  exact ⟨rfl,hC,hP.put 5 rfl rfl rfl,g⟩
 ·intro l a W hl hw hsh h K hK
  rw [hI] at h;iterate 11 obtain ⟨_,h⟩:=h
  obtain ⟨rfl,hC,hP,g⟩:=h
  obtain rfl:=hP.get 4 rfl (hw 4 (by kernel_rfl))
  obtain rfl:=hP.get 5 rfl (hw 5 (by kernel_rfl))
  go_simp
  refine Calls.mono (AT.out W hC) ?_
  rintro e W2 ⟨rfl,hb⟩
  apply hK.out;rw [hI];iterate 11 apply Exists.intro
  exact ⟨rfl,hC.call hb,hP.put 6 rfl rfl rfl,⟨fun h=>(g.1 h).below hb,fun h=>(g.2 h).below hb⟩⟩
 ·intro l a W hl hw hsh h K hK
  rw [hI] at h;iterate 11 obtain ⟨_,h⟩:=h
  obtain ⟨rfl,hC,hP,g⟩:=h
  obtain rfl:=hP.get 6 rfl (hw 6 (by kernel_rfl))
  go_simp
  refine Calls.mono (PK.out W) ?_
  rintro e W2 ⟨rfl,hb⟩
  apply hK.out;rw [hI];iterate 11 apply Exists.intro
  exact ⟨rfl,hC.call hb,hP.put 7 rfl rfl rfl,⟨fun h=>(g.1 h).below hb,fun h=>(g.2 h).below hb⟩⟩
 ·intro l a W hl hw hsh h K hK
  rw [hI] at h;iterate 11 obtain ⟨_,h⟩:=h
  obtain ⟨rfl,hC,hP,g⟩:=h
  obtain rfl:=hP.get 2 rfl (hw 2 (by kernel_rfl))
  obtain rfl:=hP.get 7 rfl (hw 7 (by kernel_rfl))
  go_simp
  apply hK.out;rw [hI];iterate 11 apply Exists.intro
  exact ⟨rfl,hC,hP.put 8 rfl rfl rfl,g⟩
 ·intro l a W hl hw hsh h K hK
  rw [hI] at h;iterate 11 obtain ⟨_,h⟩:=h
  obtain ⟨rfl,hC,hP,g⟩:=h
  obtain rfl:=hP.get 1 rfl (hw 1 (by kernel_rfl))
  obtain rfl:=hP.get 8 rfl (hw 8 (by kernel_rfl))
  go_simp
  apply hK.out;rw [hI];iterate 11 apply Exists.intro
  exact ⟨rfl,hC,hP.put 9 rfl rfl rfl,g⟩
 ·intro l a W hl hw hsh h K hK
  rw [hI] at h;iterate 11 obtain ⟨_,h⟩:=h
  obtain ⟨rfl,hC,hP,g⟩:=h
  go_simp
  apply hK.out;rw [hI];iterate 11 apply Exists.intro
  exact ⟨rfl,hC,hP.put 10 rfl rfl rfl,g⟩
 ·intro l a W hl hw hsh h K hK
  rw [hI] at h;iterate 11 obtain ⟨_,h⟩:=h
  obtain ⟨rfl,hC,hP,g⟩:=h
  obtain rfl:=hP.get 9 rfl (hw 9 (by kernel_rfl))
  obtain rfl:=hP.get 10 rfl (hw 10 (by kernel_rfl))
  have x1:=(g.1 hl).cell 1
  have x2:=(g.1 hl).frozen 1
  go_simp
  apply hK.out;rw [hI];iterate 11 apply Exists.intro
  exact ⟨rfl,h0.out.off hC (g.1 hl) 1 _,hP.skip 11 rfl,⟨fun h=>off h.symm,fun _=>(g.1 hl).set 1 _⟩⟩
 ·intro a W hI'
  have h:=(hI _ _ _).1 hI';clear hI';iterate 11 obtain ⟨_,h⟩:=h
  obtain ⟨rfl,hC,hP,g⟩:=h
  exact hQ.out _ _ _ _ _ _ _ _ _ _ _ _ (h0.out.join hC (g.2 (by kernel_rfl)))
theorem M4 {Q:Exit→Act→World→Prop} {u0 u2 u3 u4 u5 u7 u8 u9 u10 u11 u12 u13 u14 u15 u16 u17 u18 u19 u20 u21 u22 u23 u24 u25 u26 u27 u28 u29 u30 u31 u32 u33 u34 u35 u36 u37 u38 u39 u40 u41 u42 u43 u44 u45 u46 u47 u48 u49 u50 u51 u52 u53 u54 u55 u56 u57 u58 u59 u60 u61 u62 u63 u64 u65 u66 u67 u68 u69 u70 u71 u72 u73 u74 u75 u76 u77 u78 u79 u80 u81 u82 u83 u84:Value} {bN bE:Nat} {v:Value} {w W0:World} {L:BLs} {R:List RowD} {ms mq pk sa s0 s1:Int} (hmq:IntKind.i64.wrap (ms.tdiv 30)=mq) (hsa:IntKind.i64.wrap (s0+pk)=sa) (hsm:IntKind.i64.wrap (sa-20)=s1) (hN:Hid (∀ W,Mem w L R W→W.cell? ⟨bN,4,none⟩=some (.int .i64 ms))) (PK:Hid (∀ W,Calls Tryz.prog 35 #[.int .i64 mq,.int .i64 41] W (Rets W (.int .i64 pk)))) (h0:Hid (Mem w ((bE,#[v,.int .i64 s0],60) :: L) R W0)) {ops:Array Oper} (ho:getOps Tryz.f11.body 14=some ops)
  (hQ:∀ (v69 v70 v71 v72 v73 v74 v75 v76 v77:Value)  (W':World),Mem w ((bE,#[v,.int .i64 s1],60) :: L) R W'→Q .normal { tmps:=List.toArray (u0::.pointer (some ⟨bN,0,none⟩)::u2::u3::u4::u5::.pointer (some ⟨bE,0,none⟩)::u7::u8::u9::u10::u11::u12::u13::u14::u15::u16::u17::u18::u19::u20::u21::u22::u23::u24::u25::u26::u27::u28::u29::u30::u31::u32::u33::u34::u35::u36::u37::u38::u39::u40::u41::u42::u43::u44::u45::u46::u47::u48::u49::u50::u51::u52::u53::u54::u55::u56::u57::u58::u59::u60::u61::u62::u63::u64::u65::u66::u67::u68::v69::v70::v71::v72::v73::v74::v75::v76::v77::u78::u79::u80::u81::u82::u83::u84::[]),defers:=[] } W') :
  (Code.region 14 ops true).wp Tryz.prog Q { tmps:=List.toArray (u0::.pointer (some ⟨bN,0,none⟩)::u2::u3::u4::u5::.pointer (some ⟨bE,0,none⟩)::u7::u8::u9::u10::u11::u12::u13::u14::u15::u16::u17::u18::u19::u20::u21::u22::u23::u24::u25::u26::u27::u28::u29::u30::u31::u32::u33::u34::u35::u36::u37::u38::u39::u40::u41::u42::u43::u44::u45::u46::u47::u48::u49::u50::u51::u52::u53::u54::u55::u56::u57::u58::u59::u60::u61::u62::u63::u64::u65::u66::u67::u68::u69::u70::u71::u72::u73::u74::u75::u76::u77::u78::u79::u80::u81::u82::u83::u84::[]),defers:=[] } W0:=by
 obtain rfl:=Option.some.inj (ho.symm.trans (rfl:getOps Tryz.f11.body 14=some _))
 clear ho
 replace hQ:=A8 hQ
 obtain ⟨Iv,hI⟩:∃ Iv:(Nat→Bool)→Act→World→Prop,∀ l a W,Iv l a W↔(∃ s69 s70 s71 s72 s73 s74 s75 s76 s77:Value,a={ tmps:=List.toArray (u0::.pointer (some ⟨bN,0,none⟩)::u2::u3::u4::u5::.pointer (some ⟨bE,0,none⟩)::u7::u8::u9::u10::u11::u12::u13::u14::u15::u16::u17::u18::u19::u20::u21::u22::u23::u24::u25::u26::u27::u28::u29::u30::u31::u32::u33::u34::u35::u36::u37::u38::u39::u40::u41::u42::u43::u44::u45::u46::u47::u48::u49::u50::u51::u52::u53::u54::u55::u56::u57::u58::u59::u60::u61::u62::u63::u64::u65::u66::u67::u68::s69::s70::s71::s72::s73::s74::s75::s76::s77::u78::u79::u80::u81::u82::u83::u84::[]),defers:=[] }∧Mem w L R W∧Vs [(0,.pointer (some ⟨bE,1,none⟩),s69),(1,.int .i64 s0,s70),(2,.pointer (some ⟨bN,4,none⟩),s71),(3,.int .i64 ms,s72),(4,.int .i64 mq,s73),(5,.int .i64 pk,s74),(6,.int .i64 sa,s75),(7,.int .i64 s1,s76),(8,.pointer (some ⟨bE,1,none⟩),s77)] l∧((l 9=false→Blk W bE #[v,.int .i64 s0] 60)∧(l 9=true→Blk W bE #[v,.int .i64 s1] 60))):=⟨_,fun _ _ _=>Iff.rfl⟩
 refine Ak Iv (by kernel_rfl) (by kernel_rfl) ((hI _ _ _).2 ⟨_,_,_,_,_,_,_,_,_,rfl,h0.out.tail.drew,Vs.zero,⟨fun _=>h0.out.drew.blks _ List.mem_cons_self,fun h=>off h⟩⟩) (Ab (k:=0) ?_ (Ab (k:=1) ?_ (Ab (k:=2) ?_ (Ab (k:=3) ?_ (Ab (k:=4) ?_ (Ab (k:=5) ?_ (Ab (k:=6) ?_ (Ab (k:=7) ?_ (Ab (k:=8) ?_ (Ab (k:=9) ?_ (Ag))))))))))) ?_
 ·intro l a W hl hw hsh h K hK
  rw [hI] at h;iterate 9 obtain ⟨_,h⟩:=h
  obtain ⟨rfl,hC,hP,g⟩:=h
  go_simp
  apply hK.out;rw [hI];iterate 9 apply Exists.intro
  exact ⟨rfl,hC,hP.put 0 rfl rfl rfl,g⟩
 ·intro l a W hl hw hsh h K hK
  rw [hI] at h;iterate 9 obtain ⟨_,h⟩:=h
  obtain ⟨rfl,hC,hP,g⟩:=h
  obtain rfl:=hP.get 0 rfl (hw 0 (by kernel_rfl))
  have hst:l 9=false:=by
   cases hc:l 9 with
   | false=>rfl
   | true=>exact absurd (hsh 6 1 _ rfl (hsh 7 6 _ rfl (hsh 9 7 _ rfl (hc) (by kernel_rfl)) (by kernel_rfl)) (by kernel_rfl)) (by simp [hl])
  have x1:=((g.1 hst).cell 1).trans (show _=some (Value.int .i64 s0) from rfl)
  go_simp
  apply hK.out;rw [hI];iterate 9 apply Exists.intro
  exact ⟨rfl,hC,hP.put 1 rfl rfl rfl,g⟩
 ·intro l a W hl hw hsh h K hK
  rw [hI] at h;iterate 9 obtain ⟨_,h⟩:=h
  obtain ⟨rfl,hC,hP,g⟩:=h
  go_simp
  apply hK.out;rw [hI];iterate 9 apply Exists.intro
  exact ⟨rfl,hC,hP.put 2 rfl rfl rfl,g⟩
 ·intro l a W hl hw hsh h K hK
  rw [hI] at h;iterate 9 obtain ⟨_,h⟩:=h
  obtain ⟨rfl,hC,hP,g⟩:=h
  obtain rfl:=hP.get 2 rfl (hw 2 (by kernel_rfl))
  have x1:=hN.out _ hC
  go_simp
  apply hK.out;rw [hI];iterate 9 apply Exists.intro
  exact ⟨rfl,hC,hP.put 3 rfl rfl rfl,g⟩
 ·intro l a W hl hw hsh h K hK
  rw [hI] at h;iterate 9 obtain ⟨_,h⟩:=h
  obtain ⟨rfl,hC,hP,g⟩:=h
  obtain rfl:=hP.get 3 rfl (hw 3 (by kernel_rfl))
  go_simp
  apply hK.out;rw [hI];iterate 9 apply Exists.intro
  exact ⟨rfl,hC,hP.put 4 rfl rfl rfl,g⟩
 ·intro l a W hl hw hsh h K hK
  rw [hI] at h;iterate 9 obtain ⟨_,h⟩:=h
  obtain ⟨rfl,hC,hP,g⟩:=h
  obtain rfl:=hP.get 4 rfl (hw 4 (by kernel_rfl))
  go_simp
  refine Calls.mono (PK.out W) ?_
  rintro e W2 ⟨rfl,hb⟩
  apply hK.out;rw [hI];iterate 9 apply Exists.intro
  exact ⟨rfl,hC.call hb,hP.put 5 rfl rfl rfl,⟨fun h=>(g.1 h).below hb,fun h=>(g.2 h).below hb⟩⟩
 ·intro l a W hl hw hsh h K hK
  rw [hI] at h;iterate 9 obtain ⟨_,h⟩:=h
  obtain ⟨rfl,hC,hP,g⟩:=h
  obtain rfl:=hP.get 1 rfl (hw 1 (by kernel_rfl))
  obtain rfl:=hP.get 5 rfl (hw 5 (by kernel_rfl))
  go_simp
  apply hK.out;rw [hI];iterate 9 apply Exists.intro
  exact ⟨rfl,hC,hP.put 6 rfl rfl rfl,g⟩
 ·intro l a W hl hw hsh h K hK
  rw [hI] at h;iterate 9 obtain ⟨_,h⟩:=h
  obtain ⟨rfl,hC,hP,g⟩:=h
  obtain rfl:=hP.get 6 rfl (hw 6 (by kernel_rfl))
  go_simp
  apply hK.out;rw [hI];iterate 9 apply Exists.intro
  exact ⟨rfl,hC,hP.put 7 rfl rfl rfl,g⟩
 ·intro l a W hl hw hsh h K hK
  rw [hI] at h;iterate 9 obtain ⟨_,h⟩:=h
  obtain ⟨rfl,hC,hP,g⟩:=h
  go_simp
  apply hK.out;rw [hI];iterate 9 apply Exists.intro
  exact ⟨rfl,hC,hP.put 8 rfl rfl rfl,g⟩
 ·intro l a W hl hw hsh h K hK
  rw [hI] at h;iterate 9 obtain ⟨_,h⟩:=h
  obtain ⟨rfl,hC,hP,g⟩:=h
  obtain rfl:=hP.get 7 rfl (hw 7 (by kernel_rfl))
  obtain rfl:=hP.get 8 rfl (hw 8 (by kernel_rfl))
  have x1:=(g.1 hl).cell 1
  have x2:=(g.1 hl).frozen 1
  go_simp
  apply hK.out;rw [hI];iterate 9 apply Exists.intro
  exact ⟨rfl,h0.out.off hC (g.1 hl) 1 _,hP.skip 9 rfl,⟨fun h=>off h.symm,fun _=>(g.1 hl).set 1 _⟩⟩
 ·intro a W hI'
  have h:=(hI _ _ _).1 hI';clear hI';iterate 9 obtain ⟨_,h⟩:=h
  obtain ⟨rfl,hC,hP,g⟩:=h
  exact hQ.out _ _ _ _ _ _ _ _ _ _ (h0.out.join hC (g.2 (by kernel_rfl)))
theorem NumL.sum_small (x:NumL) (i:Nat) {k:Nat} (hk:k≤8):-360≤x.sum i k∧x.sum i k≤360:=by
 obtain ⟨h1,h2⟩:=x.sum_bd i k
 omega
theorem made_l2 {Q:Exit→Act→World→Prop} {u0 u2 u4 u8 u9 u10 u11 u12 u13 u14 u15 u16 u17 u18 u19 u20 u21 u22 u23 u24 u25 u26 u27 u28 u29 u30 u31 u32 u33 u34 u35 u36 u37 u38 u39 u40 u41 u42 u43 u44 u45 u46 u47 u48 u49 u50 u51 u52 u53 u54 u55 u56 u57 u58 u59 u60 u61 u62 u63 u64 u65 u66 u67 u68 u69 u70 u71 u72 u73 u74 u75 u76 u77 u78 u79 u80 u81 u82 u83 u84:Value} {x:NumL} {bN bS bE i c:Nat} {cv hv:Value} {w W0:World} {L:BLs} {R:List RowD} (hc:Hid (c=x.c)) (hi:Hid (i≤5)) (hN:Hid (∀ W,Mem w L R W→W.cell? ⟨bN,2,none⟩=some cv∧W.cell? ⟨bN,3,none⟩=some hv)) (hS:Hid (∀ W,Mem w L R W→W.cell? ⟨bS,0,none⟩=some (.int .i64 c)))
  (AC:Hid (∀ W,Mem w L R W→∀ k:Nat,Calls Tryz.prog 36 #[cv,.int .i64 k] W (Rets W (.int .i64 (atv x.coefs k))))) (AH:Hid (∀ W,Mem w L R W→∀ k:Nat,Calls Tryz.prog 36 #[hv,.int .i64 k] W (Rets W (.int .i64 (atv x.hidden k))))) (hf:Hid (∀ k,Fits (atv x.coefs k)∧Fits (atv x.hidden k))) (h0:Hid (Mem w ((bE,#[.slice none 0 0,.int .i64 0],60) :: L) R W0)) {body:Code} (hbody:getLoop Tryz.f11.body 2=some body)
  (hQ:∀ (vf:Value) (v7 v8 v24 v25 v26 v27 v28 v29 v30 v31 v32 v33 v34 v35 v36 v37 v38 v39 v40 v41 v42 v43 v44 v45 v46 v47 v48 v49 v50 v51 v52 v53 v54 v55 v56 v57:Value) (W':World),Hid (Mem w ((bE,#[vf,.int .i64 (x.sum i c)],60) :: L) (⟨3,1,vf,c,((List.range c).map fun k=>Value.int .i64 (x.coef i k))⟩ :: R) W')→Q (.exit 2) { tmps:=List.toArray (u0::.pointer (some ⟨bN,0,none⟩)::u2::.pointer (some ⟨bS,0,none⟩)::u4::.int .i64 i::.pointer (some ⟨bE,0,none⟩)::v7::v8::u9::u10::u11::u12::u13::u14::u15::u16::u17::u18::u19::u20::u21::u22::u23::v24::v25::v26::v27::v28::v29::v30::v31::v32::v33::v34::v35::v36::v37::v38::v39::v40::v41::v42::v43::v44::v45::v46::v47::v48::v49::v50::v51::v52::v53::v54::v55::v56::v57::u58::u59::u60::u61::u62::u63::u64::u65::u66::u67::u68::u69::u70::u71::u72::u73::u74::u75::u76::u77::u78::u79::u80::u81::u82::u83::u84::[]),defers:=[] } W') :
  (Code.loop body).wp Tryz.prog Q { tmps:=List.toArray (u0::.pointer (some ⟨bN,0,none⟩)::u2::.pointer (some ⟨bS,0,none⟩)::u4::.int .i64 i::.pointer (some ⟨bE,0,none⟩)::.int .i64 0::u8::u9::u10::u11::u12::u13::u14::u15::u16::u17::u18::u19::u20::u21::u22::u23::u24::u25::u26::u27::u28::u29::u30::u31::u32::u33::u34::u35::u36::u37::u38::u39::u40::u41::u42::u43::u44::u45::u46::u47::u48::u49::u50::u51::u52::u53::u54::u55::u56::u57::u58::u59::u60::u61::u62::u63::u64::u65::u66::u67::u68::u69::u70::u71::u72::u73::u74::u75::u76::u77::u78::u79::u80::u81::u82::u83::u84::[]),defers:=[] } W0:=by
 obtain rfl:=Option.some.inj (hbody.symm.trans (rfl:getLoop Tryz.f11.body 2=some _))
 clear hbody
 replace hQ:=A8 hQ
 go_loopw [7] (fun s wr=>∃ (j:Nat) (v:Value),s=.int .i64 j∧j≤c∧Hid (Mem w ((bE,#[v,.int .i64 (x.sum i j)],60) :: L) (⟨3,1,v,j,((List.range j).map fun k=>Value.int .i64 (x.coef i k))⟩ :: R) wr)) (fun s _=>c-(intOf s).toNat)
 case atStart=>exact ⟨0,.slice none 0 0,rfl,by omega,A8 (h0.out.row0 3 1)⟩
 case round =>
  clear h0
  obtain ⟨j,v,rfl,hj,hM⟩:=hrel
  have y0:=hS.out _ hM.out.tail.rtail
  by_cases hjc:j<c
  case neg =>
   have hjc':¬ (j:Int)<c:=by omega
   obtain rfl:j=c:=by omega
   go_wp2_with fail
   exact hQ.out v _ _ _ _ _ _ _ _ _ _ _ _ _ _ _ _ _ _ _ _ _ _ _ _ _ _ _ _ _ _ _ _ _ _ _ _ _ hM
  case pos =>
   have hjc':(j:Int)<c:=by omega
   obtain ⟨y1,_⟩:=hN.out _ hM.out.tail.rtail
   have hcb:=x.c_eq
   have hcc:=hc.out
   have hii:=hi.out
   have hic:i*c≤40:=Nat.le_trans (Nat.mul_le_mul hii (show c≤8 by omega)) (by decide)
   obtain ⟨ic,hic1⟩:∃ z,z=i*c:=⟨_,rfl⟩
   have hw1:IntKind.i64.wrap ((i:Int)*c)=(ic:Int):=by rw [hic1,IntWalk.i64_in _ (by rw [←Int.natCast_mul];omega)];simp
   obtain ⟨ij,hij⟩:∃ z,z=ic+j:=⟨_,rfl⟩
   have hw2:IntKind.i64.wrap ((ic:Int)+j)=(ij:Int):=by rw [hij,IntWalk.i64_in _ (by omega)];simp
   have hco:pkv (atv x.coefs ij) 19-9=x.coef i j:=by unfold NumL.coef;rw [hij,hic1,hcc]
   have hcbd:=x.coef_bd i j
   have hhbd:=x.hid_bd j
   have hpbd:=x.prod_bd i j
   have hs0:=x.sum_small i (k:=j) (by omega)
   have hs1:=x.sum_small i (k:=j+1) (by omega)
   have hse:x.sum i (j+1)=x.sum i j+x.coef i j*x.hid j:=rfl
   have hxs:((List.range (j+1)).map fun k=>Value.int .i64 (x.coef i k))=((List.range j).map fun k=>Value.int .i64 (x.coef i k))++[.int .i64 (x.coef i j)]:=by rw [List.range_succ,List.map_append];rfl
   have hhd:pkv (atv x.hidden j) 6=x.hid j:=rfl
   obtain ⟨fa,fh⟩:Fits (atv x.coefs ij)∧Fits (atv x.hidden j):=⟨(hf.out ij).1,(hf.out j).2⟩
   obtain ⟨co,hcoe⟩:∃ z,z=x.coef i j:=⟨_,rfl⟩
   have hw3:IntKind.i64.wrap (pkv (atv x.coefs ij) 19-9)=co:=by rw [hco,hcoe];exact IntWalk.i64_in _ (by omega)
   have C1:=A8 (AC.out _ hM.out.tail.rtail ij)
   have P1:=A8 (fun W=>AF (atv x.coefs ij) 19 fa (by decide) (by decide) W)
   have P2:=A8 (fun W=>by have:=AF (atv x.hidden j) 6 fh (by decide) (by decide) W;rwa [hhd] at this)
   have hpr:IntKind.i64.wrap (co*x.hid j)=x.coef i j*x.hid j:=by rw [hcoe];exact IntWalk.i64_in _ (by omega)
   have hsm:IntKind.i64.wrap (x.sum i j+x.coef i j*x.hid j)=x.sum i (j+1):=by rw [hse];exact IntWalk.i64_in _ (by omega)
   rw [←hcoe] at hxs
   have hxs':=A8 hxs
   have hj8:j≤8:=by omega
   generalize pkv (atv x.coefs ij) 19=p1 at *
   generalize atv x.coefs ij=a1 at *
   clear hic hic1 hij hco hcbd hhbd hpbd hs0 hs1 hse hxs hhd fa fh hcc hcoe hcb hii
   replace hpr:=A8 hpr
   replace hsm:=A8 hsm
   go_wp2_with fail
   refine Calls.mono C1.out ?_
   rintro e w1 ⟨rfl,hb⟩
   replace hM:=A8 (hM.out.call hb)
   clear y0 y1 hb
   go_wp2_with fail
   refine Calls.mono (P1.out _) ?_
   rintro e w2 ⟨rfl,hb⟩
   replace hM:=A8 (hM.out.call hb)
   clear hb
   have y2:=hM.out.cell bE _ _ (.head _) 0
   go_upto_region 12 with (at_builtin;refine I5 rfl rfl (hM.out.new _) rfl rfl ((Blk.new _ _ _).cell 0) (by omega) ?_;intro g2 c2 W8 hM8;have y3:=hM8.cell bE _ _ (.head _) 0;have y4:=hM8.frozen bE _ _ (.head _) 0;replace hM8:=hM8.put0 0 (.slice (some ⟨g2,0,none⟩) (j+1) c2))
   refine M3 (bN:=bN) (bE:=bE) (hv:=hv) (w:=w) (L:=L) (R:=⟨3,1,_,j+1,((List.range j).map fun k=>Value.int .i64 (x.coef i k))++[.int .i64 co]⟩ :: R) (j:=j) (co:=co) (at_:=atv x.hidden j) (hd:=x.hid j) (pr:=x.coef i j*x.hid j) (s0:=x.sum i j) (s1:=x.sum i (j+1)) hpr.out hsm.out (A8 fun W hW=>(hN.out W hW.rtail).2) (A8 fun W hW=>AH.out W hW.rtail j) P2 (A8 (by assumption)) (by kernel_rfl) ?_
   intro z47 z48 z49 z50 z51 z52 z53 z54 z55 z56 z57 W9 hM9
   rw [←hxs'.out] at hM9
   go_wp2_with fail
   go_roundw
   case rel=>exact ⟨j+1,_,by go_num,by omega,A8 hM9⟩
   case measure=>simp [intOf];omega
end
end Go.Proofs.YtcmomjnailihpaaGreatDoor
