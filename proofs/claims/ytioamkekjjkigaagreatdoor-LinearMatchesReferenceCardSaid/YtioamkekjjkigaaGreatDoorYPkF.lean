/- PkF -/
import Derived.Test.YtioamkekjjkigaaGreatDoorYPkD
import Derived.Laws.Small
set_option maxHeartbeats 8000000
set_option maxRecDepth 100000
namespace Go.Proofs.YtioamkekjjkigaaGreatDoor
section
open Go.RowKit
attribute [local go_sem] Oper.semAt_some
def IB (w:World) (G:Nat) (xs:List Int):Prop:=Ds w G (xs.map (Value.int .i64)).toArray 3
theorem IB.cell {w:World} {G:Nat} {xs:List Int} (h:IB w G xs) {j:Nat} (hj:j<xs.length):w.cell? ⟨G,j,none⟩=some (.int .i64 (gi xs j)):=by
 have h':Ds w G _ _:=h;rw [h'.cell j];simp [gi,hj]
theorem IB.frozen {w:World} {G:Nat} {xs:List Int} (h:IB w G xs) (j:Nat):w.frozen? ⟨G,j,none⟩=false:=Ds.frozen (show Ds w G _ _ from h) j
theorem IB.below {w w':World} {G:Nat} {xs:List Int} (h:IB w G xs) (hb:Below w.heap.size w w'):IB w' G xs:=Ds.below (show Ds w G _ _ from h) hb
theorem IB.lt {w:World} {G:Nat} {xs:List Int} (h:IB w G xs):G<w.heap.size:=Ds.lt (show Ds w G _ _ from h)
theorem IB.set {w:World} {G:Nat} {xs:List Int} (h:IB w G xs) (i:Nat) (y:Int):IB (w.setCell ⟨G,i,none⟩ (.int .i64 y)) G (xs.set i y):=by
 have:=Ds.set (show Ds w G _ _ from h) i (.int .i64 y);show Ds _ _ _ _;rwa [A0,<-List.map_set] at this
theorem IB.sl {w:World} {G:Nat} {xs:List Int} (h:IB w G xs) (hl:xs.length<=maxLen):Sl w (.slice (some ⟨G,0,none⟩) xs.length xs.length) xs :=
 .inr ⟨G,0,xs.length,rfl,Aa _,hl,h.lt,fun j hj=>by rw [BN];exact h.cell hj⟩
theorem IB.of_make {w:World} {base g n:Nat} {xs:List Int} (h:w.ownsRow base 3 1 (.slice (some ⟨g,0,none⟩) n n) n (xs.map (Value.int .i64))):IB w g xs:=by
 have hl:n=xs.length:=by have:=h.1;simpa using this.symm
 rcases h.2 with ⟨h1,_⟩ | ⟨g',cap,cur,h1,hb,hg,hn,hm,hs,ht⟩
 ·cases h1
 ·cases h1
  show w.heap[g]? = _;rw [hg];have e:cur=(xs.map (Value.int .i64)).toArray:=by
   apply Array.ext';rw [<-ht,BG (by rw [BC,hs];omega)]
  rw [e]
def Uv (os:List Int) (V x:Int) (ys:List Int) (i k:Nat) (c:Int):Prop:=val 10 os+c*10 ^ (i+k)=V+x*val 10 (ys.take k)*10 ^ i
theorem Uw {os ys:List Int} {V x y c o n:Int} {i k:Nat} (h:Uv os V x ys i k c) (hk:k<ys.length) (hy:y=gi ys k) (hi:i+k<os.length) (ho:o=gi os (i+k)) (hn:n=o+c+x*y):Uv (os.set (i+k) (n % 10)) V x ys i (k+1) (n / 10):=by
 unfold Uv at *
 rw [Lf 10 os (i+k) (n % 10) hi,F2 hk,EA,<-hy,<-ho,BB,BE Ad,<-Nat.add_assoc,Cx];have e1:(val 10 (ys.take k)+y*10 ^ k)=val 10 (ys.take k)+y*10 ^ k:=rfl;have e2:x*(val 10 (ys.take k)+y*10 ^ k)*10 ^ i=x*val 10 (ys.take k)*10 ^ i+x*y*10 ^ (i+k):=by
  rw [CM,CT,Cv];simp only [AL,AM,Int.mul_left_comm]
 rw [e2];have:=Jy (V+x*val 10 (ys.take k)*10 ^ i) (o+c) (10 ^ (i+k)) (val 10 os-o*10 ^ (i+k)) (x*y) (n % 10) (n / 10) (by rw [CT];omega) Ad;rw [Int.sub_mul];omega
theorem Ux {os ys:List Int} {V x c:Int} {i k:Nat} (h:Uv os V x ys i k c) (hk:ys.length<=k) (hi:i+k<os.length) (ho:gi os (i+k)=0) (hc0:0<=c) (hc:c<10):Uv (os.set (i+k) (c % 10)) V x ys i (k+1) (c / 10):=by
 unfold Uv at *
 have e:c % 10=c:=by omega
 have e0:c / 10=0:=by omega
 rw [Lf 10 os (i+k) (c % 10) hi,ho,e,e0,BG Ad];rw [BG hk] at h;simp at h |-;omega
theorem inT_end {os xs ys:List Int} {V:Int} {i k:Nat} (h:Uv os V (gi xs i) ys i k 0) (hk:ys.length<=k) (hi:i<xs.length) (hV:V=val 10 (xs.take i)*val 10 ys):val 10 os=val 10 (xs.take (i+1))*val 10 ys:=by
 unfold Uv at h;rw [BG hk] at h;rw [F2 hi,EA,BB,BE Ad,CT,<-hV];have e:gi xs i*val 10 ys*10 ^ i=gi xs i*10 ^ i*val 10 ys:=by rw [AL,AM (val 10 ys),<-AL]
 omega
theorem NZ {os:List Int} (h:Ew 10 os) (i:Nat) {y:Int} (h0:0<=y) (h1:y<10):Ew 10 (os.set i y):=fun x hx=>by
 rcases List.mem_or_eq_of_mem_set hx with h2 | rfl
 ·exact h x h2
 ·exact ⟨h0,h1⟩
theorem mul_dig {x y:Int} (h0:0<=x) (h1:x<10) (h2:0<=y) (h3:y<10):0<=x*y/\x*y<=81:=by
 refine ⟨BZ h0 h2,?_⟩;have:=AI (show x<=9 by omega) (show y<=9 by omega) h2 Ae;omega
theorem SY (k:Nat):val 10 (List.replicate k (0:Int))=0:=by
 induction k with
 | zero=>rfl
 | succ k ih=>rw [CH];simp [val,ih]
theorem Ps (k j:Nat):gi (List.replicate k (0:Int)) j=0:=by unfold gi;rw [List.getElem?_replicate];split <;> rfl
theorem N5 (k:Nat):Ew 10 (List.replicate k (0:Int)):=fun x hx=>by
 have:=(List.mem_replicate.1 hx).2;subst this;omega
theorem QI (v u:Value) (xs ys:List Int) (m n:Int) (w:World) (hv:Sl w v xs) (hu:Sl w u ys) (hx:Ef 10 xs m) (hy:Ef 10 ys n) (hlx:xs.length<=10000) (hly:ys.length<=10000) :
  Calls Tryz.prog 89 #[v,u] w (DA w fun r w'=>∃ zs,Sl w' r zs/\Ef 10 zs (m*n)):=by
 obtain ⟨a1,b1,o1,c1,rfl,h1,h2,h4⟩:=hv.place
 obtain ⟨a2,b2,o2,c2,rfl,g1,g2,g4⟩:=hu.place
 have H4:=A8 h4
 have G4:=A8 g4
 have H1:=A8 h1
 have G1:=A8 g1
 have HX:=A8 hx
 have HY:=A8 hy
 obtain ⟨L,hL⟩:∃ L:Nat,L=xs.length+ys.length:=⟨_,rfl⟩
 obtain ⟨W1,hmk,hown,hb1⟩:=Ih w 22 Tryz.underlying22 .i64 .i64 L Ad
 have hib:=IB.of_make hown
 have hLi:(L:Int)=(xs.length:Int)+(ys.length:Int):=by omega
 rw [hLi] at hmk
 have HLi:=A8 hLi
 have HL:=A8 hL
 have hG:w.heap.size<W1.heap.size:=hib.lt
 clear hv hu h4 g4 h1 g1 hx hy hLi hL hown
 go_enter Tryz.func89,Tryz.ntmps89
 go_wp2
 go_loopw [6] (fun s6 wr=>∃ (i:Nat) (os:List Int),s6=.int .i64 i/\i<=xs.length/\IB wr w.heap.size os/\os.length=L/\Ew 10 os/\Hid (val 10 os=val 10 (xs.take i)*val 10 ys)/\Hid (∀ j,i+ys.length<=j->gi os j=0)/\Below w.heap.size w wr)
  (fun s6 _=>xs.length-(intOf s6).toNat)
 case atStart=>exact ⟨0,List.replicate L 0,rfl,AO _,hib,Af,N5 L,(show val 10 (List.replicate L 0)=_ by rw [SY];simp [val]),(fun j _=>Ps L j),hb1⟩
 case round =>
  clear hib hb1 hmk hG;obtain ⟨i,os,rfl,hi,hib,hlo,hdo,hV,hZ,hB⟩:=hrel;by_cases hi1:i<xs.length
  ·obtain ⟨rfl,h3⟩:=H1.out Ad
   have i1:(i:Int)<(xs.length:Int):=by omega
   have x0:=(HX.out.dig.gi Ae i).1;have x1:=(HX.out.dig.gi Ae i).2;have hVV:=hV.out;generalize hVd:val 10 os=V at *
   have HVd:=A8 hVd;clear hVd hV;go_wp2;obtain ⟨wo,rfl⟩:∃ wo:World,wo=wr:=⟨_,rfl⟩;have Hlo:=A8 hlo;have Hib:=A8 hib;have HVV:=A8 hVV;have HB:=A8 hB;clear hlo hib hVV;go_loopw [7,8] (fun s7 s8 wr=>∃ (k:Nat) (c:Int) (ps:List Int),s8=.int .i64 k/\s7=.int .i64 c/\0<=c/\c<=9/\IB wr w.heap.size ps/\ps.length=L/\Ew 10 ps/\Hid (Uv ps V (gi xs i) ys i k c) /\
     ((k<=ys.length/\Hid (∀ j,i+ys.length<=j->gi ps j=0))∨(k=ys.length+1/\c<=0/\Hid (∀ j,i+ys.length+1<=j->gi ps j=0)))/\Below w.heap.size w wr)
    (fun _ s8 _=>ys.length+1-(intOf s8).toNat)
   case atStart=>exact ⟨0,0,os,rfl,rfl,Ae,Ae,Hib.out,Hlo.out,hdo,(show Uv _ _ _ _ _ _ _ by unfold Uv;rw [HVd.out];simp [val]),.inl ⟨AO _,hZ⟩,hB⟩
   case round =>
    clear hdo hZ HVd hB;obtain ⟨k,c,ps,rfl,rfl,hc0,hc1,hib,hlp,hdp,hI,hT,hB⟩:=hrel;by_cases hk:k<ys.length
    ·obtain ⟨rfl,g3⟩:=G1.out Ad
     have i2:(k:Int)<(ys.length:Int):=by omega
     have hik:i+k<ps.length:=by have:=HL.out;omega
     have y0:=(HY.out.dig.gi Ae k).1;have y1:=(HY.out.dig.gi Ae k).2;have ho0:=(hdp.gi Ae (i+k)).1;have ho1:=(hdp.gi Ae (i+k)).2;have e1:=(hB.cell (p:=⟨b1,o1+i,none⟩) h3).trans (H4.out i Ad);have e2:=(hB.cell (p:=⟨b2,o2+k,none⟩) g3).trans (G4.out k Ad);have e3:=hib.cell hik;have e4:=hib.frozen (i+k);obtain ⟨m0,m1⟩:=mul_dig x0 x1 y0 y1;have hi3:(i:Int)+(k:Int)<(L:Int):=by have:=HL.out;omega
     have hi4:(0:Int)<=(i:Int)+(k:Int):=by omega
     have hstep:=Uw (n:=gi ps (i+k)+c+gi xs i*gi ys k) hI.out hk rfl hik rfl rfl;have HS:=A8 hstep;have HT:=A8 hT;have hkl:k+1<=ys.length:=by omega
     have Hlp:=A8 hlp;generalize hx':gi xs i=x at *
     generalize hy':gi ys k=y at *
     generalize ho':gi ps (i+k)=o at *
     obtain ⟨d,hd⟩:∃ d,x*y=d:=⟨_,rfl⟩;rw [hd] at m0 m1 HS;have n0:0<=o+c+d:=by omega
     have n1:o+c+d<=99:=by omega
     clear hx' hy' ho' hstep hT hI hlp;have Hw1:=A8 (BT d Ad);have Hw2:=A8 (BT (o+c+d) Ad);go_wp2_with fail;have hw1:=Hw1.out;have hw2:=Hw2.out;go_quiet (fail);clear hw1 hw2;go_wp2;go_roundw;case rel =>
      refine ⟨k+1,_,ps.set (i+k) ((o+c+d) % 10),by go_num,rfl,Ad,Ad,(hib.below (Dq wr nq)).set (i+k) _,(by rw [C7];exact Hlp.out),NZ hdp _ Ad Ad,HS,.inl ⟨hkl,?_⟩,(hB.trans ((Dq wr nq).mono hB.size)).setCell (p:=⟨w.heap.size,i+k,none⟩) (Aa _) _⟩;rcases HT.out with h | h
      ·exact fun j hj=>by rw [NJ _ (show i+k≠j by omega)];exact h.2.out j hj
      ·exact absurd h.1 Ad
     case measure=>simp [intOf];omega
    ·by_cases hc:0<c
     ·have hkl:k=ys.length:=by rcases hT with h | h;have:=h.1;omega;have:=h.2.1;omega
      have hz:gi ps (i+k)=0:=by rcases hT with h | h;exact h.2.out (i+k) Ad;have:=h.2.1;omega
      have HZ:=A8 (show ∀ j,i+ys.length<=j->gi ps j=0 by rcases hT with h | h;exact h.2.out;have:=h.2.1;omega);have hik:i+k<ps.length:=by have:=HL.out;omega
      have e3:=hib.cell hik;rw [hz] at e3;have e4:=hib.frozen (i+k);have hi3:(i:Int)+(k:Int)<(L:Int):=by have:=HL.out;omega
      have hi4:(0:Int)<=(i:Int)+(k:Int):=by omega
      have HS:=A8 (Ux hI.out Ad hik hz hc0 Ad);have hk':ys.length<=k:=by omega
      have Hlp:=A8 hlp;have Hkl:=A8 hkl;have hk2:k<=10000:=by omega
      have hi2:i<=10000:=by omega
      clear hI hT hz hlp hkl;go_wp2;go_roundw;case rel =>
       refine ⟨k+1,_,ps.set (i+k) (c % 10),by go_num,rfl,Ad,Ad,hib.set (i+k) _,(by rw [C7];exact Hlp.out),NZ hdp _ Ad Ad,HS,.inr ⟨by rw [Hkl.out],Ad,?_⟩,hB.setCell (p:=⟨w.heap.size,i+k,none⟩) (Aa _) _⟩;have hk3:=Hkl.out;show ∀ j,i+ys.length+1<=j->gi (ps.set (i+k) (c % 10)) j=0;intro j hj;rw [NJ _ (show i+k≠j by omega)];exact HZ.out j Ad
      case measure=>have:=Hkl.out;simp [intOf];omega
     ·obtain rfl:c=0:=by omega
      have hk':ys.length<=k:=by omega
      have HV:=A8 (inT_end hI.out hk' hi1 HVV.out);have HZ:=A8 (show ∀ j,i+1+ys.length<=j->gi ps j=0 by rcases hT with h | h;exact fun j hj=>h.2.out j Ad;exact fun j hj=>h.2.2.out j Ad);clear hI hT hk;go_wp2;go_roundw;case rel=>exact ⟨i+1,ps,by go_num,Ad,hib,hlp,hdp,HV,HZ,hB⟩
      case measure=>simp [intOf];omega
  ·have hfin:=Ef.trim hdo
   have e:val 10 os=m*n:=by
    have h:=hV.out;rw [BG Ad,HX.out.val,HY.out.val] at h;exact h
   rw [e] at hfin;have HF:=A8 hfin;have hsl:=hib.sl (by have:=HL.out;unfold maxLen;omega);rw [hlo] at hsl;clear hfin e hV hlo;go_wp2_with fail;refine (J8 _ os _ hsl).mono ?_;rintro e w2 ⟨⟨v',rfl,hz,_⟩,rfl⟩;go_wp2;go_ret;exact ⟨⟨_,rfl,_,hz,HF.out⟩,hB⟩
theorem Pt {xs:List Int} {t:Nat} (h:t<xs.length):val 10 (xs.drop t)=gi xs t+10*val 10 (xs.drop (t+1)):=by
 rw [Lg h];rfl
theorem Uy (qs:List Int) (t:Nat) (d:Int):(qs.set t d).drop (t+1)=qs.drop (t+1):=by
 rw [List.drop_set_of_lt Ad]
theorem KY {l:List Int} {i:Nat} (h:i<l.length) (y:Int):gi (l.set i y) i=y:=by simp [gi,h]
theorem Uz {l:List Int} {i:Nat} (h:gi l i=0) (hi:i<l.length):l.set i 0=l:=by
 have e:l[i]=0:=by rw [<-FE hi];exact h
 rw [<-e];exact List.set_getElem_self hi
theorem UA {N x m R d R' Q:Int} (hm:0<m) (hR:R=N % m) (hQ:Q=N / m) (h:R'+d*m=R*10+x) (h0:0<=R') (h1:R'<m):R'=(x+10*N) % m/\d+10*Q=(x+10*N) / m:=by
 have e:=Dg N m;have hu:=(Int.ediv_emod_unique hm (a:=x+10*N) (r:=R') (q:=d+10*Q)).2 ⟨by
  rw [CM,Int.mul_left_comm,hQ];rw [AM d m] at h;generalize m*(N / m)=P at *
  omega,h0,h1⟩
 exact ⟨hu.2.symm,hu.1.symm⟩
theorem UB {R x m d R':Int} (hm:0<m) (hR:R<m) (hx:x<10) (h:R'+d*m=R*10+x) (h0:m<=R'):d<9:=by
 rcases Int.lt_or_le d 9 with h1 | h1
 ·exact h1
 ·have:=AJ h1 (CY hm)
  omega
theorem IJ (v u:Value) (xs ys:List Int) (m:Int) (w:World) (hv:Sl w v xs) (hu:Sl w u ys) (hx:Ew 10 xs) (hy:Ef 10 ys m) (hm:0<m) (hlx:xs.length<=10000) (hly:ys.length<=10000) :
  Calls Tryz.prog 97 #[v,u] w (DA w fun r w'=>∃ r1 r2 qs rs,r=.tuple #[r1,r2]/\Sl w' r1 qs/\Ef 10 qs (val 10 xs / m)/\Sl w' r2 rs/\Ef 10 rs (val 10 xs % m)):=by
 obtain ⟨a1,b1,o1,c1,rfl,h1,h2,h4⟩:=hv.place
 obtain ⟨a2,c2,rfl⟩:=hu.shape
 have H4:=A8 h4
 have H1:=A8 h1
 have HX:=A8 hx
 have HY:=A8 hy
 obtain ⟨W1,hmk,hown,hb1⟩:=Ih w 22 Tryz.underlying22 .i64 .i64 xs.length Ad
 have hib:=IB.of_make hown
 have HU:=A8 hu
 clear hv hu h4 h1 hx hy hown
 go_enter Tryz.func97,Tryz.ntmps97
 go_wp2
 go_loopw [7,8] (fun s7 s8 wr=>∃ (t:Nat) (q:Int) (qs rs:List Int) (R:Int) (a3:Option Addr) (c3:Nat),s8=.int .i64 q/\Hid (q=(t:Int)-1)/\t<=xs.length/\s7=.slice a3 rs.length c3/\Sl wr (.slice a3 rs.length c3) rs/\Ef 10 rs R/\R<m /\
   IB wr w.heap.size qs/\Hid (qs.length=xs.length)/\Ew 10 qs/\Hid (R=val 10 (xs.drop t) % m)/\Hid (val 10 (qs.drop t)=val 10 (xs.drop t) / m)/\Hid (∀ j,j<t->gi qs j=0)/\Below w.heap.size w wr)
  (fun _ s8 _=>(intOf s8+1).toNat)
 case atStart =>
  refine ⟨xs.length,_,List.replicate xs.length 0,[],0,none,0,rfl,rfl,Aa _,rfl,Sl.nil _,Ef.trim (xs:=[]) (Ew.nil 10),hm,hib,(show _=_ by simp),N5 _,?_,?_,fun j _=>Ps _ j,hb1⟩
  ·show _=_
   rw [List.drop_length];rfl
  ·show _=_
   rw [List.drop_length,List.drop_of_length_le Af];simp [val]
 case round =>
  clear hib hb1 hmk;obtain ⟨t,q,qs,rs,R,a3,c3,rfl,hq,ht,rfl,hr,hnr,hRm,hib,hlq,hdq,hR,hQ,hZ,hB⟩:=hrel;cases t with
  | zero =>
   obtain rfl:q=-1:=by have:=hq.out;omega
   have hfin:=Ef.trim hdq;have e1:=hQ.out;have e2:=hR.out;rw [Db,Db] at e1;rw [Db] at e2;rw [e1] at hfin;have HF:=A8 hfin;have HR:=A8 (show Ef 10 rs (val 10 xs % m) by rw [<-e2];exact hnr);have hsl:=hib.sl (by rw [hlq.out];unfold maxLen;omega);rw [hlq.out] at hsl;clear hfin e1 e2;go_wp2_with fail;refine (J8 _ qs _ hsl).mono ?_;rintro e w2 ⟨⟨v',rfl,hz,_⟩,rfl⟩;go_wp2;go_ret2;exact ⟨⟨_,rfl,_,_,_,rs,rfl,hz,HF.out,hr,HR.out⟩,hB⟩
  | succ t =>
   obtain rfl:q=(t:Int):=by have:=hq.out;omega
   obtain ⟨rfl,h3⟩:=H1.out Ad;have htl:t<xs.length:=by omega
   have i1:(t:Int)<(xs.length:Int):=by omega
   have i0:(0:Int)<=(t:Int):=by omega
   have e1:=(hB.cell (p:=⟨b1,o1+t,none⟩) h3).trans (H4.out t htl);have x0:=(HX.out.gi Ae t).1;have x1:=(HX.out.gi Ae t).2;have hR0:=hnr.nonneg Ae;have hlr:rs.length<=10000:=by have:=hnr.len_le Ae HY.out (CY hRm);omega
   have HDV:=A8 (Pt htl);have hnx:Ef 10 (trim (gi xs t :: rs)) (gi xs t+10*R):=by
    have:=Ef.trim (b:=10) (xs:=gi xs t :: rs) (fun z hz=>by
     rcases Aw.1 hz with rfl | hz
     ·exact ⟨x0,x1⟩
     ·exact hnr.dig z hz)
    simpa [val,hnr.val] using this
   generalize hxx:gi xs t=x at *
   have HNX:=A8 hnx;clear hxx hnx;have Hr:=A8 (hr.below ((Below.refl wr.heap.size wr).alloc (Aa _) (.cells #[.int .i64 x] 3)));go_wp2_with (at_builtin;refine Sp (base:=wr.heap.size) (xs:=[x]) (ys:=rs) 22 Tryz.underlying22 rfl _ _ rfl rfl rfl (JM wr x) Hr.out Ad Ae Af ?_;intro g cp w2 hown2 hg2 hb2;clear hg2);have hb3:Below wr.heap.size wr w2:=((Below.refl wr.heap.size wr).alloc (Aa _) _).trans hb2;have hsl2:=Sl.of_own hown2;clear hb2 hown2 hr Hr;go_wp2_with fail;refine (J8 _ (x :: rs) _ hsl2).mono ?_;rintro e w3 ⟨⟨v',rfl,hz,_⟩,rfl⟩;obtain ⟨a5,c5,rfl⟩:=hz.shape;have hib2:=hib.below hb3;have hB2:=hB.trans (hb3.mono hB.size);have HQ0:=A8 (Uz (hZ.out t Ad) (show t<qs.length by have:=hlq.out;omega));have hR0x:0<=x+10*R:=by omega
   generalize trim (x :: rs)=rs0 at *
   clear hib hb3 hsl2 e1 i1 i0 H1 hlr;go_wp2;obtain ⟨wo,rfl⟩:∃ wo:World,wo=wr:=⟨_,rfl⟩;have HBo:=A8 hB;clear hB hnr;go_loopw [7] (fun s7 wr=>∃ (d R1:Int) (rs1 ps:List Int) (a6:Option Addr) (c6:Nat),s7=.slice a6 rs1.length c6/\Sl wr (.slice a6 rs1.length c6) rs1/\Ef 10 rs1 R1/\Hid (R1+d*m=R*10+x)/\0<=d/\d<=9/\IB wr w.heap.size ps/\Hid (ps=qs.set t d)/\Below w.heap.size w wr)
    (fun s7 wr=>(val 10 (LN wr s7)).toNat)
   case atStart=>exact ⟨0,_,rs0,qs,_,_,rfl,hz,HNX.out,(show _=_ by omega),Ae,Ae,hib2,HQ0.out.symm,hB2⟩
   case round =>
    clear hz hib2 hB2;obtain ⟨d,R1,rs1,ps,a6,c6,rfl,hr1,hn1,hE1,hd0,hd1,hib,hps,hB⟩:=hrel;have hy1:=HU.out.below hB;have hrd:=A8 hr1.rd;have hl1:rs1.length<=100000:=by
     have h1:=hn1.length_le Ae (m:=10001) ?_
     ·omega
     ·have h2:=HY.out.lt Ae
      have h3:=Fk (b:=10) Ae hly;have h4:(10:Int) ^ 10001=10 ^ 10000*10:=Cx ..;have h5:=hE1.out;have h6:=BZ hd0 (CY hm);generalize (10:Int) ^ 10000=P at *
      generalize (10:Int) ^ 10001=Q at *
      omega
    go_wp2_with fail;refine (HJ _ _ rs1 ys _ hr1 hy1).mono ?_;rintro e w4 ⟨rfl,hb4⟩;rw [cmpL10 hn1 HY.out];have hr4:=hr1.below hb4;have hy4:=hy1.below hb4;have hB4:=Dn hb4 hB (Aa _);have hib4:=hib.below hb4;by_cases hle:m<=R1
    ·have hc:=Pq.2 hle
     generalize Lib.compareInt R1 m=c at *
     have hd9:=UB hm hRm x1 hE1.out hle;have htq:t<ps.length:=by rw [hps.out,C7];have:=hlq.out;omega
     have htx:(t:Int)<(xs.length:Int):=by omega
     have ht0:(0:Int)<=(t:Int):=by omega
     have hgd:gi ps t=d:=by rw [hps.out];exact KY (by have:=hlq.out;omega) d
     clear hr1 hy1 hib hB hb4;go_wp2_with fail;have hG4:=hib4.lt;refine (JY _ _ rs1 ys R1 m _ hr4 hy4 hn1 HY.out hle hl1).mono ?_;rintro e w5 ⟨⟨r,rfl,zs,hz,hnz,hfr⟩,hb5⟩;obtain ⟨a7,c7,rfl⟩:=hz.shape;have hib5:=hib4.below hb5;have hB5:=Dn hb5 hB4 (Aa _);have e3:=hib5.cell htq;rw [hgd] at e3;have e4:=hib5.frozen t;have hGz:Sl (w5.setCell ⟨w.heap.size,t,none⟩ (.int .i64 (d+1))) (.slice a7 zs.length c7) zs:=hz.only ((Dr.refl [w.heap.size] w5).setCell (p:=⟨w.heap.size,t,none⟩) Af _) (fun b o e=>by have:=hfr b o e;simp;omega);have hrd5:=A8 hGz.rd;clear hgd hr4 hy4 hib4 hB4 hb5;go_wp2;go_roundw;case rel=>exact ⟨d+1,R1-m,zs,ps.set t (d+1),_,_,rfl,hGz,hnz,(show _=_ by rw [CT];have:=hE1.out;omega),Ad,Ad,hib5.set t _,(show _=_ by rw [hps.out,List.set_set]),hB5.setCell (p:=⟨w.heap.size,t,none⟩) (Aa _) _⟩
     case measure =>
      show (val 10 (LN _ _)).toNat<(val 10 (LN _ _)).toNat;rw [hrd.out,hrd5.out,hnz.val,hn1.val];omega
    ·have hcl:=Dz (show R1<m by omega)
     rw [hcl];obtain ⟨k1,k2⟩:=UA hm hR.out hQ.out hE1.out (hn1.nonneg Ae) Ad;rw [<-HDV.out] at k1 k2;have htq:t<qs.length:=by have:=hlq.out;omega
     have K2:=A8 (show val 10 ((qs.set t d).drop t)=val 10 (xs.drop t) / m by
      rw [Pt (by rw [C7];exact htq),KY htq,Uy,k2])
     have K1:=A8 k1;have hR1m:R1<m:=by omega
     clear hcl k1 k2 hr1 hy1 hib hB hb4 hle;rw [hps.out] at hib4;go_wp2;go_roundw;case rel=>exact ⟨t,_,qs.set t d,rs1,R1,_,_,rfl,rfl,Ad,rfl,hr4,hn1,hR1m,hib4,(show _=_ by rw [C7];exact hlq.out),NZ hdq t hd0 Ad,K1,K2,(fun j hj=>by rw [NJ _ (show t≠j by omega)];exact hZ.out j Ad),hB4⟩
     case measure=>simp [intOf]
theorem Kx (k:Nat):((10:Int) ^ k)=((10 ^ k:Nat):Int):=by simp
theorem Ky {b:ByteArray} (h:DK b=true):(zS b=0->b=⟨#[48]⟩)/\(zS b≠0->(b.toList==[48])=false):=by
 have h5:=(Ff (show Fg b.data.toList=true from h)).1;constructor
 ·intro hz
  have h6:GK b.data.toList=0:=hz;rw [h6,show Lib.itoa (0:Int)=[48] from Kw false] at h5;exact Ao (Array.ext' h5)
 ·intro hz
  rw [ByteArray.toList_eq];refine Am.2 (fun e=>hz ?_);show GK _=0;rw [e];decide +kernel
theorem rmul_ok (a b:ByteArray) (ha:DK a=true) (hb:DK b=true) (hsa:a.size<=9223372036854775807) (hsb:b.size<=9223372036854775807) (w:World) :
  Calls Tryz.prog 51 #[.string a,.string b] w (DA w fun r _=>r=EY true (zS a*zS b)):=by
 have V1:=fun W=>DI a hsa W
 have V2:=fun W=>DI b hsb W
 have D1:=fun W=>Ek a ha W
 have D2:=fun W=>Ek b hb W
 have Sa:=Eq ha
 have Sb:=Eq hb
 rw [ha] at V1
 rw [hb] at V2
 go_enter Tryz.func51,Tryz.ntmps51
 go_wp2_with fail
 refine (V1 _).mono ?_
 rintro e w1 ⟨rfl,hb1⟩
 go_wp2_with fail
 refine (V2 _).mono ?_
 rintro e w2 ⟨rfl,hb2⟩
 have hB2:=Dn hb2 hb1 (Aa _)
 go_wp2_with fail
 refine (D1 _).mono ?_
 rintro e w3 ⟨⟨r,rfl,v,xs,rfl,hx,hnx⟩,hb3⟩
 have hB3:=Dn hb3 hB2 (Aa _)
 have lx:=len10 hnx Sa
 go_wp2_with fail
 refine (D2 _).mono ?_
 rintro e w4 ⟨⟨r,rfl,u,ys,rfl,hy,hny⟩,hb4⟩
 have hB4:=Dn hb4 hB3 (Aa _)
 have ly:=len10 hny Sb
 have hx4:=hx.below hb4
 clear hb1 hb2 hb3 hb4 hB2 hB3 hx
 go_wp2_with fail
 refine (QI _ _ xs ys _ _ _ hx4 hy hnx hny Ad Ad).mono ?_
 rintro e w5 ⟨⟨r,rfl,zs,hz,hnz⟩,hb5⟩
 have hB5:=Dn hb5 hB4 (Aa _)
 have lz:zs.length<=1000:=by
  have h1:=Nat.mul_lt_mul'' (show (zS a).natAbs<10 ^ 200 by have:=ED Sa;rw [show GU=((10 ^ 200:Nat):Int) from Kx 200] at this;omega) (show (zS b).natAbs<10 ^ 200 by have:=ED Sb;rw [show GU=((10 ^ 200:Nat):Int) from Kx 200] at this;omega);have h2:=hnz.length_le Ae (m:=200+200) (by
   rw [<-Nat.pow_add] at h1;rw [Kx (200+200)];have e:((zS a).natAbs:Int)*((zS b).natAbs:Int)=(((zS a).natAbs*(zS b).natAbs:Nat):Int):=by simp
   rw [e];exact Int.ofNat_lt.2 h1)
  omega
 have hm:=RV (zS a) (zS b)
 generalize decide (zS a<0)=s at *
 generalize decide (zS b<0)=t at *
 have HM:=A8 (show sgn (!s==t) ((zS a).natAbs*(zS b).natAbs)=zS a*zS b from hm)
 clear hm
 go_wp2_with fail
 refine (Fq (!s==t) _ zs _ _ hz hnz Ad).mono ?_
 rintro e w6 ⟨⟨r,rfl,rfl⟩,hb6⟩
 rw [HM.out]
 obtain ⟨z,hzz⟩:∃ z,Hid (zS a*zS b=z):=⟨_,A8 rfl⟩
 rw [hzz.out]
 cases hs:decide (Do z) with
 | true =>
  rw [Ey (Cs hs)];go_wp2;go_ret2;exact ⟨⟨_,rfl,by rw [hzz.out];exact (Ey (Cs hs)).symm⟩,Dn hb6 hB5 (Aa _)⟩
 | false =>
  rw [Gt (Dh hs)];go_wp2;go_ret2;exact ⟨⟨_,rfl,by rw [hzz.out];exact (Gt (Dh hs)).symm⟩,Dn hb6 hB5 (Aa _)⟩
theorem UC (a b:ByteArray) (h:DK a=false∨DK b=false) (hsa:a.size<=9223372036854775807) (hsb:b.size<=9223372036854775807) (w:World) :
  Calls Tryz.prog 51 #[.string a,.string b] w (DA w fun r _=>r=EY false 0):=by
 have V1:=fun W=>DI a hsa W
 have V2:=fun W=>DI b hsb W
 cases ha:DK a with
 | false =>
  rw [ha] at V1;go_enter Tryz.func51,Tryz.ntmps51;go_wp2_with fail;refine (V1 _).mono ?_;rintro e w1 ⟨rfl,hb1⟩;go_wp2;go_ret2;exact ⟨⟨_,rfl,rfl⟩,hb1⟩
 | true =>
  have hb:DK b=false:=by rcases h with h | h;rw [ha] at h;cases h;exact h
  rw [ha] at V1;rw [hb] at V2;go_enter Tryz.func51,Tryz.ntmps51;go_wp2_with fail;refine (V1 _).mono ?_;rintro e w1 ⟨rfl,hb1⟩;go_wp2_with fail;refine (V2 _).mono ?_;rintro e w2 ⟨rfl,hb2⟩;go_wp2;go_ret2;exact ⟨⟨_,rfl,rfl⟩,(Dn hb2 hb1 (Aa _))⟩
theorem Pu (a b:ByteArray) (hsa:a.size<=9223372036854775807) (hsb:b.size<=9223372036854775807) (w:World) :
  Calls Tryz.prog 51 #[.string a,.string b] w (DA w fun r _=>r=EY (DK a&&DK b) (zS a*zS b)):=by
 by_cases h:DK a=true/\DK b=true
 ·rw [h.1,h.2];exact rmul_ok a b h.1 h.2 hsa hsb w
 ·rw [(E3 h).1,QH _ 0];exact UC a b (E3 h).2 hsa hsb w
theorem rgcd_ok (a b:ByteArray) (ha:DK a=true) (hb:DK b=true) (hsa:a.size<=9223372036854775807) (hsb:b.size<=9223372036854775807) (w:World) :
  Calls Tryz.prog 59 #[.string a,.string b] w (DA w fun r _=>r=EY true (EM (zS a) (zS b))):=by
 have V1:=fun W=>DI a hsa W
 have V2:=fun W=>DI b hsb W
 have D1:=fun W=>Ek a ha W
 have D2:=fun W=>Ek b hb W
 have Sa:=Eq ha
 have Sb:=Eq hb
 rw [ha] at V1
 rw [hb] at V2
 have G0:=A8 (OZ (zS a) (zS b))
 go_enter Tryz.func59,Tryz.ntmps59
 go_wp2_with fail
 refine (V1 _).mono ?_
 rintro e w1 ⟨rfl,hb1⟩
 go_wp2_with fail
 refine (V2 _).mono ?_
 rintro e w2 ⟨rfl,hb2⟩
 have hB2:=Dn hb2 hb1 (Aa _)
 go_wp2_with fail
 refine (D1 _).mono ?_
 rintro e w3 ⟨⟨r,rfl,v,xs,rfl,hx,hnx⟩,hb3⟩
 have hB3:=Dn hb3 hB2 (Aa _)
 have lx:=len10 hnx Sa
 go_wp2_with fail
 refine (D2 _).mono ?_
 rintro e w4 ⟨⟨r,rfl,u,ys,rfl,hy,hny⟩,hb4⟩
 have hB4:=Dn hb4 hB3 (Aa _)
 have ly:=len10 hny Sb
 have hx4:=hx.below hb4
 clear hb1 hb2 hb3 hb4 hB2 hB3 hx
 have Bx:=ED Sa
 have By:=ED Sb
 obtain ⟨a1,c1,rfl⟩:=hx4.shape
 obtain ⟨a2,c2,rfl⟩:=hy.shape
 generalize decide (zS a<0)=s at *
 generalize decide (zS b<0)=t at *
 go_wp2
 go_loopw [7,9] (fun k l wr=>∃ a3 c3 a4 c4 ks ls m n,k=.slice a3 ks.length c3/\l=.slice a4 ls.length c4/\Sl wr (.slice a3 ks.length c3) ks/\Sl wr (.slice a4 ls.length c4) ls/\Ef 10 ks m/\Ef 10 ls n/\m<GU/\n<GU /\
   Hid (EM m n=EM (zS a) (zS b))/\Below w.heap.size w wr)
  (fun _ l wr=>(val 10 (LN wr l)).toNat)
 case atStart=>exact ⟨_,_,_,_,_,_,_,_,rfl,rfl,hx4,hy,hnx,hny,Bx,By,G0.out,hB4⟩
 case round =>
  clear hx4 hy hnx hny Bx By hB4 G0 Sa Sb lx ly;obtain ⟨a3,c3,a4,c4,ks,ls,m,n,rfl,rfl,hk,hl,hnk,hnl,Bm,Bn,hG,hW⟩:=hrel;have lk:ks.length<=200:=hnk.length_le Ae Bm;have ll:ls.length<=200:=hnl.length_le Ae Bn;by_cases h0:0<ls.length
  ·have hn0:0<n:=by
    have:=hnl.nonneg Ae;have h1:¬ n=0:=fun e=>by have:=(hnl.zero_iff Ae).2 e;rw [this] at h0;simp at h0
    omega
   have hm0:=hnk.nonneg Ae
   have hrd:=A8 hl.rd
   go_wp2_with fail
   refine (IJ _ _ ks ls n _ hk hl hnk.dig hnl hn0 Ad Ad).mono ?_
   rintro e w2 ⟨⟨r,rfl,r1,r2,qs,rs,rfl,hq,hnq,hr,hnr⟩,hb2⟩
   rw [hnk.val] at hnq hnr
   obtain ⟨a5,c5,rfl⟩:=hq.shape
   obtain ⟨a6,c6,rfl⟩:=hr.shape
   have hlt:=Cu m hn0
   have hmod:=Cy m (by omega:n≠0)
   have hl2:=hl.below hb2
   have hrd2:=A8 hr.rd
   have hW2:=Dn hb2 hW (Aa _)
   go_wp2
   go_roundw
   case rel=>exact ⟨_,_,_,_,ls,rs,n,m % n,rfl,rfl,hl2,hr,hnl,hnr,Bn,Ad,(MW hm0 hn0).trans hG.out,hW2⟩
   case measure =>
    show (val 10 (LN _ _)).toNat<(val 10 (LN _ _)).toNat;rw [hrd.out,hrd2.out,hnl.val,hnr.val];omega
  ·have e0:ls=[]:=Bo Ad
   have en:=(hnl.zero_iff Ae).1 e0;subst e0 en;have hm0:=hnk.nonneg Ae;have hf:sgn false m=EM (zS a) (zS b):=by rw [<-hG.out,MY hm0];rfl
   have HF:=A8 hf;have hsm:Do (EM (zS a) (zS b)):=by rw [<-hf];unfold Do sgn;simp;omega
   have HS:=A8 (Ey hsm);clear hf hG hsm;go_wp2_with fail;refine (Fq false _ ks m _ hk hnk Ad).mono ?_;rintro e w2 ⟨⟨r,rfl,rfl⟩,hb2⟩;rw [HF.out,HS.out];go_wp2;go_ret2;exact ⟨⟨_,rfl,HS.out.symm⟩,Dn hb2 hW (Aa _)⟩
theorem UD (a b:ByteArray) (h:DK a=false∨DK b=false) (hsa:a.size<=9223372036854775807) (hsb:b.size<=9223372036854775807) (w:World) :
  Calls Tryz.prog 59 #[.string a,.string b] w (DA w fun r _=>r=EY false 0):=by
 have V1:=fun W=>DI a hsa W
 have V2:=fun W=>DI b hsb W
 cases ha:DK a with
 | false =>
  rw [ha] at V1;go_enter Tryz.func59,Tryz.ntmps59;go_wp2_with fail;refine (V1 _).mono ?_;rintro e w1 ⟨rfl,hb1⟩;go_wp2;go_ret2;exact ⟨⟨_,rfl,rfl⟩,hb1⟩
 | true =>
  have hb:DK b=false:=by rcases h with h | h;rw [ha] at h;cases h;exact h
  rw [ha] at V1;rw [hb] at V2;go_enter Tryz.func59,Tryz.ntmps59;go_wp2_with fail;refine (V1 _).mono ?_;rintro e w1 ⟨rfl,hb1⟩;go_wp2_with fail;refine (V2 _).mono ?_;rintro e w2 ⟨rfl,hb2⟩;go_wp2;go_ret2;exact ⟨⟨_,rfl,rfl⟩,(Dn hb2 hb1 (Aa _))⟩
theorem UE (a b:ByteArray) (hsa:a.size<=9223372036854775807) (hsb:b.size<=9223372036854775807) (w:World) :
  Calls Tryz.prog 59 #[.string a,.string b] w (DA w fun r _=>r=EY (DK a&&DK b) (EM (zS a) (zS b))):=by
 by_cases h:DK a=true/\DK b=true
 ·rw [h.1,h.2];exact rgcd_ok a b h.1 h.2 hsa hsb w
 ·rw [(E3 h).1,QH _ 0];exact UD a b (E3 h).2 hsa hsb w
theorem SZ:Ef 10 [1] 1:=by
 refine ⟨fun x hx=>?_,fun j hj=>?_,rfl⟩
 ·simp at hx;subst hx;omega
 ·have e:j=0:=by simp at hj;omega
  subst e;decide
theorem QJ (a b:ByteArray) (ha:DK a=true) (hb:DK b=true) (hsa:a.size<=9223372036854775807) (hsb:b.size<=9223372036854775807) (h0:zS b≠0) (hneg:¬ (zS a<0/\0<((zS a).natAbs:Int) % (zS b).natAbs)) (w:World) :
  Calls Tryz.prog 60 #[.string a,.string b] w (DA w fun r _=>r=GF true (zS a) (zS b)):=by
 have V1:=fun W=>DI a hsa W
 have V2:=fun W=>DI b hsb W
 have D1:=fun W=>Ek a ha W
 have D2:=fun W=>Ek b hb W
 have Sa:=Eq ha
 have Sb:=Eq hb
 rw [ha] at V1
 rw [hb] at V2
 have hp:=J7 (zS a) (zS b) h0
 have hsm:=HI (x:=zS a) (y:=zS b) Sa
 rw [AP hneg,AP hneg] at hp
 have hne:=(Ky hb).2 h0
 have hm:(0:Int)<(zS b).natAbs:=by omega
 have HN:=A8 hneg
 have HP:=A8 hp
 have HS:=A8 (Ey hsm.1)
 have HD:=A8 (show GF true (zS a) (zS b)=.tuple #[.string ⟨(Lib.itoa (zS a / zS b)).toArray⟩,.string ⟨(Lib.itoa (zS a % zS b)).toArray⟩,.int .i64 0] by unfold GF;rw [AU];simpa using h0)
 clear hneg hp hsm h0
 go_enter Tryz.func60,Tryz.ntmps60
 go_wp2_with fail
 refine (V1 _).mono ?_
 rintro e w1 ⟨rfl,hb1⟩
 go_wp2_with fail
 refine (V2 _).mono ?_
 rintro e w2 ⟨rfl,hb2⟩
 have hB2:=Dn hb2 hb1 (Aa _)
 go_wp2_with fail
 refine (D1 _).mono ?_
 rintro e w3 ⟨⟨r,rfl,v,xs,rfl,hx,hnx⟩,hb3⟩
 have hB3:=Dn hb3 hB2 (Aa _)
 have lx:=len10 hnx Sa
 go_wp2_with fail
 refine (D2 _).mono ?_
 rintro e w4 ⟨⟨r,rfl,u,ys,rfl,hy,hny⟩,hb4⟩
 have hB4:=Dn hb4 hB3 (Aa _)
 have ly:=len10 hny Sb
 have hx4:=hx.below hb4
 clear hb1 hb2 hb3 hb4 hB2 hB3 hx
 go_wp2_with fail
 refine (IJ _ _ xs ys _ _ hx4 hy hnx.dig hny hm Ad Ad).mono ?_
 rintro e w5 ⟨⟨r,rfl,r1,r2,qs,rs,rfl,hq,hnq,hr,hnr⟩,hb5⟩
 rw [hnx.val] at hnq hnr
 have hB5:=Dn hb5 hB4 (Aa _)
 have lq:=hnq.len_le Ae hnx (CA _ Ad)
 have lr:=hnr.len_le Ae hny (CY (Cu _ hm))
 obtain ⟨a5,c5,rfl⟩:=hr.shape
 have hcond:decide (zS a<0)=true->¬ (0:Int)<(rs.length:Int):=by
  intro hst hl;have hxn:zS a<0:=Cs hst;have:¬ ((zS a).natAbs:Int) % (zS b).natAbs=0:=fun e=>by
   have:=(hnr.zero_iff Ae).2 e;rw [this] at hl;simp at hl
  exact HN.out ⟨hxn,by have:=hnr.nonneg Ae;omega⟩
 have hP1:=HP.out.1
 have hP2:=HP.out.2
 generalize ((zS a).natAbs:Int) / (zS b).natAbs=Q at *
 generalize ((zS a).natAbs:Int) % (zS b).natAbs=R at *
 generalize decide (zS b<0)=t at *
 generalize decide (zS a<0)=s at *
 have HP1:=A8 hP1
 have HP2:=A8 hP2
 clear hP1 hP2 HN HP
 cases s
 all_goals
  try have hc2:=hcond rfl
  clear hcond
  go_wp2_with fail
  refine (Fq _ _ qs _ _ hq hnq Ad).mono ?_
  rintro e w8 ⟨⟨r,rfl,rfl⟩,hb8⟩
  have hr8:=hr.below hb8
  first | rw [show sgn t Q=zS a / zS b by rw [<-HP1.out];cases t <;> rfl,HS.out] | rw [show sgn (!t) Q=zS a / zS b by rw [<-HP1.out];cases t <;> rfl,HS.out]
  go_wp2_with fail
  refine (GT false _ rs _ _ hr8 hnr Ad).mono ?_
  rintro e w9 ⟨rfl,hb9⟩
  rw [show sgn false R=zS a % zS b from HP2.out]
  go_wp2
  refine bodyPost_ret (v:=.tuple #[.string ⟨(Lib.itoa (zS a / zS b)).toArray⟩,.string ⟨(Lib.itoa (zS a % zS b)).toArray⟩,.int .i64 0]) (by simp [results,Tryz.results60,go_sem]) rfl ?_
  exact ⟨⟨_,rfl,HD.out.symm⟩,Dn hb9 (Dn hb8 hB5 (Aa _)) (Aa _)⟩
theorem QK (a b:ByteArray) (ha:DK a=true) (hb:DK b=true) (hsa:a.size<=9223372036854775807) (hsb:b.size<=9223372036854775807) (h0:zS b≠0) (hneg:zS a<0/\0<((zS a).natAbs:Int) % (zS b).natAbs) (w:World) :
  Calls Tryz.prog 60 #[.string a,.string b] w (DA w fun r _=>r=GF true (zS a) (zS b)):=by
 have V1:=fun W=>DI a hsa W
 have V2:=fun W=>DI b hsb W
 have D1:=fun W=>Ek a ha W
 have D2:=fun W=>Ek b hb W
 have Sa:=Eq ha
 have Sb:=Eq hb
 rw [ha] at V1
 rw [hb] at V2
 have hp:=J7 (zS a) (zS b) h0
 have hsm:=HI (x:=zS a) (y:=zS b) Sa
 rw [AU hneg,AU hneg] at hp
 have hne:=(Ky hb).2 h0
 have hm:(0:Int)<(zS b).natAbs:=by omega
 have HN:=A8 hneg
 have HP:=A8 hp
 have HS:=A8 (Ey hsm.1)
 have HD:=A8 (show GF true (zS a) (zS b)=.tuple #[.string ⟨(Lib.itoa (zS a / zS b)).toArray⟩,.string ⟨(Lib.itoa (zS a % zS b)).toArray⟩,.int .i64 0] by unfold GF;rw [AU];simpa using h0)
 clear hneg hp hsm h0
 go_enter Tryz.func60,Tryz.ntmps60
 go_wp2_with fail
 refine (V1 _).mono ?_
 rintro e w1 ⟨rfl,hb1⟩
 go_wp2_with fail
 refine (V2 _).mono ?_
 rintro e w2 ⟨rfl,hb2⟩
 have hB2:=Dn hb2 hb1 (Aa _)
 go_wp2_with fail
 refine (D1 _).mono ?_
 rintro e w3 ⟨⟨r,rfl,v,xs,rfl,hx,hnx⟩,hb3⟩
 have hB3:=Dn hb3 hB2 (Aa _)
 have lx:=len10 hnx Sa
 go_wp2_with fail
 refine (D2 _).mono ?_
 rintro e w4 ⟨⟨r,rfl,u,ys,rfl,hy,hny⟩,hb4⟩
 have hB4:=Dn hb4 hB3 (Aa _)
 have ly:=len10 hny Sb
 have hx4:=hx.below hb4
 clear hb1 hb2 hb3 hb4 hB2 hB3 hx
 go_wp2_with fail
 refine (IJ _ _ xs ys _ _ hx4 hy hnx.dig hny hm Ad Ad).mono ?_
 rintro e w5 ⟨⟨r,rfl,r1,r2,qs,rs,rfl,hq,hnq,hr,hnr⟩,hb5⟩
 rw [hnx.val] at hnq hnr
 have hB5:=Dn hb5 hB4 (Aa _)
 have lq:=hnq.len_le Ae hnx (CA _ Ad)
 have lr:=hnr.len_le Ae hny (CY (Cu _ hm))
 obtain ⟨a5,c5,rfl⟩:=hr.shape
 have hsb:decide (zS a<0)=true:=AF HN.out.1
 rw [hsb]
 have hrl:(0:Int)<(rs.length:Int):=by
  have:rs≠[]:=fun e=>by
   have:=(hnr.zero_iff Ae).1 e;have:=HN.out.2;omega
  have:=List.length_pos_iff.2 this;omega
 have hle:((zS a).natAbs:Int) % (zS b).natAbs<=(zS b).natAbs:=CY (Cu _ hm)
 have hy5:=hy.below hb5
 have hP1:sgn (true != decide (zS b<0)) (((zS a).natAbs:Int) / (zS b).natAbs+1)=zS a / zS b:=by rw [<-hsb];exact HP.out.1
 have hP2:=HP.out.2
 generalize ((zS a).natAbs:Int) / (zS b).natAbs=Q at *
 generalize ((zS a).natAbs:Int) % (zS b).natAbs=R at *
 generalize decide (zS b<0)=t at *
 have HP1:=A8 (show sgn (!t) (Q+1)=zS a / zS b by rw [<-hP1];cases t <;> rfl)
 have HP2:=A8 hP2
 clear hP1 hP2 hsb HN
 go_wp2_with fail
 have hba:Below w5.heap.size w5 (w5.alloc (.cells #[.int .i64 1] 3)):=(Below.refl _ _).alloc (Aa _) _
 refine (N1 _ _ qs [1] Q 1 _ (hq.below hba) (Sl.of_own (JM w5 1)) hnq SZ Ad Ae).mono ?_
 rintro e w6 ⟨⟨r,rfl,zs,hz,hnz⟩,hb6⟩
 have hB6:=Dn hb6 (Dn hba hB5 (Aa _)) (Aa _)
 have hr6:=(hr.below hba).below hb6
 have hy6:=(hy5.below hba).below hb6
 obtain ⟨a6,c6,rfl⟩:=hz.shape
 have lz:zs.length<=201:=hnz.length_le Ae (by
  have h1:=hnq.lt Ae;have h2:=Fk (b:=10) Ae (show qs.length<=200 by omega);have h3:(10:Int) ^ 201=10 ^ 200*10:=Cx ..;have h4:(0:Int)<10 ^ 200:=Int.pow_pos Ae;generalize (10:Int) ^ 200=P at *
  generalize (10:Int) ^ 201=P' at *
  omega)
 go_wp2_with fail
 refine (Jz _ _ ys rs _ R _ hy6 hr6 hny hnr hle Ad).mono ?_
 rintro e w7 ⟨⟨r,rfl,ws,hw7,hnw⟩,hb7⟩
 have hB7:=Dn hb7 hB6 (Aa _)
 have hz7:=hz.below hb7
 have lw:=hnw.len_le Ae hny (by have:=hnr.nonneg Ae;omega)
 go_wp2_with fail
 refine (Fq (!t) _ zs _ _ hz7 hnz Ad).mono ?_
 rintro e w8 ⟨⟨r,rfl,rfl⟩,hb8⟩
 have hw8:=hw7.below hb8
 rw [HP1.out,HS.out]
 go_wp2_with fail
 refine (GT false _ ws _ _ hw8 hnw Ad).mono ?_
 rintro e w9 ⟨rfl,hb9⟩
 rw [show sgn false (((zS b).natAbs:Int)-R)=zS a % zS b from HP2.out]
 go_wp2
 refine bodyPost_ret (v:=.tuple #[.string ⟨(Lib.itoa (zS a / zS b)).toArray⟩,.string ⟨(Lib.itoa (zS a % zS b)).toArray⟩,.int .i64 0]) (by simp [results,Tryz.results60,go_sem]) rfl ?_
 exact ⟨⟨_,rfl,HD.out.symm⟩,Dn hb9 (Dn hb8 hB7 (Aa _)) (Aa _)⟩
theorem T0 (a b:ByteArray) (ha:DK a=true) (hb:DK b=true) (hsa:a.size<=9223372036854775807) (hsb:b.size<=9223372036854775807) (h0:zS b=0) (w:World) :
  Calls Tryz.prog 60 #[.string a,.string b] w (DA w fun r _=>r=GF true (zS a) (zS b)):=by
 have V1:=fun W=>DI a hsa W
 have V2:=fun W=>DI b hsb W
 rw [ha] at V1
 rw [hb] at V2
 have hE:=A8 (show GF true (zS a) (zS b)=.tuple #[.string ⟨#[]⟩,.string ⟨#[]⟩,.int .i64 30] by rw [h0];simp [GF])
 have e:=(Ky hb).1 h0
 subst e
 clear h0
 go_enter Tryz.func60,Tryz.ntmps60
 go_wp2_with fail
 refine (V1 _).mono ?_
 rintro e w1 ⟨rfl,hb1⟩
 go_wp2_with fail
 refine (V2 _).mono ?_
 rintro e w2 ⟨rfl,hb2⟩
 go_wp2
 refine bodyPost_ret (v:=.tuple #[.string ⟨#[]⟩,.string ⟨#[]⟩,.int .i64 30]) (by simp [results,Tryz.results60,go_sem]) rfl ?_
 exact ⟨⟨_,rfl,hE.out.symm⟩,Dn hb2 hb1 (Aa _)⟩
theorem UF (a b:ByteArray) (h:DK a=false∨DK b=false) (hsa:a.size<=9223372036854775807) (hsb:b.size<=9223372036854775807) (w:World) :
  Calls Tryz.prog 60 #[.string a,.string b] w (DA w fun r _=>r=GF false 0 0):=by
 have V1:=fun W=>DI a hsa W
 have V2:=fun W=>DI b hsb W
 cases ha:DK a with
 | false =>
  rw [ha] at V1;go_enter Tryz.func60,Tryz.ntmps60;go_wp2_with fail;refine (V1 _).mono ?_;rintro e w1 ⟨rfl,hb1⟩;go_wp2;refine bodyPost_ret (v:=.tuple #[.string ⟨#[]⟩,.string ⟨#[]⟩,.int .i64 30]) (by simp [results,Tryz.results60,go_sem]) rfl ?_;exact ⟨⟨_,rfl,rfl⟩,hb1⟩
 | true =>
  have hb:DK b=false:=by rcases h with h | h;rw [ha] at h;cases h;exact h
  rw [ha] at V1;rw [hb] at V2;go_enter Tryz.func60,Tryz.ntmps60;go_wp2_with fail;refine (V1 _).mono ?_;rintro e w1 ⟨rfl,hb1⟩;go_wp2_with fail;refine (V2 _).mono ?_;rintro e w2 ⟨rfl,hb2⟩;go_wp2;refine bodyPost_ret (v:=.tuple #[.string ⟨#[]⟩,.string ⟨#[]⟩,.int .i64 30]) (by simp [results,Tryz.results60,go_sem]) rfl ?_;exact ⟨⟨_,rfl,rfl⟩,(Dn hb2 hb1 (Aa _))⟩
theorem UG (a b:ByteArray) (hsa:a.size<=9223372036854775807) (hsb:b.size<=9223372036854775807) (w:World) :
  Calls Tryz.prog 60 #[.string a,.string b] w (DA w fun r _=>r=GF (DK a&&DK b) (zS a) (zS b)):=by
 by_cases h:DK a=true/\DK b=true
 ·rw [h.1,h.2]
  by_cases h0:zS b=0
  ·exact T0 a b h.1 h.2 hsa hsb h0 w
  ·by_cases hneg:zS a<0/\0<((zS a).natAbs:Int) % (zS b).natAbs
   ·exact QK a b h.1 h.2 hsa hsb h0 hneg w
   ·exact QJ a b h.1 h.2 hsa hsb h0 hneg w
 ·rw [(E3 h).1]
  exact (UF a b (E3 h).2 hsa hsb w).mono fun _ _ h=>h
def FT (zs:List Int) (M N:Int):Prop:=Ew 10 zs/\val 10 zs+M*10 ^ zs.length=N/\(M=0->Top zs)
theorem FT.start (N:Int):FT [] N N:=⟨Ew.nil 10,by simp [val],fun _ k hk=>by simp at hk⟩
theorem FT.next {zs:List Int} {M N:Int} (h:FT zs M N) (h0:0<M):FT (zs++[M % 10]) (M / 10) N:=by
 obtain ⟨h1,h2,h3⟩:=h;refine ⟨h1.snoc Ad Ad,?_,fun e=>(LQ Ad).out⟩;rw [EA,Ci,List.length_singleton,Cx,<-h2];have e:M=M % 10+10*(M / 10):=by omega
 have e2:M*10 ^ zs.length=M % 10*10 ^ zs.length+10*(M / 10)*10 ^ zs.length:=by rw [<-CT,<-e]
 have e3:M / 10*(10 ^ zs.length*10)=10*(M / 10)*10 ^ zs.length:=by
  rw [AM (10 ^ zs.length) 10,<-AL,AM (M / 10) 10]
 omega
theorem FT.len {zs:List Int} {M N:Int} (h:FT zs M N) (h0:0<M) (hN:N<10 ^ 20):zs.length<20:=by
 obtain ⟨h1,h2,_⟩:=h;have h3:=(Eg Ae h1).1;have h4:=AJ (show (1:Int)<=M by omega) (CY (Fj (b:=10) Ae zs.length));exact pow_lt (b:=10) Ae Ad
theorem FT.num {zs:List Int} {N:Int} (h:FT zs 0 N):Ef 10 zs N:=⟨h.1,h.2.2 rfl,by have:=h.2.1;omega⟩
theorem Pv {x k:Int} (h:x<0):x.tdiv k=-((-x) / k):=by
 rw [Go.tdiv_eq_if,AP Ad]
theorem Pw {x k:Int} (h:x<0):x.tmod k=-((-x) % k):=by
 rw [Go.tmod_eq_if,AP Ad]
theorem T3 (n:Int) (h0:0<=n) (h1:n<=9223372036854775807) (w:World) :
  Calls Tryz.prog 41 #[.int .i64 n] w (DA w fun r _=>r=.string (I n)):=by
 have HS:=A8 (show sgn (decide (n<0)) n=n by rw [Al Ad];rfl)
 go_enter Tryz.func41,Tryz.ntmps41
 go_wp2
 go_loopw [3,4] (fun o m wr=>∃ (M:Int) (zs:List Int),m=.int .i64 M/\0<=M/\M<=9223372036854775807/\Hid (FT zs M n)/\zs.length<=20/\wr.ownsRow w.heap.size 3 1 o zs.length (zs.map (Value.int .i64))/\Below w.heap.size w wr)
  (fun _ m _=>(intOf m).toNat)
 case atStart=>exact ⟨n,[],rfl,h0,h1,FT.start n,Af,World.ownsRow_nil _ _ _ _,Below.refl _ _⟩
 case round =>
  obtain ⟨M,zs,rfl,hM0,hM1,hF,hlen,hown,hB⟩:=hrel;by_cases hz:M=0
  ·subst hz
   have hsl:=Sl.of_own hown;have hnum:=hF.out.num;clear hown;go_wp2_with fail;refine (GT _ _ zs _ _ hsl hnum Ad).mono ?_;rintro e w2 ⟨rfl,hb2⟩;go_wp2;go_ret;exact ⟨⟨_,rfl,BK (fun z=>Value.string ⟨(Lib.itoa z).toArray⟩) HS.out⟩,Dn hb2 hB (Aa _)⟩
  ·have hMp:0<M:=by omega
   have hl20:=hF.out.len hMp Ad;have HF:=A8 (hF.out.next hMp);clear hlen;go_wp2_with (at_builtin;refine E0 (M % 10) 22 Tryz.underlying22 rfl _ _ rfl rfl rfl hown Ad hB.size ?_;intro g cp w2 hown2 hg2 hb2);go_roundw;case rel=>exact ⟨M / 10,zs++[M % 10],rfl,Ad,Ad,HF.out,(by rw [Ci];simp;omega),(by rw [Ci];exact hown2),hB.trans hb2⟩
   case measure=>simp [intOf];omega
theorem T7 (n:Int) (h0:n<0) (h1:-9223372036854775808<=n) (w:World) :
  Calls Tryz.prog 41 #[.int .i64 n] w (DA w fun r _=>r=.string (I n)):=by
 have HS:=A8 (show sgn true (-n)=n by show -(-n)=n;omega)
 go_enter Tryz.func41,Tryz.ntmps41
 go_wp2
 go_loopw [3,4] (fun o m wr=>∃ (M:Int) (zs:List Int),m=.int .i64 M/\M<=0/\-9223372036854775808<=M/\Hid (FT zs (-M) (-n))/\zs.length<=20/\wr.ownsRow w.heap.size 3 1 o zs.length (zs.map (Value.int .i64))/\Below w.heap.size w wr)
  (fun _ m _=>(-intOf m).toNat)
 case atStart=>exact ⟨n,[],rfl,Ad,h1,FT.start (-n),Af,World.ownsRow_nil _ _ _ _,Below.refl _ _⟩
 case round =>
  obtain ⟨M,zs,rfl,hM0,hM1,hF,hlen,hown,hB⟩:=hrel;by_cases hz:M=0
  ·subst hz
   have hsl:=Sl.of_own hown;have hnum:=hF.out.num;clear hown;go_wp2_with fail;refine (GT _ _ zs _ _ hsl hnum Ad).mono ?_;rintro e w2 ⟨rfl,hb2⟩;go_wp2;go_ret;exact ⟨⟨_,rfl,BK (fun z=>Value.string ⟨(Lib.itoa z).toArray⟩) HS.out⟩,Dn hb2 hB (Aa _)⟩
  ·have hMp:0 < -M:=by omega
   have hl20:=hF.out.len hMp Ad;have HF:=A8 (hF.out.next hMp);have q1:M.tdiv 10=-((-M) / 10):=by rw [Pv Ad]
   have q2:M.tmod 10=-((-M) % 10):=by rw [Pw Ad]
   have Q1:=A8 q1;have Q2:=A8 q2;have d0:-9<=M.tmod 10:=by omega
   have d1:M.tmod 10<=0:=by omega
   clear hlen q1 q2;by_cases hd:M.tmod 10<0
   ·go_wp2_with (at_builtin;refine E0 (-(M.tmod 10)) 22 Tryz.underlying22 rfl _ _ rfl rfl rfl hown Ad hB.size ?_;intro g cp w2 hown2 hg2 hb2)
    go_roundw;case rel=>exact ⟨M.tdiv 10,zs++[-(M.tmod 10)],rfl,by have:=Q1.out;omega,by have:=Q1.out;omega,(show FT _ _ _ by rw [Q1.out,Q2.out,Int.neg_neg,Int.neg_neg];exact HF.out),(by rw [Ci];simp;omega),(by rw [Ci];exact hown2),hB.trans hb2⟩
    case measure=>have:=Q1.out;simp [intOf];omega
   ·have hd0:M.tmod 10=0:=by omega
    have HD0:=A8 hd0;clear hd0;go_wp2_with (at_builtin;refine E0 (M.tmod 10) 22 Tryz.underlying22 rfl _ _ rfl rfl rfl hown Ad hB.size ?_;intro g cp w2 hown2 hg2 hb2);go_roundw;case rel=>exact ⟨M.tdiv 10,zs++[M.tmod 10],rfl,by have:=Q1.out;omega,by have:=Q1.out;omega,(show FT _ _ _ by
     have e:M.tmod 10=-M % 10:=by have:=Q2.out;have:=HD0.out;omega
     rw [Q1.out,e,Int.neg_neg];exact HF.out),(by rw [Ci];simp;omega),(by rw [Ci];exact hown2),hB.trans hb2⟩
    case measure=>have:=Q1.out;simp [intOf];omega
theorem T8 (n:Int) (h0:-9223372036854775808<=n) (h1:n<=9223372036854775807) (w:World) :
  Calls Tryz.prog 41 #[.int .i64 n] w (DA w fun r _=>r=.string (I n)):=by
 by_cases h:n<0
 ·exact T7 n h h0 w
 ·exact T3 n Ad h1 w
end
end Go.Proofs.YtioamkekjjkigaaGreatDoor
