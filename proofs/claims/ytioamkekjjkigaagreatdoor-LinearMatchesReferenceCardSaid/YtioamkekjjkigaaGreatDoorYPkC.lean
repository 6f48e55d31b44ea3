/- PkC -/
import Derived.Test.YtioamkekjjkigaaGreatDoorYShelf
import Derived.Lib.SmallJoins
import Derived.Lib.Repeat
import Derived.Lib.AppendIntMem
import Derived.Deep.RegionHeld3
set_option maxHeartbeats 4000000
set_option maxRecDepth 100000
namespace Go.Proofs.YtioamkekjjkigaaGreatDoor
section
open Go.RowKit
theorem GR (s:ByteArray) (d:List UInt8) (h:body s.data.toList=d) (w:World) :
  Calls Tryz.prog 138 #[.string s,.string ⟨#[45]⟩] w fun e w'=>e=.returned (.string ⟨d.toArray⟩)/\w=w' :=
 (Tryz.strings_TrimPrefix s ⟨#[45]⟩ w).mono fun _ _ ⟨he,hw⟩=>⟨by rw [he,<-h];rfl,hw.symm⟩
theorem RS (c:UInt8):((c.toNat:Int) != 48)=(c != 48):=by
 have:∀ k:Fin 256,(((UInt8.ofNat k.val).toNat:Int) != 48)=(UInt8.ofNat k.val != 48):=by decide +kernel
 have h:=this ⟨c.toNat,c.toNat_lt⟩;simpa using h
def tens:List UInt8:=[48,49,50,51,52,53,54,55,56,57]
theorem NO (d t:List UInt8) (h:Lib.trimS d tens=t) (hd:d.length<=9223372036854775807) (w:World) :
  Calls Tryz.prog 139 #[.string ⟨d.toArray⟩,.string ⟨#[48,49,50,51,52,53,54,55,56,57]⟩] w fun e w'=>e=.returned (.string ⟨t.toArray⟩)/\Below w.heap.size w w' :=
 (Any.strings_Trim_laid Tryz.lays160t Ab ⟨d.toArray⟩ ⟨#[48,49,50,51,52,53,54,55,56,57]⟩ w (by show d.toArray.size<=_;simpa using hd) Ae (ascii_of_all Ae)).mono fun _ _ ⟨he,hw⟩=>⟨by rw [he,<-h];rfl,hw⟩
theorem OT {d:List UInt8}:Lib.trimS d tens=[]↔d.all Hi=true:=by
 rw [Sr,AE];unfold tens;simp only [U5]
theorem Ul (l:List UInt8):(body l).length<=l.length:=by
 unfold body Lib.trimPrefix;split
 ·simp
 ·exact Aa _
theorem OU (s:ByteArray) (w:World) :
  Calls Tryz.prog 113 #[.string s] w fun e w'=>e=.returned (.bool (Fg s.data.toList))/\Below w.heap.size w w':=by
 have hbl:=Ul s.data.toList
 rw [show s.data.toList.length=s.size by rw [BC];rfl] at hbl
 generalize hv:Fg s.data.toList=v
 unfold Fg at hv
 cases hd:body s.data.toList with
 | nil =>
  rw [hd] at hv;have Hv:=A8 hv;have Hd:=A8 hd;clear hv hd hbl;go_enter Tryz.func113,Tryz.ntmps113;go_wp2_with (go_at_call 138;refine (GR _ _ Hd.out _).mono ?_;rintro e w' ⟨rfl,rfl⟩);go_ret;exact ⟨Dm (by rw [<-Hv.out];rfl),Below.refl _ _⟩
 | cons c r =>
  rw [hd] at hv hbl;by_cases hlen:200<r.length+1
  ·have hvf:v=false:=by rw [<-hv,Al (show ¬ (c :: r).length<=200 by simp;omega)];simp
   subst hvf;have Hd:=A8 hd;clear hv hd;go_enter Tryz.func113,Tryz.ntmps113;go_wp2_with (go_at_call 138;refine (GR _ _ Hd.out _).mono ?_;rintro e w' ⟨rfl,rfl⟩);go_ret;exact ⟨rfl,Below.refl _ _⟩
  ·have hlen':r.length+1<=200:=by omega
   cases ht:Lib.trimS (c :: r) tens with
   | cons t ts =>
    have hall:(c :: r).all Hi=false:=by
     cases h:(c :: r).all Hi with
     | false=>rfl
     | true=>rw [OT.2 h] at ht;cases ht
    have hvf:v=false:=by rw [<-hv,hall];simp
    subst hvf;have Hd:=A8 hd;have Ht:=A8 ht;clear hv hd ht hall;go_enter Tryz.func113,Tryz.ntmps113;go_wp2_with (first
     | (go_at_call 138;refine (GR _ _ Hd.out _).mono ?_;rintro e w' ⟨rfl,rfl⟩)
     | (go_at_call 139;refine (NO _ _ Ht.out (by simp;omega) _).mono ?_;rintro e w2 ⟨rfl,hb2⟩))
    go_ret;exact ⟨rfl,hb2⟩
   | nil =>
    have hall:=OT.1 ht;rw [hall,AF (show (c :: r).length<=200 by simp;omega)] at hv;have Hv:=A8 hv;have Hd:=A8 hd;have Ht:=A8 ht;clear hv hd ht hall;by_cases h0:s.data.toList=[48]
    ·have hvt:v=true:=by rw [<-Hv.out,h0];simp
     subst hvt;have h0':s.toList=[48]:=(Lib.toList_data s).trans h0;clear Hv h0;go_enter Tryz.func113,Tryz.ntmps113;go_wp2_with (first
      | (go_at_call 138;refine (GR _ _ Hd.out _).mono ?_;rintro e w' ⟨rfl,rfl⟩)
      | (go_at_call 139;refine (NO _ _ Ht.out (by simp;omega) _).mono ?_;rintro e w2 ⟨rfl,hb2⟩))
     go_ret;exact ⟨rfl,hb2⟩
    ·have hvc:v=(c != 48):=by rw [<-Hv.out,Al h0];simp [bne];rfl
     have h0':¬ s.toList=[48]:=fun e=>h0 ((Lib.toList_data s).symm.trans e)
     have Hc:=A8 hvc;clear Hv h0 hvc;go_enter Tryz.func113,Tryz.ntmps113;go_wp2_with (first
      | (go_at_call 138;refine (GR _ _ Hd.out _).mono ?_;rintro e w' ⟨rfl,rfl⟩)
      | (go_at_call 139;refine (NO _ _ Ht.out (by simp;omega) _).mono ?_;rintro e w2 ⟨rfl,hb2⟩))
     go_ret;refine ⟨Dm ?_,hb2⟩;rw [Hc.out,Am.2 h0',Bool.false_or];show ((c.toNat:Int) != 48)=(c != 48);exact RS c
theorem atoi_as (t:ByteArray) (l:List UInt8) (ht:t.data.toList=l) (h0:l≠[]) (h:∀ b∈l,Hi b=true) (hl:l.length<=18) (w:World) :
  Calls Tryz.prog 140 #[.string t] w fun e w'=>e=.returned (.tuple #[.int .i64 (E9 l),.nilIface])/\Below w.heap.size w w':=by
 have ha:Lib.atoi l=some (E9 l:Int):=by
  cases l with
  | nil=>exact absurd rfl h0
  | cons b r =>
   have hb:=Ev.1 (h b Af);have e1:(b==45)=false:=Am.2 (fun e=>by subst e;exact absurd hb.1 Ae);have e2:(b==43)=false:=Am.2 (fun e=>by subst e;exact absurd hb.1 Ae);have e3:Lib.decNat (b :: r)=some (E9 (b :: r)):=by unfold Lib.decNat;rw [AP Af];exact Js _ 0 h
   unfold Lib.atoi;simp only [e1,e2,e3];rfl
 refine (Tryz.strconv_Atoi t (E9 l) (by rw [show t.size=t.data.toList.length by rw [BC];rfl,ht];exact hl) (by rw [ht];exact ha) w).mono ?_
 rintro e w' ⟨rfl,t,rfl⟩
 exact ⟨rfl,Joins.below_bytesWorld _ _ _ _ (Aa _)⟩
theorem Qx {ds:List UInt8} {k f:Nat} {xs:List Int} (hds:∀ b∈ds,Hi b=true) (hk:k<=ds.length) (hf:f<=k) (h4:k-f<=4) (hz:k-f<4->f=0) (hx:Ew 10000 xs)
  (hv:Hid ((E9 ds:Int)=E9 (ds.take k)*10000 ^ xs.length+val 10000 xs)) :
  Ew 10000 (xs++[(E9 ((ds.take k).drop f):Int)])/\Hid ((E9 ds:Int)=E9 (ds.take f)*10000 ^ (xs++[(E9 ((ds.take k).drop f):Int)]).length+val 10000 (xs++[(E9 ((ds.take k).drop f):Int)])):=by
 have hc:∀ b∈(ds.take k).drop f,Hi b=true:=fun b hb=>hds b (List.mem_of_mem_take (List.mem_of_mem_drop hb))
 have hl:((ds.take k).drop f).length=k-f:=by rw [List.length_drop,BB];omega
 have hlt:=Nw hc
 have hp:10 ^ ((ds.take k).drop f).length<=10 ^ 4:=CD Ae Ad
 have e:ds.take k=ds.take f++(ds.take k).drop f:=by
  conv=>lhs;rw [<-List.take_append_drop f (ds.take k)]
  rw [List.take_take,BE hf]
 have e2:(E9 (ds.take k):Int)=E9 (ds.take f)*10000+E9 ((ds.take k).drop f):=by
  conv=>lhs;rw [e]
  rw [Gw,hl];by_cases h:k-f<4
  ·rw [hz h];simp [E9,MO]
  ·rw [show k-f=4 by omega];omega
 refine ⟨hx.snoc Ad Ad,?_⟩
 show (E9 ds:Int)=_
 rw [hv.out,e2,EA,Ci,CT,AL]
 simp only [CG,CZ,BN,Cx]
 rw [AM 10000]
 omega
theorem Sy (s:ByteArray) (ds:List UInt8) (w:World) (hd:body s.data.toList=ds) (hds:∀ b∈ds,Hi b=true) (hl:ds.length<=200) :
  Calls Tryz.prog 114 #[.string s] w (DA w fun r w'=>∃ v xs,r=.agg #[.bool (decide (ds.length<s.size)),v]/\Sl w' v xs/\Ef 10000 xs (E9 ds)):=by
 have Hd:=A8 hd
 clear hd
 go_enter Tryz.func114,Tryz.ntmps114
 go_wp2_with (go_at_call 138;refine (GR _ _ Hd.out _).mono ?_;rintro e w' ⟨rfl,rfl⟩)
 go_loopw [3] (fun d wr=>∃ (t:ByteArray) (xs:List Int) (v:Value),d=.string t/\t.size<=ds.length/\Hid (t.data.toList=ds.take t.size)/\xs.length+t.size<=ds.length/\Ds wr (w.heap.size+1) #[.bool (decide (ds.length<s.size)),v] 108 /\
   Ds wr w.heap.size #[.bool false,.slice none 0 0] 108/\wr.ownsRow w.heap.size 3 1 v xs.length (xs.map (Value.int .i64))/\Ew 10000 xs/\Hid ((E9 ds:Int)=E9 (ds.take t.size)*10000 ^ xs.length+val 10000 xs)/\Below w.heap.size w wr)
  (fun d _=>strLen d)
 case atStart =>
  refine ⟨⟨ds.toArray⟩,[],_,rfl,Aa _,(by rw [show (⟨ds.toArray⟩:ByteArray).size=ds.length from rfl,Cd];rfl),by show [].length+ds.length<=_;simp,?_,(Ds.new w _ _).alloc _,World.ownsRow_nil _ _ _ _,Ew.nil _,?_,?_⟩
  ·have:=Ds.new (w.alloc (.cells #[.bool false,.slice none 0 0] 108)) #[.bool (decide (ds.length<s.size)),.slice none 0 0] 108
   rwa [Bh] at this
  ·show (E9 ds:Int)=E9 (ds.take ds.length)*_+_
   rw [Cd];simp [val]
  ·exact ((Below.refl _ _).alloc (Aa _) _).alloc Af _
 case round =>
  obtain ⟨t,xs,v,rfl,hk,htd,hxk,hblk,hblk0,hown,hdig,hv,hnx⟩:=hrel;have c0:=hblk.cell 0;have c1:=hblk.cell 1;have f1:=hblk.frozen 1;simp only [Ck,D9,Da] at c0 c1;by_cases hk0:t.size=0
  ·have Hk0:=A8 hk0
   have hk1:¬ 0<t.size:=by omega
   clear hk0;have e0:=hblk0.cell 0;have e1:=hblk0.cell 1;have ef0:=hblk0.frozen 0;have ef1:=hblk0.frozen 1;simp only [Ck,D9,Da] at e0 e1;go_wp2_with (go_at_call 120;refine (G6 _ xs _ (Sl.of_own hown)).mono ?_;rintro e w2 ⟨⟨r2,rfl,hz2,hp2⟩,rfl⟩;obtain ⟨a5,c5,rfl⟩:=hz2.shape);have hvs:∀ n,v≠.int .i64 n:=by
    rcases hown.2 with ⟨rfl,_⟩ | ⟨g,cap,cur,rfl,_⟩
    ·exact fun n e=>by cases e
    ·exact fun n e=>by cases e
   have m1:=hblk0.kept (DE wr (w.heap.size+1) 1 (.slice a5 (trim xs).length c5)) Af;have m2:=m1.set 0 (.bool (decide (ds.length<s.size)));have m3:=m2.set 1 (.slice a5 (trim xs).length c5);have z1:=((hz2.setBlk hblk (Fw _ _ hvs) 1 (.slice a5 (trim xs).length c5)).setBlk m1 (Fw _ _ (fun n e=>by cases e)) 0 (.bool (decide (ds.length<s.size)))).setBlk m2 (Fw _ _ (fun n e=>by cases e)) 1 (.slice a5 (trim xs).length c5);have y0:=m3.cell 0;have y1:=m3.cell 1;simp only [A0,A6,A5,Ck,D9,Da] at y0 y1;refine bodyPost_ret (v:=.agg #[.bool (decide (ds.length<s.size)),.slice a5 (trim xs).length c5]) (by simp [results,Tryz.results114,go_sem,y0,y1]) rfl ?_;refine ⟨⟨_,rfl,_,_,rfl,z1,?_⟩,?_⟩
   ·have hfin:=hv.out
    rw [show ds.take t.size=[] by rw [Hk0.out];rfl] at hfin;have e:(E9 ds:Int)=val 10000 xs:=by rw [hfin];simp [E9,MO]
    rw [e];exact Ef.trim hdig
   ·exact ((hnx.setCell (p:=⟨w.heap.size+1,1,none⟩) Af _).setCell (p:=⟨w.heap.size,0,none⟩) (Aa _) _).setCell (p:=⟨w.heap.size,1,none⟩) (Aa _) _
  ·have hk1:0<t.size:=by omega
   obtain ⟨f,hf⟩:∃ f,f=t.size-4:=⟨_,rfl⟩;have hf1:f<=t.size:=by omega
   have hf2:t.size<=f+4:=by omega
   have hf3:t.size<f+4->f=0:=by omega
   have hmx:max (0:Int) ((t.size:Int)-4)=(f:Int):=by omega
   have Hst:=A8 (Qx (k:=t.size) (f:=f) hds hk hf1 Ad (fun h=>hf3 Ad) hdig hv);have hch:((t.extract f t.size).data.toList)=(ds.take t.size).drop f:=by rw [Lib.extract_data,htd.out,BG (by simp;omega)]
   have hat:=fun w0=>atoi_as (t.extract f t.size) _ hch (by intro e;have:=BK List.length e;simp at this;omega) (fun b hb=>hds b (List.mem_of_mem_take (List.mem_of_mem_drop hb))) (by simp;omega) w0
   have Hat:=A8 hat;clear hat hf hk0 hch;have hf3':=A8 hf3;clear hf3;go_wp2_with fail;refine (Hat.out wr).mono ?_;rintro e w1 ⟨rfl,hb1⟩;have k1:=hblk.below hb1;have k0:=hblk0.below hb1;have ko:=E8 hown hb1;have g1:=k1.cell 1;have gf:=k1.frozen 1;simp only [Ck,D9,Da] at g1;have hnr:=k1.not_row Ae ko;have hnr0:=k0.not_row Ae ko;have hz1:w.heap.size<=w1.heap.size:=Bc hnx.size hb1.size;generalize hD:(E9 ((ds.take t.size).drop f):Int)=D at *
   clear hD;go_wp2_with (at_builtin;refine E0 D 106 Tryz.underlying106 rfl _ _ rfl rfl rfl ko Ad hz1 ?_;intro g cap' w2 hown2 hg2 hb2;have k2:=(k1.alloc (.cells #[.int .i64 D] 3)).kept hg2 hnr;have j1:=k2.cell 1;have jf:=k2.frozen 1;simp only [Ck,D9,Da] at j1);have hex:(t.extract 0 f).data.toList=ds.take f:=by rw [Lib.extract_data,htd.out,Db,Nat.sub_zero,List.take_take,BE hf1]
   have hes:(t.extract 0 f).size=f:=by
    have e:(t.extract 0 f).size=(t.extract 0 f).data.toList.length:=by rw [BC];rfl
    rw [e,hex,BB];omega
   have k3:=k2.set 1 (.slice (some ⟨g,0,none⟩) (xs.length+1) cap');have n2:=(k2.not_row Ae hown2);refine ⟨⟨t.extract 0 f,xs++[D],.slice (some ⟨g,0,none⟩) (xs.length+1) cap',rfl,by rw [hes];omega,by rw [hes];exact hex,by rw [hes,Ci];simp;omega,k3,?_,?_,Hst.out.1,by rw [hes];exact Hst.out.2,?_⟩,?_⟩
   ·exact ((k0.alloc (.cells #[.int .i64 D] 3)).kept hg2 hnr0).kept (DE w2 (w.heap.size+1) 1 _) Af
   ·rw [Ci];exact hown2.kept (DE w2 (w.heap.size+1) 1 _) (.inr (Ne.symm n2))
   ·exact ((hnx.trans (hb1.mono hnx.size)).trans hb2).setCell (p:=⟨w.heap.size+1,1,none⟩) Af _
   ·show (t.extract 0 f).size<t.size
    rw [hes];omega
def Ox (base b:Nat) (l:List UInt8) (w:World):Prop :=
 ∃ p v,Ds w b #[p,v] 134/\(p=.pointer none∨p=.pointer (some ⟨b,0,none⟩))/\w.ownsRow base 5 1 v l.length (Lib.byteCells l)
theorem Ox.is {base b:Nat} {l:List UInt8} {w:World} (h:Ox base b l w) {B:Nat} (hB:B<=b) (hb:B<=base):Lib.IsBuilder 134 5 B b (Lib.byteCells l) w:=by
 obtain ⟨p,v,h1,h2,h3⟩:=h;have hne:=h1.not_row Ae h3;have h3':w.ownsRow B 5 1 v (Lib.byteCells l).length (Lib.byteCells l):=by
  have e:(Lib.byteCells l).length=l.length:=by simp [Lib.byteCells]
  rw [e];refine ⟨h3.1,?_⟩;rcases h3.2 with h' | ⟨g,cap,cur,rfl,hg,hr⟩
  ·exact .inl h'
  ·exact .inr ⟨g,cap,cur,rfl,Ad,hr⟩
 rcases h2 with rfl | rfl
 ·exact .inl ⟨hB,v,h1,h3',fun e=>hne e.symm⟩
 ·exact .inr ⟨hB,v,h1,h3',fun e=>hne e.symm⟩
theorem JT:(Tryz.prog.info? 134).map (fun j=>j.size)=some 2:=by kernel_rfl
theorem NP:liesAt Tryz.prog Tryz.prog.depth 134 (2 / Tryz.prog.cellsOf 134) 0 134 1=true:=by kernel_rfl
theorem SC:(Tryz.prog.info? 5).map (fun i=>(i.zero,i.size,i.bytes))=some (some (.int .u8 0),1,1):=by kernel_rfl
theorem LI (b:Nat) (w:World) (h0:w.cell? ⟨b,0,none⟩=some (.pointer (some ⟨b,0,none⟩))) :
  Calls Tryz.prog 136 #[.pointer (some ⟨b,0,none⟩)] w fun e w'=>e=.returned (.tuple #[])/\w=w':=by
 obtain ⟨j,hj,_⟩:=Option.map_eq_some_iff.1 JT
 go_enter Tryz.func136,Tryz.ntmps136
 go_wp2
 rw [Lib.run_neq_ptr_same w _ Tryz.underlying131 hj]
 go_wp2
 go_end0
 exact ⟨rfl,rfl⟩
theorem La (b:Nat) (w:World) (h0:w.cell? ⟨b,0,none⟩=some (.pointer none)) (hsh:w.shape? b=some (134,2)) (hfz:w.frozen? ⟨b,0,none⟩=false) :
  Calls Tryz.prog 136 #[.pointer (some ⟨b,0,none⟩)] w fun e w'=>e=.returned (.tuple #[])/\w.setCell ⟨b,0,none⟩ (.pointer (some ⟨b,0,none⟩))=w':=by
 obtain ⟨j,hj,hjs⟩:=Option.map_eq_some_iff.1 JT
 go_enter Tryz.func136,Tryz.ntmps136
 go_wp2
 rw [Lib.run_to_unsafe w ⟨b,0,none⟩ Tryz.underlying131 Tryz.underlying164 hj (by rw [hjs];decide) hsh (Nat.zero_lt_succ 1)]
 simp only [Result.andThen]
 rw [Oper.upon_value]
 go_wp2
 rw [run_callFunc_extern Tryz.func150 Ab Ab Ab (e:=Extern.AbiNoEscape.same) Ab]
 rw [Lib.run_noEscape]
 simp only [Result.andThen]
 rw [Oper.upon_value]
 go_wp2
 rw [Lib.run_from_unsafe w ⟨b,0,none⟩ Tryz.underlying164 Tryz.underlying131 hj hsh NP]
 simp only [Result.andThen]
 rw [Oper.upon_value]
 go_wp2
 go_end0
 exact ⟨rfl,rfl⟩
structure LJ (base b:Nat) (w w':World):Prop where
 os:w'.os=w.os
 tape:w'.tape=w.tape
 output:w'.output=w.output
 size:w.heap.size<=w'.heap.size
 block:∀ k,k<base->k<w.heap.size->k≠b->w'.heap[k]? = w.heap[k]?
 others:∀ (k:Nat) (o:Obj),w.heap[k]? = some o->o.isCells=false->w'.heap[k]? = some o
theorem My {base b:Nat} {l:List UInt8} {w:World} (h:Ox base b l w) :
  Calls Tryz.prog 136 #[.pointer (some ⟨b,0,none⟩)] w fun e w'=>e=.returned (.tuple #[])/\(∃ v,Ds w' b #[.pointer (some ⟨b,0,none⟩),v] 134/\w'.ownsRow base 5 1 v l.length (Lib.byteCells l))/\w.grownBy w' (some b):=by
 obtain ⟨p,v,h1,h2,h3⟩:=h
 have c0:=h1.cell 0
 simp only [Ck,D9] at c0
 rcases h2 with rfl | rfl
 ·refine (La b w c0 (by simp [World.shape?,show w.heap[b]? = _ from h1]) (h1.frozen 0)).mono ?_
  rintro e w' ⟨rfl,rfl⟩;have hne:=h1.not_row Ae h3;refine ⟨rfl,⟨v,?_,h3.kept (DE w b 0 _) (.inr (fun e=>hne e.symm))⟩,DE w b 0 _⟩;have:=h1.set 0 (.pointer (some ⟨b,0,none⟩));simpa using this
 ·refine (LI b w c0).mono ?_
  rintro e w' ⟨rfl,rfl⟩;exact ⟨rfl,⟨v,h1,h3⟩,⟨rfl,rfl,rfl,Aa _,fun _ _ _=>rfl⟩⟩
theorem Fd {base b:Nat} {l:List UInt8} {w:World} (h:Ox base b l w) (s:ByteArray) (hlen:l.length+s.size<=1000000) (hbase:base<=w.heap.size) :
  Calls Tryz.prog 108 #[.pointer (some ⟨b,0,none⟩),.string s] w fun e w'=>e=.returned (.tuple #[.int .i64 s.size,.nilIface])/\Ox base b (l++s.data.toList) w'/\LJ base b w w':=by
 obtain ⟨i0,hi,hz0,hz1,hz2⟩:=info_parts SC
 have hbl:b<w.heap.size:=by obtain ⟨p,v,h1,_⟩:=h;exact h1.lt
 go_enter Tryz.func108,Tryz.ntmps108
 go_wp2_with (go_at_call 136;refine (My h).mono ?_)
 rintro e w1 ⟨rfl,⟨v,h1,h3⟩,hg1⟩
 have c1:=h1.cell 1
 simp only [Ck,D9,Da] at c1
 have hs1:=hg1.size
 have hne:=h1.not_row Ae h3
 have hlb:(Lib.byteCells l).length=l.length:=by simp [Lib.byteCells]
 go_wp2_with (at_builtin;refine Lib.wpList_append_own_string _ rfl _ _ 132 9 rfl base 5 i0 Tryz.underlying132 Tryz.underlying9 hi hz0 hz1 hz2 _ _ _ rfl h3 s rfl ?c4 ?c5 ?c6 ?_)
 case c4=>unfold maxLen;omega
 case c5=>omega
 case c6=>omega
 intro v' w2 hown' hgrow _
 have k2:=h1.kept hgrow hne
 have d1:=k2.cell 1
 have f1:=k2.frozen 1
 simp only [Ck,D9,Da] at d1
 have hne2:=k2.not_row Ae hown'
 obtain ⟨ao,n',cap,rfl⟩:∃ ao n' cap,v'=.slice ao n' cap:=by
  rcases hown'.2 with ⟨hv,_⟩ | ⟨g,cap,cur,hv,_⟩
  ·exact ⟨_,_,_,hv⟩
  ·exact ⟨_,_,_,hv⟩
 go_wp2
 go_ret2
 have e1:(l++s.data.toList).length=l.length+s.size:=by rw [Ci,BC];rfl
 have e2:Lib.byteCells (l++s.data.toList)=Lib.byteCells l++Lib.strCells s:=by unfold Lib.byteCells Lib.strCells;rw [Bg]
 refine ⟨rfl,⟨.pointer (some ⟨b,0,none⟩),.slice ao n' cap,?_,.inr rfl,?_⟩,?_⟩
 ·have:=k2.set 1 (.slice ao n' cap)
  simpa using this
 ·rw [e1,e2];exact hown'.kept (DE w2 b 1 _) (.inr (fun e=>hne2 e.symm))
 ·have g3:=DE w2 b 1 (.slice ao n' cap)
  have hrow:∀ k,v.ownBlock=some k->base<=k/\∃ o:Obj,w1.heap[k]? = some o/\o.isCells=true:=fun k hk=>by
   refine ⟨(h3.lt k hk).1,?_⟩;rcases h3.2 with ⟨rfl,_⟩ | ⟨g,cap',cur,rfl,_,hg,_⟩
   ·cases hk
   ·cases hk;exact ⟨_,hg,rfl⟩
  refine ⟨g3.os.trans (hgrow.os.trans hg1.os),g3.tape.trans (hgrow.tape.trans hg1.tape),g3.output.trans (hgrow.output.trans hg1.output),Bc hs1 (Bc hgrow.size g3.size),fun k hk hkw hkb=>?_,fun k o ho hno=>?_⟩
  ·rw [g3.block k (A9 (A9 hkw hs1) hgrow.size) (fun e=>hkb (B4 e)),hgrow.block k (A9 hkw hs1) (fun e=>by have:=(hrow k e.symm).1;omega),hg1.block k hkw (fun e=>hkb (B4 e))]
  ·have hkw:=(BO.1 ho).1
   have hkb:k≠b:=fun e=>by
    subst e;obtain ⟨p,v0,h0,_⟩:=h;rw [show w.heap[k]? = _ from h0] at ho;cases ho;cases hno
   have a1:=(hg1.block k hkw (fun e=>hkb (B4 e))).trans ho;have a2:some k≠v.ownBlock:=fun e=>by
    obtain ⟨_,o',ho',hc⟩:=hrow k e.symm;rw [a1] at ho';cases ho';rw [hno] at hc;cases hc
   rw [g3.block k (A9 (A9 hkw hs1) hgrow.size) (fun e=>hkb (B4 e)),hgrow.block k (A9 hkw hs1) a2,a1]
theorem Ig {base b:Nat} {l:List UInt8} {w:World} (h:Ox base b l w) (hbb:b<=base) (hbw:b<=w.heap.size) :
  Calls Tryz.prog 110 #[.pointer (some ⟨b,0,none⟩)] w fun e w'=>e=.returned (.string ⟨l.toArray⟩)/\Below b w w'/\KeepsOthers w w':=by
 refine (Tryz.Builder_String_any_k b b l w (.of (h.is (Aa _) hbb)) hbw).mono ?_
 rintro e w' ⟨rfl,_,hb,hk⟩
 refine ⟨rfl,hb,hb.size,fun k o ho hno=>hk k o ho (fun e=>?_) (fun c fz e=>by subst e;cases hno)⟩
 cases e
 obtain ⟨p,v,h1,_⟩:=h
 rw [show w.heap[b]? = _ from h1] at ho
 cases ho;cases hno
def pad (d:Nat):List UInt8:=List.replicate (4-(Lib.decDigits d).length) 48++Lib.decDigits d
theorem GX {d:Nat} (h:d<10000):1<=(Lib.decDigits d).length/\(Lib.decDigits d).length<=4 :=
 ⟨by have:=(DO d).2.2.1;cases hd:Lib.decDigits d with
  | nil=>exact absurd hd this
  | cons=>simp,EK (k:=4) Ad Ae⟩
theorem RT {d:Nat} (h:d<10000):(pad d).length=4:=by
 have:=GX h;unfold pad;rw [Ci,Ch];omega
theorem Qy (k:Nat) (l:List UInt8):E9 (List.replicate k 48++l)=E9 l:=by
 induction k with
 | zero=>rfl
 | succ k ih =>
  rw [CH,Cc];have:E9 (48 :: (List.replicate k 48++l))=MO ((0:Nat)*10+((48:UInt8).toNat-48)) (List.replicate k 48++l):=rfl;rw [this];exact ih
theorem LK {m d:Nat} (hm:0<m) (hd:d<10000):Lib.decDigits (m*10000+d)=Lib.decDigits m++pad d:=by
 have sm:=DO m;have sd:=DO d;have hD:∀ b∈Lib.decDigits m++pad d,Hi b=true:=by
  intro b hb;rcases Bz.1 hb with hb | hb
  ·exact sm.2.1 b hb
  ·unfold pad at hb
   rcases Bz.1 hb with hb | hb
   ·rw [(List.mem_replicate.1 hb).2];decide
   ·exact sd.2.1 b hb
 have hv:E9 (Lib.decDigits m++pad d)=m*10000+d:=by
  rw [Gw,RT hd,sm.1];unfold pad;rw [Qy,sd.1]
 rw [<-hv];exact Fn _ hD (by intro e;exact sm.2.2.1 (List.append_eq_nil_iff.1 e).1) (by rw [Hf _ sm.2.2.1];exact sm.2.2.2 Ad)
def Hy (xs:List Int) (i:Nat):List UInt8:=if i+1<xs.length then pad (gi xs i).toNat else Lib.decDigits (gi xs i).toNat
def FV (xs:List Int) (pre:List (Fin xs.length)):List UInt8:=pre.flatMap (fun x=>Hy xs x.1)
theorem II (xs:List Int) (pre:List (Fin xs.length)) (x:Fin xs.length):FV xs (pre++[x])=FV xs pre++Hy xs x.1:=by simp [FV]
theorem NQ {xs:List Int} (h:Ew 10000 xs) (i:Nat):(gi xs i).toNat<10000/\((gi xs i).toNat:Int)=gi xs i:=by
 have:=h.gi Ae i;omega
theorem SD {xs:List Int} (h:Ew 10000 xs) (i:Nat):(Hy xs i).length<=4:=by
 have:=NQ h i;unfold Hy;split
 ·rw [RT this.1];omega
 ·exact (GX this.1).2
theorem Qz {xs:List Int} (h:Ew 10000 xs) (pre:List (Fin xs.length)):(FV xs pre).length<=4*pre.length:=by
 induction pre with
 | nil=>simp [FV]
 | cons x pre ih =>
  have:=SD h x.1;have e:FV xs (x :: pre)=Hy xs x.1++FV xs pre:=by simp [FV]
  rw [e,Ci,CG];omega
theorem Lg {xs:List Int} {i:Nat} (h:i<xs.length):xs.drop i=gi xs i :: xs.drop (i+1):=by
 rw [FE h];exact Dc h
theorem Ew.drop {b:Int} {xs:List Int} (h:Ew b xs) (k:Nat):Ew b (xs.drop k):=fun x hx=>h x (List.mem_of_mem_drop hx)
theorem JU {xs:List Int} (h:Ew 10000 xs) (ht:Top xs):∀ k,k+1<=xs.length ->
  0<val 10000 (xs.drop (xs.length-(k+1)))/\FV xs (DY xs.length (k+1))=Lib.decDigits (val 10000 (xs.drop (xs.length-(k+1)))).toNat
 | 0,hk=>by
  have e:xs.length-(0+1)=xs.length-1:=by omega
  have hg:=NQ h (xs.length-1);have h0:=ht (xs.length-1) Ad;have hv:val 10000 (xs.drop (xs.length-(0+1)))=gi xs (xs.length-1):=by
   rw [e,Lg Ad,List.drop_eq_nil_of_le Ad];simp [val]
  have hd:FV xs (DY xs.length (0+1))=Hy xs (xs.length-1):=by rw [F3 Ad];simp [FV,DY]
  rw [hv,hd];refine ⟨Ad,?_⟩;unfold Hy;rw [AP Ad]
 | k+1,hk=>by
  obtain ⟨ih1,ih2⟩:=JU h ht k Ad;have hg:=NQ h (xs.length-1-(k+1));have e:xs.length-(k+1+1)=xs.length-1-(k+1):=by omega
  have e2:xs.length-1-(k+1)+1=xs.length-(k+1):=by omega
  have hv:val 10000 (xs.drop (xs.length-(k+1+1)))=gi xs (xs.length-1-(k+1))+10000*val 10000 (xs.drop (xs.length-(k+1))):=by
   rw [e,Lg Ad,e2];rfl
  rw [F3 Ad,II,ih2];refine ⟨by rw [hv];omega,?_⟩;show _++Hy xs (xs.length-1-(k+1))=_;unfold Hy;rw [AU Ad,<-LK Ad hg.1,hv];congr 1;omega
theorem QA {xs:List Int} {n:Int} (h:Ef 10000 xs n) (h0:xs.length≠0):FV xs (DY xs.length xs.length)=Lib.decDigits n.toNat/\0<n:=by
 obtain ⟨k,hk⟩:∃ k,xs.length=k+1:=⟨xs.length-1,Ad⟩;have hc:=JU h.dig h.top k Ad;have e:xs.length-(k+1)=0:=by omega
 rw [e,Db,h.val,<-hk] at hc;exact ⟨hc.2,hc.1⟩
theorem KU (k:Nat):Lib.repeatL [48] k=List.replicate k 48:=by
 induction k with
 | zero=>rfl
 | succ k ih=>rw [CH,<-ih];rfl
def Do (z:Int):Prop:=-GU<z/\z<GU
instance (z:Int):Decidable (Do z):=inferInstanceAs (Decidable (_/\_))
def txt (z:Int):List UInt8:=if Do z then Lib.itoa z else []
def MT (z:Int):Int:=if Do z then 0 else 30
def sgn (b:Bool) (n:Int):Int:=if b then -n else n
theorem MV {b:Bool} {n:Int} (h:0<=n):Do (sgn b n)↔n<GU:=by
 have hB:(0:Int)<GU:=by unfold GU;decide
 unfold Do sgn;cases b
 ·simp;omega
 ·simp;omega
theorem QB {n:Int} (h:0<n):200<(Lib.decDigits n.toNat).length↔¬ n<GU:=by
 constructor
 ·intro hl hb
  have:n.toNat<10 ^ 200:=by unfold GU at hb;omega
  have:=EK this Ae;omega
 ·intro hb
  have:10 ^ 200<=n.toNat:=by unfold GU at hb;omega
  exact Gm this
def Dy (z:Int):Prop:=-9223372036854775808<=z/\z<=9223372036854775807
instance (z:Int):Decidable (Dy z):=by unfold Dy;infer_instance
end
section
open Go.RowKit Go.Shelf
attribute [local go_sem] Oper.semAt_some
structure Fp (w:World):Prop where
 tab : Lib.TabIs Tryz.prog w "internal/strconv.uint64pow10" .u64 Lib.pow10Tab
theorem QC : (Tryz.prog.globalNamed "internal/strconv.uint64pow10").isSome = true := by kernel_rfl
theorem Fp.below {w w':World} {B:Nat} (h:Fp w) (hb:Below B w w') (hB:w.heap.size<=B):Fp w':=by
 obtain ⟨g,hg⟩:=Option.isSome_iff_exists.1 QC;exact ⟨Joins.tab_stays hg h.tab hb hB⟩
theorem itoa_as {n:Int} (h0:0<=n) (h1:n<10000) {w:World} (hE:Fp w) :
  Calls Tryz.prog 85 #[.int .i64 n] w fun e w'=>e=.returned (.string ⟨(Lib.decDigits n.toNat).toArray⟩)/\Below w.heap.size w w':=by
 refine (Tryz.strconv_Itoa n Ad Ad w hE.tab).mono ?_
 rintro e w' ⟨rfl,k,os,rfl⟩
 exact ⟨by rw [DP h0],Lib.below_grow _ w (Aa _) k os⟩
theorem SE {d:Int} (h0:0<=d) (h4:d<=4) {w:World} :
  Calls Tryz.prog 75 #[.string ⟨#[48]⟩,.int .i64 d] w fun e w'=>e=.returned (.string ⟨(List.replicate d.toNat 48).toArray⟩)/\Below w.heap.size w w':=by
 obtain ⟨k,rfl⟩:=CX h0
 refine (Tryz.strings_Repeat ⟨#[48]⟩ k w Ad (by show 1*k<=_;omega)).mono ?_
 rintro e w' ⟨rfl,hb⟩
 exact ⟨by rw [show ((k:Int)).toNat=k from rfl,<-KU],hb⟩
theorem LJ.keeps {base b:Nat} {w w':World} (h:LJ base b w w'):KeepsOthers w w':=⟨h.size,h.others⟩
theorem OV {w w':World} (h:Below w.heap.size w w'):KeepsOthers w w':=⟨h.size,fun k _ hk _=>(h.block k (BO.1 hk).1).trans hk⟩
theorem GL (a b:Array UInt8):(⟨a⟩++⟨b⟩:ByteArray)=⟨(a.toList++b.toList).toArray⟩:=by
 apply Ao;simp
theorem GY (l:List UInt8):(⟨l.toArray⟩:ByteArray).size=l.length:=rfl
theorem Ox.cellsKept {base b:Nat} {l:List UInt8} {W W':World} (h:Ox base b l W) (k:E4 W W'):Ox base b l W':=by
 obtain ⟨p,v,h1,h2,h3⟩:=h;exact ⟨p,v,k.2 _ _ h1 rfl,h2,k.own h3⟩
theorem Ox.below {base b:Nat} {l:List UInt8} {W W':World} (h:Ox base b l W) (k:Below W.heap.size W W'):Ox base b l W':=by
 obtain ⟨p,v,h1,h2,h3⟩:=h;exact ⟨p,v,h1.below k,h2,E8 h3 k⟩
theorem LJ.only {base b:Nat} {w W W':World} (h:LJ base b W W') (hw:w.heap.size<=base) (ho:Dr [b] w W):Dr [b] w W' :=
 ⟨h.os.trans ho.os,h.tape.trans ho.tape,h.output.trans ho.output,Bc ho.size h.size,fun k hk hs=>(h.block k (A9 hk hw) (A9 hk ho.size) (by simpa using hs)).trans (ho.block k hk hs)⟩
theorem SF (neg:Bool) (v:Value) (w:World) (hv:Sl w v []) :
  Calls Tryz.prog 84 #[.agg #[.bool neg,v]] w fun e w'=>e=.returned (.tuple #[.string ⟨#[48]⟩,.int .i64 0])/\Below w.heap.size w w':=by
 obtain ⟨a1,c1,rfl⟩:=hv.shape
 refine (callsIn_wide (n:=5)).1 ?_
 refine callsIn_of_wp_marks Tryz.func84 rfl trivial ?_ rfl
 simp only [Tryz.ntmps84,BH,CG,CZ,Nat.reduceAdd,Nat.reduceSub,D3,D4,D5,D6,BY,Cc]
 gi_wp2_with fail
 exact ⟨.tuple #[.string ⟨#[48]⟩,.int .i64 0],by simp [results,Tryz.results84,go_sem],rfl,(Below.refl _ _).alloc (Aa _) _⟩
theorem Um (neg:Bool) (v:Value) (xs:List Int) (n:Int) (w:World) (hE:Fp w) (hv:Sl w v xs) (hn:Ef 10000 xs n) (hl:xs.length<=10000) (h0:xs.length≠0) :
  Calls Tryz.prog 84 #[.agg #[.bool neg,v]] w fun e w'=>e=.returned (.tuple #[.string ⟨(txt (sgn neg n)).toArray⟩,.int .i64 (MT (sgn neg n))])/\Below w.heap.size w w':=by
 have hw0:Below w.heap.size w (((w.alloc (.cells #[.bool neg,v] 108)).alloc (.cells #[.pointer none,.slice none 0 0] 134)).alloc (.cells #[v] 106)):=(((Below.refl _ _).alloc (Aa _) _).alloc Af _).alloc (by simp;omega) _
 have hv0:=hv.below hw0
 have hvp:=hv.ptr_lt
 have b1:Ds (((w.alloc (.cells #[.bool neg,v] 108)).alloc (.cells #[.pointer none,.slice none 0 0] 134)).alloc (.cells #[v] 106)) w.heap.size #[.bool neg,v] 108:=((Ds.new w _ _).alloc _).alloc _
 have b2:Ds (((w.alloc (.cells #[.bool neg,v] 108)).alloc (.cells #[.pointer none,.slice none 0 0] 134)).alloc (.cells #[v] 106)) (w.heap.size+1) #[.pointer none,.slice none 0 0] 134:=by
  have:=(Ds.new (w.alloc (.cells #[.bool neg,v] 108)) #[.pointer none,.slice none 0 0] 134).alloc (.cells #[v] 106);rwa [Bh] at this
 have b3:Boxed (((w.alloc (.cells #[.bool neg,v] 108)).alloc (.cells #[.pointer none,.slice none 0 0] 134)).alloc (.cells #[v] 106)) (w.heap.size+1+1) 106 v:=by
  have:=Boxed.new ((w.alloc (.cells #[.bool neg,v] 108)).alloc (.cells #[.pointer none,.slice none 0 0] 134)) 106 v;rwa [Bh,Bh] at this
 obtain ⟨a1,c1,rfl⟩:=hv.shape
 have hne:((xs.length:Int)==0)=false:=by rw [Am];omega
 have Hall:=A8 (QA hn h0)
 clear h0
 refine (callsIn_wide (n:=5)).1 ?_
 refine callsIn_of_wp_marks Tryz.func84 rfl trivial ?_ rfl
 simp only [Tryz.ntmps84,BH,CG,CZ,Nat.reduceAdd,Nat.reduceSub,D3,D4,D5,D6,BY,Cc]
 gi_wp2_with (refine ⟨trivial,?_⟩;gi_at_call 115;refine (Lc Fence.wide 4 trivial rfl _ _ ⟨_,_,_,rfl⟩).mono ?_;rintro e w' ⟨rfl,rfl⟩)
 have hown0:∀ W:World,W.ownsRow (w.heap.size+1+1+1) 5 1 (.slice none 0 0) 0 (Lib.byteCells []):=fun W=>World.ownsRow_nil _ _ _ _
 have hsz:(((w.alloc (.cells #[.bool neg,.slice a1 xs.length c1] 108)).alloc (.cells #[.pointer none,.slice none 0 0] 134)).alloc (.cells #[.slice a1 xs.length c1] 106)).heap.size=w.heap.size+1+1+1:=by simp
 refine OB (w.heap.size+1+1) [w.heap.size+1] (.slice a1 xs.length c1) xs rfl b3.cell hv0 Af (fun b o e=>by have:=hvp b o e;simp;omega) rfl
  (fun pre W=>Ds W w.heap.size #[.bool neg,.slice a1 xs.length c1] 108/\Ox (w.heap.size+1+1+1) (w.heap.size+1) (FV xs pre) W)
  (fun pre W=>False)
  (fun pre W W' h k=>⟨k.2 _ _ h.1 rfl,h.2.cellsKept k⟩) (fun pre W W' h k=>h)
  ⟨b1,_,_,b2,.inl rfl,hown0 _⟩
  (fun x=>{ tmps:=#[.agg #[.bool neg,.slice a1 xs.length c1],.pointer (some ⟨w.heap.size,0,none⟩),.string ⟨#[]⟩,.int .i64 0,.pointer (some ⟨w.heap.size+1,0,none⟩),.int .i64 (x.1:Int),.int .i64 (gi xs x.1),undef,undef,
   .pointer (some ⟨w.heap.size,1,none⟩),.slice a1 xs.length c1,.int .i64 xs.length,.bool false,.pointer (some ⟨w.heap.size,1,none⟩),.slice a1 xs.length c1,.func (.func 141) #[] #[.pointer (some ⟨w.heap.size+1+1,0,none⟩)],
   .int .i64 (x.1:Int),.int .i64 (gi xs x.1),undef,undef,undef,undef,undef,undef,undef,undef,undef,undef,undef,undef,undef,undef,undef,undef,undef,undef,undef,undef,undef,undef,undef,undef,undef],defers:=[] }) ?assign ?body ?done ?stop
 case assign =>
  intro l x W K hK;gi_wp2;exact hK
 case body =>
  rintro l pre x W ho ⟨h1,h2⟩ hlen;have hbw:Below w.heap.size w W:=hw0.trans (ho.toBelow (by rw [hsz];omega) Af);have hEW:=hE.below hbw (Aa _);have hg:=NQ hn.dig x.1;have hd4:=GX hg.1;have hlc:=Qz hn.dig pre;have hsw:=ho.size;rw [hsz] at hsw;have Hit:=fun W hE'=>itoa_as (n:=gi xs x.1) Ad Ad (w:=W) hE'
  generalize hds:Lib.decDigits (gi xs x.1).toNat=ds at *
  have hds2:(⟨ds.toArray⟩:ByteArray).size=ds.length:=rfl;have hfin:∀ W2 W3,Below W.heap.size W W2->LJ (w.heap.size+1+1+1) (w.heap.size+1) W2 W3->Ox (w.heap.size+1+1+1) (w.heap.size+1) (FV xs (pre++[x])) W3 ->
    KeepsOthers W W3/\Dr [w.heap.size+1] (((w.alloc (.cells #[.bool neg,.slice a1 xs.length c1] 108)).alloc (.cells #[.pointer none,.slice none 0 0] 134)).alloc (.cells #[.slice a1 xs.length c1] 106)) W3 /\
    Ds W3 w.heap.size #[.bool neg,.slice a1 xs.length c1] 108/\Ox (w.heap.size+1+1+1) (w.heap.size+1) (FV xs (pre++[x])) W3:=fun W2 W3 hb hwr hbl =>
   ⟨(OV hb).trans hwr.keeps,hwr.only (by rw [hsz];omega) (ho.below hb),(hwr.block _ Ad (h1.below hb).lt Ad).trans (h1.below hb),hbl⟩
  by_cases hlast:(x.1:Int)<(xs.length:Int)-1
  ·have hch:Hy xs x.1=List.replicate (4-ds.length) 48++ds:=by unfold Hy;rw [AU Ad];unfold pad;rw [hds]
   have Hch:=A8 hch;clear hch;gi_wp2_with (refine ⟨trivial,?_⟩;gi_at_call 85;refine (CallsIn.inRound l (callsIn_wide.2 (Hit _ hEW))).mono ?_;rintro e W1 ⟨rfl,hb1⟩;have k1:=h1.below hb1;have k2:=h2.below hb1;have g1:=k1.cell 1;simp only [Ck,D9,Da] at g1);refine ⟨trivial,(CallsIn.inRound l (callsIn_wide.2 (SE Ad Ad))).mono ?_⟩;rintro e W2 ⟨rfl,hb2⟩;have k3:=k2.below hb2;gi_wp2_with fail;simp only [GL];refine ⟨trivial,(CallsIn.inRound l (callsIn_wide.2 (Fd k3 _ (by rw [GY];simp;omega) (by have:=hb1.size;have:=hb2.size;omega)))).mono ?_⟩;rintro e W3 ⟨rfl,hbl,hwr⟩;gi_wp2_with fail;refine hfin _ _ (hb1.trans (hb2.mono hb1.size)) hwr ?_;rw [II,Hch.out];rw [Array.toList_replicate] at hbl;exact hbl
  ·have hch:Hy xs x.1=ds:=by unfold Hy;rw [AP Ad];exact hds
   have Hch:=A8 hch;clear hch;gi_wp2_with (refine ⟨trivial,?_⟩;gi_at_call 85;refine (CallsIn.inRound l (callsIn_wide.2 (Hit _ hEW))).mono ?_;rintro e W1 ⟨rfl,hb1⟩;have k1:=h1.below hb1;have k2:=h2.below hb1;have g1:=k1.cell 1;simp only [Ck,D9,Da] at g1);refine ⟨trivial,(CallsIn.inRound l (callsIn_wide.2 (Fd k2 ⟨ds.toArray⟩ (by rw [hds2];omega) (by have:=hb1.size;omega)))).mono ?_⟩;rintro e W3 ⟨rfl,hbl,hwr⟩;gi_wp2_with fail;exact hfin _ _ hb1 hwr (by rw [II,Hch.out];exact hbl)
 case done =>
  rintro D W hD ho ⟨h1,h2⟩ hK;rw [Hall.out.1] at h2;have hpos:=Hall.out.2;have hsw:=ho.size;rw [hsz] at hsw hD;have hdb:=QB hpos;have hsm:=MV (b:=neg) (n:=n) Ad;have hin:n.natAbs=n.toNat:=by omega
  have hfin:∀ W1,Below (w.heap.size+1) W W1->Below w.heap.size w (W1.putObj D (.deferred none)):=fun W1 hb =>
   hw0.trans ((((ho.toBelow (B:=w.heap.size) (by rw [hsz];omega) Af).trans (hb.mono Ad))).grown (grownBy_putObj' W1 D _) (by have:=hb.size;omega) (fun k e=>by cases e;omega))
  by_cases hc:(200:Int)<((Lib.decDigits n.toNat).length:Int)
  ·have ht:txt (sgn neg n)=[]/\MT (sgn neg n)=30:=by
    have:¬ Do (sgn neg n):=by rw [hsm];exact hdb.1 Ad
    exact ⟨AP this,AP this⟩
   have Ht:=A8 ht
   clear ht hsm hdb
   gi_wp2_with (refine ⟨trivial,?_⟩;gi_at_call 110;refine (callsIn_wide.2 (Ig h2 Ad Ad)).mono ?_;rintro e W1 ⟨rfl,hb1,hk1⟩;have k1:=(hb1.block _ Ad).trans h1;have g0:=Ds.cell k1 0;have g1:=Ds.cell k1 1;simp only [Ck,D9,Da] at g0 g1)
   exact FS (hk1.same D _ hK rfl) (v:=.tuple #[.string ⟨#[]⟩,.int .i64 30]) (by simp [results,Tryz.results84,go_sem]) ⟨by rw [Ht.out.1,Ht.out.2],hfin _ hb1⟩
  ·have ht:txt (sgn neg n)=Lib.itoa (sgn neg n)/\MT (sgn neg n)=0:=by
    have:Do (sgn neg n):=by
     rw [hsm];by_cases e:n<GU
     ·exact e
     ·exact absurd (hdb.2 e) Ad
    exact ⟨AU this,AU this⟩
   clear hsm hdb
   cases neg
   ·have hj:Lib.itoa (sgn false n)=Lib.decDigits n.toNat:=DP (n:=n) Ad
    rw [hj] at ht;have Ht:=A8 ht;clear ht hj;gi_wp2_with (refine ⟨trivial,?_⟩;gi_at_call 110;refine (callsIn_wide.2 (Ig h2 Ad Ad)).mono ?_;rintro e W1 ⟨rfl,hb1,hk1⟩;have k1:=(hb1.block _ Ad).trans h1;have g0:=Ds.cell k1 0;have g1:=Ds.cell k1 1;simp only [Ck,D9,Da] at g0 g1);exact FS (hk1.same D _ hK rfl) (v:=.tuple #[.string ⟨(Lib.decDigits n.toNat).toArray⟩,.int .i64 0]) (by simp [results,Tryz.results84,go_sem]) ⟨by rw [Ht.out.1,Ht.out.2],hfin _ hb1⟩
   ·have hj:Lib.itoa (sgn true n)=45 :: Lib.decDigits n.toNat:=by
     have e:sgn true n=-n:=rfl;rw [Gb (by rw [e];omega),e,Int.natAbs_neg,hin]
    rw [hj] at ht
    have Ht:=A8 ht
    clear ht hj
    gi_wp2_with (refine ⟨trivial,?_⟩;gi_at_call 110;refine (callsIn_wide.2 (Ig h2 Ad Ad)).mono ?_;rintro e W1 ⟨rfl,hb1,hk1⟩;have k1:=(hb1.block _ Ad).trans h1;have g0:=Ds.cell k1 0;have g1:=Ds.cell k1 1;simp only [Ck,D9,Da] at g0 g1)
    simp only [GL]
    exact FS (hk1.same D _ hK rfl) (v:=.tuple #[.string ⟨(45 :: Lib.decDigits n.toNat).toArray⟩,.int .i64 0]) (by simp [results,Tryz.results84,go_sem]) ⟨by rw [Ht.out.1,Ht.out.2],hfin _ hb1⟩
 case stop =>
  rintro D k W hk hD ho h hK;exact h.elim
theorem Gc (neg:Bool) (v:Value) (xs:List Int) (n:Int) (w:World) (hE:Fp w) (hv:Sl w v xs) (hn:Ef 10000 xs n) (hl:xs.length<=10000) :
  Calls Tryz.prog 84 #[.agg #[.bool neg,v]] w fun e w'=>e=.returned (.tuple #[.string ⟨(txt (sgn neg n)).toArray⟩,.int .i64 (MT (sgn neg n))])/\Below w.heap.size w w':=by
 by_cases h0:xs.length=0
 ·have h0':=Bo h0
  have hz:=(hn.zero_iff Ae).1 h0';subst h0' hz;have e:sgn neg 0=0:=by cases neg <;> rfl
  have hs:Do 0:=by unfold Do GU;decide
  have e1:txt (sgn neg 0)=[48]:=by rw [e];unfold txt;rw [AU hs,DP Ad,DT Ae];decide
  have e2:MT (sgn neg 0)=0:=by rw [e];unfold MT;rw [AU hs]
  rw [e1,e2];exact SF neg v w hv
 ·exact Um neg v xs n w hE hv hn hl h0
end
section
open Go.RowKit
attribute [local go_sem] Oper.semAt_some
def Sg (w:World) (v:Value) (z:Int):Prop:=∃ neg u xs n,v=.agg #[.bool neg,u]/\Sl w u xs/\Ef 10000 xs n/\z=sgn neg n
theorem Jv (w:World) (s t:Bool) (v u:Value):∃ W0,W0=(((w.alloc (.cells #[.bool s,v] 108)).alloc (.cells #[.bool t,u] 108)).alloc (.cells #[.bool false,.slice none 0 0] 108)) /\
  W0.cell? ⟨w.heap.size,0,none⟩=some (.bool s)/\W0.cell? ⟨w.heap.size,1,none⟩=some v/\W0.cell? ⟨w.heap.size+1,0,none⟩=some (.bool t)/\W0.cell? ⟨w.heap.size+1,1,none⟩=some u /\
  Ds W0 (w.heap.size+1+1) #[.bool false,.slice none 0 0] 108/\Below w.heap.size w W0:=by
 have b1:Ds (((w.alloc (.cells #[.bool s,v] 108)).alloc (.cells #[.bool t,u] 108)).alloc (.cells #[.bool false,.slice none 0 0] 108)) w.heap.size #[.bool s,v] 108:=((Ds.new w _ _).alloc _).alloc _
 have b2:Ds (((w.alloc (.cells #[.bool s,v] 108)).alloc (.cells #[.bool t,u] 108)).alloc (.cells #[.bool false,.slice none 0 0] 108)) (w.heap.size+1) #[.bool t,u] 108:=by
  have:=(Ds.new (w.alloc (.cells #[.bool s,v] 108)) #[.bool t,u] 108).alloc (.cells #[.bool false,.slice none 0 0] 108);rwa [Bh] at this
 have b3:Ds (((w.alloc (.cells #[.bool s,v] 108)).alloc (.cells #[.bool t,u] 108)).alloc (.cells #[.bool false,.slice none 0 0] 108)) (w.heap.size+1+1) #[.bool false,.slice none 0 0] 108:=by
  have:=Ds.new ((w.alloc (.cells #[.bool s,v] 108)).alloc (.cells #[.bool t,u] 108)) #[.bool false,.slice none 0 0] 108;rwa [Bh,Bh] at this
 exact ⟨_,rfl,b1.cell 0,b1.cell 1,b2.cell 0,b2.cell 1,b3,(((Below.refl _ _).alloc (Aa _) _).alloc Af _).alloc (by simp;omega) _⟩
structure PK (w W:World):Prop where
 blk:Ds W (w.heap.size+1+1) #[.bool false,.slice none 0 0] 108
 below:Below w.heap.size w W
theorem PK.drew {w W:World} (h:PK w W):PK w W.drew:=⟨h.blk,h.below.trans ((Dq W 1).mono h.below.size)⟩
theorem PK.call {w W W':World} (hb:Below W.heap.size W W') (h:PK w W):PK w W':=⟨h.blk.below hb,h.below.trans (hb.mono h.below.size)⟩
theorem DU {W W':World} {p:Addr} {v:Value} (hb:Below W.heap.size W W') (h:W.cell? p=some v):W'.cell? p=some v:=(hb.cell (D7 W _ h)).trans h
theorem ES {B:Nat} {w W:World} (h:Below B w W):Below B w W.drew:=⟨h.os,h.tape,h.output,h.size,h.block⟩
theorem far2 {W:World} {b B i:Nat} {v:Value} (h:W.cell? ⟨b,i,none⟩=some v) (hne:b≠B) (x y:Value):((W.setCell ⟨B,0,none⟩ x).setCell ⟨B,1,none⟩ y).cell? ⟨b,i,none⟩=some v :=
 ((World.cell?_of_block (a:=⟨b,i,none⟩) (w:=W.setCell ⟨B,0,none⟩ x) (Below.heap_setCell (W.setCell ⟨B,0,none⟩ x) ⟨B,1,none⟩ y b hne)).trans (World.cell?_of_block (a:=⟨b,i,none⟩) (w:=W) (Below.heap_setCell W ⟨B,0,none⟩ x b hne))).trans h
theorem NR {w W:World} {x1 x2 x3 x4:Value} (h:W.cell? ⟨w.heap.size,0,none⟩=some x1/\W.cell? ⟨w.heap.size,1,none⟩=some x2/\W.cell? ⟨w.heap.size+1,0,none⟩=some x3/\W.cell? ⟨w.heap.size+1,1,none⟩=some x4/\Below w.heap.size w W) (x y:Value) :
  ((W.setCell ⟨w.heap.size+1+1,0,none⟩ x).setCell ⟨w.heap.size+1+1,1,none⟩ y).cell? ⟨w.heap.size,0,none⟩=some x1/\((W.setCell ⟨w.heap.size+1+1,0,none⟩ x).setCell ⟨w.heap.size+1+1,1,none⟩ y).cell? ⟨w.heap.size,1,none⟩=some x2 /\
  ((W.setCell ⟨w.heap.size+1+1,0,none⟩ x).setCell ⟨w.heap.size+1+1,1,none⟩ y).cell? ⟨w.heap.size+1,0,none⟩=some x3/\((W.setCell ⟨w.heap.size+1+1,0,none⟩ x).setCell ⟨w.heap.size+1+1,1,none⟩ y).cell? ⟨w.heap.size+1,1,none⟩=some x4 /\
  Below w.heap.size w ((W.setCell ⟨w.heap.size+1+1,0,none⟩ x).setCell ⟨w.heap.size+1+1,1,none⟩ y) :=
 ⟨far2 h.1 Ad _ _,far2 h.2.1 Ad _ _,far2 h.2.2.1 Ad _ _,far2 h.2.2.2.1 Ad _ _,
  (h.2.2.2.2.setCell (p:=⟨w.heap.size+1+1,0,none⟩) (Dd w.heap.size 2) x).setCell (p:=⟨w.heap.size+1+1,1,none⟩) (Dd w.heap.size 2) y⟩
theorem Dn {B:Nat} {w W W':World} (hb:Below W.heap.size W W') (h:Below B w W) (hB:B<=w.heap.size):Below B w W':=h.trans (hb.mono (Bc hB h.size))
theorem Mz (s t:Bool) (v u:Value) (xs ys:List Int) (m n:Int) (w:World) (hv:Sl w v xs) (hu:Sl w u ys) (hx:Ef 10000 xs m) (hy:Ef 10000 ys n) (hlx:xs.length<=100000) (hly:ys.length<=100000) (hst:s=t) :
  Calls Tryz.prog 90 #[.agg #[.bool s,v],.agg #[.bool t,u]] w (DA w fun r w'=>Sg w' r (sgn s m+sgn t n)):=by
 obtain ⟨a1,c1,rfl⟩:=hv.shape
 obtain ⟨a2,c2,rfl⟩:=hu.shape
 subst hst
 obtain ⟨W0,hW0,h1,h2,h3,h4,h5,hb⟩:=Jv w s s (.slice a1 xs.length c1) (.slice a2 ys.length c2)
 have hpk:PK w W0:=⟨h5,hb⟩
 clear h5
 go_enter Tryz.func90,Tryz.ntmps90
 go_wp2_with fail
 rw [<-hW0]
 clear hW0
 go_region_held3 (fun w'=>w'.cell? ⟨w.heap.size,0,none⟩=some (.bool s)/\w'.cell? ⟨w.heap.size,1,none⟩=some (.slice a1 xs.length c1)/\w'.cell? ⟨w.heap.size+1,0,none⟩=some (.bool s)/\w'.cell? ⟨w.heap.size+1,1,none⟩=some (.slice a2 ys.length c2)/\Below w.heap.size w w')
  (first | (exact NR (by assumption) _ _) | (refine ⟨?_,?_,?_,?_,?_⟩ <;> first | assumption | (with_reducible apply ES;assumption) | (with_reducible exact PK.below (by assumption)) | (apply DU <;> assumption) | go_keep))
  (first | (go_at_call 92;refine (JK _ _ xs ys _ (hv.below (by first | assumption | (apply ES;assumption))) (hu.below (by first | assumption | (apply ES;assumption))) hx.dig hy.dig hlx hly).mono ?_;rintro e w' ⟨⟨r,rfl,zs,hz1,hz2,hz3⟩,hbz⟩;obtain ⟨a5,c5,rfl⟩:=hz1.shape;have kk:=PK.call hbz (PK.drew hpk);have k0:=kk.blk.cell 0;have k1:=kk.blk.cell 1;have f0:=kk.blk.frozen 0;have f1:=kk.blk.frozen 1;simp only [Ck,D9,Da] at k0 k1))
 have m1:=kk.blk.set 0 (.bool s)
 have m2:=m1.set 1 (.slice a5 zs.length c5)
 have y0:=m2.cell 0
 have y1:=m2.cell 1
 simp only [A0,A6,A5,Ck,D9,Da] at y0 y1
 have z1:=(hz1.setBlk kk.blk (Fw _ _ (fun n e=>by cases e)) 0 (.bool s)).setBlk m1 (Fw _ _ (fun n e=>by cases e)) 1 (.slice a5 zs.length c5)
 have hfin:Below w.heap.size w ((w'.setCell ⟨w.heap.size+1+1,0,none⟩ (.bool s)).setCell ⟨w.heap.size+1+1,1,none⟩ (.slice a5 zs.length c5)):=(kk.below.setCell (p:=⟨w.heap.size+1+1,0,none⟩) (Dd w.heap.size 2) _).setCell (p:=⟨w.heap.size+1+1,1,none⟩) (Dd w.heap.size 2) _
 go_wp2
 refine bodyPost_ret (v:=.agg #[.bool s,.slice a5 zs.length c5]) (by simp [results,Tryz.results90,go_sem,y0,y1]) rfl ?_
 refine ⟨⟨_,rfl,s,_,_,_,rfl,z1,hz2,?_⟩,hfin⟩
 rw [hx.val,hy.val]
 unfold sgn
 split
 ·omega
 ·rfl
theorem OW (s t:Bool) (v u:Value) (xs ys:List Int) (m n:Int) (w:World) (hv:Sl w v xs) (hu:Sl w u ys) (hx:Ef 10000 xs m) (hy:Ef 10000 ys n) (hlx:xs.length<=100000) (hst:s≠t) (hle:n<=m) :
  Calls Tryz.prog 90 #[.agg #[.bool s,v],.agg #[.bool t,u]] w (DA w fun r w'=>Sg w' r (sgn s m+sgn t n)):=by
 obtain ⟨a1,c1,rfl⟩:=hv.shape
 obtain ⟨a2,c2,rfl⟩:=hu.shape
 obtain ⟨W0,hW0,h1,h2,h3,h4,h5,hb⟩:=Jv w s t (.slice a1 xs.length c1) (.slice a2 ys.length c2)
 have hpk0:PK w W0:=⟨h5,hb⟩
 have hcb:(s==t)=false:=by cases s <;> cases t <;> simp_all
 have Hst:=A8 hst
 have hcm:=LE hx hy
 have hc0:(0:Int)<=Lib.compareInt m n:=by
  rcases Int.lt_or_eq_of_le hle with h | rfl
  ·rw [DM h];decide
  ·rw [EL];decide
 have Hle:=A8 hle
 have Hlen:=A8 (hy.len_le Ae hx hle)
 clear hst hle h5
 go_enter Tryz.func90,Tryz.ntmps90
 go_wp2_with fail
 rw [<-hW0]
 clear hW0
 refine (IH _ _ xs ys _ (hv.below hb) (hu.below hb)).mono ?_
 rintro e W1 ⟨rfl,hb1⟩
 have q1:=DU hb1 h1
 have q2:=DU hb1 h2
 have q3:=DU hb1 h3
 have q4:=DU hb1 h4
 have hpk:=PK.call hb1 hpk0
 clear hpk0 h1 h2 h3 h4 hb hb1
 have hb:=hpk.below
 rw [hcm]
 clear hcm
 go_wp2_with fail
 go_region_held3 (fun w'=>w'.cell? ⟨w.heap.size,0,none⟩=some (.bool s)/\w'.cell? ⟨w.heap.size,1,none⟩=some (.slice a1 xs.length c1)/\w'.cell? ⟨w.heap.size+1,0,none⟩=some (.bool t)/\w'.cell? ⟨w.heap.size+1,1,none⟩=some (.slice a2 ys.length c2)/\Below w.heap.size w w')
  (first | (exact NR (by assumption) _ _) | (refine ⟨?_,?_,?_,?_,?_⟩ <;> first | assumption | (with_reducible apply ES;assumption) | (with_reducible exact PK.below (by assumption)) | (apply DU <;> assumption) | go_keep))
  (first | (go_at_call 94;refine (Hs _ _ xs ys _ (hv.below (by first | assumption | (apply ES;assumption))) (hu.below (by first | assumption | (apply ES;assumption))) hx.dig hy.dig hlx Hlen.out (by rw [hx.val,hy.val];exact Hle.out)).mono ?_;rintro e w' ⟨⟨r,rfl,zs,hz1,hz2,hz3⟩,hbz⟩;obtain ⟨a5,c5,rfl⟩:=hz1.shape;have kk:=PK.call hbz (PK.drew hpk);have k0:=kk.blk.cell 0;have k1:=kk.blk.cell 1;have f0:=kk.blk.frozen 0;have f1:=kk.blk.frozen 1;simp only [Ck,D9,Da] at k0 k1))
 have m1:=kk.blk.set 0 (.bool s)
 have m2:=m1.set 1 (.slice a5 zs.length c5)
 have y0:=m2.cell 0
 have y1:=m2.cell 1
 simp only [A0,A6,A5,Ck,D9,Da] at y0 y1
 have z1:=(hz1.setBlk kk.blk (Fw _ _ (fun n e=>by cases e)) 0 (.bool s)).setBlk m1 (Fw _ _ (fun n e=>by cases e)) 1 (.slice a5 zs.length c5)
 have hfin:Below w.heap.size w ((w'.setCell ⟨w.heap.size+1+1,0,none⟩ (.bool s)).setCell ⟨w.heap.size+1+1,1,none⟩ (.slice a5 zs.length c5)):=(kk.below.setCell (p:=⟨w.heap.size+1+1,0,none⟩) (Dd w.heap.size 2) _).setCell (p:=⟨w.heap.size+1+1,1,none⟩) (Dd w.heap.size 2) _
 go_wp2
 refine bodyPost_ret (v:=.agg #[.bool s,.slice a5 zs.length c5]) (by simp [results,Tryz.results90,go_sem,y0,y1]) rfl ?_
 refine ⟨⟨_,rfl,s,_,_,_,rfl,z1,hz2,?_⟩,hfin⟩
 rw [hx.val,hy.val]
 have:=Hst.out
 cases s <;> cases t <;> simp_all [sgn] <;> omega
theorem OX (s t:Bool) (v u:Value) (xs ys:List Int) (m n:Int) (w:World) (hv:Sl w v xs) (hu:Sl w u ys) (hx:Ef 10000 xs m) (hy:Ef 10000 ys n) (hly:ys.length<=100000) (hst:s≠t) (hle:m<n) :
  Calls Tryz.prog 90 #[.agg #[.bool s,v],.agg #[.bool t,u]] w (DA w fun r w'=>Sg w' r (sgn s m+sgn t n)):=by
 obtain ⟨a1,c1,rfl⟩:=hv.shape
 obtain ⟨a2,c2,rfl⟩:=hu.shape
 obtain ⟨W0,hW0,h1,h2,h3,h4,h5,hb⟩:=Jv w s t (.slice a1 xs.length c1) (.slice a2 ys.length c2)
 have hpk0:PK w W0:=⟨h5,hb⟩
 have hcb:(s==t)=false:=by cases s <;> cases t <;> simp_all
 have Hst:=A8 hst
 have hcm:=LE hx hy
 have hc0:¬ (0:Int)<=Lib.compareInt m n:=by rw [Dz hle];decide
 have Hle:=A8 hle
 have Hlen:=A8 (hx.len_le Ae hy (CY hle))
 clear hst hle h5
 go_enter Tryz.func90,Tryz.ntmps90
 go_wp2_with fail
 rw [<-hW0]
 clear hW0
 refine (IH _ _ xs ys _ (hv.below hb) (hu.below hb)).mono ?_
 rintro e W1 ⟨rfl,hb1⟩
 have q1:=DU hb1 h1
 have q2:=DU hb1 h2
 have q3:=DU hb1 h3
 have q4:=DU hb1 h4
 have hpk:=PK.call hb1 hpk0
 clear hpk0 h1 h2 h3 h4 hb hb1
 have hb:=hpk.below
 rw [hcm]
 clear hcm
 go_wp2_with fail
 go_region_held3 (fun w'=>w'.cell? ⟨w.heap.size,0,none⟩=some (.bool s)/\w'.cell? ⟨w.heap.size,1,none⟩=some (.slice a1 xs.length c1)/\w'.cell? ⟨w.heap.size+1,0,none⟩=some (.bool t)/\w'.cell? ⟨w.heap.size+1,1,none⟩=some (.slice a2 ys.length c2)/\Below w.heap.size w w')
  (first | (exact NR (by assumption) _ _) | (refine ⟨?_,?_,?_,?_,?_⟩ <;> first | assumption | (with_reducible apply ES;assumption) | (with_reducible exact PK.below (by assumption)) | (apply DU <;> assumption) | go_keep))
  (first | (go_at_call 94;refine (Hs _ _ ys xs _ (hu.below (by first | assumption | (apply ES;assumption))) (hv.below (by first | assumption | (apply ES;assumption))) hy.dig hx.dig hly Hlen.out (by rw [hx.val,hy.val];exact CY Hle.out)).mono ?_;rintro e w' ⟨⟨r,rfl,zs,hz1,hz2,hz3⟩,hbz⟩;obtain ⟨a5,c5,rfl⟩:=hz1.shape;have kk:=PK.call hbz (PK.drew hpk);have k0:=kk.blk.cell 0;have k1:=kk.blk.cell 1;have f0:=kk.blk.frozen 0;have f1:=kk.blk.frozen 1;simp only [Ck,D9,Da] at k0 k1))
 have m1:=kk.blk.set 0 (.bool t)
 have m2:=m1.set 1 (.slice a5 zs.length c5)
 have y0:=m2.cell 0
 have y1:=m2.cell 1
 simp only [A0,A6,A5,Ck,D9,Da] at y0 y1
 have z1:=(hz1.setBlk kk.blk (Fw _ _ (fun n e=>by cases e)) 0 (.bool t)).setBlk m1 (Fw _ _ (fun n e=>by cases e)) 1 (.slice a5 zs.length c5)
 have hfin:Below w.heap.size w ((w'.setCell ⟨w.heap.size+1+1,0,none⟩ (.bool t)).setCell ⟨w.heap.size+1+1,1,none⟩ (.slice a5 zs.length c5)):=(kk.below.setCell (p:=⟨w.heap.size+1+1,0,none⟩) (Dd w.heap.size 2) _).setCell (p:=⟨w.heap.size+1+1,1,none⟩) (Dd w.heap.size 2) _
 go_wp2
 refine bodyPost_ret (v:=.agg #[.bool t,.slice a5 zs.length c5]) (by simp [results,Tryz.results90,go_sem,y0,y1]) rfl ?_
 refine ⟨⟨_,rfl,t,_,_,_,rfl,z1,hz2,?_⟩,hfin⟩
 rw [hx.val,hy.val]
 have:=Hst.out
 cases s <;> cases t <;> simp_all [sgn] <;> omega
theorem NS (s t:Bool) (v u:Value) (xs ys:List Int) (m n:Int) (w:World) (hv:Sl w v xs) (hu:Sl w u ys) (hx:Ef 10000 xs m) (hy:Ef 10000 ys n) (hlx:xs.length<=100000) (hly:ys.length<=100000) :
  Calls Tryz.prog 90 #[.agg #[.bool s,v],.agg #[.bool t,u]] w (DA w fun r w'=>Sg w' r (sgn s m+sgn t n)):=by
 by_cases hst:s=t
 ·exact Mz s t v u xs ys m n w hv hu hx hy hlx hly hst
 ·by_cases hle:n<=m
  ·exact OW s t v u xs ys m n w hv hu hx hy hlx hst hle
  ·exact OX s t v u xs ys m n w hv hu hx hy hly hst Ad
def DK (s:ByteArray):Bool:=Fg s.data.toList
def zS (s:ByteArray):Int:=GK s.data.toList
def PV (w:World) (v:Value) (z:Int):Prop:=∃ u xs,v=.agg #[.bool (decide (z<0)),u]/\Sl w u xs/\Ef 10000 xs z.natAbs
theorem PV.below {w w':World} {v:Value} {z:Int} (h:PV w v z) (hb:Below w.heap.size w w'):PV w' v z:=by
 obtain ⟨u,xs,h1,h2,h3⟩:=h;exact ⟨u,xs,h1,h2.below hb,h3⟩
theorem KV {l:List UInt8} (h:Fg l=true):(∀ b∈body l,Hi b=true)/\(body l).length<=200/\(decide ((body l).length<l.length)=decide (GK l<0))/\(E9 (body l):Int)=(GK l).natAbs:=by
 have h0:=h;obtain ⟨he,h1,h2⟩:=Ff h;generalize hz:GK l=z at *
 have hb:=(Kl z).2;rw [<-he] at hb;have hs:=DO z.natAbs;refine ⟨by rw [hb];exact hs.2.1,?_,?_,by rw [hb,hs.1]⟩
 ·unfold Fg at h0
  simp only [Ap,CB] at h0;exact h0.1.1.2
 ·rw [hb,he]
  by_cases hn:z<0
  ·rw [Gb hn];simp [hn]
  ·rw [DP Ad,show z.toNat=z.natAbs by omega];simp [hn]
theorem OY (s:ByteArray) (w:World) (h:DK s=true):Calls Tryz.prog 114 #[.string s] w (DA w fun r w'=>PV w' r (zS s)):=by
 obtain ⟨h1,h2,h3,h4⟩:=KV h;refine (Sy s _ w rfl h1 h2).mono ?_;rintro e w' ⟨⟨r,rfl,v,xs,rfl,hv,hn⟩,hb⟩;rw [h4] at hn;have e:s.size=s.data.toList.length:=by rw [BC];rfl
 exact ⟨⟨_,rfl,v,xs,by rw [e,h3];rfl,hv,hn⟩,hb⟩
theorem isV (s:ByteArray) (w:World):Calls Tryz.prog 113 #[.string s] w fun e w'=>e=.returned (.bool (DK s))/\Below w.heap.size w w':=OU s w
theorem LL (w:World):∃ W0,W0=((w.alloc (.cells #[.bool false,.slice none 0 0] 108)).alloc (.cells #[.bool false,.slice none 0 0] 108)) /\
  Ds W0 w.heap.size #[.bool false,.slice none 0 0] 108/\Ds W0 (w.heap.size+1) #[.bool false,.slice none 0 0] 108/\Below w.heap.size w W0:=by
 refine ⟨_,rfl,(Ds.new w _ _).alloc _,?_,((Below.refl _ _).alloc (Aa _) _).alloc Af _⟩
 have:=Ds.new (w.alloc (.cells #[.bool false,.slice none 0 0] 108)) #[.bool false,.slice none 0 0] 108
 rwa [Bh] at this
theorem Jw {w W:World} {s t:Bool} (h1:Ds W w.heap.size #[.bool false,.slice none 0 0] 108) (h2:Ds W (w.heap.size+1) #[.bool false,.slice none 0 0] 108) (hb:Below w.heap.size w W) (x y:Value) :
  let W':=(((W.setCell ⟨w.heap.size,0,none⟩ (.bool s)).setCell ⟨w.heap.size,1,none⟩ x).setCell ⟨w.heap.size+1,0,none⟩ (.bool t)).setCell ⟨w.heap.size+1,1,none⟩ y
  Ds W' w.heap.size #[.bool s,x] 108/\Ds W' (w.heap.size+1) #[.bool t,y] 108/\Below w.heap.size w W'/\∀ v zs,Sl W v zs->Sl W' v zs:=by
 have a0:=h1.set 0 (.bool s)
 have a1:=a0.set 1 x
 have b1:=(h2.kept (DE W w.heap.size 0 (.bool s)) Af).kept (DE _ w.heap.size 1 x) Af
 have b2:=b1.set 0 (.bool t)
 have b3:=b2.set 1 y
 have a2:=(a1.kept (DE _ (w.heap.size+1) 0 (.bool t)) Af).kept (DE _ (w.heap.size+1) 1 y) Af
 refine ⟨by simpa using a2,by simpa using b3,?_,fun v zs hz=>?_⟩
 ·exact (((hb.setCell (p:=⟨w.heap.size,0,none⟩) (Aa _) _).setCell (p:=⟨w.heap.size,1,none⟩) (Aa _) _).setCell (p:=⟨w.heap.size+1,0,none⟩) (Cr _) _).setCell (p:=⟨w.heap.size+1,1,none⟩) (Cr _) _
 ·exact (((hz.setBlk h1 (Fw _ _ (fun n e=>by cases e)) 0 (.bool s)).setBlk a0 (Fw _ _ (fun n e=>by cases e)) 1 x).setBlk b1 (Fw _ _ (fun n e=>by cases e)) 0 (.bool t)).setBlk b2 (Fw _ _ (fun n e=>by cases e)) 1 y
def BothOk (x y:Int) (r:Value) (w:World):Prop:=∃ v u,r=.tuple #[v,u,.bool true]/\PV w v x/\PV w u y
def BothBad (r:Value):Prop:=r=.tuple #[.agg #[.bool false,.slice none 0 0],.agg #[.bool false,.slice none 0 0],.bool false]
theorem JV (a b:ByteArray) (w:World) (h:DK a=false∨DK b=false) :
  Calls Tryz.prog 82 #[.string a,.string b] w (DA w fun r _=>BothBad r):=by
 obtain ⟨W0,hW0,h1,h2,hb0⟩:=LL w
 by_cases ha:DK a=true
 ·have hb:DK b=false:=h.resolve_left (by rw [ha];decide)
  clear h;go_enter Tryz.func82,Tryz.ntmps82;go_wp2_with fail;rw [<-hW0];clear hW0;refine (isV a _).mono ?_;rintro e W1 ⟨rfl,hb1⟩;rw [ha];go_wp2_with fail;refine (isV b _).mono ?_;rintro e W2 ⟨rfl,hb2⟩;rw [hb];have k1:=(h1.below hb1).below hb2;have k2:=(h2.below hb1).below hb2;have kb:Below w.heap.size w W2:=Dn hb2 (Dn hb1 hb0 (Aa _)) (Aa _);have c0:=k1.cell 0;have c1:=k1.cell 1;have d0:=k2.cell 0;have d1:=k2.cell 1;have f0:=k1.frozen 0;have f1:=k1.frozen 1;have g0:=k2.frozen 0;have g1:=k2.frozen 1;simp only [Ck,D9,Da] at c0 c1 d0 d1;go_wp2;obtain ⟨m1,m2,m3,_⟩:=Jw (s:=false) (t:=false) k1 k2 kb (.slice none 0 0) (.slice none 0 0);have y0:=m1.cell 0;have y1:=m1.cell 1;have y2:=m2.cell 0;have y3:=m2.cell 1;simp only [Ck,D9,Da] at y0 y1 y2 y3;refine bodyPost_ret (v:=.tuple #[.agg #[.bool false,.slice none 0 0],.agg #[.bool false,.slice none 0 0],.bool false]) (by simp [results,Tryz.results82,go_sem,y0,y1,y2,y3]) rfl ?_;exact ⟨⟨_,rfl,rfl⟩,m3⟩
 ·have ha:DK a=false:=by simpa using ha
  clear h;go_enter Tryz.func82,Tryz.ntmps82;go_wp2_with fail;rw [<-hW0];clear hW0;refine (isV a _).mono ?_;rintro e W2 ⟨rfl,hb1⟩;rw [ha];have k1:=h1.below hb1;have k2:=h2.below hb1;have kb:Below w.heap.size w W2:=Dn hb1 hb0 (Aa _);have c0:=k1.cell 0;have c1:=k1.cell 1;have d0:=k2.cell 0;have d1:=k2.cell 1;have f0:=k1.frozen 0;have f1:=k1.frozen 1;have g0:=k2.frozen 0;have g1:=k2.frozen 1;simp only [Ck,D9,Da] at c0 c1 d0 d1;go_wp2;obtain ⟨m1,m2,m3,_⟩:=Jw (s:=false) (t:=false) k1 k2 kb (.slice none 0 0) (.slice none 0 0);have y0:=m1.cell 0;have y1:=m1.cell 1;have y2:=m2.cell 0;have y3:=m2.cell 1;simp only [Ck,D9,Da] at y0 y1 y2 y3;refine bodyPost_ret (v:=.tuple #[.agg #[.bool false,.slice none 0 0],.agg #[.bool false,.slice none 0 0],.bool false]) (by simp [results,Tryz.results82,go_sem,y0,y1,y2,y3]) rfl ?_;exact ⟨⟨_,rfl,rfl⟩,m3⟩
theorem J6 (a b:ByteArray) (w:World) (ha:DK a=true) (hb:DK b=true) :
  Calls Tryz.prog 82 #[.string a,.string b] w (DA w (BothOk (zS a) (zS b))):=by
 obtain ⟨W0,hW0,h1,h2,hb0⟩:=LL w
 have Pa:=fun W=>OY a W ha
 have Pb:=fun W=>OY b W hb
 go_enter Tryz.func82,Tryz.ntmps82
 go_wp2_with fail
 rw [<-hW0]
 clear hW0
 refine (isV a _).mono ?_
 rintro e W1 ⟨rfl,hb1⟩
 rw [ha]
 go_wp2_with fail
 refine (isV b _).mono ?_
 rintro e W2 ⟨rfl,hb2⟩
 rw [hb]
 go_wp2_with fail
 refine (Pa _).mono ?_
 rintro e W3 ⟨⟨r,rfl,va,xs,rfl,hva,hna⟩,hb3⟩
 obtain ⟨a1,c1',rfl⟩:=hva.shape
 go_wp2_with fail
 refine (Pb _).mono ?_
 rintro e W4 ⟨⟨r,rfl,vb,ys,rfl,hvb,hnb⟩,hb4⟩
 obtain ⟨a2,c2',rfl⟩:=hvb.shape
 have k1:=(((h1.below hb1).below hb2).below hb3).below hb4
 have k2:=(((h2.below hb1).below hb2).below hb3).below hb4
 have kb:Below w.heap.size w W4:=Dn hb4 (Dn hb3 (Dn hb2 (Dn hb1 hb0 (Aa _)) (Aa _)) (Aa _)) (Aa _)
 have hva4:=hva.below hb4
 have c0:=k1.cell 0
 have c1:=k1.cell 1
 have d0:=k2.cell 0
 have d1:=k2.cell 1
 have f0:=k1.frozen 0
 have f1:=k1.frozen 1
 have g0:=k2.frozen 0
 have g1:=k2.frozen 1
 simp only [Ck,D9,Da] at c0 c1 d0 d1
 go_wp2
 obtain ⟨m1,m2,m3,m4⟩:=Jw (s:=decide (zS a<0)) (t:=decide (zS b<0)) k1 k2 kb (.slice a1 xs.length c1') (.slice a2 ys.length c2')
 have y0:=m1.cell 0
 have y1:=m1.cell 1
 have y2:=m2.cell 0
 have y3:=m2.cell 1
 simp only [Ck,D9,Da] at y0 y1 y2 y3
 refine bodyPost_ret (v:=.tuple #[.agg #[.bool (decide (zS a<0)),.slice a1 xs.length c1'],.agg #[.bool (decide (zS b<0)),.slice a2 ys.length c2'],.bool true]) (by simp [results,Tryz.results82,go_sem,y0,y1,y2,y3]) rfl ?_
 exact ⟨⟨_,rfl,_,_,rfl,⟨_,_,rfl,m4 _ _ hva4,hna⟩,⟨_,_,rfl,m4 _ _ hvb,hnb⟩⟩,m3⟩
def EY (ok:Bool) (z:Int):Value:=if ok then .tuple #[.string ⟨(txt z).toArray⟩,.int .i64 (MT z)] else .tuple #[.string ⟨#[]⟩,.int .i64 30]
theorem Eq {s:ByteArray} (h:DK s=true):-GU<zS s/\zS s<GU:=(Ff h).2
theorem F5 {xs:List Int} {n:Int} (h:Ef 10000 xs n) (hn:n<GU):xs.length<=50:=h.length_le Ae (by unfold GU at hn;exact Int.lt_of_lt_of_le hn Ae)
theorem sgn_abs (z:Int):sgn (decide (z<0)) z.natAbs=z:=by
 unfold sgn;by_cases h:z<0
 ·simp [h];omega
 ·simp [h];omega
theorem ED {z:Int} (h:-GU<z/\z<GU):(z.natAbs:Int)<GU:=by omega
theorem GS (W:World) (o p:Obj):Below W.heap.size W ((W.alloc o).alloc p):=((Below.refl _ _).alloc (Aa _) _).alloc Af _
theorem sgn_len {neg:Bool} {n z:Int} {zs:List Int} (h:z=sgn neg n) (hn:Ef 10000 zs n) (k:Nat) (hz:-(10000 ^ k)<z/\z<10000 ^ k):zs.length<=k :=
 hn.length_le Ae (by cases neg <;> simp [sgn] at h <;> omega)
theorem add_ok (a b:ByteArray) (w:World) (hE:Fp w) (ha:DK a=true) (hb:DK b=true) :
  Calls Tryz.prog 53 #[.string a,.string b] w (DA w fun r _=>r=EY true (zS a+zS b)):=by
 have Ba:=Eq ha
 have Bb:=Eq hb
 have Pk:=fun W=>J6 a b W ha hb
 go_enter Tryz.func53,Tryz.ntmps53
 go_wp2_with fail
 refine (Pk _).mono ?_
 rintro e W1 ⟨⟨r,rfl,v,u,rfl,⟨x,xs,rfl,hx,hnx⟩,⟨y,ys,rfl,hy,hny⟩⟩,hb1⟩
 have lx:=F5 hnx (ED Ba)
 have ly:=F5 hny (ED Bb)
 obtain ⟨a1,c1,rfl⟩:=hx.shape
 obtain ⟨a2,c2,rfl⟩:=hy.shape
 go_wp2_with fail
 have hb2:=GS W1 (.cells #[.bool (decide (zS a<0)),.slice a1 xs.length c1] 108) (.cells #[.bool (decide (zS b<0)),.slice a2 ys.length c2] 108)
 refine (NS _ _ _ _ xs ys _ _ _ (hx.below hb2) (hy.below hb2) hnx hny Ad Ad).mono ?_
 rintro e W2 ⟨⟨r,rfl,neg,u,zs,n,rfl,hz,hnz,hsum⟩,hb3⟩
 rw [sgn_abs,sgn_abs] at hsum
 have lz:=sgn_len hsum hnz 51 (by unfold GU at Ba Bb;omega)
 have hbw:Below w.heap.size w W2:=Dn hb3 (Dn hb2 hb1 (Aa _)) (Aa _)
 have hE2:=hE.below hbw (Aa _)
 go_wp2_with fail
 refine (Gc neg _ zs n W2 hE2 hz hnz Ad).mono ?_
 rintro e W3 ⟨rfl,hb4⟩
 go_wp2
 go_ret2
 exact ⟨⟨_,rfl,by rw [hsum];rfl⟩,Dn hb4 hbw (Aa _)⟩
theorem add_bad (a b:ByteArray) (w:World) (h:DK a=false∨DK b=false) :
  Calls Tryz.prog 53 #[.string a,.string b] w (DA w fun r _=>r=EY false 0):=by
 have Pk:=fun W=>JV a b W h
 go_enter Tryz.func53,Tryz.ntmps53
 go_wp2_with fail
 refine (Pk _).mono ?_
 rintro e W1 ⟨⟨r,rfl,rfl⟩,hb1⟩
 go_wp2
 go_ret2
 exact ⟨⟨_,rfl,rfl⟩,Dn (GS W1 _ _) hb1 (Aa _)⟩
theorem RU (a b:ByteArray) (w:World) (hE:Fp w) :
  Calls Tryz.prog 53 #[.string a,.string b] w (DA w fun r _=>r=EY (DK a&&DK b) (zS a+zS b)):=by
 by_cases h:DK a=true/\DK b=true
 ·rw [h.1,h.2];exact add_ok a b w hE h.1 h.2
 ·have hf:(DK a&&DK b)=false:=by
   rw [<-Bool.not_eq_true,Ap];exact h
  rw [hf]
  refine add_bad a b w ?_
  cases ha:DK a
  ·exact .inl rfl
  ·cases hb:DK b
   ·exact .inr rfl
   ·exact absurd ⟨ha,hb⟩ h
theorem E3 {p q:Bool} (h:¬ (p=true/\q=true)):(p&&q)=false/\(p=false∨q=false):=by cases p <;> cases q <;> simp_all
theorem cmp_neg {a b:Int} (ha:a<0) (hb:b<0):Lib.compareInt b.natAbs a.natAbs=Lib.compareInt a b:=by
 rcases De a b with h | rfl | h
 ·rw [Dz h,Dz Ad]
 ·rw [EL,EL]
 ·rw [DM h,DM Ad]
theorem cmp_pos {a b:Int} (ha:¬ a<0) (hb:¬ b<0):Lib.compareInt a.natAbs b.natAbs=Lib.compareInt a b:=by
 rw [show (a.natAbs:Int)=a by omega,show (b.natAbs:Int)=b by omega]
theorem SG (s:ByteArray) (w:World):Calls Tryz.prog 95 #[.string s] w fun e w'=>e=.returned (.bool (DK s))/\Below w.heap.size w w':=by
 go_enter Tryz.func95,Tryz.ntmps95;go_wp2_with fail;refine (isV s _).mono ?_;rintro e W1 ⟨rfl,hb1⟩;go_wp2;go_ret;exact ⟨rfl,hb1⟩
theorem KW (n:Int) (h0:-9223372036854775808<=n) (h1:n<=9223372036854775807) (w:World) (hE:Fp w) :
  Calls Tryz.prog 45 #[.int .i64 n] w fun e w'=>e=.returned (.string ⟨(Lib.itoa n).toArray⟩)/\Below w.heap.size w w':=by
 go_enter Tryz.func45,Tryz.ntmps45
 go_wp2_with fail
 refine (Tryz.strconv_Itoa n h0 h1 _ hE.tab).mono ?_
 rintro e W1 ⟨rfl,k,os,rfl⟩
 go_wp2
 go_ret
 exact ⟨rfl,Lib.below_grow _ w (Aa _) k os⟩
theorem HG (W1:World) (s t:Bool) (v u:Value):∃ W2,W2=((W1.alloc (.cells #[.bool s,v] 108)).alloc (.cells #[.bool t,u] 108)) /\
  W2.cell? ⟨W1.heap.size,0,none⟩=some (.bool s)/\W2.cell? ⟨W1.heap.size,1,none⟩=some v/\W2.cell? ⟨W1.heap.size+1,0,none⟩=some (.bool t)/\W2.cell? ⟨W1.heap.size+1,1,none⟩=some u/\Below W1.heap.size W1 W2:=by
 have b1:Ds ((W1.alloc (.cells #[.bool s,v] 108)).alloc (.cells #[.bool t,u] 108)) W1.heap.size #[.bool s,v] 108:=(Ds.new W1 _ _).alloc _
 have b2:Ds ((W1.alloc (.cells #[.bool s,v] 108)).alloc (.cells #[.bool t,u] 108)) (W1.heap.size+1) #[.bool t,u] 108:=by
  have:=Ds.new (W1.alloc (.cells #[.bool s,v] 108)) #[.bool t,u] 108;rwa [Bh] at this
 exact ⟨_,rfl,b1.cell 0,b1.cell 1,b2.cell 0,b2.cell 1,GS W1 _ _⟩
theorem LM {p1 p2 p3 p4:Addr} {x1 x2 x3 x4:Value} {w W W':World} (hb:Below W.heap.size W W') (h:W.cell? p1=some x1/\W.cell? p2=some x2/\W.cell? p3=some x3/\W.cell? p4=some x4/\Below w.heap.size w W) :
  W'.cell? p1=some x1/\W'.cell? p2=some x2/\W'.cell? p3=some x3/\W'.cell? p4=some x4/\Below w.heap.size w W' :=
 ⟨DU hb h.1,DU hb h.2.1,DU hb h.2.2.1,DU hb h.2.2.2.1,Dn hb h.2.2.2.2 (Aa _)⟩
theorem RV (a b:Int):sgn (decide (a<0) != decide (b<0)) (a.natAbs*b.natAbs)=a*b:=by
 have h:=sgn_abs a;have k:=sgn_abs b;conv=>rhs;rw [<-h,<-k]
 unfold sgn;cases decide (a<0) <;> cases decide (b<0) <;> simp [Df,Int.mul_neg]
theorem mul_ok (a b:ByteArray) (w:World) (hE:Fp w) (ha:DK a=true) (hb:DK b=true) :
  Calls Tryz.prog 44 #[.string a,.string b] w (DA w fun r _=>r=EY true (zS a*zS b)):=by
 have Ba:=Eq ha
 have Bb:=Eq hb
 have Pk:=fun W=>J6 a b W ha hb
 go_enter Tryz.func44,Tryz.ntmps44
 go_wp2_with fail
 refine (Pk _).mono ?_
 rintro e W1 ⟨⟨r,rfl,v,u,rfl,⟨x,xs,rfl,hx,hnx⟩,⟨y,ys,rfl,hy,hny⟩⟩,hb1⟩
 have lx:=F5 hnx (ED Ba)
 have ly:=F5 hny (ED Bb)
 have hm:=RV (zS a) (zS b)
 obtain ⟨a1,c1,rfl⟩:=hx.shape
 obtain ⟨a2,c2,rfl⟩:=hy.shape
 generalize hs:decide (zS a<0)=s at *
 generalize ht:decide (zS b<0)=t at *
 obtain ⟨W2,hW2,h1,h2,h3,h4,h5⟩:=HG W1 s t (.slice a1 xs.length c1) (.slice a2 ys.length c2)
 go_wp2_with fail
 rw [<-hW2]
 clear hW2 hs ht
 have lx2:xs.length<=1000:=by omega
 have ly2:ys.length<=1000:=by omega
 have hzl:∀ zs,Ef 10000 zs (val 10000 xs*val 10000 ys)->zs.length<=10000:=fun zs hz=>by
  rw [hnx.val,hny.val] at hz;have h:=AI (CY (ED Ba)) (CY (ED Bb)) (hny.nonneg Ae) (by unfold GU;decide);have:=hz.length_le Ae (m:=101) (Int.lt_of_le_of_lt h (by unfold GU;decide));omega
 have hEW:∀ W,Below W1.heap.size W1 W->Fp W:=fun W hW=>hE.below (Dn hW hb1 (Aa _)) (Aa _)
 clear lx ly
 go_region_held3 (fun w'=>w'.cell? ⟨W1.heap.size,0,none⟩=some (.bool s)/\w'.cell? ⟨W1.heap.size,1,none⟩=some (.slice a1 xs.length c1)/\w'.cell? ⟨W1.heap.size+1,0,none⟩=some (.bool t)/\w'.cell? ⟨W1.heap.size+1,1,none⟩=some (.slice a2 ys.length c2)/\Below W1.heap.size W1 w')
  (first | exact LM hbt (by assumption) | exact LM hbz ⟨h1,h2,h3,h4,ES h5⟩ | exact ⟨h1,h2,h3,h4,ES h5⟩ | assumption | go_keep)
  (first | (go_at_call 83;refine (Sv _ _ xs ys _ (hx.below (by first | assumption | (apply ES;assumption))) (hy.below (by first | assumption | (apply ES;assumption))) hnx.dig hny.dig lx2 ly2).mono ?_;rintro e w' ⟨⟨r,rfl,zs,hz1,hz2⟩,hbz⟩;obtain ⟨a5,c5,rfl⟩:=hz1.shape;have hbz2:=Dn hbz (ES h5) (Aa _);have hbz3:=hEW _ hbz2;have hzl2:=hzl _ hz2) | (go_at_call 84;refine (Gc _ _ _ _ _ hbz3 hz1 hz2 hzl2).mono ?_;rintro e w2 ⟨rfl,hbt⟩;have hbt2:=Dn hbt hbz2 (Aa _)))
 have hm2:sgn (!s==t) (val 10000 xs*val 10000 ys)=zS a*zS b:=by rw [hnx.val,hny.val];exact hm
 go_wp2
 go_ret2
 exact ⟨⟨_,rfl,by rw [hm2];rfl⟩,Dn hbt2 hb1 (Aa _)⟩
theorem mul_bad (a b:ByteArray) (w:World) (h:DK a=false∨DK b=false) :
  Calls Tryz.prog 44 #[.string a,.string b] w (DA w fun r _=>r=EY false 0):=by
 have Pk:=fun W=>JV a b W h
 go_enter Tryz.func44,Tryz.ntmps44
 go_wp2_with fail
 refine (Pk _).mono ?_
 rintro e W1 ⟨⟨r,rfl,rfl⟩,hb1⟩
 go_wp2
 go_ret2
 exact ⟨⟨_,rfl,rfl⟩,Dn (GS W1 _ _) hb1 (Aa _)⟩
theorem Lh (a b:ByteArray) (w:World) (hE:Fp w) :
  Calls Tryz.prog 44 #[.string a,.string b] w (DA w fun r _=>r=EY (DK a&&DK b) (zS a*zS b)):=by
 by_cases h:DK a=true/\DK b=true
 ·rw [h.1,h.2];exact mul_ok a b w hE h.1 h.2
 ·rw [(E3 h).1];exact mul_bad a b w (E3 h).2
end
section
open Go.RowKit
theorem MA (x m:Int) (hm:0<m):sgn (decide (x<0)) (if x<0/\0<(x.natAbs:Int) % m then (x.natAbs:Int) / m+1 else (x.natAbs:Int) / m)=x / m /\
  (if x<0/\0<(x.natAbs:Int) % m then m-(x.natAbs:Int) % m else (x.natAbs:Int) % m)=x % m:=by
 have hd:=Dg (x.natAbs:Int) m
 have h0:=Cy (x.natAbs:Int) (by omega:m≠0)
 have h1:=Cu (x.natAbs:Int) hm
 generalize hq:(x.natAbs:Int) / m=q at *
 generalize hr:(x.natAbs:Int) % m=r at *
 have key:∀ Q R:Int,R+m*Q=x->0<=R->R<m->Q=x / m/\R=x % m:=fun Q R e0 e1 e2=>by
  have:=(Int.ediv_emod_unique hm).2 ⟨e0,e1,e2⟩;exact ⟨this.1.symm,this.2.symm⟩
 by_cases hx:x<0
 ·by_cases hr0:0<r
  ·rw [AU ⟨hx,hr0⟩,AU ⟨hx,hr0⟩]
   refine key _ _ ?_ Ad Ad;have e:sgn (decide (x<0)) (q+1)=-(q+1):=by simp [sgn,hx]
   rw [e,Int.mul_neg,CM];omega
  ·rw [AP (fun h=>hr0 h.2),AP (fun h=>hr0 h.2)]
   refine key _ _ ?_ h0 h1;have e:sgn (decide (x<0)) q=-q:=by simp [sgn,hx]
   rw [e,Int.mul_neg];omega
 ·rw [AP (fun h=>hx h.1),AP (fun h=>hx h.1)]
  refine key _ _ ?_ h0 h1;have e:sgn (decide (x<0)) q=q:=by simp [sgn,hx]
  rw [e];omega
theorem J7 (x y:Int) (hy:y≠0):sgn (decide (x<0) != decide (y<0)) (if x<0/\0<(x.natAbs:Int) % y.natAbs then (x.natAbs:Int) / y.natAbs+1 else (x.natAbs:Int) / y.natAbs)=x / y /\
  (if x<0/\0<(x.natAbs:Int) % y.natAbs then (y.natAbs:Int)-(x.natAbs:Int) % y.natAbs else (x.natAbs:Int) % y.natAbs)=x % y:=by
 obtain ⟨h1,h2⟩:=MA x y.natAbs Ad
 by_cases hn:y<0
 ·have e:(y.natAbs:Int)=-y:=by omega
  rw [e] at h1 h2 |-;refine ⟨?_,h2.trans (Int.emod_neg x y)⟩;have hd:x / y=-(x / -y):=by rw [Int.ediv_neg,Int.neg_neg]
  rw [hd,<-h1];unfold sgn;cases decide (x<0) <;> simp [hn]
 ·have e:(y.natAbs:Int)=y:=by omega
  rw [e] at h1 h2 |-;refine ⟨?_,h2⟩;rw [<-h1];unfold sgn;cases decide (x<0) <;> simp [hn]
theorem HI {x y:Int} (hx:Do x):Do (x / y)/\(y≠0->Do y->Do (x % y)):=by
 have hB:(0:Int)<GU:=by unfold GU;decide
 refine ⟨?_,fun h0 hy=>?_⟩
 ·have:=Int.natAbs_ediv_le_natAbs x y
  unfold Do at *;omega
 ·have h1:=Cy x h0
  have h2:=Int.emod_lt x h0;unfold Do at *;omega
def EM (x y:Int):Int:=(Int.gcd x y:Int)
theorem OZ (x y:Int):EM x.natAbs y.natAbs=EM x y:=by unfold EM;simp [Int.gcd]
theorem MW {m n:Int} (hm:0<=m) (hn:0<n):EM n (m % n)=EM m n:=by
 obtain ⟨a,rfl⟩:=CX hm;obtain ⟨b,rfl⟩:=CX (CY hn);unfold EM;have e:((a:Int) % (b:Int))=((a % b:Nat):Int):=by simp
 rw [e];simp only [Int.gcd_natCast_natCast];rw [Nat.gcd_comm b,<-Nat.gcd_rec,Nat.gcd_comm]
theorem MY {m:Int} (hm:0<=m):EM m 0=m:=by
 unfold EM;rw [Int.gcd_zero];omega
theorem P0 (x y:Int):0<=EM x y:=Int.natCast_nonneg _
theorem QD {x y:Int} (hx:Do x) (hy:Do y):Do (EM x y):=by
 have h0:=P0 x y;have hB:(0:Int)<GU:=by unfold GU;decide
 have h1:EM x y<=max x.natAbs y.natAbs:=by
  unfold EM;by_cases h:x=0
  ·subst h;rw [Int.zero_gcd];omega
  ·have:=Int.gcd_le_natAbs_left (b:=y) h
   omega
 unfold Do at *
 omega
end
end Go.Proofs.YtioamkekjjkigaaGreatDoor
