/- PkC -/
import Derived.Test.YtdkonnnmkceagaaGreatDoorZPkB
import Derived.Lib.SmallJoins
import Derived.Lib.Repeat
import Derived.Lib.AppendIntMem
import Derived.Deep.RegionHeld3
set_option maxHeartbeats 4000000
set_option maxRecDepth 100000
namespace Go.Proofs.YtdkonnnmkceagaaGreatDoor
section
open Go.RowKit
theorem Fd (s:ByteArray) (d:List UInt8) (h:body s.data.toList=d) (w:World) :
  Calls Tryz.prog 105 #[.string s,.string ⟨#[45]⟩] w fun e w'=>e=.returned (.string ⟨d.toArray⟩)/\w=w' :=
 (Tryz.strings_TrimPrefix s ⟨#[45]⟩ w).mono fun _ _ ⟨he,hw⟩=>⟨by rw [he,<-h];rfl,hw.symm⟩
theorem Pn (c:UInt8):((c.toNat:Int) != 48)=(c != 48):=by
 have:∀ k:Fin 256,(((UInt8.ofNat k.val).toNat:Int) != 48)=(UInt8.ofNat k.val != 48):=by decide +kernel
 have h:=this ⟨c.toNat,c.toNat_lt⟩;simpa using h
def tens:List UInt8:=[48,49,50,51,52,53,54,55,56,57]
theorem LE (d t:List UInt8) (h:Lib.trimS d tens=t) (hd:d.length<=9223372036854775807) (w:World) :
  Calls Tryz.prog 106 #[.string ⟨d.toArray⟩,.string ⟨#[48,49,50,51,52,53,54,55,56,57]⟩] w fun e w'=>e=.returned (.string ⟨t.toArray⟩)/\Below w.heap.size w w' :=
 (Any.strings_Trim_laid Tryz.lays160t Ab ⟨d.toArray⟩ ⟨#[48,49,50,51,52,53,54,55,56,57]⟩ w (by show d.toArray.size<=_;simpa using hd) Ae (ascii_of_all Ae)).mono fun _ _ ⟨he,hw⟩=>⟨by rw [he,<-h];rfl,hw⟩
theorem Ms {d:List UInt8}:Lib.trimS d tens=[]↔d.all FR=true:=by
 rw [Qd,Ax];unfold tens;simp only [RL]
theorem RU (l:List UInt8):(body l).length<=l.length:=by
 unfold body Lib.trimPrefix;split
 ·simp
 ·exact Aa _
theorem Mt (s:ByteArray) (w:World) :
  Calls Tryz.prog 78 #[.string s] w fun e w'=>e=.returned (.bool (DX s.data.toList))/\Below w.heap.size w w':=by
 have hbl:=RU s.data.toList
 rw [show s.data.toList.length=s.size by rw [Bc];rfl] at hbl
 generalize hv:DX s.data.toList=v
 unfold DX at hv
 cases hd:body s.data.toList with
 | nil =>
  rw [hd] at hv;have Hv:=A8 hv;have Hd:=A8 hd;clear hv hd hbl;go_enter Tryz.func78,Tryz.ntmps78;go_wp2_with (go_at_call 105;refine (Fd _ _ Hd.out _).mono ?_;rintro e w' ⟨rfl,rfl⟩);go_ret;exact ⟨D6 (by rw [<-Hv.out];rfl),Below.refl _ _⟩
 | cons c r =>
  rw [hd] at hv hbl;by_cases hlen:200<r.length+1
  ·have hvf:v=false:=by rw [<-hv,Al (show ¬ (c :: r).length<=200 by simp;omega)];simp
   subst hvf;have Hd:=A8 hd;clear hv hd;go_enter Tryz.func78,Tryz.ntmps78;go_wp2_with (go_at_call 105;refine (Fd _ _ Hd.out _).mono ?_;rintro e w' ⟨rfl,rfl⟩);go_ret;exact ⟨rfl,Below.refl _ _⟩
  ·have hlen':r.length+1<=200:=by omega
   cases ht:Lib.trimS (c :: r) tens with
   | cons t ts =>
    have hall:(c :: r).all FR=false:=by
     cases h:(c :: r).all FR with
     | false=>rfl
     | true=>rw [Ms.2 h] at ht;cases ht
    have hvf:v=false:=by rw [<-hv,hall];simp
    subst hvf;have Hd:=A8 hd;have Ht:=A8 ht;clear hv hd ht hall;go_enter Tryz.func78,Tryz.ntmps78;go_wp2_with (first
     | (go_at_call 105;refine (Fd _ _ Hd.out _).mono ?_;rintro e w' ⟨rfl,rfl⟩)
     | (go_at_call 106;refine (LE _ _ Ht.out (by simp;omega) _).mono ?_;rintro e w2 ⟨rfl,hb2⟩))
    go_ret;exact ⟨rfl,hb2⟩
   | nil =>
    have hall:=Ms.1 ht;rw [hall,Ay (show (c :: r).length<=200 by simp;omega)] at hv;have Hv:=A8 hv;have Hd:=A8 hd;have Ht:=A8 ht;clear hv hd ht hall;by_cases h0:s.data.toList=[48]
    ·have hvt:v=true:=by rw [<-Hv.out,h0];simp
     subst hvt;have h0':s.toList=[48]:=(Lib.toList_data s).trans h0;clear Hv h0;go_enter Tryz.func78,Tryz.ntmps78;go_wp2_with (first
      | (go_at_call 105;refine (Fd _ _ Hd.out _).mono ?_;rintro e w' ⟨rfl,rfl⟩)
      | (go_at_call 106;refine (LE _ _ Ht.out (by simp;omega) _).mono ?_;rintro e w2 ⟨rfl,hb2⟩))
     go_ret;exact ⟨rfl,hb2⟩
    ·have hvc:v=(c != 48):=by rw [<-Hv.out,Al h0];simp [bne];rfl
     have h0':¬ s.toList=[48]:=fun e=>h0 ((Lib.toList_data s).symm.trans e)
     have Hc:=A8 hvc;clear Hv h0 hvc;go_enter Tryz.func78,Tryz.ntmps78;go_wp2_with (first
      | (go_at_call 105;refine (Fd _ _ Hd.out _).mono ?_;rintro e w' ⟨rfl,rfl⟩)
      | (go_at_call 106;refine (LE _ _ Ht.out (by simp;omega) _).mono ?_;rintro e w2 ⟨rfl,hb2⟩))
     go_ret;refine ⟨D6 ?_,hb2⟩;rw [Hc.out,Am.2 h0',Bool.false_or];show ((c.toNat:Int) != 48)=(c != 48);exact Pn c
theorem atoi_as (t:ByteArray) (l:List UInt8) (ht:t.data.toList=l) (h0:l≠[]) (h:∀ b∈l,FR b=true) (hl:l.length<=18) (w:World) :
  Calls Tryz.prog 109 #[.string t] w fun e w'=>e=.returned (.tuple #[.int .i64 (Df l),.nilIface])/\Below w.heap.size w w':=by
 have ha:Lib.atoi l=some (Df l:Int):=by
  cases l with
  | nil=>exact absurd rfl h0
  | cons b r =>
   have hb:=Dw.1 (h b Af);have e1:(b==45)=false:=Am.2 (fun e=>by subst e;exact absurd hb.1 Ae);have e2:(b==43)=false:=Am.2 (fun e=>by subst e;exact absurd hb.1 Ae);have e3:Lib.decNat (b :: r)=some (Df (b :: r)):=by unfold Lib.decNat;rw [AF Af];exact Hy _ 0 h
   unfold Lib.atoi;simp only [e1,e2,e3];rfl
 refine (Tryz.strconv_Atoi t (Df l) (by rw [show t.size=t.data.toList.length by rw [Bc];rfl,ht];exact hl) (by rw [ht];exact ha) w).mono ?_
 rintro e w' ⟨rfl,t,rfl⟩
 exact ⟨rfl,Joins.below_bytesWorld _ _ _ _ (Aa _)⟩
theorem O7 {ds:List UInt8} {k f:Nat} {xs:List Int} (hds:∀ b∈ds,FR b=true) (hk:k<=ds.length) (hf:f<=k) (h4:k-f<=4) (hz:k-f<4->f=0) (hx:DA 10000 xs)
  (hv:Hid ((Df ds:Int)=Df (ds.take k)*10000 ^ xs.length+val 10000 xs)) :
  DA 10000 (xs++[(Df ((ds.take k).drop f):Int)])/\Hid ((Df ds:Int)=Df (ds.take f)*10000 ^ (xs++[(Df ((ds.take k).drop f):Int)]).length+val 10000 (xs++[(Df ((ds.take k).drop f):Int)])):=by
 have hc:∀ b∈(ds.take k).drop f,FR b=true:=fun b hb=>hds b (List.mem_of_mem_take (List.mem_of_mem_drop hb))
 have hl:((ds.take k).drop f).length=k-f:=by rw [List.length_drop,B9];omega
 have hlt:=Lw hc
 have hp:10 ^ ((ds.take k).drop f).length<=10 ^ 4:=C3 Ae Ad
 have e:ds.take k=ds.take f++(ds.take k).drop f:=by
  conv=>lhs;rw [<-List.take_append_drop f (ds.take k)]
  rw [List.take_take,Be hf]
 have e2:(Df (ds.take k):Int)=Df (ds.take f)*10000+Df ((ds.take k).drop f):=by
  conv=>lhs;rw [e]
  rw [Fz,hl];by_cases h:k-f<4
  ·rw [hz h];simp [Df,Lv]
  ·rw [show k-f=4 by omega];omega
 refine ⟨hx.snoc Ad Ad,?_⟩
 show (Df ds:Int)=_
 rw [hv.out,e2,DN,BP,Cb,AA]
 simp only [C4,Cf,Br,BW]
 rw [AB 10000]
 omega
theorem Qh (s:ByteArray) (ds:List UInt8) (w:World) (hd:body s.data.toList=ds) (hds:∀ b∈ds,FR b=true) (hl:ds.length<=200) :
  Calls Tryz.prog 83 #[.string s] w (CR w fun r w'=>∃ v xs,r=.agg #[.bool (decide (ds.length<s.size)),v]/\Sl w' v xs/\Dm 10000 xs (Df ds)):=by
 have Hd:=A8 hd
 clear hd
 go_enter Tryz.func83,Tryz.ntmps83
 go_wp2_with (go_at_call 105;refine (Fd _ _ Hd.out _).mono ?_;rintro e w' ⟨rfl,rfl⟩)
 go_loopw [3] (fun d wr=>∃ (t:ByteArray) (xs:List Int) (v:Value),d=.string t/\t.size<=ds.length/\Hid (t.data.toList=ds.take t.size)/\xs.length+t.size<=ds.length/\CO wr (w.heap.size+1) #[.bool (decide (ds.length<s.size)),v] 99 /\
   CO wr w.heap.size #[.bool false,.slice none 0 0] 99/\wr.ownsRow w.heap.size 3 1 v xs.length (xs.map (Value.int .i64))/\DA 10000 xs/\Hid ((Df ds:Int)=Df (ds.take t.size)*10000 ^ xs.length+val 10000 xs)/\Below w.heap.size w wr)
  (fun d _=>strLen d)
 case atStart =>
  refine ⟨⟨ds.toArray⟩,[],_,rfl,Aa _,(by rw [show (⟨ds.toArray⟩:ByteArray).size=ds.length from rfl,BM];rfl),by show [].length+ds.length<=_;simp,?_,(CO.new w _ _).alloc _,World.ownsRow_nil _ _ _ _,DA.nil _,?_,?_⟩
  ·have:=CO.new (w.alloc (.cells #[.bool false,.slice none 0 0] 99)) #[.bool (decide (ds.length<s.size)),.slice none 0 0] 99
   rwa [AP] at this
  ·show (Df ds:Int)=Df (ds.take ds.length)*_+_
   rw [BM];simp [val]
  ·exact ((Below.refl _ _).alloc (Aa _) _).alloc Af _
 case round =>
  obtain ⟨t,xs,v,rfl,hk,htd,hxk,hblk,hblk0,hown,hdig,hv,hnx⟩:=hrel;have c0:=hblk.cell 0;have c1:=hblk.cell 1;have f1:=hblk.frozen 1;simp only [BR,Cm,Cn] at c0 c1;by_cases hk0:t.size=0
  ·have Hk0:=A8 hk0
   have hk1:¬ 0<t.size:=by omega
   clear hk0;have e0:=hblk0.cell 0;have e1:=hblk0.cell 1;have ef0:=hblk0.frozen 0;have ef1:=hblk0.frozen 1;simp only [BR,Cm,Cn] at e0 e1;go_wp2_with (go_at_call 85;refine (ED _ xs _ (Sl.of_own hown)).mono ?_;rintro e w2 ⟨⟨r2,rfl,hz2,hp2⟩,rfl⟩;obtain ⟨a5,c5,rfl⟩:=hz2.shape);have hvs:∀ n,v≠.int .i64 n:=by
    rcases hown.2 with ⟨rfl,_⟩ | ⟨g,cap,cur,rfl,_⟩
    ·exact fun n e=>by cases e
    ·exact fun n e=>by cases e
   have m1:=hblk0.kept (D0 wr (w.heap.size+1) 1 (.slice a5 (trim xs).length c5)) Af;have m2:=m1.set 0 (.bool (decide (ds.length<s.size)));have m3:=m2.set 1 (.slice a5 (trim xs).length c5);have z1:=((hz2.setBlk hblk (El _ _ hvs) 1 (.slice a5 (trim xs).length c5)).setBlk m1 (El _ _ (fun n e=>by cases e)) 0 (.bool (decide (ds.length<s.size)))).setBlk m2 (El _ _ (fun n e=>by cases e)) 1 (.slice a5 (trim xs).length c5);have y0:=m3.cell 0;have y1:=m3.cell 1;simp only [A0,A6,A5,BR,Cm,Cn] at y0 y1;refine bodyPost_ret (v:=.agg #[.bool (decide (ds.length<s.size)),.slice a5 (trim xs).length c5]) (by simp [results,Tryz.results83,go_sem,y0,y1]) rfl ?_;refine ⟨⟨_,rfl,_,_,rfl,z1,?_⟩,?_⟩
   ·have hfin:=hv.out
    rw [show ds.take t.size=[] by rw [Hk0.out];rfl] at hfin;have e:(Df ds:Int)=val 10000 xs:=by rw [hfin];simp [Df,Lv]
    rw [e];exact Dm.trim hdig
   ·exact ((hnx.setCell (p:=⟨w.heap.size+1,1,none⟩) Af _).setCell (p:=⟨w.heap.size,0,none⟩) (Aa _) _).setCell (p:=⟨w.heap.size,1,none⟩) (Aa _) _
  ·have hk1:0<t.size:=by omega
   obtain ⟨f,hf⟩:∃ f,f=t.size-4:=⟨_,rfl⟩;have hf1:f<=t.size:=by omega
   have hf2:t.size<=f+4:=by omega
   have hf3:t.size<f+4->f=0:=by omega
   have hmx:max (0:Int) ((t.size:Int)-4)=(f:Int):=by omega
   have Hst:=A8 (O7 (k:=t.size) (f:=f) hds hk hf1 Ad (fun h=>hf3 Ad) hdig hv);have hch:((t.extract f t.size).data.toList)=(ds.take t.size).drop f:=by rw [Lib.extract_data,htd.out,Bf (by simp;omega)]
   have hat:=fun w0=>atoi_as (t.extract f t.size) _ hch (by intro e;have:=Bk List.length e;simp at this;omega) (fun b hb=>hds b (List.mem_of_mem_take (List.mem_of_mem_drop hb))) (by simp;omega) w0
   have Hat:=A8 hat;clear hat hf hk0 hch;have hf3':=A8 hf3;clear hf3;go_wp2_with fail;refine (Hat.out wr).mono ?_;rintro e w1 ⟨rfl,hb1⟩;have k1:=hblk.below hb1;have k0:=hblk0.below hb1;have ko:=DE hown hb1;have g1:=k1.cell 1;have gf:=k1.frozen 1;simp only [BR,Cm,Cn] at g1;have hnr:=k1.not_row Ae ko;have hnr0:=k0.not_row Ae ko;have hz1:w.heap.size<=w1.heap.size:=AN hnx.size hb1.size;generalize hD:(Df ((ds.take t.size).drop f):Int)=D at *
   clear hD;go_wp2_with (at_builtin;refine D4 D 97 Tryz.underlying97 rfl _ _ rfl rfl rfl ko Ad hz1 ?_;intro g cap' w2 hown2 hg2 hb2;have k2:=(k1.alloc (.cells #[.int .i64 D] 3)).kept hg2 hnr;have j1:=k2.cell 1;have jf:=k2.frozen 1;simp only [BR,Cm,Cn] at j1);have hex:(t.extract 0 f).data.toList=ds.take f:=by rw [Lib.extract_data,htd.out,Co,Nat.sub_zero,List.take_take,Be hf1]
   have hes:(t.extract 0 f).size=f:=by
    have e:(t.extract 0 f).size=(t.extract 0 f).data.toList.length:=by rw [Bc];rfl
    rw [e,hex,B9];omega
   have k3:=k2.set 1 (.slice (some ⟨g,0,none⟩) (xs.length+1) cap');have n2:=(k2.not_row Ae hown2);refine ⟨⟨t.extract 0 f,xs++[D],.slice (some ⟨g,0,none⟩) (xs.length+1) cap',rfl,by rw [hes];omega,by rw [hes];exact hex,by rw [hes,BP];simp;omega,k3,?_,?_,Hst.out.1,by rw [hes];exact Hst.out.2,?_⟩,?_⟩
   ·exact ((k0.alloc (.cells #[.int .i64 D] 3)).kept hg2 hnr0).kept (D0 w2 (w.heap.size+1) 1 _) Af
   ·rw [BP];exact hown2.kept (D0 w2 (w.heap.size+1) 1 _) (.inr (Ne.symm n2))
   ·exact ((hnx.trans (hb1.mono hnx.size)).trans hb2).setCell (p:=⟨w.heap.size+1,1,none⟩) Af _
   ·show (t.extract 0 f).size<t.size
    rw [hes];omega
def NK (base b:Nat) (l:List UInt8) (w:World):Prop :=
 ∃ p v,CO w b #[p,v] 147/\(p=.pointer none∨p=.pointer (some ⟨b,0,none⟩))/\w.ownsRow base 5 1 v l.length (Lib.byteCells l)
theorem NK.is {base b:Nat} {l:List UInt8} {w:World} (h:NK base b l w) {B:Nat} (hB:B<=b) (hb:B<=base):Lib.IsBuilder 147 5 B b (Lib.byteCells l) w:=by
 obtain ⟨p,v,h1,h2,h3⟩:=h;have hne:=h1.not_row Ae h3;have h3':w.ownsRow B 5 1 v (Lib.byteCells l).length (Lib.byteCells l):=by
  have e:(Lib.byteCells l).length=l.length:=by simp [Lib.byteCells]
  rw [e];refine ⟨h3.1,?_⟩;rcases h3.2 with h' | ⟨g,cap,cur,rfl,hg,hr⟩
  ·exact .inl h'
  ·exact .inr ⟨g,cap,cur,rfl,Ad,hr⟩
 rcases h2 with rfl | rfl
 ·exact .inl ⟨hB,v,h1,h3',fun e=>hne e.symm⟩
 ·exact .inr ⟨hB,v,h1,h3',fun e=>hne e.symm⟩
theorem Ic:(Tryz.prog.info? 147).map (fun j=>j.size)=some 2:=by kernel_rfl
theorem LG:liesAt Tryz.prog Tryz.prog.depth 147 (2 / Tryz.prog.cellsOf 147) 0 147 1=true:=by kernel_rfl
theorem Qi:(Tryz.prog.info? 5).map (fun i=>(i.zero,i.size,i.bytes))=some (some (.int .u8 0),1,1):=by kernel_rfl
theorem JP (b:Nat) (w:World) (h0:w.cell? ⟨b,0,none⟩=some (.pointer (some ⟨b,0,none⟩))) :
  Calls Tryz.prog 116 #[.pointer (some ⟨b,0,none⟩)] w fun e w'=>e=.returned (.tuple #[])/\w=w':=by
 obtain ⟨j,hj,_⟩:=Option.map_eq_some_iff.1 Ic
 go_enter Tryz.func116,Tryz.ntmps116
 go_wp2
 rw [Lib.run_neq_ptr_same w _ Tryz.underlying145 hj]
 go_wp2
 go_end0
 exact ⟨rfl,rfl⟩
theorem Jm (b:Nat) (w:World) (h0:w.cell? ⟨b,0,none⟩=some (.pointer none)) (hsh:w.shape? b=some (147,2)) (hfz:w.frozen? ⟨b,0,none⟩=false) :
  Calls Tryz.prog 116 #[.pointer (some ⟨b,0,none⟩)] w fun e w'=>e=.returned (.tuple #[])/\w.setCell ⟨b,0,none⟩ (.pointer (some ⟨b,0,none⟩))=w':=by
 obtain ⟨j,hj,hjs⟩:=Option.map_eq_some_iff.1 Ic
 go_enter Tryz.func116,Tryz.ntmps116
 go_wp2
 rw [Lib.run_to_unsafe w ⟨b,0,none⟩ Tryz.underlying145 Tryz.underlying187 hj (by rw [hjs];decide) hsh (Nat.zero_lt_succ 1)]
 simp only [Result.andThen]
 rw [Oper.upon_value]
 go_wp2
 rw [run_callFunc_extern Tryz.func138 Ab Ab Ab (e:=Extern.AbiNoEscape.same) Ab]
 rw [Lib.run_noEscape]
 simp only [Result.andThen]
 rw [Oper.upon_value]
 go_wp2
 rw [Lib.run_from_unsafe w ⟨b,0,none⟩ Tryz.underlying187 Tryz.underlying145 hj hsh LG]
 simp only [Result.andThen]
 rw [Oper.upon_value]
 go_wp2
 go_end0
 exact ⟨rfl,rfl⟩
structure KR (base b:Nat) (w w':World):Prop where
 os:w'.os=w.os
 tape:w'.tape=w.tape
 output:w'.output=w.output
 size:w.heap.size<=w'.heap.size
 block:∀ k,k<base->k<w.heap.size->k≠b->w'.heap[k]? = w.heap[k]?
 others:∀ (k:Nat) (o:Obj),w.heap[k]? = some o->o.isCells=false->w'.heap[k]? = some o
theorem KD {base b:Nat} {l:List UInt8} {w:World} (h:NK base b l w) :
  Calls Tryz.prog 116 #[.pointer (some ⟨b,0,none⟩)] w fun e w'=>e=.returned (.tuple #[])/\(∃ v,CO w' b #[.pointer (some ⟨b,0,none⟩),v] 147/\w'.ownsRow base 5 1 v l.length (Lib.byteCells l))/\w.grownBy w' (some b):=by
 obtain ⟨p,v,h1,h2,h3⟩:=h
 have c0:=h1.cell 0
 simp only [BR,Cm] at c0
 rcases h2 with rfl | rfl
 ·refine (Jm b w c0 (by simp [World.shape?,show w.heap[b]? = _ from h1]) (h1.frozen 0)).mono ?_
  rintro e w' ⟨rfl,rfl⟩;have hne:=h1.not_row Ae h3;refine ⟨rfl,⟨v,?_,h3.kept (D0 w b 0 _) (.inr (fun e=>hne e.symm))⟩,D0 w b 0 _⟩;have:=h1.set 0 (.pointer (some ⟨b,0,none⟩));simpa using this
 ·refine (JP b w c0).mono ?_
  rintro e w' ⟨rfl,rfl⟩;exact ⟨rfl,⟨v,h1,h3⟩,⟨rfl,rfl,rfl,Aa _,fun _ _ _=>rfl⟩⟩
theorem Gs {base b:Nat} {l:List UInt8} {w:World} (h:NK base b l w) (s:ByteArray) (hlen:l.length+s.size<=1000000) (hbase:base<=w.heap.size) :
  Calls Tryz.prog 94 #[.pointer (some ⟨b,0,none⟩),.string s] w fun e w'=>e=.returned (.tuple #[.int .i64 s.size,.nilIface])/\NK base b (l++s.data.toList) w'/\KR base b w w':=by
 obtain ⟨i0,hi,hz0,hz1,hz2⟩:=info_parts Qi
 have hbl:b<w.heap.size:=by obtain ⟨p,v,h1,_⟩:=h;exact h1.lt
 go_enter Tryz.func94,Tryz.ntmps94
 go_wp2_with (go_at_call 116;refine (KD h).mono ?_)
 rintro e w1 ⟨rfl,⟨v,h1,h3⟩,hg1⟩
 have c1:=h1.cell 1
 simp only [BR,Cm,Cn] at c1
 have hs1:=hg1.size
 have hne:=h1.not_row Ae h3
 have hlb:(Lib.byteCells l).length=l.length:=by simp [Lib.byteCells]
 go_wp2_with (at_builtin;refine Lib.wpList_append_own_string _ rfl _ _ 116 9 rfl base 5 i0 Tryz.underlying116 Tryz.underlying9 hi hz0 hz1 hz2 _ _ _ rfl h3 s rfl ?c4 ?c5 ?c6 ?_)
 case c4=>unfold maxLen;omega
 case c5=>omega
 case c6=>omega
 intro v' w2 hown' hgrow _
 have k2:=h1.kept hgrow hne
 have d1:=k2.cell 1
 have f1:=k2.frozen 1
 simp only [BR,Cm,Cn] at d1
 have hne2:=k2.not_row Ae hown'
 obtain ⟨ao,n',cap,rfl⟩:∃ ao n' cap,v'=.slice ao n' cap:=by
  rcases hown'.2 with ⟨hv,_⟩ | ⟨g,cap,cur,hv,_⟩
  ·exact ⟨_,_,_,hv⟩
  ·exact ⟨_,_,_,hv⟩
 go_wp2
 go_ret2
 have e1:(l++s.data.toList).length=l.length+s.size:=by rw [BP,Bc];rfl
 have e2:Lib.byteCells (l++s.data.toList)=Lib.byteCells l++Lib.strCells s:=by unfold Lib.byteCells Lib.strCells;rw [AO]
 refine ⟨rfl,⟨.pointer (some ⟨b,0,none⟩),.slice ao n' cap,?_,.inr rfl,?_⟩,?_⟩
 ·have:=k2.set 1 (.slice ao n' cap)
  simpa using this
 ·rw [e1,e2];exact hown'.kept (D0 w2 b 1 _) (.inr (fun e=>hne2 e.symm))
 ·have g3:=D0 w2 b 1 (.slice ao n' cap)
  have hrow:∀ k,v.ownBlock=some k->base<=k/\∃ o:Obj,w1.heap[k]? = some o/\o.isCells=true:=fun k hk=>by
   refine ⟨(h3.lt k hk).1,?_⟩;rcases h3.2 with ⟨rfl,_⟩ | ⟨g,cap',cur,rfl,_,hg,_⟩
   ·cases hk
   ·cases hk;exact ⟨_,hg,rfl⟩
  refine ⟨g3.os.trans (hgrow.os.trans hg1.os),g3.tape.trans (hgrow.tape.trans hg1.tape),g3.output.trans (hgrow.output.trans hg1.output),AN hs1 (AN hgrow.size g3.size),fun k hk hkw hkb=>?_,fun k o ho hno=>?_⟩
  ·rw [g3.block k (A9 (A9 hkw hs1) hgrow.size) (fun e=>hkb (AL e)),hgrow.block k (A9 hkw hs1) (fun e=>by have:=(hrow k e.symm).1;omega),hg1.block k hkw (fun e=>hkb (AL e))]
  ·have hkw:=(Bu.1 ho).1
   have hkb:k≠b:=fun e=>by
    subst e;obtain ⟨p,v0,h0,_⟩:=h;rw [show w.heap[k]? = _ from h0] at ho;cases ho;cases hno
   have a1:=(hg1.block k hkw (fun e=>hkb (AL e))).trans ho;have a2:some k≠v.ownBlock:=fun e=>by
    obtain ⟨_,o',ho',hc⟩:=hrow k e.symm;rw [a1] at ho';cases ho';rw [hno] at hc;cases hc
   rw [g3.block k (A9 (A9 hkw hs1) hgrow.size) (fun e=>hkb (AL e)),hgrow.block k (A9 hkw hs1) a2,a1]
theorem HG {base b:Nat} {l:List UInt8} {w:World} (h:NK base b l w) (hbb:b<=base) (hbw:b<=w.heap.size) :
  Calls Tryz.prog 95 #[.pointer (some ⟨b,0,none⟩)] w fun e w'=>e=.returned (.string ⟨l.toArray⟩)/\Below b w w'/\KeepsOthers w w':=by
 refine (Tryz.Builder_String_any_k b b l w (.of (h.is (Aa _) hbb)) hbw).mono ?_
 rintro e w' ⟨rfl,_,hb,hk⟩
 refine ⟨rfl,hb,hb.size,fun k o ho hno=>hk k o ho (fun e=>?_) (fun c fz e=>by subst e;cases hno)⟩
 cases e
 obtain ⟨p,v,h1,_⟩:=h
 rw [show w.heap[b]? = _ from h1] at ho
 cases ho;cases hno
def pad (d:Nat):List UInt8:=List.replicate (4-(Lib.decDigits d).length) 48++Lib.decDigits d
theorem Fn {d:Nat} (h:d<10000):1<=(Lib.decDigits d).length/\(Lib.decDigits d).length<=4 :=
 ⟨by have:=(De d).2.2.1;cases hd:Lib.decDigits d with
  | nil=>exact absurd hd this
  | cons=>simp,EX (k:=4) Ad Ae⟩
theorem Po {d:Nat} (h:d<10000):(pad d).length=4:=by
 have:=Fn h;unfold pad;rw [BP,List.length_replicate];omega
theorem O8 (k:Nat) (l:List UInt8):Df (List.replicate k 48++l)=Df l:=by
 induction k with
 | zero=>rfl
 | succ k ih =>
  rw [C5,BK];have:Df (48 :: (List.replicate k 48++l))=Lv ((0:Nat)*10+((48:UInt8).toNat-48)) (List.replicate k 48++l):=rfl;rw [this];exact ih
theorem JQ {m d:Nat} (hm:0<m) (hd:d<10000):Lib.decDigits (m*10000+d)=Lib.decDigits m++pad d:=by
 have sm:=De m;have sd:=De d;have hD:∀ b∈Lib.decDigits m++pad d,FR b=true:=by
  intro b hb;rcases B7.1 hb with hb | hb
  ·exact sm.2.1 b hb
  ·unfold pad at hb
   rcases B7.1 hb with hb | hb
   ·rw [(List.mem_replicate.1 hb).2];decide
   ·exact sd.2.1 b hb
 have hv:Df (Lib.decDigits m++pad d)=m*10000+d:=by
  rw [Fz,Po hd,sm.1];unfold pad;rw [O8,sd.1]
 rw [<-hv];exact EG _ hD (by intro e;exact sm.2.2.1 (List.append_eq_nil_iff.1 e).1) (by rw [Gy _ sm.2.2.1];exact sm.2.2.2 Ad)
def G2 (xs:List Int) (i:Nat):List UInt8:=if i+1<xs.length then pad (gi xs i).toNat else Lib.decDigits (gi xs i).toNat
def EA (xs:List Int) (pre:List (Fin xs.length)):List UInt8:=pre.flatMap (fun x=>G2 xs x.1)
theorem GA (xs:List Int) (pre:List (Fin xs.length)) (x:Fin xs.length):EA xs (pre++[x])=EA xs pre++G2 xs x.1:=by simp [EA]
theorem LH {xs:List Int} (h:DA 10000 xs) (i:Nat):(gi xs i).toNat<10000/\((gi xs i).toNat:Int)=gi xs i:=by
 have:=h.gi Ae i;omega
theorem Qj {xs:List Int} (h:DA 10000 xs) (i:Nat):(G2 xs i).length<=4:=by
 have:=LH h i;unfold G2;split
 ·rw [Po this.1];omega
 ·exact (Fn this.1).2
theorem O9 {xs:List Int} (h:DA 10000 xs) (pre:List (Fin xs.length)):(EA xs pre).length<=4*pre.length:=by
 induction pre with
 | nil=>simp [EA]
 | cons x pre ih =>
  have:=Qj h x.1;have e:EA xs (x :: pre)=G2 xs x.1++EA xs pre:=by simp [EA]
  rw [e,BP,C4];omega
theorem Js {xs:List Int} {i:Nat} (h:i<xs.length):xs.drop i=gi xs i :: xs.drop (i+1):=by
 rw [Hi h];exact Cp h
theorem DA.drop {b:Int} {xs:List Int} (h:DA b xs) (k:Nat):DA b (xs.drop k):=fun x hx=>h x (List.mem_of_mem_drop hx)
theorem Id {xs:List Int} (h:DA 10000 xs) (ht:Top xs):∀ k,k+1<=xs.length ->
  0<val 10000 (xs.drop (xs.length-(k+1)))/\EA xs (CZ xs.length (k+1))=Lib.decDigits (val 10000 (xs.drop (xs.length-(k+1)))).toNat
 | 0,hk=>by
  have e:xs.length-(0+1)=xs.length-1:=by omega
  have hg:=LH h (xs.length-1);have h0:=ht (xs.length-1) Ad;have hv:val 10000 (xs.drop (xs.length-(0+1)))=gi xs (xs.length-1):=by
   rw [e,Js Ad,List.drop_eq_nil_of_le Ad];simp [val]
  have hd:EA xs (CZ xs.length (0+1))=G2 xs (xs.length-1):=by rw [DU Ad];simp [EA,CZ]
  rw [hv,hd];refine ⟨Ad,?_⟩;unfold G2;rw [AF Ad]
 | k+1,hk=>by
  obtain ⟨ih1,ih2⟩:=Id h ht k Ad;have hg:=LH h (xs.length-1-(k+1));have e:xs.length-(k+1+1)=xs.length-1-(k+1):=by omega
  have e2:xs.length-1-(k+1)+1=xs.length-(k+1):=by omega
  have hv:val 10000 (xs.drop (xs.length-(k+1+1)))=gi xs (xs.length-1-(k+1))+10000*val 10000 (xs.drop (xs.length-(k+1))):=by
   rw [e,Js Ad,e2];rfl
  rw [DU Ad,GA,ih2];refine ⟨by rw [hv];omega,?_⟩;show _++G2 xs (xs.length-1-(k+1))=_;unfold G2;rw [AI Ad,<-JQ Ad hg.1,hv];congr 1;omega
theorem Oa {xs:List Int} {n:Int} (h:Dm 10000 xs n) (h0:xs.length≠0):EA xs (CZ xs.length xs.length)=Lib.decDigits n.toNat/\0<n:=by
 obtain ⟨k,hk⟩:∃ k,xs.length=k+1:=⟨xs.length-1,Ad⟩;have hc:=Id h.dig h.top k Ad;have e:xs.length-(k+1)=0:=by omega
 rw [e,Co,h.val,<-hk] at hc;exact ⟨hc.2,hc.1⟩
theorem Mu (k:Nat):Lib.repeatL [48] k=List.replicate k 48:=by
 induction k with
 | zero=>rfl
 | succ k ih=>rw [C5,<-ih];rfl
def Cw (z:Int):Prop:=-FB<z/\z<FB
instance (z:Int):Decidable (Cw z):=inferInstanceAs (Decidable (_/\_))
def Ie (z:Int):List UInt8:=if Cw z then Lib.itoa z else []
def Md (z:Int):Int:=if Cw z then 0 else 30
def Do (b:Bool) (n:Int):Int:=if b then -n else n
theorem KS {b:Bool} {n:Int} (h:0<=n):Cw (Do b n)↔n<FB:=by
 have hB:(0:Int)<FB:=by unfold FB;decide
 unfold Cw Do;cases b
 ·simp;omega
 ·simp;omega
theorem Ob {n:Int} (h:0<n):200<(Lib.decDigits n.toNat).length↔¬ n<FB:=by
 constructor
 ·intro hl hb
  have:n.toNat<10 ^ 200:=by unfold FB at hb;omega
  have:=EX this Ae;omega
 ·intro hb
  have:10 ^ 200<=n.toNat:=by unfold FB at hb;omega
  exact IE this
def CI (z:Int):Prop:=-9223372036854775808<=z/\z<=9223372036854775807
instance (z:Int):Decidable (CI z):=by unfold CI;infer_instance
end
section
open Go.RowKit Go.Shelf
attribute [local go_sem] Oper.semAt_some
structure Dv (w:World):Prop where
 tab : Lib.TabIs Tryz.prog w "internal/strconv.uint64pow10" .u64 Lib.pow10Tab
theorem Oc : (Tryz.prog.globalNamed "internal/strconv.uint64pow10").isSome = true := by kernel_rfl
theorem Dv.below {w w':World} {B:Nat} (h:Dv w) (hb:Below B w w') (hB:w.heap.size<=B):Dv w':=by
 obtain ⟨g,hg⟩:=Option.isSome_iff_exists.1 Oc;exact ⟨Joins.tab_stays hg h.tab hb hB⟩
theorem itoa_as {n:Int} (h0:0<=n) (h1:n<10000) {w:World} (hE:Dv w) :
  Calls Tryz.prog 70 #[.int .i64 n] w fun e w'=>e=.returned (.string ⟨(Lib.decDigits n.toNat).toArray⟩)/\Below w.heap.size w w':=by
 refine (Tryz.strconv_Itoa n Ad Ad w hE.tab).mono ?_
 rintro e w' ⟨rfl,k,os,rfl⟩
 exact ⟨by rw [Dx h0],Lib.below_grow _ w (Aa _) k os⟩
theorem Qk {d:Int} (h0:0<=d) (h4:d<=4) {w:World} :
  Calls Tryz.prog 93 #[.string ⟨#[48]⟩,.int .i64 d] w fun e w'=>e=.returned (.string ⟨(List.replicate d.toNat 48).toArray⟩)/\Below w.heap.size w w':=by
 obtain ⟨k,rfl⟩:=Cd h0
 refine (Tryz.strings_Repeat ⟨#[48]⟩ k w Ad (by show 1*k<=_;omega)).mono ?_
 rintro e w' ⟨rfl,hb⟩
 exact ⟨by rw [show ((k:Int)).toNat=k from rfl,<-Mu],hb⟩
theorem KR.keeps {base b:Nat} {w w':World} (h:KR base b w w'):KeepsOthers w w':=⟨h.size,h.others⟩
theorem Mv {w w':World} (h:Below w.heap.size w w'):KeepsOthers w w':=⟨h.size,fun k _ hk _=>(h.block k (Bu.1 hk).1).trans hk⟩
theorem If (a b:Array UInt8):(⟨a⟩++⟨b⟩:ByteArray)=⟨(a.toList++b.toList).toArray⟩:=by
 apply An;simp
theorem Od (l:List UInt8):(⟨l.toArray⟩:ByteArray).size=l.length:=rfl
theorem NK.cellsKept {base b:Nat} {l:List UInt8} {W W':World} (h:NK base b l W) (k:CS W W'):NK base b l W':=by
 obtain ⟨p,v,h1,h2,h3⟩:=h;exact ⟨p,v,k.2 _ _ h1 rfl,h2,k.own h3⟩
theorem NK.below {base b:Nat} {l:List UInt8} {W W':World} (h:NK base b l W) (k:Below W.heap.size W W'):NK base b l W':=by
 obtain ⟨p,v,h1,h2,h3⟩:=h;exact ⟨p,v,h1.below k,h2,DE h3 k⟩
theorem KR.only {base b:Nat} {w W W':World} (h:KR base b W W') (hw:w.heap.size<=base) (ho:CG [b] w W):CG [b] w W' :=
 ⟨h.os.trans ho.os,h.tape.trans ho.tape,h.output.trans ho.output,AN ho.size h.size,fun k hk hs=>(h.block k (A9 hk hw) (A9 hk ho.size) (by simpa using hs)).trans (ho.block k hk hs)⟩
theorem Ql (neg:Bool) (v:Value) (w:World) (hv:Sl w v []) :
  Calls Tryz.prog 58 #[.agg #[.bool neg,v]] w fun e w'=>e=.returned (.tuple #[.string ⟨#[48]⟩,.int .i64 0])/\Below w.heap.size w w':=by
 obtain ⟨a1,c1,rfl⟩:=hv.shape
 refine (callsIn_wide (n:=5)).1 ?_
 refine callsIn_of_wp_marks Tryz.func58 rfl trivial ?_ rfl
 simp only [Tryz.ntmps58,Bg,C4,Cf,Nat.reduceAdd,Nat.reduceSub,Cg,Ch,Ci,Cj,BC,BK]
 gi_wp2_with fail
 exact ⟨.tuple #[.string ⟨#[48]⟩,.int .i64 0],by simp [results,Tryz.results58,go_sem],rfl,(Below.refl _ _).alloc (Aa _) _⟩
theorem RV (neg:Bool) (v:Value) (xs:List Int) (n:Int) (w:World) (hE:Dv w) (hv:Sl w v xs) (hn:Dm 10000 xs n) (hl:xs.length<=10000) (h0:xs.length≠0) :
  Calls Tryz.prog 58 #[.agg #[.bool neg,v]] w fun e w'=>e=.returned (.tuple #[.string ⟨(Ie (Do neg n)).toArray⟩,.int .i64 (Md (Do neg n))])/\Below w.heap.size w w':=by
 have hw0:Below w.heap.size w (((w.alloc (.cells #[.bool neg,v] 99)).alloc (.cells #[.pointer none,.slice none 0 0] 147)).alloc (.cells #[v] 97)):=(((Below.refl _ _).alloc (Aa _) _).alloc Af _).alloc (by simp;omega) _
 have hv0:=hv.below hw0
 have hvp:=hv.ptr_lt
 have b1:CO (((w.alloc (.cells #[.bool neg,v] 99)).alloc (.cells #[.pointer none,.slice none 0 0] 147)).alloc (.cells #[v] 97)) w.heap.size #[.bool neg,v] 99:=((CO.new w _ _).alloc _).alloc _
 have b2:CO (((w.alloc (.cells #[.bool neg,v] 99)).alloc (.cells #[.pointer none,.slice none 0 0] 147)).alloc (.cells #[v] 97)) (w.heap.size+1) #[.pointer none,.slice none 0 0] 147:=by
  have:=(CO.new (w.alloc (.cells #[.bool neg,v] 99)) #[.pointer none,.slice none 0 0] 147).alloc (.cells #[v] 97);rwa [AP] at this
 have b3:Boxed (((w.alloc (.cells #[.bool neg,v] 99)).alloc (.cells #[.pointer none,.slice none 0 0] 147)).alloc (.cells #[v] 97)) (w.heap.size+1+1) 97 v:=by
  have:=Boxed.new ((w.alloc (.cells #[.bool neg,v] 99)).alloc (.cells #[.pointer none,.slice none 0 0] 147)) 97 v;rwa [AP,AP] at this
 obtain ⟨a1,c1,rfl⟩:=hv.shape
 have hne:((xs.length:Int)==0)=false:=by rw [Am];omega
 have Hall:=A8 (Oa hn h0)
 clear h0
 refine (callsIn_wide (n:=5)).1 ?_
 refine callsIn_of_wp_marks Tryz.func58 rfl trivial ?_ rfl
 simp only [Tryz.ntmps58,Bg,C4,Cf,Nat.reduceAdd,Nat.reduceSub,Cg,Ch,Ci,Cj,BC,BK]
 gi_wp2_with (refine ⟨trivial,?_⟩;gi_at_call 84;refine (Jr Fence.wide 4 trivial rfl _ _ ⟨_,_,_,rfl⟩).mono ?_;rintro e w' ⟨rfl,rfl⟩)
 have hown0:∀ W:World,W.ownsRow (w.heap.size+1+1+1) 5 1 (.slice none 0 0) 0 (Lib.byteCells []):=fun W=>World.ownsRow_nil _ _ _ _
 have hsz:(((w.alloc (.cells #[.bool neg,.slice a1 xs.length c1] 99)).alloc (.cells #[.pointer none,.slice none 0 0] 147)).alloc (.cells #[.slice a1 xs.length c1] 97)).heap.size=w.heap.size+1+1+1:=by simp
 refine Mi (w.heap.size+1+1) [w.heap.size+1] (.slice a1 xs.length c1) xs rfl b3.cell hv0 Af (fun b o e=>by have:=hvp b o e;simp;omega) rfl
  (fun pre W=>CO W w.heap.size #[.bool neg,.slice a1 xs.length c1] 99/\NK (w.heap.size+1+1+1) (w.heap.size+1) (EA xs pre) W)
  (fun pre W=>False)
  (fun pre W W' h k=>⟨k.2 _ _ h.1 rfl,h.2.cellsKept k⟩) (fun pre W W' h k=>h)
  ⟨b1,_,_,b2,.inl rfl,hown0 _⟩
  (fun x=>{ tmps:=#[.agg #[.bool neg,.slice a1 xs.length c1],.pointer (some ⟨w.heap.size,0,none⟩),.string ⟨#[]⟩,.int .i64 0,.pointer (some ⟨w.heap.size+1,0,none⟩),.int .i64 (x.1:Int),.int .i64 (gi xs x.1),undef,undef,
   .pointer (some ⟨w.heap.size,1,none⟩),.slice a1 xs.length c1,.int .i64 xs.length,.bool false,.pointer (some ⟨w.heap.size,1,none⟩),.slice a1 xs.length c1,.func (.func 110) #[] #[.pointer (some ⟨w.heap.size+1+1,0,none⟩)],
   .int .i64 (x.1:Int),.int .i64 (gi xs x.1),undef,undef,undef,undef,undef,undef,undef,undef,undef,undef,undef,undef,undef,undef,undef,undef,undef,undef,undef,undef,undef,undef,undef,undef,undef],defers:=[] }) ?assign ?body ?done ?stop
 case assign =>
  intro l x W K hK;gi_wp2;exact hK
 case body =>
  rintro l pre x W ho ⟨h1,h2⟩ hlen;have hbw:Below w.heap.size w W:=hw0.trans (ho.toBelow (by rw [hsz];omega) Af);have hEW:=hE.below hbw (Aa _);have hg:=LH hn.dig x.1;have hd4:=Fn hg.1;have hlc:=O9 hn.dig pre;have hsw:=ho.size;rw [hsz] at hsw;have Hit:=fun W hE'=>itoa_as (n:=gi xs x.1) Ad Ad (w:=W) hE'
  generalize hds:Lib.decDigits (gi xs x.1).toNat=ds at *
  have hds2:(⟨ds.toArray⟩:ByteArray).size=ds.length:=rfl;have hfin:∀ W2 W3,Below W.heap.size W W2->KR (w.heap.size+1+1+1) (w.heap.size+1) W2 W3->NK (w.heap.size+1+1+1) (w.heap.size+1) (EA xs (pre++[x])) W3 ->
    KeepsOthers W W3/\CG [w.heap.size+1] (((w.alloc (.cells #[.bool neg,.slice a1 xs.length c1] 99)).alloc (.cells #[.pointer none,.slice none 0 0] 147)).alloc (.cells #[.slice a1 xs.length c1] 97)) W3 /\
    CO W3 w.heap.size #[.bool neg,.slice a1 xs.length c1] 99/\NK (w.heap.size+1+1+1) (w.heap.size+1) (EA xs (pre++[x])) W3:=fun W2 W3 hb hwr hbl =>
   ⟨(Mv hb).trans hwr.keeps,hwr.only (by rw [hsz];omega) (ho.below hb),(hwr.block _ Ad (h1.below hb).lt Ad).trans (h1.below hb),hbl⟩
  by_cases hlast:(x.1:Int)<(xs.length:Int)-1
  ·have hch:G2 xs x.1=List.replicate (4-ds.length) 48++ds:=by unfold G2;rw [AI Ad];unfold pad;rw [hds]
   have Hch:=A8 hch;clear hch;gi_wp2_with (refine ⟨trivial,?_⟩;gi_at_call 70;refine (CallsIn.inRound l (callsIn_wide.2 (Hit _ hEW))).mono ?_;rintro e W1 ⟨rfl,hb1⟩;have k1:=h1.below hb1;have k2:=h2.below hb1;have g1:=k1.cell 1;simp only [BR,Cm,Cn] at g1);refine ⟨trivial,(CallsIn.inRound l (callsIn_wide.2 (Qk Ad Ad))).mono ?_⟩;rintro e W2 ⟨rfl,hb2⟩;have k3:=k2.below hb2;gi_wp2_with fail;simp only [If];refine ⟨trivial,(CallsIn.inRound l (callsIn_wide.2 (Gs k3 _ (by rw [Od];simp;omega) (by have:=hb1.size;have:=hb2.size;omega)))).mono ?_⟩;rintro e W3 ⟨rfl,hbl,hwr⟩;gi_wp2_with fail;refine hfin _ _ (hb1.trans (hb2.mono hb1.size)) hwr ?_;rw [GA,Hch.out];rw [Array.toList_replicate] at hbl;exact hbl
  ·have hch:G2 xs x.1=ds:=by unfold G2;rw [AF Ad];exact hds
   have Hch:=A8 hch;clear hch;gi_wp2_with (refine ⟨trivial,?_⟩;gi_at_call 70;refine (CallsIn.inRound l (callsIn_wide.2 (Hit _ hEW))).mono ?_;rintro e W1 ⟨rfl,hb1⟩;have k1:=h1.below hb1;have k2:=h2.below hb1;have g1:=k1.cell 1;simp only [BR,Cm,Cn] at g1);refine ⟨trivial,(CallsIn.inRound l (callsIn_wide.2 (Gs k2 ⟨ds.toArray⟩ (by rw [hds2];omega) (by have:=hb1.size;omega)))).mono ?_⟩;rintro e W3 ⟨rfl,hbl,hwr⟩;gi_wp2_with fail;exact hfin _ _ hb1 hwr (by rw [GA,Hch.out];exact hbl)
 case done =>
  rintro D W hD ho ⟨h1,h2⟩ hK;rw [Hall.out.1] at h2;have hpos:=Hall.out.2;have hsw:=ho.size;rw [hsz] at hsw hD;have hdb:=Ob hpos;have hsm:=KS (b:=neg) (n:=n) Ad;have hin:n.natAbs=n.toNat:=by omega
  have hfin:∀ W1,Below (w.heap.size+1) W W1->Below w.heap.size w (W1.putObj D (.deferred none)):=fun W1 hb =>
   hw0.trans ((((ho.toBelow (B:=w.heap.size) (by rw [hsz];omega) Af).trans (hb.mono Ad))).grown (grownBy_putObj' W1 D _) (by have:=hb.size;omega) (fun k e=>by cases e;omega))
  by_cases hc:(200:Int)<((Lib.decDigits n.toNat).length:Int)
  ·have ht:Ie (Do neg n)=[]/\Md (Do neg n)=30:=by
    have:¬ Cw (Do neg n):=by rw [hsm];exact hdb.1 Ad
    exact ⟨AF this,AF this⟩
   have Ht:=A8 ht
   clear ht hsm hdb
   gi_wp2_with (refine ⟨trivial,?_⟩;gi_at_call 95;refine (callsIn_wide.2 (HG h2 Ad Ad)).mono ?_;rintro e W1 ⟨rfl,hb1,hk1⟩;have k1:=(hb1.block _ Ad).trans h1;have g0:=CO.cell k1 0;have g1:=CO.cell k1 1;simp only [BR,Cm,Cn] at g0 g1)
   exact DW (hk1.same D _ hK rfl) (v:=.tuple #[.string ⟨#[]⟩,.int .i64 30]) (by simp [results,Tryz.results58,go_sem]) ⟨by rw [Ht.out.1,Ht.out.2],hfin _ hb1⟩
  ·have ht:Ie (Do neg n)=Lib.itoa (Do neg n)/\Md (Do neg n)=0:=by
    have:Cw (Do neg n):=by
     rw [hsm];by_cases e:n<FB
     ·exact e
     ·exact absurd (hdb.2 e) Ad
    exact ⟨AI this,AI this⟩
   clear hsm hdb
   cases neg
   ·have hj:Lib.itoa (Do false n)=Lib.decDigits n.toNat:=Dx (n:=n) Ad
    rw [hj] at ht;have Ht:=A8 ht;clear ht hj;gi_wp2_with (refine ⟨trivial,?_⟩;gi_at_call 95;refine (callsIn_wide.2 (HG h2 Ad Ad)).mono ?_;rintro e W1 ⟨rfl,hb1,hk1⟩;have k1:=(hb1.block _ Ad).trans h1;have g0:=CO.cell k1 0;have g1:=CO.cell k1 1;simp only [BR,Cm,Cn] at g0 g1);exact DW (hk1.same D _ hK rfl) (v:=.tuple #[.string ⟨(Lib.decDigits n.toNat).toArray⟩,.int .i64 0]) (by simp [results,Tryz.results58,go_sem]) ⟨by rw [Ht.out.1,Ht.out.2],hfin _ hb1⟩
   ·have hj:Lib.itoa (Do true n)=45 :: Lib.decDigits n.toNat:=by
     have e:Do true n=-n:=rfl;rw [FW (by rw [e];omega),e,Int.natAbs_neg,hin]
    rw [hj] at ht
    have Ht:=A8 ht
    clear ht hj
    gi_wp2_with (refine ⟨trivial,?_⟩;gi_at_call 95;refine (callsIn_wide.2 (HG h2 Ad Ad)).mono ?_;rintro e W1 ⟨rfl,hb1,hk1⟩;have k1:=(hb1.block _ Ad).trans h1;have g0:=CO.cell k1 0;have g1:=CO.cell k1 1;simp only [BR,Cm,Cn] at g0 g1)
    simp only [If]
    exact DW (hk1.same D _ hK rfl) (v:=.tuple #[.string ⟨(45 :: Lib.decDigits n.toNat).toArray⟩,.int .i64 0]) (by simp [results,Tryz.results58,go_sem]) ⟨by rw [Ht.out.1,Ht.out.2],hfin _ hb1⟩
 case stop =>
  rintro D k W hk hD ho h hK;exact h.elim
theorem Eu (neg:Bool) (v:Value) (xs:List Int) (n:Int) (w:World) (hE:Dv w) (hv:Sl w v xs) (hn:Dm 10000 xs n) (hl:xs.length<=10000) :
  Calls Tryz.prog 58 #[.agg #[.bool neg,v]] w fun e w'=>e=.returned (.tuple #[.string ⟨(Ie (Do neg n)).toArray⟩,.int .i64 (Md (Do neg n))])/\Below w.heap.size w w':=by
 by_cases h0:xs.length=0
 ·have h0':=AS h0
  have hz:=(hn.zero_iff Ae).1 h0';subst h0' hz;have e:Do neg 0=0:=by cases neg <;> rfl
  have hs:Cw 0:=by unfold Cw FB;decide
  have e1:Ie (Do neg 0)=[48]:=by rw [e];unfold Ie;rw [AI hs,Dx Ad,DF Ae];decide
  have e2:Md (Do neg 0)=0:=by rw [e];unfold Md;rw [AI hs]
  rw [e1,e2];exact Ql neg v w hv
 ·exact RV neg v xs n w hE hv hn hl h0
end
section
open Go.RowKit
attribute [local go_sem] Oper.semAt_some
def Sg (w:World) (v:Value) (z:Int):Prop:=∃ neg u xs n,v=.agg #[.bool neg,u]/\Sl w u xs/\Dm 10000 xs n/\z=Do neg n
theorem HI (w:World) (s t:Bool) (v u:Value):∃ W0,W0=(((w.alloc (.cells #[.bool s,v] 99)).alloc (.cells #[.bool t,u] 99)).alloc (.cells #[.bool false,.slice none 0 0] 99)) /\
  W0.cell? ⟨w.heap.size,0,none⟩=some (.bool s)/\W0.cell? ⟨w.heap.size,1,none⟩=some v/\W0.cell? ⟨w.heap.size+1,0,none⟩=some (.bool t)/\W0.cell? ⟨w.heap.size+1,1,none⟩=some u /\
  CO W0 (w.heap.size+1+1) #[.bool false,.slice none 0 0] 99/\Below w.heap.size w W0:=by
 have b1:CO (((w.alloc (.cells #[.bool s,v] 99)).alloc (.cells #[.bool t,u] 99)).alloc (.cells #[.bool false,.slice none 0 0] 99)) w.heap.size #[.bool s,v] 99:=((CO.new w _ _).alloc _).alloc _
 have b2:CO (((w.alloc (.cells #[.bool s,v] 99)).alloc (.cells #[.bool t,u] 99)).alloc (.cells #[.bool false,.slice none 0 0] 99)) (w.heap.size+1) #[.bool t,u] 99:=by
  have:=(CO.new (w.alloc (.cells #[.bool s,v] 99)) #[.bool t,u] 99).alloc (.cells #[.bool false,.slice none 0 0] 99);rwa [AP] at this
 have b3:CO (((w.alloc (.cells #[.bool s,v] 99)).alloc (.cells #[.bool t,u] 99)).alloc (.cells #[.bool false,.slice none 0 0] 99)) (w.heap.size+1+1) #[.bool false,.slice none 0 0] 99:=by
  have:=CO.new ((w.alloc (.cells #[.bool s,v] 99)).alloc (.cells #[.bool t,u] 99)) #[.bool false,.slice none 0 0] 99;rwa [AP,AP] at this
 exact ⟨_,rfl,b1.cell 0,b1.cell 1,b2.cell 0,b2.cell 1,b3,(((Below.refl _ _).alloc (Aa _) _).alloc Af _).alloc (by simp;omega) _⟩
structure PK (w W:World):Prop where
 blk:CO W (w.heap.size+1+1) #[.bool false,.slice none 0 0] 99
 below:Below w.heap.size w W
theorem PK.drew {w W:World} (h:PK w W):PK w W.drew:=⟨h.blk,h.below.trans ((CN W 1).mono h.below.size)⟩
theorem PK.call {w W W':World} (hb:Below W.heap.size W W') (h:PK w W):PK w W':=⟨h.blk.below hb,h.below.trans (hb.mono h.below.size)⟩
theorem CV {W W':World} {p:Addr} {v:Value} (hb:Below W.heap.size W W') (h:W.cell? p=some v):W'.cell? p=some v:=(hb.cell (Ck W _ h)).trans h
theorem DH {B:Nat} {w W:World} (h:Below B w W):Below B w W.drew:=⟨h.os,h.tape,h.output,h.size,h.block⟩
theorem far2 {W:World} {b B i:Nat} {v:Value} (h:W.cell? ⟨b,i,none⟩=some v) (hne:b≠B) (x y:Value):((W.setCell ⟨B,0,none⟩ x).setCell ⟨B,1,none⟩ y).cell? ⟨b,i,none⟩=some v :=
 ((World.cell?_of_block (a:=⟨b,i,none⟩) (w:=W.setCell ⟨B,0,none⟩ x) (Below.heap_setCell (W.setCell ⟨B,0,none⟩ x) ⟨B,1,none⟩ y b hne)).trans (World.cell?_of_block (a:=⟨b,i,none⟩) (w:=W) (Below.heap_setCell W ⟨B,0,none⟩ x b hne))).trans h
theorem LI {w W:World} {x1 x2 x3 x4:Value} (h:W.cell? ⟨w.heap.size,0,none⟩=some x1/\W.cell? ⟨w.heap.size,1,none⟩=some x2/\W.cell? ⟨w.heap.size+1,0,none⟩=some x3/\W.cell? ⟨w.heap.size+1,1,none⟩=some x4/\Below w.heap.size w W) (x y:Value) :
  ((W.setCell ⟨w.heap.size+1+1,0,none⟩ x).setCell ⟨w.heap.size+1+1,1,none⟩ y).cell? ⟨w.heap.size,0,none⟩=some x1/\((W.setCell ⟨w.heap.size+1+1,0,none⟩ x).setCell ⟨w.heap.size+1+1,1,none⟩ y).cell? ⟨w.heap.size,1,none⟩=some x2 /\
  ((W.setCell ⟨w.heap.size+1+1,0,none⟩ x).setCell ⟨w.heap.size+1+1,1,none⟩ y).cell? ⟨w.heap.size+1,0,none⟩=some x3/\((W.setCell ⟨w.heap.size+1+1,0,none⟩ x).setCell ⟨w.heap.size+1+1,1,none⟩ y).cell? ⟨w.heap.size+1,1,none⟩=some x4 /\
  Below w.heap.size w ((W.setCell ⟨w.heap.size+1+1,0,none⟩ x).setCell ⟨w.heap.size+1+1,1,none⟩ y) :=
 ⟨far2 h.1 Ad _ _,far2 h.2.1 Ad _ _,far2 h.2.2.1 Ad _ _,far2 h.2.2.2.1 Ad _ _,
  (h.2.2.2.2.setCell (p:=⟨w.heap.size+1+1,0,none⟩) (Cq w.heap.size 2) x).setCell (p:=⟨w.heap.size+1+1,1,none⟩) (Cq w.heap.size 2) y⟩
theorem Cv {B:Nat} {w W W':World} (hb:Below W.heap.size W W') (h:Below B w W) (hB:B<=w.heap.size):Below B w W':=h.trans (hb.mono (AN hB h.size))
theorem KE (s t:Bool) (v u:Value) (xs ys:List Int) (m n:Int) (w:World) (hv:Sl w v xs) (hu:Sl w u ys) (hx:Dm 10000 xs m) (hy:Dm 10000 ys n) (hlx:xs.length<=100000) (hly:ys.length<=100000) (hst:s=t) :
  Calls Tryz.prog 108 #[.agg #[.bool s,v],.agg #[.bool t,u]] w (CR w fun r w'=>Sg w' r (Do s m+Do t n)):=by
 obtain ⟨a1,c1,rfl⟩:=hv.shape
 obtain ⟨a2,c2,rfl⟩:=hu.shape
 subst hst
 obtain ⟨W0,hW0,h1,h2,h3,h4,h5,hb⟩:=HI w s s (.slice a1 xs.length c1) (.slice a2 ys.length c2)
 have hpk:PK w W0:=⟨h5,hb⟩
 clear h5
 go_enter Tryz.func108,Tryz.ntmps108
 go_wp2_with fail
 rw [<-hW0]
 clear hW0
 go_region_held3 (fun w'=>w'.cell? ⟨w.heap.size,0,none⟩=some (.bool s)/\w'.cell? ⟨w.heap.size,1,none⟩=some (.slice a1 xs.length c1)/\w'.cell? ⟨w.heap.size+1,0,none⟩=some (.bool s)/\w'.cell? ⟨w.heap.size+1,1,none⟩=some (.slice a2 ys.length c2)/\Below w.heap.size w w')
  (first | (exact LI (by assumption) _ _) | (refine ⟨?_,?_,?_,?_,?_⟩ <;> first | assumption | (with_reducible apply DH;assumption) | (with_reducible exact PK.below (by assumption)) | (apply CV <;> assumption) | go_keep))
  (first | (go_at_call 55;refine (I7 _ _ xs ys _ (hv.below (by first | assumption | (apply DH;assumption))) (hu.below (by first | assumption | (apply DH;assumption))) hx.dig hy.dig hlx hly).mono ?_;rintro e w' ⟨⟨r,rfl,zs,hz1,hz2,hz3⟩,hbz⟩;obtain ⟨a5,c5,rfl⟩:=hz1.shape;have kk:=PK.call hbz (PK.drew hpk);have k0:=kk.blk.cell 0;have k1:=kk.blk.cell 1;have f0:=kk.blk.frozen 0;have f1:=kk.blk.frozen 1;simp only [BR,Cm,Cn] at k0 k1))
 have m1:=kk.blk.set 0 (.bool s)
 have m2:=m1.set 1 (.slice a5 zs.length c5)
 have y0:=m2.cell 0
 have y1:=m2.cell 1
 simp only [A0,A6,A5,BR,Cm,Cn] at y0 y1
 have z1:=(hz1.setBlk kk.blk (El _ _ (fun n e=>by cases e)) 0 (.bool s)).setBlk m1 (El _ _ (fun n e=>by cases e)) 1 (.slice a5 zs.length c5)
 have hfin:Below w.heap.size w ((w'.setCell ⟨w.heap.size+1+1,0,none⟩ (.bool s)).setCell ⟨w.heap.size+1+1,1,none⟩ (.slice a5 zs.length c5)):=(kk.below.setCell (p:=⟨w.heap.size+1+1,0,none⟩) (Cq w.heap.size 2) _).setCell (p:=⟨w.heap.size+1+1,1,none⟩) (Cq w.heap.size 2) _
 go_wp2
 refine bodyPost_ret (v:=.agg #[.bool s,.slice a5 zs.length c5]) (by simp [results,Tryz.results108,go_sem,y0,y1]) rfl ?_
 refine ⟨⟨_,rfl,s,_,_,_,rfl,z1,hz2,?_⟩,hfin⟩
 rw [hx.val,hy.val]
 unfold Do
 split
 ·omega
 ·rfl
theorem Mw (s t:Bool) (v u:Value) (xs ys:List Int) (m n:Int) (w:World) (hv:Sl w v xs) (hu:Sl w u ys) (hx:Dm 10000 xs m) (hy:Dm 10000 ys n) (hlx:xs.length<=100000) (hst:s≠t) (hle:n<=m) :
  Calls Tryz.prog 108 #[.agg #[.bool s,v],.agg #[.bool t,u]] w (CR w fun r w'=>Sg w' r (Do s m+Do t n)):=by
 obtain ⟨a1,c1,rfl⟩:=hv.shape
 obtain ⟨a2,c2,rfl⟩:=hu.shape
 obtain ⟨W0,hW0,h1,h2,h3,h4,h5,hb⟩:=HI w s t (.slice a1 xs.length c1) (.slice a2 ys.length c2)
 have hpk0:PK w W0:=⟨h5,hb⟩
 have hcb:(s==t)=false:=by cases s <;> cases t <;> simp_all
 have Hst:=A8 hst
 have hcm:=Gz hx hy
 have hc0:(0:Int)<=Lib.compareInt m n:=by
  rcases Int.lt_or_eq_of_le hle with h | rfl
  ·rw [Cz h];decide
  ·rw [CU];decide
 have Hle:=A8 hle
 have Hlen:=A8 (hy.len_le Ae hx hle)
 clear hst hle h5
 go_enter Tryz.func108,Tryz.ntmps108
 go_wp2_with fail
 rw [<-hW0]
 clear hW0
 refine (F0 _ _ xs ys _ (hv.below hb) (hu.below hb)).mono ?_
 rintro e W1 ⟨rfl,hb1⟩
 have q1:=CV hb1 h1
 have q2:=CV hb1 h2
 have q3:=CV hb1 h3
 have q4:=CV hb1 h4
 have hpk:=PK.call hb1 hpk0
 clear hpk0 h1 h2 h3 h4 hb hb1
 have hb:=hpk.below
 rw [hcm]
 clear hcm
 go_wp2_with fail
 go_region_held3 (fun w'=>w'.cell? ⟨w.heap.size,0,none⟩=some (.bool s)/\w'.cell? ⟨w.heap.size,1,none⟩=some (.slice a1 xs.length c1)/\w'.cell? ⟨w.heap.size+1,0,none⟩=some (.bool t)/\w'.cell? ⟨w.heap.size+1,1,none⟩=some (.slice a2 ys.length c2)/\Below w.heap.size w w')
  (first | (exact LI (by assumption) _ _) | (refine ⟨?_,?_,?_,?_,?_⟩ <;> first | assumption | (with_reducible apply DH;assumption) | (with_reducible exact PK.below (by assumption)) | (apply CV <;> assumption) | go_keep))
  (first | (go_at_call 57;refine (FU _ _ xs ys _ (hv.below (by first | assumption | (apply DH;assumption))) (hu.below (by first | assumption | (apply DH;assumption))) hx.dig hy.dig hlx Hlen.out (by rw [hx.val,hy.val];exact Hle.out)).mono ?_;rintro e w' ⟨⟨r,rfl,zs,hz1,hz2,hz3⟩,hbz⟩;obtain ⟨a5,c5,rfl⟩:=hz1.shape;have kk:=PK.call hbz (PK.drew hpk);have k0:=kk.blk.cell 0;have k1:=kk.blk.cell 1;have f0:=kk.blk.frozen 0;have f1:=kk.blk.frozen 1;simp only [BR,Cm,Cn] at k0 k1))
 have m1:=kk.blk.set 0 (.bool s)
 have m2:=m1.set 1 (.slice a5 zs.length c5)
 have y0:=m2.cell 0
 have y1:=m2.cell 1
 simp only [A0,A6,A5,BR,Cm,Cn] at y0 y1
 have z1:=(hz1.setBlk kk.blk (El _ _ (fun n e=>by cases e)) 0 (.bool s)).setBlk m1 (El _ _ (fun n e=>by cases e)) 1 (.slice a5 zs.length c5)
 have hfin:Below w.heap.size w ((w'.setCell ⟨w.heap.size+1+1,0,none⟩ (.bool s)).setCell ⟨w.heap.size+1+1,1,none⟩ (.slice a5 zs.length c5)):=(kk.below.setCell (p:=⟨w.heap.size+1+1,0,none⟩) (Cq w.heap.size 2) _).setCell (p:=⟨w.heap.size+1+1,1,none⟩) (Cq w.heap.size 2) _
 go_wp2
 refine bodyPost_ret (v:=.agg #[.bool s,.slice a5 zs.length c5]) (by simp [results,Tryz.results108,go_sem,y0,y1]) rfl ?_
 refine ⟨⟨_,rfl,s,_,_,_,rfl,z1,hz2,?_⟩,hfin⟩
 rw [hx.val,hy.val]
 have:=Hst.out
 cases s <;> cases t <;> simp_all [Do] <;> omega
theorem Mx (s t:Bool) (v u:Value) (xs ys:List Int) (m n:Int) (w:World) (hv:Sl w v xs) (hu:Sl w u ys) (hx:Dm 10000 xs m) (hy:Dm 10000 ys n) (hly:ys.length<=100000) (hst:s≠t) (hle:m<n) :
  Calls Tryz.prog 108 #[.agg #[.bool s,v],.agg #[.bool t,u]] w (CR w fun r w'=>Sg w' r (Do s m+Do t n)):=by
 obtain ⟨a1,c1,rfl⟩:=hv.shape
 obtain ⟨a2,c2,rfl⟩:=hu.shape
 obtain ⟨W0,hW0,h1,h2,h3,h4,h5,hb⟩:=HI w s t (.slice a1 xs.length c1) (.slice a2 ys.length c2)
 have hpk0:PK w W0:=⟨h5,hb⟩
 have hcb:(s==t)=false:=by cases s <;> cases t <;> simp_all
 have Hst:=A8 hst
 have hcm:=Gz hx hy
 have hc0:¬ (0:Int)<=Lib.compareInt m n:=by rw [Cy hle];decide
 have Hle:=A8 hle
 have Hlen:=A8 (hx.len_le Ae hy (Ce hle))
 clear hst hle h5
 go_enter Tryz.func108,Tryz.ntmps108
 go_wp2_with fail
 rw [<-hW0]
 clear hW0
 refine (F0 _ _ xs ys _ (hv.below hb) (hu.below hb)).mono ?_
 rintro e W1 ⟨rfl,hb1⟩
 have q1:=CV hb1 h1
 have q2:=CV hb1 h2
 have q3:=CV hb1 h3
 have q4:=CV hb1 h4
 have hpk:=PK.call hb1 hpk0
 clear hpk0 h1 h2 h3 h4 hb hb1
 have hb:=hpk.below
 rw [hcm]
 clear hcm
 go_wp2_with fail
 go_region_held3 (fun w'=>w'.cell? ⟨w.heap.size,0,none⟩=some (.bool s)/\w'.cell? ⟨w.heap.size,1,none⟩=some (.slice a1 xs.length c1)/\w'.cell? ⟨w.heap.size+1,0,none⟩=some (.bool t)/\w'.cell? ⟨w.heap.size+1,1,none⟩=some (.slice a2 ys.length c2)/\Below w.heap.size w w')
  (first | (exact LI (by assumption) _ _) | (refine ⟨?_,?_,?_,?_,?_⟩ <;> first | assumption | (with_reducible apply DH;assumption) | (with_reducible exact PK.below (by assumption)) | (apply CV <;> assumption) | go_keep))
  (first | (go_at_call 57;refine (FU _ _ ys xs _ (hu.below (by first | assumption | (apply DH;assumption))) (hv.below (by first | assumption | (apply DH;assumption))) hy.dig hx.dig hly Hlen.out (by rw [hx.val,hy.val];exact Ce Hle.out)).mono ?_;rintro e w' ⟨⟨r,rfl,zs,hz1,hz2,hz3⟩,hbz⟩;obtain ⟨a5,c5,rfl⟩:=hz1.shape;have kk:=PK.call hbz (PK.drew hpk);have k0:=kk.blk.cell 0;have k1:=kk.blk.cell 1;have f0:=kk.blk.frozen 0;have f1:=kk.blk.frozen 1;simp only [BR,Cm,Cn] at k0 k1))
 have m1:=kk.blk.set 0 (.bool t)
 have m2:=m1.set 1 (.slice a5 zs.length c5)
 have y0:=m2.cell 0
 have y1:=m2.cell 1
 simp only [A0,A6,A5,BR,Cm,Cn] at y0 y1
 have z1:=(hz1.setBlk kk.blk (El _ _ (fun n e=>by cases e)) 0 (.bool t)).setBlk m1 (El _ _ (fun n e=>by cases e)) 1 (.slice a5 zs.length c5)
 have hfin:Below w.heap.size w ((w'.setCell ⟨w.heap.size+1+1,0,none⟩ (.bool t)).setCell ⟨w.heap.size+1+1,1,none⟩ (.slice a5 zs.length c5)):=(kk.below.setCell (p:=⟨w.heap.size+1+1,0,none⟩) (Cq w.heap.size 2) _).setCell (p:=⟨w.heap.size+1+1,1,none⟩) (Cq w.heap.size 2) _
 go_wp2
 refine bodyPost_ret (v:=.agg #[.bool t,.slice a5 zs.length c5]) (by simp [results,Tryz.results108,go_sem,y0,y1]) rfl ?_
 refine ⟨⟨_,rfl,t,_,_,_,rfl,z1,hz2,?_⟩,hfin⟩
 rw [hx.val,hy.val]
 have:=Hst.out
 cases s <;> cases t <;> simp_all [Do] <;> omega
theorem Ig (s t:Bool) (v u:Value) (xs ys:List Int) (m n:Int) (w:World) (hv:Sl w v xs) (hu:Sl w u ys) (hx:Dm 10000 xs m) (hy:Dm 10000 ys n) (hlx:xs.length<=100000) (hly:ys.length<=100000) :
  Calls Tryz.prog 108 #[.agg #[.bool s,v],.agg #[.bool t,u]] w (CR w fun r w'=>Sg w' r (Do s m+Do t n)):=by
 by_cases hst:s=t
 ·exact KE s t v u xs ys m n w hv hu hx hy hlx hly hst
 ·by_cases hle:n<=m
  ·exact Mw s t v u xs ys m n w hv hu hx hy hlx hst hle
  ·exact Mx s t v u xs ys m n w hv hu hx hy hly hst Ad
def okS (s:ByteArray):Bool:=DX s.data.toList
def zS (s:ByteArray):Int:=FV s.data.toList
def PV (w:World) (v:Value) (z:Int):Prop:=∃ u xs,v=.agg #[.bool (decide (z<0)),u]/\Sl w u xs/\Dm 10000 xs z.natAbs
theorem PV.below {w w':World} {v:Value} {z:Int} (h:PV w v z) (hb:Below w.heap.size w w'):PV w' v z:=by
 obtain ⟨u,xs,h1,h2,h3⟩:=h;exact ⟨u,xs,h1,h2.below hb,h3⟩
theorem J4 {l:List UInt8} (h:DX l=true):(∀ b∈body l,FR b=true)/\(body l).length<=200/\(decide ((body l).length<l.length)=decide (FV l<0))/\(Df (body l):Int)=(FV l).natAbs:=by
 have h0:=h;obtain ⟨he,h1,h2⟩:=E8 h;generalize hz:FV l=z at *
 have hb:=(IF z).2;rw [<-he] at hb;have hs:=De z.natAbs;refine ⟨by rw [hb];exact hs.2.1,?_,?_,by rw [hb,hs.1]⟩
 ·unfold DX at h0
  simp only [Ao,C0] at h0;exact h0.1.1.2
 ·rw [hb,he]
  by_cases hn:z<0
  ·rw [FW hn];simp [hn]
  ·rw [Dx Ad,show z.toNat=z.natAbs by omega];simp [hn]
theorem My (s:ByteArray) (w:World) (h:okS s=true):Calls Tryz.prog 83 #[.string s] w (CR w fun r w'=>PV w' r (zS s)):=by
 obtain ⟨h1,h2,h3,h4⟩:=J4 h;refine (Qh s _ w rfl h1 h2).mono ?_;rintro e w' ⟨⟨r,rfl,v,xs,rfl,hv,hn⟩,hb⟩;rw [h4] at hn;have e:s.size=s.data.toList.length:=by rw [Bc];rfl
 exact ⟨⟨_,rfl,v,xs,by rw [e,h3];rfl,hv,hn⟩,hb⟩
theorem isV (s:ByteArray) (w:World):Calls Tryz.prog 78 #[.string s] w fun e w'=>e=.returned (.bool (okS s))/\Below w.heap.size w w':=Mt s w
theorem JR (w:World):∃ W0,W0=((w.alloc (.cells #[.bool false,.slice none 0 0] 99)).alloc (.cells #[.bool false,.slice none 0 0] 99)) /\
  CO W0 w.heap.size #[.bool false,.slice none 0 0] 99/\CO W0 (w.heap.size+1) #[.bool false,.slice none 0 0] 99/\Below w.heap.size w W0:=by
 refine ⟨_,rfl,(CO.new w _ _).alloc _,?_,((Below.refl _ _).alloc (Aa _) _).alloc Af _⟩
 have:=CO.new (w.alloc (.cells #[.bool false,.slice none 0 0] 99)) #[.bool false,.slice none 0 0] 99
 rwa [AP] at this
theorem HJ {w W:World} {s t:Bool} (h1:CO W w.heap.size #[.bool false,.slice none 0 0] 99) (h2:CO W (w.heap.size+1) #[.bool false,.slice none 0 0] 99) (hb:Below w.heap.size w W) (x y:Value) :
  let W':=(((W.setCell ⟨w.heap.size,0,none⟩ (.bool s)).setCell ⟨w.heap.size,1,none⟩ x).setCell ⟨w.heap.size+1,0,none⟩ (.bool t)).setCell ⟨w.heap.size+1,1,none⟩ y
  CO W' w.heap.size #[.bool s,x] 99/\CO W' (w.heap.size+1) #[.bool t,y] 99/\Below w.heap.size w W'/\∀ v zs,Sl W v zs->Sl W' v zs:=by
 have a0:=h1.set 0 (.bool s)
 have a1:=a0.set 1 x
 have b1:=(h2.kept (D0 W w.heap.size 0 (.bool s)) Af).kept (D0 _ w.heap.size 1 x) Af
 have b2:=b1.set 0 (.bool t)
 have b3:=b2.set 1 y
 have a2:=(a1.kept (D0 _ (w.heap.size+1) 0 (.bool t)) Af).kept (D0 _ (w.heap.size+1) 1 y) Af
 refine ⟨by simpa using a2,by simpa using b3,?_,fun v zs hz=>?_⟩
 ·exact (((hb.setCell (p:=⟨w.heap.size,0,none⟩) (Aa _) _).setCell (p:=⟨w.heap.size,1,none⟩) (Aa _) _).setCell (p:=⟨w.heap.size+1,0,none⟩) (Nat.le_succ _) _).setCell (p:=⟨w.heap.size+1,1,none⟩) (Nat.le_succ _) _
 ·exact (((hz.setBlk h1 (El _ _ (fun n e=>by cases e)) 0 (.bool s)).setBlk a0 (El _ _ (fun n e=>by cases e)) 1 x).setBlk b1 (El _ _ (fun n e=>by cases e)) 0 (.bool t)).setBlk b2 (El _ _ (fun n e=>by cases e)) 1 y
def BothOk (x y:Int) (r:Value) (w:World):Prop:=∃ v u,r=.tuple #[v,u,.bool true]/\PV w v x/\PV w u y
def BothBad (r:Value):Prop:=r=.tuple #[.agg #[.bool false,.slice none 0 0],.agg #[.bool false,.slice none 0 0],.bool false]
theorem G3 (a b:ByteArray) (w:World) (h:okS a=false∨okS b=false) :
  Calls Tryz.prog 53 #[.string a,.string b] w (CR w fun r _=>BothBad r):=by
 obtain ⟨W0,hW0,h1,h2,hb0⟩:=JR w
 by_cases ha:okS a=true
 ·have hb:okS b=false:=h.resolve_left (by rw [ha];decide)
  clear h;go_enter Tryz.func53,Tryz.ntmps53;go_wp2_with fail;rw [<-hW0];clear hW0;refine (isV a _).mono ?_;rintro e W1 ⟨rfl,hb1⟩;rw [ha];go_wp2_with fail;refine (isV b _).mono ?_;rintro e W2 ⟨rfl,hb2⟩;rw [hb];have k1:=(h1.below hb1).below hb2;have k2:=(h2.below hb1).below hb2;have kb:Below w.heap.size w W2:=Cv hb2 (Cv hb1 hb0 (Aa _)) (Aa _);have c0:=k1.cell 0;have c1:=k1.cell 1;have d0:=k2.cell 0;have d1:=k2.cell 1;have f0:=k1.frozen 0;have f1:=k1.frozen 1;have g0:=k2.frozen 0;have g1:=k2.frozen 1;simp only [BR,Cm,Cn] at c0 c1 d0 d1;go_wp2;obtain ⟨m1,m2,m3,_⟩:=HJ (s:=false) (t:=false) k1 k2 kb (.slice none 0 0) (.slice none 0 0);have y0:=m1.cell 0;have y1:=m1.cell 1;have y2:=m2.cell 0;have y3:=m2.cell 1;simp only [BR,Cm,Cn] at y0 y1 y2 y3;refine bodyPost_ret (v:=.tuple #[.agg #[.bool false,.slice none 0 0],.agg #[.bool false,.slice none 0 0],.bool false]) (by simp [results,Tryz.results53,go_sem,y0,y1,y2,y3]) rfl ?_;exact ⟨⟨_,rfl,rfl⟩,m3⟩
 ·have ha:okS a=false:=by simpa using ha
  clear h;go_enter Tryz.func53,Tryz.ntmps53;go_wp2_with fail;rw [<-hW0];clear hW0;refine (isV a _).mono ?_;rintro e W2 ⟨rfl,hb1⟩;rw [ha];have k1:=h1.below hb1;have k2:=h2.below hb1;have kb:Below w.heap.size w W2:=Cv hb1 hb0 (Aa _);have c0:=k1.cell 0;have c1:=k1.cell 1;have d0:=k2.cell 0;have d1:=k2.cell 1;have f0:=k1.frozen 0;have f1:=k1.frozen 1;have g0:=k2.frozen 0;have g1:=k2.frozen 1;simp only [BR,Cm,Cn] at c0 c1 d0 d1;go_wp2;obtain ⟨m1,m2,m3,_⟩:=HJ (s:=false) (t:=false) k1 k2 kb (.slice none 0 0) (.slice none 0 0);have y0:=m1.cell 0;have y1:=m1.cell 1;have y2:=m2.cell 0;have y3:=m2.cell 1;simp only [BR,Cm,Cn] at y0 y1 y2 y3;refine bodyPost_ret (v:=.tuple #[.agg #[.bool false,.slice none 0 0],.agg #[.bool false,.slice none 0 0],.bool false]) (by simp [results,Tryz.results53,go_sem,y0,y1,y2,y3]) rfl ?_;exact ⟨⟨_,rfl,rfl⟩,m3⟩
theorem FE (a b:ByteArray) (w:World) (ha:okS a=true) (hb:okS b=true) :
  Calls Tryz.prog 53 #[.string a,.string b] w (CR w (BothOk (zS a) (zS b))):=by
 obtain ⟨W0,hW0,h1,h2,hb0⟩:=JR w
 have Pa:=fun W=>My a W ha
 have Pb:=fun W=>My b W hb
 go_enter Tryz.func53,Tryz.ntmps53
 go_wp2_with fail
 rw [<-hW0]
 clear hW0
 refine (isV a _).mono ?_
 rintro e W1 ⟨rfl,hb1⟩
 rw [ha]
 go_wp2_with fail
 refine (isV b _).mono ?_
 rintro e W2 ⟨rfl,hb2⟩
 rw [hb]
 go_wp2_with fail
 refine (Pa _).mono ?_
 rintro e W3 ⟨⟨r,rfl,va,xs,rfl,hva,hna⟩,hb3⟩
 obtain ⟨a1,c1',rfl⟩:=hva.shape
 go_wp2_with fail
 refine (Pb _).mono ?_
 rintro e W4 ⟨⟨r,rfl,vb,ys,rfl,hvb,hnb⟩,hb4⟩
 obtain ⟨a2,c2',rfl⟩:=hvb.shape
 have k1:=(((h1.below hb1).below hb2).below hb3).below hb4
 have k2:=(((h2.below hb1).below hb2).below hb3).below hb4
 have kb:Below w.heap.size w W4:=Cv hb4 (Cv hb3 (Cv hb2 (Cv hb1 hb0 (Aa _)) (Aa _)) (Aa _)) (Aa _)
 have hva4:=hva.below hb4
 have c0:=k1.cell 0
 have c1:=k1.cell 1
 have d0:=k2.cell 0
 have d1:=k2.cell 1
 have f0:=k1.frozen 0
 have f1:=k1.frozen 1
 have g0:=k2.frozen 0
 have g1:=k2.frozen 1
 simp only [BR,Cm,Cn] at c0 c1 d0 d1
 go_wp2
 obtain ⟨m1,m2,m3,m4⟩:=HJ (s:=decide (zS a<0)) (t:=decide (zS b<0)) k1 k2 kb (.slice a1 xs.length c1') (.slice a2 ys.length c2')
 have y0:=m1.cell 0
 have y1:=m1.cell 1
 have y2:=m2.cell 0
 have y3:=m2.cell 1
 simp only [BR,Cm,Cn] at y0 y1 y2 y3
 refine bodyPost_ret (v:=.tuple #[.agg #[.bool (decide (zS a<0)),.slice a1 xs.length c1'],.agg #[.bool (decide (zS b<0)),.slice a2 ys.length c2'],.bool true]) (by simp [results,Tryz.results53,go_sem,y0,y1,y2,y3]) rfl ?_
 exact ⟨⟨_,rfl,_,_,rfl,⟨_,_,rfl,m4 _ _ hva4,hna⟩,⟨_,_,rfl,m4 _ _ hvb,hnb⟩⟩,m3⟩
def E6 (ok:Bool) (z:Int):Value:=if ok then .tuple #[.string ⟨(Ie z).toArray⟩,.int .i64 (Md z)] else .tuple #[.string ⟨#[]⟩,.int .i64 30]
theorem Dr {s:ByteArray} (h:okS s=true):-FB<zS s/\zS s<FB:=(E8 h).2
theorem DC {xs:List Int} {n:Int} (h:Dm 10000 xs n) (hn:n<FB):xs.length<=50:=h.length_le Ae (by unfold FB at hn;exact Int.lt_of_lt_of_le hn Ae)
theorem GX (z:Int):Do (decide (z<0)) z.natAbs=z:=by
 unfold Do;by_cases h:z<0
 ·simp [h];omega
 ·simp [h];omega
theorem DI {z:Int} (h:-FB<z/\z<FB):(z.natAbs:Int)<FB:=by omega
theorem Dz (W:World) (o p:Obj):Below W.heap.size W ((W.alloc o).alloc p):=((Below.refl _ _).alloc (Aa _) _).alloc Af _
theorem Pp {neg:Bool} {n z:Int} {zs:List Int} (h:z=Do neg n) (hn:Dm 10000 zs n) (k:Nat) (hz:-(10000 ^ k)<z/\z<10000 ^ k):zs.length<=k :=
 hn.length_le Ae (by cases neg <;> simp [Do] at h <;> omega)
theorem add_ok (a b:ByteArray) (w:World) (hE:Dv w) (ha:okS a=true) (hb:okS b=true) :
  Calls Tryz.prog 82 #[.string a,.string b] w (CR w fun r _=>r=E6 true (zS a+zS b)):=by
 have Ba:=Dr ha
 have Bb:=Dr hb
 have Pk:=fun W=>FE a b W ha hb
 go_enter Tryz.func82,Tryz.ntmps82
 go_wp2_with fail
 refine (Pk _).mono ?_
 rintro e W1 ⟨⟨r,rfl,v,u,rfl,⟨x,xs,rfl,hx,hnx⟩,⟨y,ys,rfl,hy,hny⟩⟩,hb1⟩
 have lx:=DC hnx (DI Ba)
 have ly:=DC hny (DI Bb)
 obtain ⟨a1,c1,rfl⟩:=hx.shape
 obtain ⟨a2,c2,rfl⟩:=hy.shape
 go_wp2_with fail
 have hb2:=Dz W1 (.cells #[.bool (decide (zS a<0)),.slice a1 xs.length c1] 99) (.cells #[.bool (decide (zS b<0)),.slice a2 ys.length c2] 99)
 refine (Ig _ _ _ _ xs ys _ _ _ (hx.below hb2) (hy.below hb2) hnx hny Ad Ad).mono ?_
 rintro e W2 ⟨⟨r,rfl,neg,u,zs,n,rfl,hz,hnz,hsum⟩,hb3⟩
 rw [GX,GX] at hsum
 have lz:=Pp hsum hnz 51 (by unfold FB at Ba Bb;omega)
 have hbw:Below w.heap.size w W2:=Cv hb3 (Cv hb2 hb1 (Aa _)) (Aa _)
 have hE2:=hE.below hbw (Aa _)
 go_wp2_with fail
 refine (Eu neg _ zs n W2 hE2 hz hnz Ad).mono ?_
 rintro e W3 ⟨rfl,hb4⟩
 go_wp2
 go_ret2
 exact ⟨⟨_,rfl,by rw [hsum];rfl⟩,Cv hb4 hbw (Aa _)⟩
theorem add_bad (a b:ByteArray) (w:World) (h:okS a=false∨okS b=false) :
  Calls Tryz.prog 82 #[.string a,.string b] w (CR w fun r _=>r=E6 false 0):=by
 have Pk:=fun W=>G3 a b W h
 go_enter Tryz.func82,Tryz.ntmps82
 go_wp2_with fail
 refine (Pk _).mono ?_
 rintro e W1 ⟨⟨r,rfl,rfl⟩,hb1⟩
 go_wp2
 go_ret2
 exact ⟨⟨_,rfl,rfl⟩,Cv (Dz W1 _ _) hb1 (Aa _)⟩
theorem add_any (a b:ByteArray) (w:World) (hE:Dv w) :
  Calls Tryz.prog 82 #[.string a,.string b] w (CR w fun r _=>r=E6 (okS a&&okS b) (zS a+zS b)):=by
 by_cases h:okS a=true/\okS b=true
 ·rw [h.1,h.2];exact add_ok a b w hE h.1 h.2
 ·have hf:(okS a&&okS b)=false:=by
   rw [<-Bool.not_eq_true,Ao];exact h
  rw [hf]
  refine add_bad a b w ?_
  cases ha:okS a
  ·exact .inl rfl
  ·cases hb:okS b
   ·exact .inr rfl
   ·exact absurd ⟨ha,hb⟩ h
theorem CK {p q:Bool} (h:¬ (p=true/\q=true)):(p&&q)=false/\(p=false∨q=false):=by cases p <;> cases q <;> simp_all
theorem Pq (z:Int):Do (!decide (z<0)) z.natAbs=-z:=by
 unfold Do;by_cases h:z<0
 ·simp [h];omega
 ·simp [h];omega
theorem sub_ok (a b:ByteArray) (w:World) (hE:Dv w) (ha:okS a=true) (hb:okS b=true) :
  Calls Tryz.prog 101 #[.string a,.string b] w (CR w fun r _=>r=E6 true (zS a-zS b)):=by
 have Ba:=Dr ha
 have Bb:=Dr hb
 have Pk:=fun W=>FE a b W ha hb
 go_enter Tryz.func101,Tryz.ntmps101
 go_wp2_with fail
 refine (Pk _).mono ?_
 rintro e W1 ⟨⟨r,rfl,v,u,rfl,⟨x,xs,rfl,hx,hnx⟩,⟨y,ys,rfl,hy,hny⟩⟩,hb1⟩
 have lx:=DC hnx (DI Ba)
 have ly:=DC hny (DI Bb)
 obtain ⟨a1,c1,rfl⟩:=hx.shape
 obtain ⟨a2,c2,rfl⟩:=hy.shape
 go_wp2_with fail
 have hb2:=Dz W1 (.cells #[.bool (decide (zS a<0)),.slice a1 xs.length c1] 99) (.cells #[.bool (!decide (zS b<0)),.slice a2 ys.length c2] 99)
 refine (Ig _ _ _ _ xs ys _ _ _ (hx.below hb2) (hy.below hb2) hnx hny Ad Ad).mono ?_
 rintro e W2 ⟨⟨r,rfl,neg,u,zs,n,rfl,hz,hnz,hsum⟩,hb3⟩
 rw [GX,Pq,<-Int.sub_eq_add_neg] at hsum
 have lz:=Pp hsum hnz 51 (by unfold FB at Ba Bb;omega)
 have hbw:Below w.heap.size w W2:=Cv hb3 (Cv hb2 hb1 (Aa _)) (Aa _)
 have hE2:=hE.below hbw (Aa _)
 go_wp2_with fail
 refine (Eu neg _ zs n W2 hE2 hz hnz Ad).mono ?_
 rintro e W3 ⟨rfl,hb4⟩
 go_wp2
 go_ret2
 exact ⟨⟨_,rfl,by rw [hsum];rfl⟩,Cv hb4 hbw (Aa _)⟩
theorem sub_bad (a b:ByteArray) (w:World) (h:okS a=false∨okS b=false) :
  Calls Tryz.prog 101 #[.string a,.string b] w (CR w fun r _=>r=E6 false 0):=by
 have Pk:=fun W=>G3 a b W h
 go_enter Tryz.func101,Tryz.ntmps101
 go_wp2_with fail
 refine (Pk _).mono ?_
 rintro e W1 ⟨⟨r,rfl,rfl⟩,hb1⟩
 go_wp2
 go_ret2
 exact ⟨⟨_,rfl,rfl⟩,Cv (Dz W1 _ _) hb1 (Aa _)⟩
theorem sub_any (a b:ByteArray) (w:World) (hE:Dv w) :
  Calls Tryz.prog 101 #[.string a,.string b] w (CR w fun r _=>r=E6 (okS a&&okS b) (zS a-zS b)):=by
 by_cases h:okS a=true/\okS b=true
 ·rw [h.1,h.2];exact sub_ok a b w hE h.1 h.2
 ·rw [(CK h).1];exact sub_bad a b w (CK h).2
theorem Ps {a b:Int} (ha:a<0) (hb:b<0):Lib.compareInt b.natAbs a.natAbs=Lib.compareInt a b:=by
 rcases Cr a b with h | rfl | h
 ·rw [Cy h,Cy Ad]
 ·rw [CU,CU]
 ·rw [Cz h,Cz Ad]
theorem Pt {a b:Int} (ha:¬ a<0) (hb:¬ b<0):Lib.compareInt a.natAbs b.natAbs=Lib.compareInt a b:=by
 rw [show (a.natAbs:Int)=a by omega,show (b.natAbs:Int)=b by omega]
theorem Oe (a b:ByteArray) (w:World) (ha:okS a=true) (hb:okS b=true) :
  Calls Tryz.prog 30 #[.string a,.string b] w fun e w'=>e=.returned (.int .i64 (Lib.compareInt (zS a) (zS b)))/\Below w.heap.size w w':=by
 have Pk:=fun W=>FE a b W ha hb
 go_enter Tryz.func30,Tryz.ntmps30
 go_wp2_with fail
 refine (Pk _).mono ?_
 rintro e W1 ⟨⟨r,rfl,v,u,rfl,⟨x,xs,rfl,hx,hnx⟩,⟨y,ys,rfl,hy,hny⟩⟩,hb1⟩
 obtain ⟨a1,c1,rfl⟩:=hx.shape
 obtain ⟨a2,c2,rfl⟩:=hy.shape
 by_cases na:zS a<0
 ·have da:decide (zS a<0)=true:=by simp [na]
  rw [da];by_cases nb:zS b<0
  ·have db:decide (zS b<0)=true:=by simp [nb]
   have hc:=A8 (Ps na nb);rw [db];clear na nb;go_wp2_with fail;have hb2:=Dz W1 (.cells #[.bool true,.slice a1 xs.length c1] 99) (.cells #[.bool true,.slice a2 ys.length c2] 99);refine (F0 _ _ ys xs _ (hy.below hb2) (hx.below hb2)).mono ?_;rintro e W2 ⟨rfl,hb3⟩;go_wp2;go_ret;exact ⟨D9 ((Gz hny hnx).trans hc.out),Cv hb3 (Cv hb2 hb1 (Aa _)) (Aa _)⟩
  ·have db:decide (zS b<0)=false:=by simp [nb]
   have hc:=A8 (Cy (a:=zS a) (b:=zS b) Ad);rw [db];clear na nb;go_wp2;go_ret;exact ⟨D9 hc.out.symm,Cv (Dz W1 _ _) hb1 (Aa _)⟩
 ·have da:decide (zS a<0)=false:=by simp [na]
  rw [da];by_cases nb:zS b<0
  ·have db:decide (zS b<0)=true:=by simp [nb]
   have hc:=A8 (Cz (a:=zS a) (b:=zS b) Ad);rw [db];clear na nb;go_wp2;go_ret;exact ⟨D9 hc.out.symm,Cv (Dz W1 _ _) hb1 (Aa _)⟩
  ·have db:decide (zS b<0)=false:=by simp [nb]
   have hc:=A8 (Pt na nb);rw [db];clear na nb;go_wp2_with fail;have hb2:=Dz W1 (.cells #[.bool false,.slice a1 xs.length c1] 99) (.cells #[.bool false,.slice a2 ys.length c2] 99);refine (F0 _ _ xs ys _ (hx.below hb2) (hy.below hb2)).mono ?_;rintro e W2 ⟨rfl,hb3⟩;go_wp2;go_ret;exact ⟨D9 ((Gz hnx hny).trans hc.out),Cv hb3 (Cv hb2 hb1 (Aa _)) (Aa _)⟩
theorem Mz (a b:ByteArray) (w:World) (h:okS a=false∨okS b=false) :
  Calls Tryz.prog 30 #[.string a,.string b] w fun e w'=>e=.returned (.int .i64 0)/\Below w.heap.size w w':=by
 have Pk:=fun W=>G3 a b W h
 go_enter Tryz.func30,Tryz.ntmps30
 go_wp2_with fail
 refine (Pk _).mono ?_
 rintro e W1 ⟨⟨r,rfl,rfl⟩,hb1⟩
 go_wp2
 go_ret
 exact ⟨rfl,Cv (Dz W1 _ _) hb1 (Aa _)⟩
def MA (a b:ByteArray):Int:=if okS a&&okS b then Lib.compareInt (zS a) (zS b) else 0
theorem GB (a b:ByteArray) (w:World) :
  Calls Tryz.prog 30 #[.string a,.string b] w fun e w'=>e=.returned (.int .i64 (MA a b))/\Below w.heap.size w w':=by
 unfold MA
 by_cases h:okS a=true/\okS b=true
 ·rw [h.1,h.2];exact Oe a b w h.1 h.2
 ·rw [(CK h).1];exact Mz a b w (CK h).2
theorem En (s:ByteArray) (w:World):Calls Tryz.prog 48 #[.string s] w fun e w'=>e=.returned (.bool (okS s))/\Below w.heap.size w w':=by
 go_enter Tryz.func48,Tryz.ntmps48;go_wp2_with fail;refine (isV s _).mono ?_;rintro e W1 ⟨rfl,hb1⟩;go_wp2;go_ret;exact ⟨rfl,hb1⟩
theorem MB (n:Int) (h0:-9223372036854775808<=n) (h1:n<=9223372036854775807) (w:World) (hE:Dv w) :
  Calls Tryz.prog 42 #[.int .i64 n] w fun e w'=>e=.returned (.string ⟨(Lib.itoa n).toArray⟩)/\Below w.heap.size w w':=by
 go_enter Tryz.func42,Tryz.ntmps42
 go_wp2_with fail
 refine (Tryz.strconv_Itoa n h0 h1 _ hE.tab).mono ?_
 rintro e W1 ⟨rfl,k,os,rfl⟩
 go_wp2
 go_ret
 exact ⟨rfl,Lib.below_grow _ w (Aa _) k os⟩
theorem G5 (W1:World) (s t:Bool) (v u:Value):∃ W2,W2=((W1.alloc (.cells #[.bool s,v] 99)).alloc (.cells #[.bool t,u] 99)) /\
  W2.cell? ⟨W1.heap.size,0,none⟩=some (.bool s)/\W2.cell? ⟨W1.heap.size,1,none⟩=some v/\W2.cell? ⟨W1.heap.size+1,0,none⟩=some (.bool t)/\W2.cell? ⟨W1.heap.size+1,1,none⟩=some u/\Below W1.heap.size W1 W2:=by
 have b1:CO ((W1.alloc (.cells #[.bool s,v] 99)).alloc (.cells #[.bool t,u] 99)) W1.heap.size #[.bool s,v] 99:=(CO.new W1 _ _).alloc _
 have b2:CO ((W1.alloc (.cells #[.bool s,v] 99)).alloc (.cells #[.bool t,u] 99)) (W1.heap.size+1) #[.bool t,u] 99:=by
  have:=CO.new (W1.alloc (.cells #[.bool s,v] 99)) #[.bool t,u] 99;rwa [AP] at this
 exact ⟨_,rfl,b1.cell 0,b1.cell 1,b2.cell 0,b2.cell 1,Dz W1 _ _⟩
theorem JS {p1 p2 p3 p4:Addr} {x1 x2 x3 x4:Value} {w W W':World} (hb:Below W.heap.size W W') (h:W.cell? p1=some x1/\W.cell? p2=some x2/\W.cell? p3=some x3/\W.cell? p4=some x4/\Below w.heap.size w W) :
  W'.cell? p1=some x1/\W'.cell? p2=some x2/\W'.cell? p3=some x3/\W'.cell? p4=some x4/\Below w.heap.size w W' :=
 ⟨CV hb h.1,CV hb h.2.1,CV hb h.2.2.1,CV hb h.2.2.2.1,Cv hb h.2.2.2.2 (Aa _)⟩
theorem sgn_mul (a b:Int):Do (decide (a<0) != decide (b<0)) (a.natAbs*b.natAbs)=a*b:=by
 have h:=GX a;have k:=GX b;conv=>rhs;rw [<-h,<-k]
 unfold Do;cases decide (a<0) <;> cases decide (b<0) <;> simp [Cs,Int.mul_neg]
theorem mul_ok (a b:ByteArray) (w:World) (hE:Dv w) (ha:okS a=true) (hb:okS b=true) :
  Calls Tryz.prog 107 #[.string a,.string b] w (CR w fun r _=>r=E6 true (zS a*zS b)):=by
 have Ba:=Dr ha
 have Bb:=Dr hb
 have Pk:=fun W=>FE a b W ha hb
 go_enter Tryz.func107,Tryz.ntmps107
 go_wp2_with fail
 refine (Pk _).mono ?_
 rintro e W1 ⟨⟨r,rfl,v,u,rfl,⟨x,xs,rfl,hx,hnx⟩,⟨y,ys,rfl,hy,hny⟩⟩,hb1⟩
 have lx:=DC hnx (DI Ba)
 have ly:=DC hny (DI Bb)
 have hm:=sgn_mul (zS a) (zS b)
 obtain ⟨a1,c1,rfl⟩:=hx.shape
 obtain ⟨a2,c2,rfl⟩:=hy.shape
 generalize hs:decide (zS a<0)=s at *
 generalize ht:decide (zS b<0)=t at *
 obtain ⟨W2,hW2,h1,h2,h3,h4,h5⟩:=G5 W1 s t (.slice a1 xs.length c1) (.slice a2 ys.length c2)
 go_wp2_with fail
 rw [<-hW2]
 clear hW2 hs ht
 have lx2:xs.length<=1000:=by omega
 have ly2:ys.length<=1000:=by omega
 have hzl:∀ zs,Dm 10000 zs (val 10000 xs*val 10000 ys)->zs.length<=10000:=fun zs hz=>by
  rw [hnx.val,hny.val] at hz;have h:=Int.mul_le_mul (Ce (DI Ba)) (Ce (DI Bb)) (hny.nonneg Ae) (by unfold FB;decide);have:=hz.length_le Ae (m:=101) (Int.lt_of_le_of_lt h (by unfold FB;decide));omega
 have hEW:∀ W,Below W1.heap.size W1 W->Dv W:=fun W hW=>hE.below (Cv hW hb1 (Aa _)) (Aa _)
 clear lx ly
 go_region_held3 (fun w'=>w'.cell? ⟨W1.heap.size,0,none⟩=some (.bool s)/\w'.cell? ⟨W1.heap.size,1,none⟩=some (.slice a1 xs.length c1)/\w'.cell? ⟨W1.heap.size+1,0,none⟩=some (.bool t)/\w'.cell? ⟨W1.heap.size+1,1,none⟩=some (.slice a2 ys.length c2)/\Below W1.heap.size W1 w')
  (first | exact JS hbt (by assumption) | exact JS hbz ⟨h1,h2,h3,h4,DH h5⟩ | exact ⟨h1,h2,h3,h4,DH h5⟩ | assumption | go_keep)
  (first | (go_at_call 131;refine (Qe _ _ xs ys _ (hx.below (by first | assumption | (apply DH;assumption))) (hy.below (by first | assumption | (apply DH;assumption))) hnx.dig hny.dig lx2 ly2).mono ?_;rintro e w' ⟨⟨r,rfl,zs,hz1,hz2⟩,hbz⟩;obtain ⟨a5,c5,rfl⟩:=hz1.shape;have hbz2:=Cv hbz (DH h5) (Aa _);have hbz3:=hEW _ hbz2;have hzl2:=hzl _ hz2) | (go_at_call 58;refine (Eu _ _ _ _ _ hbz3 hz1 hz2 hzl2).mono ?_;rintro e w2 ⟨rfl,hbt⟩;have hbt2:=Cv hbt hbz2 (Aa _)))
 have hm2:Do (!s==t) (val 10000 xs*val 10000 ys)=zS a*zS b:=by rw [hnx.val,hny.val];exact hm
 go_wp2
 go_ret2
 exact ⟨⟨_,rfl,by rw [hm2];rfl⟩,Cv hbt2 hb1 (Aa _)⟩
theorem mul_bad (a b:ByteArray) (w:World) (h:okS a=false∨okS b=false) :
  Calls Tryz.prog 107 #[.string a,.string b] w (CR w fun r _=>r=E6 false 0):=by
 have Pk:=fun W=>G3 a b W h
 go_enter Tryz.func107,Tryz.ntmps107
 go_wp2_with fail
 refine (Pk _).mono ?_
 rintro e W1 ⟨⟨r,rfl,rfl⟩,hb1⟩
 go_wp2
 go_ret2
 exact ⟨⟨_,rfl,rfl⟩,Cv (Dz W1 _ _) hb1 (Aa _)⟩
theorem mul_any (a b:ByteArray) (w:World) (hE:Dv w) :
  Calls Tryz.prog 107 #[.string a,.string b] w (CR w fun r _=>r=E6 (okS a&&okS b) (zS a*zS b)):=by
 by_cases h:okS a=true/\okS b=true
 ·rw [h.1,h.2];exact mul_ok a b w hE h.1 h.2
 ·rw [(CK h).1];exact mul_bad a b w (CK h).2
end
section
open Go.RowKit
theorem KF (x m:Int) (hm:0<m):Do (decide (x<0)) (if x<0/\0<(x.natAbs:Int) % m then (x.natAbs:Int) / m+1 else (x.natAbs:Int) / m)=x / m /\
  (if x<0/\0<(x.natAbs:Int) % m then m-(x.natAbs:Int) % m else (x.natAbs:Int) % m)=x % m:=by
 have hd:=Ct (x.natAbs:Int) m
 have h0:=BY (x.natAbs:Int) (by omega:m≠0)
 have h1:=BU (x.natAbs:Int) hm
 generalize hq:(x.natAbs:Int) / m=q at *
 generalize hr:(x.natAbs:Int) % m=r at *
 have key:∀ Q R:Int,R+m*Q=x->0<=R->R<m->Q=x / m/\R=x % m:=fun Q R e0 e1 e2=>by
  have:=(Int.ediv_emod_unique hm).2 ⟨e0,e1,e2⟩;exact ⟨this.1.symm,this.2.symm⟩
 by_cases hx:x<0
 ·by_cases hr0:0<r
  ·rw [AI ⟨hx,hr0⟩,AI ⟨hx,hr0⟩]
   refine key _ _ ?_ Ad Ad;have e:Do (decide (x<0)) (q+1)=-(q+1):=by simp [Do,hx]
   rw [e,Int.mul_neg,C8];omega
  ·rw [AF (fun h=>hr0 h.2),AF (fun h=>hr0 h.2)]
   refine key _ _ ?_ h0 h1;have e:Do (decide (x<0)) q=-q:=by simp [Do,hx]
   rw [e,Int.mul_neg];omega
 ·rw [AF (fun h=>hx h.1),AF (fun h=>hx h.1)]
  refine key _ _ ?_ h0 h1;have e:Do (decide (x<0)) q=q:=by simp [Do,hx]
  rw [e];omega
theorem GY (x y:Int) (hy:y≠0):Do (decide (x<0) != decide (y<0)) (if x<0/\0<(x.natAbs:Int) % y.natAbs then (x.natAbs:Int) / y.natAbs+1 else (x.natAbs:Int) / y.natAbs)=x / y /\
  (if x<0/\0<(x.natAbs:Int) % y.natAbs then (y.natAbs:Int)-(x.natAbs:Int) % y.natAbs else (x.natAbs:Int) % y.natAbs)=x % y:=by
 obtain ⟨h1,h2⟩:=KF x y.natAbs Ad
 by_cases hn:y<0
 ·have e:(y.natAbs:Int)=-y:=by omega
  rw [e] at h1 h2 |-;refine ⟨?_,h2.trans (Int.emod_neg x y)⟩;have hd:x / y=-(x / -y):=by rw [Int.ediv_neg,Int.neg_neg]
  rw [hd,<-h1];unfold Do;cases decide (x<0) <;> simp [hn]
 ·have e:(y.natAbs:Int)=y:=by omega
  rw [e] at h1 h2 |-;refine ⟨?_,h2⟩;rw [<-h1];unfold Do;cases decide (x<0) <;> simp [hn]
theorem GZ {x y:Int} (hx:Cw x):Cw (x / y)/\(y≠0->Cw y->Cw (x % y)):=by
 have hB:(0:Int)<FB:=by unfold FB;decide
 refine ⟨?_,fun h0 hy=>?_⟩
 ·have:=Int.natAbs_ediv_le_natAbs x y
  unfold Cw at *;omega
 ·have h1:=BY x h0
  have h2:=Int.emod_lt x h0;unfold Cw at *;omega
def CY (x y:Int):Int:=(Int.gcd x y:Int)
theorem MC (x y:Int):CY x.natAbs y.natAbs=CY x y:=by unfold CY;simp [Int.gcd]
theorem KT {m n:Int} (hm:0<=m) (hn:0<n):CY n (m % n)=CY m n:=by
 obtain ⟨a,rfl⟩:=Cd hm;obtain ⟨b,rfl⟩:=Cd (Ce hn);unfold CY;have e:((a:Int) % (b:Int))=((a % b:Nat):Int):=by simp
 rw [e];simp only [Int.gcd_natCast_natCast];rw [Nat.gcd_comm b,<-Nat.gcd_rec,Nat.gcd_comm]
theorem KU {m:Int} (hm:0<=m):CY m 0=m:=by
 unfold CY;rw [Int.gcd_zero];omega
theorem ME (x y:Int):0<=CY x y:=Int.natCast_nonneg _
theorem ER {x y:Int} (hx:Cw x) (hy:Cw y):Cw (CY x y):=by
 have h0:=ME x y;have hB:(0:Int)<FB:=by unfold FB;decide
 have h1:CY x y<=max x.natAbs y.natAbs:=by
  unfold CY;by_cases h:x=0
  ·subst h;rw [Int.zero_gcd];omega
  ·have:=Int.gcd_le_natAbs_left (b:=y) h
   omega
 unfold Cw at *
 omega
end
end Go.Proofs.YtdkonnnmkceagaaGreatDoor
