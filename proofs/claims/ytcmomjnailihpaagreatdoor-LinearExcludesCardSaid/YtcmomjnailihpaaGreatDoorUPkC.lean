/- PkC -/
import Derived.Test.YtcmomjnailihpaaGreatDoorUShelf
import Derived.Lib.SmallJoins
import Derived.Lib.Repeat
import Derived.Lib.AppendIntMem
import Derived.Deep.RegionHeld3
set_option maxHeartbeats 4000000
set_option maxRecDepth 100000
/- The contracts of integer.isValid and integer.parse. -/
namespace Go.Proofs.YtcmomjnailihpaaGreatDoor
section
open Go.RowKit
theorem BY (s:ByteArray) (d:List UInt8) (h:body s.data.toList=d) (w:World) :
  Calls Tryz.prog 144 #[.string s,.string ⟨#[45]⟩] w fun e w'=>e=.returned (.string ⟨d.toArray⟩)∧w=w' :=
 (Tryz.strings_TrimPrefix s ⟨#[45]⟩ w).mono fun _ _ ⟨he,hw⟩=>⟨by rw [he,←h];rfl,hw.symm⟩
theorem byte_ne (c:UInt8):((c.toNat:Int) != 48)=(c != 48):=by
 have:∀ k:Fin 256,(((UInt8.ofNat k.val).toNat:Int) != 48)=(UInt8.ofNat k.val != 48):=by decide +kernel
 have h:=this ⟨c.toNat,c.toNat_lt⟩
 simpa using h
def tens:List UInt8:=[48,49,50,51,52,53,54,55,56,57]
theorem Gt (d t:List UInt8) (h:Lib.trimS d tens=t) (hd:d.length≤9223372036854775807) (w:World) :
  Calls Tryz.prog 145 #[.string ⟨d.toArray⟩,.string ⟨#[48,49,50,51,52,53,54,55,56,57]⟩] w fun e w'=>e=.returned (.string ⟨t.toArray⟩)∧Below w.heap.size w w' :=
 (Any.strings_Trim_laid Tryz.lays160t (by kernel_rfl) ⟨d.toArray⟩ ⟨#[48,49,50,51,52,53,54,55,56,57]⟩ w (by show d.toArray.size≤_;simpa using hd) (by decide) (ascii_of_all (by decide))).mono fun _ _ ⟨he,hw⟩=>⟨by rw [he,←h];rfl,hw⟩
theorem Hm {d:List UInt8}:Lib.trimS d tens=[]↔d.all isD=true:=by
 rw [Ka,List.all_eq_true]
 unfold tens
 simp only [Lo]
theorem Lv (l:List UInt8):(body l).length≤l.length:=by
 unfold body Lib.trimPrefix;split
 ·simp
 ·exact Aa _
theorem Hn (s:ByteArray) (w:World) :
  Calls Tryz.prog 119 #[.string s] w fun e w'=>e=.returned (.bool (validB s.data.toList))∧Below w.heap.size w w':=by
 have hbl:=Lv s.data.toList
 rw [show s.data.toList.length=s.size by rw [Array.length_toList];rfl] at hbl
 generalize hv:validB s.data.toList=v
 unfold validB at hv
 cases hd:body s.data.toList with
 | nil =>
  rw [hd] at hv
  have Hv:=A8 hv
  have Hd:=A8 hd
  clear hv hd hbl
  go_enter Tryz.func119,Tryz.ntmps119
  go_wp2_with (go_at_call 144;refine (BY _ _ Hd.out _).mono ?_;rintro e w' ⟨rfl,rfl⟩)
  go_ret
  exact ⟨Ae (by rw [←Hv.out];rfl),Below.refl _ _⟩
 | cons c r =>
  rw [hd] at hv hbl
  by_cases hlen:200<r.length+1
  ·have hvf:v=false:=by rw [←hv,decide_eq_false (show ¬ (c :: r).length≤200 by simp;omega)];simp
   subst hvf
   have Hd:=A8 hd
   clear hv hd
   go_enter Tryz.func119,Tryz.ntmps119
   go_wp2_with (go_at_call 144;refine (BY _ _ Hd.out _).mono ?_;rintro e w' ⟨rfl,rfl⟩)
   go_ret
   exact ⟨rfl,Below.refl _ _⟩
  ·have hlen':r.length+1≤200:=by omega
   cases ht:Lib.trimS (c :: r) tens with
   | cons t ts =>
    have hall:(c :: r).all isD=false:=by
     cases h:(c :: r).all isD with
     | false=>rfl
     | true=>rw [Hm.2 h] at ht;cases ht
    have hvf:v=false:=by rw [←hv,hall];simp
    subst hvf
    have Hd:=A8 hd
    have Ht:=A8 ht
    clear hv hd ht hall
    go_enter Tryz.func119,Tryz.ntmps119
    go_wp2_with (first
     | (go_at_call 144;refine (BY _ _ Hd.out _).mono ?_;rintro e w' ⟨rfl,rfl⟩)
     | (go_at_call 145;refine (Gt _ _ Ht.out (by simp;omega) _).mono ?_;rintro e w2 ⟨rfl,hb2⟩))
    go_ret
    exact ⟨rfl,hb2⟩
   | nil =>
    have hall:=Hm.1 ht
    rw [hall,decide_eq_true (show (c :: r).length≤200 by simp;omega)] at hv
    have Hv:=A8 hv
    have Hd:=A8 hd
    have Ht:=A8 ht
    clear hv hd ht hall
    by_cases h0:s.data.toList=[48]
    ·have hvt:v=true:=by rw [←Hv.out,h0];simp
     subst hvt
     have h0':s.toList=[48]:=(Lib.toList_data s).trans h0
     clear Hv h0
     go_enter Tryz.func119,Tryz.ntmps119
     go_wp2_with (first
      | (go_at_call 144;refine (BY _ _ Hd.out _).mono ?_;rintro e w' ⟨rfl,rfl⟩)
      | (go_at_call 145;refine (Gt _ _ Ht.out (by simp;omega) _).mono ?_;rintro e w2 ⟨rfl,hb2⟩))
     go_ret
     exact ⟨rfl,hb2⟩
    ·have hvc:v=(c != 48):=by rw [←Hv.out,decide_eq_false h0];simp [bne];rfl
     have h0':¬ s.toList=[48]:=fun e=>h0 ((Lib.toList_data s).symm.trans e)
     have Hc:=A8 hvc
     clear Hv h0 hvc
     go_enter Tryz.func119,Tryz.ntmps119
     go_wp2_with (first
      | (go_at_call 144;refine (BY _ _ Hd.out _).mono ?_;rintro e w' ⟨rfl,rfl⟩)
      | (go_at_call 145;refine (Gt _ _ Ht.out (by simp;omega) _).mono ?_;rintro e w2 ⟨rfl,hb2⟩))
     go_ret
     refine ⟨Ae ?_,hb2⟩
     rw [Hc.out,beq_eq_false_iff_ne.2 h0',Bool.false_or]
     show ((c.toNat:Int) != 48)=(c != 48)
     exact byte_ne c
theorem atoi_as (t:ByteArray) (l:List UInt8) (ht:t.data.toList=l) (h0:l≠[]) (h:∀ b∈l,isD b=true) (hl:l.length≤18) (w:World) :
  Calls Tryz.prog 146 #[.string t] w fun e w'=>e=.returned (.tuple #[.int .i64 (dnum l),.nilIface])∧Below w.heap.size w w':=by
 have ha:Lib.atoi l=some (dnum l:Int):=by
  cases l with
  | nil=>exact absurd rfl h0
  | cons b r =>
   have hb:=BJ.1 (h b (by simp))
   have e1:(b==45)=false:=beq_eq_false_iff_ne.2 (fun e=>by subst e;exact absurd hb.1 (by decide))
   have e2:(b==43)=false:=beq_eq_false_iff_ne.2 (fun e=>by subst e;exact absurd hb.1 (by decide))
   have e3:Lib.decNat (b :: r)=some (dnum (b :: r)):=by unfold Lib.decNat;rw [if_neg (by simp)];exact Dh _ 0 h
   unfold Lib.atoi
   simp only [e1,e2,e3];rfl
 refine (Tryz.strconv_Atoi t (dnum l) (by rw [show t.size=t.data.toList.length by rw [Array.length_toList];rfl,ht];exact hl) (by rw [ht];exact ha) w).mono ?_
 rintro e w' ⟨rfl,t,rfl⟩
 exact ⟨rfl,Joins.below_bytesWorld _ _ _ _ (Aa _)⟩
theorem IV {ds:List UInt8} {k f:Nat} {xs:List Int} (hds:∀ b∈ds,isD b=true) (hk:k≤ds.length) (hf:f≤k) (h4:k-f≤4) (hz:k-f<4→f=0) (hx:Dig 10000 xs)
  (hv:Hid ((dnum ds:Int)=dnum (ds.take k)*10000 ^ xs.length+val 10000 xs)) :
  Dig 10000 (xs++[(dnum ((ds.take k).drop f):Int)])∧Hid ((dnum ds:Int)=dnum (ds.take f)*10000 ^ (xs++[(dnum ((ds.take k).drop f):Int)]).length+val 10000 (xs++[(dnum ((ds.take k).drop f):Int)])):=by
 have hc:∀ b∈(ds.take k).drop f,isD b=true:=fun b hb=>hds b (List.mem_of_mem_take (List.mem_of_mem_drop hb))
 have hl:((ds.take k).drop f).length=k-f:=by rw [List.length_drop,List.length_take];omega
 have hlt:=Gm hc
 have hp:10 ^ ((ds.take k).drop f).length≤10 ^ 4:=Nat.pow_le_pow_right (by decide) (by omega)
 have e:ds.take k=ds.take f++(ds.take k).drop f:=by
  conv=>lhs;rw [←List.take_append_drop f (ds.take k)]
  rw [List.take_take,Nat.min_eq_left hf]
 have e2:(dnum (ds.take k):Int)=dnum (ds.take f)*10000+dnum ((ds.take k).drop f):=by
  conv=>lhs;rw [e]
  rw [Ce,hl]
  by_cases h:k-f<4
  ·rw [hz h];simp [dnum,dnF]
  ·rw [show k-f=4 by omega];omega
 refine ⟨hx.snoc (by omega) (by omega),?_⟩
 show (dnum ds:Int)=_
 rw [hv.out,e2,Br,List.length_append,Int.add_mul,Int.mul_assoc]
 simp only [List.length_cons,List.length_nil,Nat.zero_add,Int.pow_succ]
 rw [Int.mul_comm 10000]
 omega
theorem Kg (s:ByteArray) (ds:List UInt8) (w:World) (hd:body s.data.toList=ds) (hds:∀ b∈ds,isD b=true) (hl:ds.length≤200) :
  Calls Tryz.prog 120 #[.string s] w (Gives w fun r w'=>∃ v xs,r=.agg #[.bool (decide (ds.length<s.size)),v]∧Sl w' v xs∧Num 10000 xs (dnum ds)):=by
 have Hd:=A8 hd
 clear hd
 go_enter Tryz.func120,Tryz.ntmps120
 go_wp2_with (go_at_call 144;refine (BY _ _ Hd.out _).mono ?_;rintro e w' ⟨rfl,rfl⟩)
 go_loopw [3] (fun d wr=>∃ (t:ByteArray) (xs:List Int) (v:Value),d=.string t∧t.size≤ds.length∧Hid (t.data.toList=ds.take t.size)∧xs.length+t.size≤ds.length∧Blk wr (w.heap.size+1) #[.bool (decide (ds.length<s.size)),v] 114 ∧
   Blk wr w.heap.size #[.bool false,.slice none 0 0] 114∧wr.ownsRow w.heap.size 3 1 v xs.length (xs.map (Value.int .i64))∧Dig 10000 xs∧Hid ((dnum ds:Int)=dnum (ds.take t.size)*10000 ^ xs.length+val 10000 xs)∧Below w.heap.size w wr)
  (fun d _=>strLen d)
 case atStart =>
  refine ⟨⟨ds.toArray⟩,[],_,rfl,Aa _,(by rw [show (⟨ds.toArray⟩:ByteArray).size=ds.length from rfl,List.take_length];rfl),by show [].length+ds.length≤_;simp,?_,(Blk.new w _ _).alloc _,World.ownsRow_nil _ _ _ _,Dig.nil _,?_,?_⟩
  ·have:=Blk.new (w.alloc (.cells #[.bool false,.slice none 0 0] 114)) #[.bool (decide (ds.length<s.size)),.slice none 0 0] 114
   rwa [World.size_alloc] at this
  ·show (dnum ds:Int)=dnum (ds.take ds.length)*_+_
   rw [List.take_length];simp [val]
  ·exact ((Below.refl _ _).alloc (Aa _) _).alloc (by simp) _
 case round =>
  obtain ⟨t,xs,v,rfl,hk,htd,hxk,hblk,hblk0,hown,hdig,hv,hnx⟩:=hrel
  have c0:=hblk.cell 0
  have c1:=hblk.cell 1
  have f1:=hblk.frozen 1
  simp only [List.getElem?_toArray,List.getElem?_cons_zero,List.getElem?_cons_succ] at c0 c1
  by_cases hk0:t.size=0
  ·have Hk0:=A8 hk0
   have hk1:¬ 0<t.size:=by omega
   clear hk0
   have e0:=hblk0.cell 0
   have e1:=hblk0.cell 1
   have ef0:=hblk0.frozen 0
   have ef1:=hblk0.frozen 1
   simp only [List.getElem?_toArray,List.getElem?_cons_zero,List.getElem?_cons_succ] at e0 e1
   go_wp2_with (go_at_call 126;refine (Bp _ xs _ (Sl.of_own hown)).mono ?_;rintro e w2 ⟨⟨r2,rfl,hz2,hp2⟩,rfl⟩;obtain ⟨a5,c5,rfl⟩:=hz2.shape)
   have hvs:∀ n,v≠.int .i64 n:=by
    rcases hown.2 with ⟨rfl,_⟩ | ⟨g,cap,cur,rfl,_⟩
    ·exact fun n e=>by cases e
    ·exact fun n e=>by cases e
   have m1:=hblk0.kept (Aj wr (w.heap.size+1) 1 (.slice a5 (trim xs).length c5)) (by simp)
   have m2:=m1.set 0 (.bool (decide (ds.length<s.size)))
   have m3:=m2.set 1 (.slice a5 (trim xs).length c5)
   have z1:=((hz2.setBlk hblk (B3 _ _ hvs) 1 (.slice a5 (trim xs).length c5)).setBlk m1 (B3 _ _ (fun n e=>by cases e)) 0 (.bool (decide (ds.length<s.size)))).setBlk m2 (B3 _ _ (fun n e=>by cases e)) 1 (.slice a5 (trim xs).length c5)
   have y0:=m3.cell 0
   have y1:=m3.cell 1
   simp only [A0,A6,A5,List.getElem?_toArray,List.getElem?_cons_zero,List.getElem?_cons_succ] at y0 y1
   refine bodyPost_ret (v:=.agg #[.bool (decide (ds.length<s.size)),.slice a5 (trim xs).length c5]) (by simp [results,Tryz.results120,go_sem,y0,y1]) rfl ?_
   refine ⟨⟨_,rfl,_,_,rfl,z1,?_⟩,?_⟩
   ·have hfin:=hv.out
    rw [show ds.take t.size=[] by rw [Hk0.out];rfl] at hfin
    have e:(dnum ds:Int)=val 10000 xs:=by rw [hfin];simp [dnum,dnF]
    rw [e];exact Num.trim hdig
   ·exact ((hnx.setCell (p:=⟨w.heap.size+1,1,none⟩) (by simp) _).setCell (p:=⟨w.heap.size,0,none⟩) (Aa _) _).setCell (p:=⟨w.heap.size,1,none⟩) (Aa _) _
  ·have hk1:0<t.size:=by omega
   obtain ⟨f,hf⟩:∃ f,f=t.size-4:=⟨_,rfl⟩
   have hf1:f≤t.size:=by omega
   have hf2:t.size≤f+4:=by omega
   have hf3:t.size<f+4→f=0:=by omega
   have hmx:max (0:Int) ((t.size:Int)-4)=(f:Int):=by omega
   have Hst:=A8 (IV (k:=t.size) (f:=f) hds hk hf1 (by omega) (fun h=>hf3 (by omega)) hdig hv)
   have hch:((t.extract f t.size).data.toList)=(ds.take t.size).drop f:=by rw [Lib.extract_data,htd.out,List.take_of_length_le (by simp;omega)]
   have hat:=fun w0=>atoi_as (t.extract f t.size) _ hch (by intro e;have:=congrArg List.length e;simp at this;omega) (fun b hb=>hds b (List.mem_of_mem_take (List.mem_of_mem_drop hb))) (by simp;omega) w0
   have Hat:=A8 hat
   clear hat hf hk0 hch
   have hf3':=A8 hf3
   clear hf3
   go_wp2_with fail
   refine (Hat.out wr).mono ?_
   rintro e w1 ⟨rfl,hb1⟩
   have k1:=hblk.below hb1
   have k0:=hblk0.below hb1
   have ko:=As hown hb1
   have g1:=k1.cell 1
   have gf:=k1.frozen 1
   simp only [List.getElem?_toArray,List.getElem?_cons_zero,List.getElem?_cons_succ] at g1
   have hnr:=k1.not_row (by decide) ko
   have hnr0:=k0.not_row (by decide) ko
   have hz1:w.heap.size≤w1.heap.size:=Nat.le_trans hnx.size hb1.size
   generalize hD:(dnum ((ds.take t.size).drop f):Int)=D at *
   clear hD
   go_wp2_with (at_builtin;refine AU D 112 Tryz.underlying112 rfl _ _ rfl rfl rfl ko (by omega) hz1 ?_;intro g cap' w2 hown2 hg2 hb2;have k2:=(k1.alloc (.cells #[.int .i64 D] 3)).kept hg2 hnr;have j1:=k2.cell 1;have jf:=k2.frozen 1;simp only [List.getElem?_toArray,List.getElem?_cons_zero,List.getElem?_cons_succ] at j1)
   have hex:(t.extract 0 f).data.toList=ds.take f:=by rw [Lib.extract_data,htd.out,List.drop_zero,Nat.sub_zero,List.take_take,Nat.min_eq_left hf1]
   have hes:(t.extract 0 f).size=f:=by
    have e:(t.extract 0 f).size=(t.extract 0 f).data.toList.length:=by rw [Array.length_toList];rfl
    rw [e,hex,List.length_take];omega
   have k3:=k2.set 1 (.slice (some ⟨g,0,none⟩) (xs.length+1) cap')
   have n2:=(k2.not_row (by decide) hown2)
   refine ⟨⟨t.extract 0 f,xs++[D],.slice (some ⟨g,0,none⟩) (xs.length+1) cap',rfl,by rw [hes];omega,by rw [hes];exact hex,by rw [hes,List.length_append];simp;omega,k3,?_,?_,Hst.out.1,by rw [hes];exact Hst.out.2,?_⟩,?_⟩
   ·exact ((k0.alloc (.cells #[.int .i64 D] 3)).kept hg2 hnr0).kept (Aj w2 (w.heap.size+1) 1 _) (by simp)
   ·rw [List.length_append];exact hown2.kept (Aj w2 (w.heap.size+1) 1 _) (.inr (Ne.symm n2))
   ·exact ((hnx.trans (hb1.mono hnx.size)).trans hb2).setCell (p:=⟨w.heap.size+1,1,none⟩) (by simp) _
   ·show (t.extract 0 f).size<t.size
    rw [hes];omega
end
end Go.Proofs.YtcmomjnailihpaaGreatDoor
/- strings.Builder: WriteString and String of a builder that the call itself has made. (The shelf's own contract of copyCheck is not laid at this translation: its panicking branch is refused by the loader.) -/
namespace Go.Proofs.YtcmomjnailihpaaGreatDoor
section
open Go.RowKit
def Bld (base b:Nat) (l:List UInt8) (w:World):Prop :=
 ∃ p v,Blk w b #[p,v] 140∧(p=.pointer none∨p=.pointer (some ⟨b,0,none⟩))∧w.ownsRow base 5 1 v l.length (Lib.byteCells l)
theorem Bld.is {base b:Nat} {l:List UInt8} {w:World} (h:Bld base b l w) {B:Nat} (hB:B≤b) (hb:B≤base):Lib.IsBuilder 140 5 B b (Lib.byteCells l) w:=by
 obtain ⟨p,v,h1,h2,h3⟩:=h
 have hne:=h1.not_row (by decide) h3
 have h3':w.ownsRow B 5 1 v (Lib.byteCells l).length (Lib.byteCells l):=by
  have e:(Lib.byteCells l).length=l.length:=by simp [Lib.byteCells]
  rw [e]
  refine ⟨h3.1,?_⟩
  rcases h3.2 with h' | ⟨g,cap,cur,rfl,hg,hr⟩
  ·exact .inl h'
  ·exact .inr ⟨g,cap,cur,rfl,by omega,hr⟩
 rcases h2 with rfl | rfl
 ·exact .inl ⟨hB,v,h1,h3',fun e=>hne e.symm⟩
 ·exact .inr ⟨hB,v,h1,h3',fun e=>hne e.symm⟩
theorem Dz:(Tryz.prog.info? 140).map (fun j=>j.size)=some 2:=by kernel_rfl
theorem Gu:liesAt Tryz.prog Tryz.prog.depth 140 (2 / Tryz.prog.cellsOf 140) 0 140 1=true:=by kernel_rfl
theorem Kh:(Tryz.prog.info? 5).map (fun i=>(i.zero,i.size,i.bytes))=some (some (.int .u8 0),1,1):=by kernel_rfl
theorem EJ (b:Nat) (w:World) (h0:w.cell? ⟨b,0,none⟩=some (.pointer (some ⟨b,0,none⟩))) :
  Calls Tryz.prog 142 #[.pointer (some ⟨b,0,none⟩)] w fun e w'=>e=.returned (.tuple #[])∧w=w':=by
 obtain ⟨j,hj,_⟩:=Option.map_eq_some_iff.1 Dz
 go_enter Tryz.func142,Tryz.ntmps142
 go_wp2
 rw [Lib.run_neq_ptr_same w _ Tryz.underlying138 hj]
 go_wp2
 go_end0
 exact ⟨rfl,rfl⟩
theorem Es (b:Nat) (w:World) (h0:w.cell? ⟨b,0,none⟩=some (.pointer none)) (hsh:w.shape? b=some (140,2)) (hfz:w.frozen? ⟨b,0,none⟩=false) :
  Calls Tryz.prog 142 #[.pointer (some ⟨b,0,none⟩)] w fun e w'=>e=.returned (.tuple #[])∧w.setCell ⟨b,0,none⟩ (.pointer (some ⟨b,0,none⟩))=w':=by
 obtain ⟨j,hj,hjs⟩:=Option.map_eq_some_iff.1 Dz
 go_enter Tryz.func142,Tryz.ntmps142
 go_wp2
 rw [Lib.run_to_unsafe w ⟨b,0,none⟩ Tryz.underlying138 Tryz.underlying170 hj (by rw [hjs];decide) hsh (Nat.zero_lt_succ 1)]
 simp only [Result.andThen]
 rw [Oper.upon_value]
 go_wp2
 rw [run_callFunc_extern Tryz.func156 (by kernel_rfl) (by kernel_rfl) (by kernel_rfl) (e:=Extern.AbiNoEscape.same) (by kernel_rfl)]
 rw [Lib.run_noEscape]
 simp only [Result.andThen]
 rw [Oper.upon_value]
 go_wp2
 rw [Lib.run_from_unsafe w ⟨b,0,none⟩ Tryz.underlying170 Tryz.underlying138 hj hsh Gu]
 simp only [Result.andThen]
 rw [Oper.upon_value]
 go_wp2
 go_end0
 exact ⟨rfl,rfl⟩
structure Wrote (base b:Nat) (w w':World):Prop where
 os:w'.os=w.os
 tape:w'.tape=w.tape
 output:w'.output=w.output
 size:w.heap.size≤w'.heap.size
 block:∀ k,k<base→k<w.heap.size→k≠b→w'.heap[k]? = w.heap[k]?
 others:∀ (k:Nat) (o:Obj),w.heap[k]? = some o→o.isCells=false→w'.heap[k]? = some o
theorem FD {base b:Nat} {l:List UInt8} {w:World} (h:Bld base b l w) :
  Calls Tryz.prog 142 #[.pointer (some ⟨b,0,none⟩)] w fun e w'=>e=.returned (.tuple #[])∧(∃ v,Blk w' b #[.pointer (some ⟨b,0,none⟩),v] 140∧w'.ownsRow base 5 1 v l.length (Lib.byteCells l))∧w.grownBy w' (some b):=by
 obtain ⟨p,v,h1,h2,h3⟩:=h
 have c0:=h1.cell 0
 simp only [List.getElem?_toArray,List.getElem?_cons_zero] at c0
 rcases h2 with rfl | rfl
 ·refine (Es b w c0 (by simp [World.shape?,show w.heap[b]? = _ from h1]) (h1.frozen 0)).mono ?_
  rintro e w' ⟨rfl,rfl⟩
  have hne:=h1.not_row (by decide) h3
  refine ⟨rfl,⟨v,?_,h3.kept (Aj w b 0 _) (.inr (fun e=>hne e.symm))⟩,Aj w b 0 _⟩
  have:=h1.set 0 (.pointer (some ⟨b,0,none⟩))
  simpa using this
 ·refine (EJ b w c0).mono ?_
  rintro e w' ⟨rfl,rfl⟩
  exact ⟨rfl,⟨v,h1,h3⟩,⟨rfl,rfl,rfl,Aa _,fun _ _ _=>rfl⟩⟩
theorem AR {base b:Nat} {l:List UInt8} {w:World} (h:Bld base b l w) (s:ByteArray) (hlen:l.length+s.size≤1000000) (hbase:base≤w.heap.size) :
  Calls Tryz.prog 114 #[.pointer (some ⟨b,0,none⟩),.string s] w fun e w'=>e=.returned (.tuple #[.int .i64 s.size,.nilIface])∧Bld base b (l++s.data.toList) w'∧Wrote base b w w':=by
 obtain ⟨i0,hi,hz0,hz1,hz2⟩:=info_parts Kh
 have hbl:b<w.heap.size:=by obtain ⟨p,v,h1,_⟩:=h;exact h1.lt
 go_enter Tryz.func114,Tryz.ntmps114
 go_wp2_with (go_at_call 142;refine (FD h).mono ?_)
 rintro e w1 ⟨rfl,⟨v,h1,h3⟩,hg1⟩
 have c1:=h1.cell 1
 simp only [List.getElem?_toArray,List.getElem?_cons_zero,List.getElem?_cons_succ] at c1
 have hs1:=hg1.size
 have hne:=h1.not_row (by decide) h3
 have hlb:(Lib.byteCells l).length=l.length:=by simp [Lib.byteCells]
 go_wp2_with (at_builtin;refine Lib.wpList_append_own_string _ rfl _ _ 132 9 rfl base 5 i0 Tryz.underlying132 Tryz.underlying9 hi hz0 hz1 hz2 _ _ _ rfl h3 s rfl ?c4 ?c5 ?c6 ?_)
 case c4=>unfold maxLen;omega
 case c5=>omega
 case c6=>omega
 intro v' w2 hown' hgrow _
 have k2:=h1.kept hgrow hne
 have d1:=k2.cell 1
 have f1:=k2.frozen 1
 simp only [List.getElem?_toArray,List.getElem?_cons_zero,List.getElem?_cons_succ] at d1
 have hne2:=k2.not_row (by decide) hown'
 obtain ⟨ao,n',cap,rfl⟩:∃ ao n' cap,v'=.slice ao n' cap:=by
  rcases hown'.2 with ⟨hv,_⟩ | ⟨g,cap,cur,hv,_⟩
  ·exact ⟨_,_,_,hv⟩
  ·exact ⟨_,_,_,hv⟩
 go_wp2
 go_ret2
 have e1:(l++s.data.toList).length=l.length+s.size:=by rw [List.length_append,Array.length_toList];rfl
 have e2:Lib.byteCells (l++s.data.toList)=Lib.byteCells l++Lib.strCells s:=by unfold Lib.byteCells Lib.strCells;rw [List.map_append]
 refine ⟨rfl,⟨.pointer (some ⟨b,0,none⟩),.slice ao n' cap,?_,.inr rfl,?_⟩,?_⟩
 ·have:=k2.set 1 (.slice ao n' cap)
  simpa using this
 ·rw [e1,e2];exact hown'.kept (Aj w2 b 1 _) (.inr (fun e=>hne2 e.symm))
 ·have g3:=Aj w2 b 1 (.slice ao n' cap)
  have hrow:∀ k,v.ownBlock=some k→base≤k∧∃ o:Obj,w1.heap[k]? = some o∧o.isCells=true:=fun k hk=>by
   refine ⟨(h3.lt k hk).1,?_⟩
   rcases h3.2 with ⟨rfl,_⟩ | ⟨g,cap',cur,rfl,_,hg,_⟩
   ·cases hk
   ·cases hk;exact ⟨_,hg,rfl⟩
  refine ⟨g3.os.trans (hgrow.os.trans hg1.os),g3.tape.trans (hgrow.tape.trans hg1.tape),g3.output.trans (hgrow.output.trans hg1.output),Nat.le_trans hs1 (Nat.le_trans hgrow.size g3.size),fun k hk hkw hkb=>?_,fun k o ho hno=>?_⟩
  ·rw [g3.block k (A9 (A9 hkw hs1) hgrow.size) (fun e=>hkb (Option.some.inj e)),hgrow.block k (A9 hkw hs1) (fun e=>by have:=(hrow k e.symm).1;omega),hg1.block k hkw (fun e=>hkb (Option.some.inj e))]
  ·have hkw:=(Array.getElem?_eq_some_iff.1 ho).1
   have hkb:k≠b:=fun e=>by
    subst e
    obtain ⟨p,v0,h0,_⟩:=h
    rw [show w.heap[k]? = _ from h0] at ho;cases ho;cases hno
   have a1:=(hg1.block k hkw (fun e=>hkb (Option.some.inj e))).trans ho
   have a2:some k≠v.ownBlock:=fun e=>by
    obtain ⟨_,o',ho',hc⟩:=hrow k e.symm
    rw [a1] at ho';cases ho';rw [hno] at hc;cases hc
   rw [g3.block k (A9 (A9 hkw hs1) hgrow.size) (fun e=>hkb (Option.some.inj e)),hgrow.block k (A9 hkw hs1) a2,a1]
theorem CF {base b:Nat} {l:List UInt8} {w:World} (h:Bld base b l w) (hbb:b≤base) (hbw:b≤w.heap.size) :
  Calls Tryz.prog 116 #[.pointer (some ⟨b,0,none⟩)] w fun e w'=>e=.returned (.string ⟨l.toArray⟩)∧Below b w w'∧KeepsOthers w w':=by
 refine (Tryz.Builder_String_any_k b b l w (.of (h.is (Aa _) hbb)) hbw).mono ?_
 rintro e w' ⟨rfl,_,hb,hk⟩
 refine ⟨rfl,hb,hb.size,fun k o ho hno=>hk k o ho (fun e=>?_) (fun c fz e=>by subst e;cases hno)⟩
 cases e
 obtain ⟨p,v,h1,_⟩:=h
 rw [show w.heap[b]? = _ from h1] at ho
 cases ho;cases hno
end
end Go.Proofs.YtcmomjnailihpaaGreatDoor
/- Numbers as texts: the digits of groups of four (no program). -/
namespace Go.Proofs.YtcmomjnailihpaaGreatDoor
section
open Go.RowKit
def pad (d:Nat):List UInt8:=List.replicate (4-(Lib.decDigits d).length) 48++Lib.decDigits d
theorem C6 {d:Nat} (h:d<10000):1≤(Lib.decDigits d).length∧(Lib.decDigits d).length≤4 :=
 ⟨by have:=(Am d).2.2.1;cases hd:Lib.decDigits d with
  | nil=>exact absurd hd this
  | cons=>simp,AS (k:=4) (by omega) (by decide)⟩
theorem JG {d:Nat} (h:d<10000):(pad d).length=4:=by
 have:=C6 h
 unfold pad;rw [List.length_append,List.length_replicate];omega
theorem IW (k:Nat) (l:List UInt8):dnum (List.replicate k 48++l)=dnum l:=by
 induction k with
 | zero=>rfl
 | succ k ih =>
  rw [List.replicate_succ,List.cons_append]
  have:dnum (48 :: (List.replicate k 48++l))=dnF ((0:Nat)*10+((48:UInt8).toNat-48)) (List.replicate k 48++l):=rfl
  rw [this];exact ih
theorem EK {m d:Nat} (hm:0<m) (hd:d<10000):Lib.decDigits (m*10000+d)=Lib.decDigits m++pad d:=by
 have sm:=Am m
 have sd:=Am d
 have hD:∀ b∈Lib.decDigits m++pad d,isD b=true:=by
  intro b hb
  rcases List.mem_append.1 hb with hb | hb
  ·exact sm.2.1 b hb
  ·unfold pad at hb
   rcases List.mem_append.1 hb with hb | hb
   ·rw [(List.mem_replicate.1 hb).2];decide
   ·exact sd.2.1 b hb
 have hv:dnum (Lib.decDigits m++pad d)=m*10000+d:=by
  rw [Ce,JG hd,sm.1]
  unfold pad
  rw [IW,sd.1]
 rw [←hv]
 exact AX _ hD (by intro e;exact sm.2.2.1 (List.append_eq_nil_iff.1 e).1) (by rw [Cd _ sm.2.2.1];exact sm.2.2.2 (by omega))
def chunk (xs:List Int) (i:Nat):List UInt8:=if i+1<xs.length then pad (gi xs i).toNat else Lib.decDigits (gi xs i).toNat
def chunks (xs:List Int) (pre:List (Fin xs.length)):List UInt8:=pre.flatMap (fun x=>chunk xs x.1)
theorem CX (xs:List Int) (pre:List (Fin xs.length)) (x:Fin xs.length):chunks xs (pre++[x])=chunks xs pre++chunk xs x.1:=by simp [chunks]
theorem Gv {xs:List Int} (h:Dig 10000 xs) (i:Nat):(gi xs i).toNat<10000∧((gi xs i).toNat:Int)=gi xs i:=by
 have:=h.gi (by decide) i
 omega
theorem Ki {xs:List Int} (h:Dig 10000 xs) (i:Nat):(chunk xs i).length≤4:=by
 have:=Gv h i
 unfold chunk
 split
 ·rw [JG this.1];omega
 ·exact (C6 this.1).2
theorem IX {xs:List Int} (h:Dig 10000 xs) (pre:List (Fin xs.length)):(chunks xs pre).length≤4*pre.length:=by
 induction pre with
 | nil=>simp [chunks]
 | cons x pre ih =>
  have:=Ki h x.1
  have e:chunks xs (x :: pre)=chunk xs x.1++chunks xs pre:=by simp [chunks]
  rw [e,List.length_append,List.length_cons];omega
theorem Gw {xs:List Int} {i:Nat} (h:i<xs.length):xs.drop i=gi xs i :: xs.drop (i+1):=by
 rw [Bo h];exact List.drop_eq_getElem_cons h
theorem Dig.drop {b:Int} {xs:List Int} (h:Dig b xs) (k:Nat):Dig b (xs.drop k):=fun x hx=>h x (List.mem_of_mem_drop hx)
theorem DA {xs:List Int} (h:Dig 10000 xs) (ht:Top xs):∀ k,k+1≤xs.length →
  0<val 10000 (xs.drop (xs.length-(k+1)))∧chunks xs (downs xs.length (k+1))=Lib.decDigits (val 10000 (xs.drop (xs.length-(k+1)))).toNat
 | 0,hk=>by
  have e:xs.length-(0+1)=xs.length-1:=by omega
  have hg:=Gv h (xs.length-1)
  have h0:=ht (xs.length-1) (by omega)
  have hv:val 10000 (xs.drop (xs.length-(0+1)))=gi xs (xs.length-1):=by
   rw [e,Gw (by omega),List.drop_eq_nil_of_le (by omega)];simp [val]
  have hd:chunks xs (downs xs.length (0+1))=chunk xs (xs.length-1):=by rw [AK (by omega)];simp [chunks,downs]
  rw [hv,hd]
  refine ⟨by omega,?_⟩
  unfold chunk;rw [if_neg (by omega)]
 | k+1,hk=>by
  obtain ⟨ih1,ih2⟩:=DA h ht k (by omega)
  have hg:=Gv h (xs.length-1-(k+1))
  have e:xs.length-(k+1+1)=xs.length-1-(k+1):=by omega
  have e2:xs.length-1-(k+1)+1=xs.length-(k+1):=by omega
  have hv:val 10000 (xs.drop (xs.length-(k+1+1)))=gi xs (xs.length-1-(k+1))+10000*val 10000 (xs.drop (xs.length-(k+1))):=by
   rw [e,Gw (by omega),e2];rfl
  rw [AK (by omega),CX,ih2]
  refine ⟨by rw [hv];omega,?_⟩
  show _++chunk xs (xs.length-1-(k+1))=_
  unfold chunk;rw [if_pos (by omega),←EK (by omega) hg.1,hv]
  congr 1
  omega
theorem IY {xs:List Int} {n:Int} (h:Num 10000 xs n) (h0:xs.length≠0):chunks xs (downs xs.length xs.length)=Lib.decDigits n.toNat∧0<n:=by
 obtain ⟨k,hk⟩:∃ k,xs.length=k+1:=⟨xs.length-1,by omega⟩
 have hc:=DA h.dig h.top k (by omega)
 have e:xs.length-(k+1)=0:=by omega
 rw [e,List.drop_zero,h.val,←hk] at hc
 exact ⟨hc.2,hc.1⟩
theorem Eg (k:Nat):Lib.repeatL [48] k=List.replicate k 48:=by
 induction k with
 | zero=>rfl
 | succ k ih=>rw [List.replicate_succ,←ih];rfl
def Small (z:Int):Prop:=-Big<z∧z<Big
instance (z:Int):Decidable (Small z):=inferInstanceAs (Decidable (_∧_))
def txt (z:Int):List UInt8:=if Small z then Lib.itoa z else []
def erz (z:Int):Int:=if Small z then 0 else 30
def sgn (b:Bool) (n:Int):Int:=if b then -n else n
theorem Kj {b:Bool} {n:Int} (h:0≤n):Small (sgn b n)↔n<Big:=by
 have hB:(0:Int)<Big:=by unfold Big;decide
 unfold Small sgn
 cases b
 ·simp;omega
 ·simp;omega
theorem IZ {n:Int} (h:0<n):200<(Lib.decDigits n.toNat).length↔¬ n<Big:=by
 constructor
 ·intro hl hb
  have:n.toNat<10 ^ 200:=by unfold Big at hb;omega
  have:=AS this (by decide)
  omega
 ·intro hb
  have:10 ^ 200≤n.toNat:=by unfold Big at hb;omega
  exact BC this
def Fits (z:Int):Prop:=-9223372036854775808≤z∧z≤9223372036854775807
instance (z:Int):Decidable (Fits z):=by unfold Fits;infer_instance
end
end Go.Proofs.YtcmomjnailihpaaGreatDoor
/- signed.text: an integer as a text,or the error 30. -/
namespace Go.Proofs.YtcmomjnailihpaaGreatDoor
section
open Go.RowKit Go.Shelf
attribute [local go_sem] Oper.semAt_some
structure Env (w:World):Prop where
 tab : Lib.TabIs Tryz.prog w "internal/strconv.uint64pow10" .u64 Lib.pow10Tab
theorem J0 : (Tryz.prog.globalNamed "internal/strconv.uint64pow10").isSome = true := by kernel_rfl
theorem Env.below {w w':World} {B:Nat} (h:Env w) (hb:Below B w w') (hB:w.heap.size≤B):Env w':=by
 obtain ⟨g,hg⟩:=Option.isSome_iff_exists.1 J0
 exact ⟨Joins.tab_stays hg h.tab hb hB⟩
theorem itoa_as {n:Int} (h0:0≤n) (h1:n<10000) {w:World} (hE:Env w) :
  Calls Tryz.prog 91 #[.int .i64 n] w fun e w'=>e=.returned (.string ⟨(Lib.decDigits n.toNat).toArray⟩)∧Below w.heap.size w w':=by
 refine (Tryz.strconv_Itoa n (by omega) (by omega) w hE.tab).mono ?_
 rintro e w' ⟨rfl,k,os,rfl⟩
 exact ⟨by rw [Ao h0],Lib.below_grow _ w (Aa _) k os⟩
theorem Kk {d:Int} (h0:0≤d) (h4:d≤4) {w:World} :
  Calls Tryz.prog 82 #[.string ⟨#[48]⟩,.int .i64 d] w fun e w'=>e=.returned (.string ⟨(List.replicate d.toNat 48).toArray⟩)∧Below w.heap.size w w':=by
 obtain ⟨k,rfl⟩:=Int.eq_ofNat_of_zero_le h0
 refine (Tryz.strings_Repeat ⟨#[48]⟩ k w (by omega) (by show 1*k≤_;omega)).mono ?_
 rintro e w' ⟨rfl,hb⟩
 exact ⟨by rw [show ((k:Int)).toNat=k from rfl,←Eg],hb⟩
theorem Wrote.keeps {base b:Nat} {w w':World} (h:Wrote base b w w'):KeepsOthers w w':=⟨h.size,h.others⟩
theorem Ho {w w':World} (h:Below w.heap.size w w'):KeepsOthers w w':=⟨h.size,fun k _ hk _=>(h.block k (Array.getElem?_eq_some_iff.1 hk).1).trans hk⟩
theorem BV (a b:Array UInt8):(⟨a⟩++⟨b⟩:ByteArray)=⟨(a.toList++b.toList).toArray⟩:=by
 apply ByteArray.ext;simp
theorem C7 (l:List UInt8):(⟨l.toArray⟩:ByteArray).size=l.length:=rfl
theorem Bld.cellsKept {base b:Nat} {l:List UInt8} {W W':World} (h:Bld base b l W) (k:CellsKept W W'):Bld base b l W':=by
 obtain ⟨p,v,h1,h2,h3⟩:=h
 exact ⟨p,v,k.2 _ _ h1 rfl,h2,k.own h3⟩
theorem Bld.below {base b:Nat} {l:List UInt8} {W W':World} (h:Bld base b l W) (k:Below W.heap.size W W'):Bld base b l W':=by
 obtain ⟨p,v,h1,h2,h3⟩:=h
 exact ⟨p,v,h1.below k,h2,As h3 k⟩
theorem Wrote.only {base b:Nat} {w W W':World} (h:Wrote base b W W') (hw:w.heap.size≤base) (ho:Only [b] w W):Only [b] w W' :=
 ⟨h.os.trans ho.os,h.tape.trans ho.tape,h.output.trans ho.output,Nat.le_trans ho.size h.size,fun k hk hs=>(h.block k (A9 hk hw) (A9 hk ho.size) (by simpa using hs)).trans (ho.block k hk hs)⟩
theorem Kl (neg:Bool) (v:Value) (w:World) (hv:Sl w v []) :
  Calls Tryz.prog 90 #[.agg #[.bool neg,v]] w fun e w'=>e=.returned (.tuple #[.string ⟨#[48]⟩,.int .i64 0])∧Below w.heap.size w w':=by
 obtain ⟨a1,c1,rfl⟩:=hv.shape
 refine (callsIn_wide (n:=5)).1 ?_
 refine callsIn_of_wp_marks Tryz.func90 rfl trivial ?_ rfl
 simp only [Tryz.ntmps90,List.size_toArray,List.length_cons,List.length_nil,Nat.reduceAdd,Nat.reduceSub,Array.replicate_succ,Array.replicate_zero,List.push_toArray,List.append_toArray,List.nil_append,List.cons_append]
 gi_wp2_with fail
 exact ⟨.tuple #[.string ⟨#[48]⟩,.int .i64 0],by simp [results,Tryz.results90,go_sem],rfl,(Below.refl _ _).alloc (Aa _) _⟩
theorem Lw (neg:Bool) (v:Value) (xs:List Int) (n:Int) (w:World) (hE:Env w) (hv:Sl w v xs) (hn:Num 10000 xs n) (hl:xs.length≤10000) (h0:xs.length≠0) :
  Calls Tryz.prog 90 #[.agg #[.bool neg,v]] w fun e w'=>e=.returned (.tuple #[.string ⟨(txt (sgn neg n)).toArray⟩,.int .i64 (erz (sgn neg n))])∧Below w.heap.size w w':=by
 have hw0:Below w.heap.size w (((w.alloc (.cells #[.bool neg,v] 114)).alloc (.cells #[.pointer none,.slice none 0 0] 140)).alloc (.cells #[v] 112)):=(((Below.refl _ _).alloc (Aa _) _).alloc (by simp) _).alloc (by simp;omega) _
 have hv0:=hv.below hw0
 have hvp:=hv.ptr_lt
 have b1:Blk (((w.alloc (.cells #[.bool neg,v] 114)).alloc (.cells #[.pointer none,.slice none 0 0] 140)).alloc (.cells #[v] 112)) w.heap.size #[.bool neg,v] 114:=((Blk.new w _ _).alloc _).alloc _
 have b2:Blk (((w.alloc (.cells #[.bool neg,v] 114)).alloc (.cells #[.pointer none,.slice none 0 0] 140)).alloc (.cells #[v] 112)) (w.heap.size+1) #[.pointer none,.slice none 0 0] 140:=by
  have:=(Blk.new (w.alloc (.cells #[.bool neg,v] 114)) #[.pointer none,.slice none 0 0] 140).alloc (.cells #[v] 112)
  rwa [World.size_alloc] at this
 have b3:Boxed (((w.alloc (.cells #[.bool neg,v] 114)).alloc (.cells #[.pointer none,.slice none 0 0] 140)).alloc (.cells #[v] 112)) (w.heap.size+1+1) 112 v:=by
  have:=Boxed.new ((w.alloc (.cells #[.bool neg,v] 114)).alloc (.cells #[.pointer none,.slice none 0 0] 140)) 112 v
  rwa [World.size_alloc,World.size_alloc] at this
 obtain ⟨a1,c1,rfl⟩:=hv.shape
 have hne:((xs.length:Int)==0)=false:=by rw [beq_eq_false_iff_ne];omega
 have Hall:=A8 (IY hn h0)
 clear h0
 refine (callsIn_wide (n:=5)).1 ?_
 refine callsIn_of_wp_marks Tryz.func90 rfl trivial ?_ rfl
 simp only [Tryz.ntmps90,List.size_toArray,List.length_cons,List.length_nil,Nat.reduceAdd,Nat.reduceSub,Array.replicate_succ,Array.replicate_zero,List.push_toArray,List.append_toArray,List.nil_append,List.cons_append]
 gi_wp2_with (refine ⟨trivial,?_⟩;gi_at_call 121;refine (Eu Fence.wide 4 trivial rfl _ _ ⟨_,_,_,rfl⟩).mono ?_;rintro e w' ⟨rfl,rfl⟩)
 have hown0:∀ W:World,W.ownsRow (w.heap.size+1+1+1) 5 1 (.slice none 0 0) 0 (Lib.byteCells []):=fun W=>World.ownsRow_nil _ _ _ _
 have hsz:(((w.alloc (.cells #[.bool neg,.slice a1 xs.length c1] 114)).alloc (.cells #[.pointer none,.slice none 0 0] 140)).alloc (.cells #[.slice a1 xs.length c1] 112)).heap.size=w.heap.size+1+1+1:=by simp
 refine H9 (w.heap.size+1+1) [w.heap.size+1] (.slice a1 xs.length c1) xs rfl b3.cell hv0 (by simp) (fun b o e=>by have:=hvp b o e;simp;omega) rfl
  (fun pre W=>Blk W w.heap.size #[.bool neg,.slice a1 xs.length c1] 114∧Bld (w.heap.size+1+1+1) (w.heap.size+1) (chunks xs pre) W)
  (fun pre W=>False)
  (fun pre W W' h k=>⟨k.2 _ _ h.1 rfl,h.2.cellsKept k⟩) (fun pre W W' h k=>h)
  ⟨b1,_,_,b2,.inl rfl,hown0 _⟩
  (fun x=>{ tmps:=#[.agg #[.bool neg,.slice a1 xs.length c1],.pointer (some ⟨w.heap.size,0,none⟩),.string ⟨#[]⟩,.int .i64 0,.pointer (some ⟨w.heap.size+1,0,none⟩),.int .i64 (x.1:Int),.int .i64 (gi xs x.1),undef,undef,
   .pointer (some ⟨w.heap.size,1,none⟩),.slice a1 xs.length c1,.int .i64 xs.length,.bool false,.pointer (some ⟨w.heap.size,1,none⟩),.slice a1 xs.length c1,.func (.func 147) #[] #[.pointer (some ⟨w.heap.size+1+1,0,none⟩)],
   .int .i64 (x.1:Int),.int .i64 (gi xs x.1),undef,undef,undef,undef,undef,undef,undef,undef,undef,undef,undef,undef,undef,undef,undef,undef,undef,undef,undef,undef,undef,undef,undef,undef,undef],defers:=[] }) ?assign ?body ?done ?stop
 case assign =>
  intro l x W K hK
  gi_wp2
  exact hK
 case body =>
  rintro l pre x W ho ⟨h1,h2⟩ hlen
  have hbw:Below w.heap.size w W:=hw0.trans (ho.toBelow (by rw [hsz];omega) (by simp))
  have hEW:=hE.below hbw (Aa _)
  have hg:=Gv hn.dig x.1
  have hd4:=C6 hg.1
  have hlc:=IX hn.dig pre
  have hsw:=ho.size
  rw [hsz] at hsw
  have Hit:=fun W hE'=>itoa_as (n:=gi xs x.1) (by omega) (by omega) (w:=W) hE'
  generalize hds:Lib.decDigits (gi xs x.1).toNat=ds at *
  have hds2:(⟨ds.toArray⟩:ByteArray).size=ds.length:=rfl
  have hfin:∀ W2 W3,Below W.heap.size W W2→Wrote (w.heap.size+1+1+1) (w.heap.size+1) W2 W3→Bld (w.heap.size+1+1+1) (w.heap.size+1) (chunks xs (pre++[x])) W3 →
    KeepsOthers W W3∧Only [w.heap.size+1] (((w.alloc (.cells #[.bool neg,.slice a1 xs.length c1] 114)).alloc (.cells #[.pointer none,.slice none 0 0] 140)).alloc (.cells #[.slice a1 xs.length c1] 112)) W3 ∧
    Blk W3 w.heap.size #[.bool neg,.slice a1 xs.length c1] 114∧Bld (w.heap.size+1+1+1) (w.heap.size+1) (chunks xs (pre++[x])) W3:=fun W2 W3 hb hwr hbl =>
   ⟨(Ho hb).trans hwr.keeps,hwr.only (by rw [hsz];omega) (ho.below hb),(hwr.block _ (by omega) (h1.below hb).lt (by omega)).trans (h1.below hb),hbl⟩
  by_cases hlast:(x.1:Int)<(xs.length:Int)-1
  ·have hch:chunk xs x.1=List.replicate (4-ds.length) 48++ds:=by unfold chunk;rw [if_pos (by omega)];unfold pad;rw [hds]
   have Hch:=A8 hch
   clear hch
   gi_wp2_with (refine ⟨trivial,?_⟩;gi_at_call 91;refine (CallsIn.inRound l (callsIn_wide.2 (Hit _ hEW))).mono ?_;rintro e W1 ⟨rfl,hb1⟩;have k1:=h1.below hb1;have k2:=h2.below hb1;have g1:=k1.cell 1;simp only [List.getElem?_toArray,List.getElem?_cons_zero,List.getElem?_cons_succ] at g1)
   refine ⟨trivial,(CallsIn.inRound l (callsIn_wide.2 (Kk (by omega) (by omega)))).mono ?_⟩
   rintro e W2 ⟨rfl,hb2⟩
   have k3:=k2.below hb2
   gi_wp2_with fail
   simp only [BV]
   refine ⟨trivial,(CallsIn.inRound l (callsIn_wide.2 (AR k3 _ (by rw [C7];simp;omega) (by have:=hb1.size;have:=hb2.size;omega)))).mono ?_⟩
   rintro e W3 ⟨rfl,hbl,hwr⟩
   gi_wp2_with fail
   refine hfin _ _ (hb1.trans (hb2.mono hb1.size)) hwr ?_
   rw [CX,Hch.out]
   rw [Array.toList_replicate] at hbl
   exact hbl
  ·have hch:chunk xs x.1=ds:=by unfold chunk;rw [if_neg (by omega)];exact hds
   have Hch:=A8 hch
   clear hch
   gi_wp2_with (refine ⟨trivial,?_⟩;gi_at_call 91;refine (CallsIn.inRound l (callsIn_wide.2 (Hit _ hEW))).mono ?_;rintro e W1 ⟨rfl,hb1⟩;have k1:=h1.below hb1;have k2:=h2.below hb1;have g1:=k1.cell 1;simp only [List.getElem?_toArray,List.getElem?_cons_zero,List.getElem?_cons_succ] at g1)
   refine ⟨trivial,(CallsIn.inRound l (callsIn_wide.2 (AR k2 ⟨ds.toArray⟩ (by rw [hds2];omega) (by have:=hb1.size;omega)))).mono ?_⟩
   rintro e W3 ⟨rfl,hbl,hwr⟩
   gi_wp2_with fail
   exact hfin _ _ hb1 hwr (by rw [CX,Hch.out];exact hbl)
 case done =>
  rintro D W hD ho ⟨h1,h2⟩ hK
  rw [Hall.out.1] at h2
  have hpos:=Hall.out.2
  have hsw:=ho.size
  rw [hsz] at hsw hD
  have hdb:=IZ hpos
  have hsm:=Kj (b:=neg) (n:=n) (by omega)
  have hin:n.natAbs=n.toNat:=by omega
  have hfin:∀ W1,Below (w.heap.size+1) W W1→Below w.heap.size w (W1.putObj D (.deferred none)):=fun W1 hb =>
   hw0.trans ((((ho.toBelow (B:=w.heap.size) (by rw [hsz];omega) (by simp)).trans (hb.mono (by omega)))).grown (grownBy_putObj' W1 D _) (by have:=hb.size;omega) (fun k e=>by cases e;omega))
  by_cases hc:(200:Int)<((Lib.decDigits n.toNat).length:Int)
  ·have ht:txt (sgn neg n)=[]∧erz (sgn neg n)=30:=by
    have:¬ Small (sgn neg n):=by rw [hsm];exact hdb.1 (by omega)
    exact ⟨if_neg this,if_neg this⟩
   have Ht:=A8 ht
   clear ht hsm hdb
   gi_wp2_with (refine ⟨trivial,?_⟩;gi_at_call 116;refine (callsIn_wide.2 (CF h2 (by omega) (by omega))).mono ?_;rintro e W1 ⟨rfl,hb1,hk1⟩;have k1:=(hb1.block _ (by omega)).trans h1;have g0:=Blk.cell k1 0;have g1:=Blk.cell k1 1;simp only [List.getElem?_toArray,List.getElem?_cons_zero,List.getElem?_cons_succ] at g0 g1)
   exact Bi (hk1.same D _ hK rfl) (v:=.tuple #[.string ⟨#[]⟩,.int .i64 30]) (by simp [results,Tryz.results90,go_sem]) ⟨by rw [Ht.out.1,Ht.out.2],hfin _ hb1⟩
  ·have ht:txt (sgn neg n)=Lib.itoa (sgn neg n)∧erz (sgn neg n)=0:=by
    have:Small (sgn neg n):=by
     rw [hsm]
     by_cases e:n<Big
     ·exact e
     ·exact absurd (hdb.2 e) (by omega)
    exact ⟨if_pos this,if_pos this⟩
   clear hsm hdb
   cases neg
   ·have hj:Lib.itoa (sgn false n)=Lib.decDigits n.toNat:=Ao (n:=n) (by omega)
    rw [hj] at ht
    have Ht:=A8 ht
    clear ht hj
    gi_wp2_with (refine ⟨trivial,?_⟩;gi_at_call 116;refine (callsIn_wide.2 (CF h2 (by omega) (by omega))).mono ?_;rintro e W1 ⟨rfl,hb1,hk1⟩;have k1:=(hb1.block _ (by omega)).trans h1;have g0:=Blk.cell k1 0;have g1:=Blk.cell k1 1;simp only [List.getElem?_toArray,List.getElem?_cons_zero,List.getElem?_cons_succ] at g0 g1)
    exact Bi (hk1.same D _ hK rfl) (v:=.tuple #[.string ⟨(Lib.decDigits n.toNat).toArray⟩,.int .i64 0]) (by simp [results,Tryz.results90,go_sem]) ⟨by rw [Ht.out.1,Ht.out.2],hfin _ hb1⟩
   ·have hj:Lib.itoa (sgn true n)=45 :: Lib.decDigits n.toNat:=by
     have e:sgn true n=-n:=rfl
     rw [BR (by rw [e];omega),e,Int.natAbs_neg,hin]
    rw [hj] at ht
    have Ht:=A8 ht
    clear ht hj
    gi_wp2_with (refine ⟨trivial,?_⟩;gi_at_call 116;refine (callsIn_wide.2 (CF h2 (by omega) (by omega))).mono ?_;rintro e W1 ⟨rfl,hb1,hk1⟩;have k1:=(hb1.block _ (by omega)).trans h1;have g0:=Blk.cell k1 0;have g1:=Blk.cell k1 1;simp only [List.getElem?_toArray,List.getElem?_cons_zero,List.getElem?_cons_succ] at g0 g1)
    simp only [BV]
    exact Bi (hk1.same D _ hK rfl) (v:=.tuple #[.string ⟨(45 :: Lib.decDigits n.toNat).toArray⟩,.int .i64 0]) (by simp [results,Tryz.results90,go_sem]) ⟨by rw [Ht.out.1,Ht.out.2],hfin _ hb1⟩
 case stop =>
  rintro D k W hk hD ho h hK
  exact h.elim
theorem Bu (neg:Bool) (v:Value) (xs:List Int) (n:Int) (w:World) (hE:Env w) (hv:Sl w v xs) (hn:Num 10000 xs n) (hl:xs.length≤10000) :
  Calls Tryz.prog 90 #[.agg #[.bool neg,v]] w fun e w'=>e=.returned (.tuple #[.string ⟨(txt (sgn neg n)).toArray⟩,.int .i64 (erz (sgn neg n))])∧Below w.heap.size w w':=by
 by_cases h0:xs.length=0
 ·have h0':=List.eq_nil_of_length_eq_zero h0
  have hz:=(hn.zero_iff (by decide)).1 h0'
  subst h0' hz
  have e:sgn neg 0=0:=by cases neg <;> rfl
  have hs:Small 0:=by unfold Small Big;decide
  have e1:txt (sgn neg 0)=[48]:=by rw [e];unfold txt;rw [if_pos hs,Ao (by omega),Ap (by decide)];decide
  have e2:erz (sgn neg 0)=0:=by rw [e];unfold erz;rw [if_pos hs]
  rw [e1,e2]
  exact Kl neg v w hv
 ·exact Lw neg v xs n w hE hv hn hl h0
end
end Go.Proofs.YtcmomjnailihpaaGreatDoor
/- signed.plus. -/
namespace Go.Proofs.YtcmomjnailihpaaGreatDoor
section
open Go.RowKit
attribute [local go_sem] Oper.semAt_some
def Sg (w:World) (v:Value) (z:Int):Prop:=∃ neg u xs n,v=.agg #[.bool neg,u]∧Sl w u xs∧Num 10000 xs n∧z=sgn neg n
theorem Dj (w:World) (s t:Bool) (v u:Value):∃ W0,W0=(((w.alloc (.cells #[.bool s,v] 114)).alloc (.cells #[.bool t,u] 114)).alloc (.cells #[.bool false,.slice none 0 0] 114)) ∧
  W0.cell? ⟨w.heap.size,0,none⟩=some (.bool s)∧W0.cell? ⟨w.heap.size,1,none⟩=some v∧W0.cell? ⟨w.heap.size+1,0,none⟩=some (.bool t)∧W0.cell? ⟨w.heap.size+1,1,none⟩=some u ∧
  Blk W0 (w.heap.size+1+1) #[.bool false,.slice none 0 0] 114∧Below w.heap.size w W0:=by
 have b1:Blk (((w.alloc (.cells #[.bool s,v] 114)).alloc (.cells #[.bool t,u] 114)).alloc (.cells #[.bool false,.slice none 0 0] 114)) w.heap.size #[.bool s,v] 114:=((Blk.new w _ _).alloc _).alloc _
 have b2:Blk (((w.alloc (.cells #[.bool s,v] 114)).alloc (.cells #[.bool t,u] 114)).alloc (.cells #[.bool false,.slice none 0 0] 114)) (w.heap.size+1) #[.bool t,u] 114:=by
  have:=(Blk.new (w.alloc (.cells #[.bool s,v] 114)) #[.bool t,u] 114).alloc (.cells #[.bool false,.slice none 0 0] 114)
  rwa [World.size_alloc] at this
 have b3:Blk (((w.alloc (.cells #[.bool s,v] 114)).alloc (.cells #[.bool t,u] 114)).alloc (.cells #[.bool false,.slice none 0 0] 114)) (w.heap.size+1+1) #[.bool false,.slice none 0 0] 114:=by
  have:=Blk.new ((w.alloc (.cells #[.bool s,v] 114)).alloc (.cells #[.bool t,u] 114)) #[.bool false,.slice none 0 0] 114
  rwa [World.size_alloc,World.size_alloc] at this
 exact ⟨_,rfl,b1.cell 0,b1.cell 1,b2.cell 0,b2.cell 1,b3,(((Below.refl _ _).alloc (Aa _) _).alloc (by simp) _).alloc (by simp;omega) _⟩
structure PK (w W:World):Prop where
 blk:Blk W (w.heap.size+1+1) #[.bool false,.slice none 0 0] 114
 below:Below w.heap.size w W
theorem PK.drew {w W:World} (h:PK w W):PK w W.drew:=⟨h.blk,h.below.trans ((Ac W 1).mono h.below.size)⟩
theorem PK.call {w W W':World} (hb:Below W.heap.size W W') (h:PK w W):PK w W':=⟨h.blk.below hb,h.below.trans (hb.mono h.below.size)⟩
theorem An {W W':World} {p:Addr} {v:Value} (hb:Below W.heap.size W W') (h:W.cell? p=some v):W'.cell? p=some v:=(hb.cell (World.block_lt_of_cell? W _ h)).trans h
theorem AG {B:Nat} {w W:World} (h:Below B w W):Below B w W.drew:=⟨h.os,h.tape,h.output,h.size,h.block⟩
theorem far2 {W:World} {b B i:Nat} {v:Value} (h:W.cell? ⟨b,i,none⟩=some v) (hne:b≠B) (x y:Value):((W.setCell ⟨B,0,none⟩ x).setCell ⟨B,1,none⟩ y).cell? ⟨b,i,none⟩=some v :=
 ((World.cell?_of_block (a:=⟨b,i,none⟩) (w:=W.setCell ⟨B,0,none⟩ x) (Below.heap_setCell (W.setCell ⟨B,0,none⟩ x) ⟨B,1,none⟩ y b hne)).trans (World.cell?_of_block (a:=⟨b,i,none⟩) (w:=W) (Below.heap_setCell W ⟨B,0,none⟩ x b hne))).trans h
theorem Gx {w W:World} {x1 x2 x3 x4:Value} (h:W.cell? ⟨w.heap.size,0,none⟩=some x1∧W.cell? ⟨w.heap.size,1,none⟩=some x2∧W.cell? ⟨w.heap.size+1,0,none⟩=some x3∧W.cell? ⟨w.heap.size+1,1,none⟩=some x4∧Below w.heap.size w W) (x y:Value) :
  ((W.setCell ⟨w.heap.size+1+1,0,none⟩ x).setCell ⟨w.heap.size+1+1,1,none⟩ y).cell? ⟨w.heap.size,0,none⟩=some x1∧((W.setCell ⟨w.heap.size+1+1,0,none⟩ x).setCell ⟨w.heap.size+1+1,1,none⟩ y).cell? ⟨w.heap.size,1,none⟩=some x2 ∧
  ((W.setCell ⟨w.heap.size+1+1,0,none⟩ x).setCell ⟨w.heap.size+1+1,1,none⟩ y).cell? ⟨w.heap.size+1,0,none⟩=some x3∧((W.setCell ⟨w.heap.size+1+1,0,none⟩ x).setCell ⟨w.heap.size+1+1,1,none⟩ y).cell? ⟨w.heap.size+1,1,none⟩=some x4 ∧
  Below w.heap.size w ((W.setCell ⟨w.heap.size+1+1,0,none⟩ x).setCell ⟨w.heap.size+1+1,1,none⟩ y) :=
 ⟨far2 h.1 (by omega) _ _,far2 h.2.1 (by omega) _ _,far2 h.2.2.1 (by omega) _ _,far2 h.2.2.2.1 (by omega) _ _,
  (h.2.2.2.2.setCell (p:=⟨w.heap.size+1+1,0,none⟩) (Nat.le_add_right w.heap.size 2) x).setCell (p:=⟨w.heap.size+1+1,1,none⟩) (Nat.le_add_right w.heap.size 2) y⟩
theorem Ad {B:Nat} {w W W':World} (hb:Below W.heap.size W W') (h:Below B w W) (hB:B≤w.heap.size):Below B w W':=h.trans (hb.mono (Nat.le_trans hB h.size))
theorem FE (s t:Bool) (v u:Value) (xs ys:List Int) (m n:Int) (w:World) (hv:Sl w v xs) (hu:Sl w u ys) (hx:Num 10000 xs m) (hy:Num 10000 ys n) (hlx:xs.length≤100000) (hly:ys.length≤100000) (hst:s=t) :
  Calls Tryz.prog 96 #[.agg #[.bool s,v],.agg #[.bool t,u]] w (Gives w fun r w'=>Sg w' r (sgn s m+sgn t n)):=by
 obtain ⟨a1,c1,rfl⟩:=hv.shape
 obtain ⟨a2,c2,rfl⟩:=hu.shape
 subst hst
 obtain ⟨W0,hW0,h1,h2,h3,h4,h5,hb⟩:=Dj w s s (.slice a1 xs.length c1) (.slice a2 ys.length c2)
 have hpk:PK w W0:=⟨h5,hb⟩
 clear h5
 go_enter Tryz.func96,Tryz.ntmps96
 go_wp2_with fail
 rw [←hW0]
 clear hW0
 go_region_held3 (fun w'=>w'.cell? ⟨w.heap.size,0,none⟩=some (.bool s)∧w'.cell? ⟨w.heap.size,1,none⟩=some (.slice a1 xs.length c1)∧w'.cell? ⟨w.heap.size+1,0,none⟩=some (.bool s)∧w'.cell? ⟨w.heap.size+1,1,none⟩=some (.slice a2 ys.length c2)∧Below w.heap.size w w')
  (first | (exact Gx (by assumption) _ _) | (refine ⟨?_,?_,?_,?_,?_⟩ <;> first | assumption | (with_reducible apply AG;assumption) | (with_reducible exact PK.below (by assumption)) | (apply An <;> assumption) | go_keep))
  (first | (go_at_call 98;refine (Dv _ _ xs ys _ (hv.below (by first | assumption | (apply AG;assumption))) (hu.below (by first | assumption | (apply AG;assumption))) hx.dig hy.dig hlx hly).mono ?_;rintro e w' ⟨⟨r,rfl,zs,hz1,hz2,hz3⟩,hbz⟩;obtain ⟨a5,c5,rfl⟩:=hz1.shape;have kk:=PK.call hbz (PK.drew hpk);have k0:=kk.blk.cell 0;have k1:=kk.blk.cell 1;have f0:=kk.blk.frozen 0;have f1:=kk.blk.frozen 1;simp only [List.getElem?_toArray,List.getElem?_cons_zero,List.getElem?_cons_succ] at k0 k1))
 have m1:=kk.blk.set 0 (.bool s)
 have m2:=m1.set 1 (.slice a5 zs.length c5)
 have y0:=m2.cell 0
 have y1:=m2.cell 1
 simp only [A0,A6,A5,List.getElem?_toArray,List.getElem?_cons_zero,List.getElem?_cons_succ] at y0 y1
 have z1:=(hz1.setBlk kk.blk (B3 _ _ (fun n e=>by cases e)) 0 (.bool s)).setBlk m1 (B3 _ _ (fun n e=>by cases e)) 1 (.slice a5 zs.length c5)
 have hfin:Below w.heap.size w ((w'.setCell ⟨w.heap.size+1+1,0,none⟩ (.bool s)).setCell ⟨w.heap.size+1+1,1,none⟩ (.slice a5 zs.length c5)):=(kk.below.setCell (p:=⟨w.heap.size+1+1,0,none⟩) (Nat.le_add_right w.heap.size 2) _).setCell (p:=⟨w.heap.size+1+1,1,none⟩) (Nat.le_add_right w.heap.size 2) _
 go_wp2
 refine bodyPost_ret (v:=.agg #[.bool s,.slice a5 zs.length c5]) (by simp [results,Tryz.results96,go_sem,y0,y1]) rfl ?_
 refine ⟨⟨_,rfl,s,_,_,_,rfl,z1,hz2,?_⟩,hfin⟩
 rw [hx.val,hy.val]
 unfold sgn
 split
 ·omega
 ·rfl
theorem Hq (s t:Bool) (v u:Value) (xs ys:List Int) (m n:Int) (w:World) (hv:Sl w v xs) (hu:Sl w u ys) (hx:Num 10000 xs m) (hy:Num 10000 ys n) (hlx:xs.length≤100000) (hst:s≠t) (hle:n≤m) :
  Calls Tryz.prog 96 #[.agg #[.bool s,v],.agg #[.bool t,u]] w (Gives w fun r w'=>Sg w' r (sgn s m+sgn t n)):=by
 obtain ⟨a1,c1,rfl⟩:=hv.shape
 obtain ⟨a2,c2,rfl⟩:=hu.shape
 obtain ⟨W0,hW0,h1,h2,h3,h4,h5,hb⟩:=Dj w s t (.slice a1 xs.length c1) (.slice a2 ys.length c2)
 have hpk0:PK w W0:=⟨h5,hb⟩
 have hcb:(s==t)=false:=by cases s <;> cases t <;> simp_all
 have Hst:=A8 hst
 have hcm:=EG hx hy
 have hc0:(0:Int)≤Lib.compareInt m n:=by
  rcases Int.lt_or_eq_of_le hle with h | rfl
  ·rw [AB h];decide
  ·rw [BK];decide
 have Hle:=A8 hle
 have Hlen:=A8 (hy.len_le (by decide) hx hle)
 clear hst hle h5
 go_enter Tryz.func96,Tryz.ntmps96
 go_wp2_with fail
 rw [←hW0]
 clear hW0
 refine (CW _ _ xs ys _ (hv.below hb) (hu.below hb)).mono ?_
 rintro e W1 ⟨rfl,hb1⟩
 have q1:=An hb1 h1
 have q2:=An hb1 h2
 have q3:=An hb1 h3
 have q4:=An hb1 h4
 have hpk:=PK.call hb1 hpk0
 clear hpk0 h1 h2 h3 h4 hb hb1
 have hb:=hpk.below
 rw [hcm]
 clear hcm
 go_wp2_with fail
 go_region_held3 (fun w'=>w'.cell? ⟨w.heap.size,0,none⟩=some (.bool s)∧w'.cell? ⟨w.heap.size,1,none⟩=some (.slice a1 xs.length c1)∧w'.cell? ⟨w.heap.size+1,0,none⟩=some (.bool t)∧w'.cell? ⟨w.heap.size+1,1,none⟩=some (.slice a2 ys.length c2)∧Below w.heap.size w w')
  (first | (exact Gx (by assumption) _ _) | (refine ⟨?_,?_,?_,?_,?_⟩ <;> first | assumption | (with_reducible apply AG;assumption) | (with_reducible exact PK.below (by assumption)) | (apply An <;> assumption) | go_keep))
  (first | (go_at_call 100;refine (Cl _ _ xs ys _ (hv.below (by first | assumption | (apply AG;assumption))) (hu.below (by first | assumption | (apply AG;assumption))) hx.dig hy.dig hlx Hlen.out (by rw [hx.val,hy.val];exact Hle.out)).mono ?_;rintro e w' ⟨⟨r,rfl,zs,hz1,hz2,hz3⟩,hbz⟩;obtain ⟨a5,c5,rfl⟩:=hz1.shape;have kk:=PK.call hbz (PK.drew hpk);have k0:=kk.blk.cell 0;have k1:=kk.blk.cell 1;have f0:=kk.blk.frozen 0;have f1:=kk.blk.frozen 1;simp only [List.getElem?_toArray,List.getElem?_cons_zero,List.getElem?_cons_succ] at k0 k1))
 have m1:=kk.blk.set 0 (.bool s)
 have m2:=m1.set 1 (.slice a5 zs.length c5)
 have y0:=m2.cell 0
 have y1:=m2.cell 1
 simp only [A0,A6,A5,List.getElem?_toArray,List.getElem?_cons_zero,List.getElem?_cons_succ] at y0 y1
 have z1:=(hz1.setBlk kk.blk (B3 _ _ (fun n e=>by cases e)) 0 (.bool s)).setBlk m1 (B3 _ _ (fun n e=>by cases e)) 1 (.slice a5 zs.length c5)
 have hfin:Below w.heap.size w ((w'.setCell ⟨w.heap.size+1+1,0,none⟩ (.bool s)).setCell ⟨w.heap.size+1+1,1,none⟩ (.slice a5 zs.length c5)):=(kk.below.setCell (p:=⟨w.heap.size+1+1,0,none⟩) (Nat.le_add_right w.heap.size 2) _).setCell (p:=⟨w.heap.size+1+1,1,none⟩) (Nat.le_add_right w.heap.size 2) _
 go_wp2
 refine bodyPost_ret (v:=.agg #[.bool s,.slice a5 zs.length c5]) (by simp [results,Tryz.results96,go_sem,y0,y1]) rfl ?_
 refine ⟨⟨_,rfl,s,_,_,_,rfl,z1,hz2,?_⟩,hfin⟩
 rw [hx.val,hy.val]
 have:=Hst.out
 cases s <;> cases t <;> simp_all [sgn] <;> omega
theorem Hs (s t:Bool) (v u:Value) (xs ys:List Int) (m n:Int) (w:World) (hv:Sl w v xs) (hu:Sl w u ys) (hx:Num 10000 xs m) (hy:Num 10000 ys n) (hly:ys.length≤100000) (hst:s≠t) (hle:m<n) :
  Calls Tryz.prog 96 #[.agg #[.bool s,v],.agg #[.bool t,u]] w (Gives w fun r w'=>Sg w' r (sgn s m+sgn t n)):=by
 obtain ⟨a1,c1,rfl⟩:=hv.shape
 obtain ⟨a2,c2,rfl⟩:=hu.shape
 obtain ⟨W0,hW0,h1,h2,h3,h4,h5,hb⟩:=Dj w s t (.slice a1 xs.length c1) (.slice a2 ys.length c2)
 have hpk0:PK w W0:=⟨h5,hb⟩
 have hcb:(s==t)=false:=by cases s <;> cases t <;> simp_all
 have Hst:=A8 hst
 have hcm:=EG hx hy
 have hc0:¬ (0:Int)≤Lib.compareInt m n:=by rw [AA hle];decide
 have Hle:=A8 hle
 have Hlen:=A8 (hx.len_le (by decide) hy (Int.le_of_lt hle))
 clear hst hle h5
 go_enter Tryz.func96,Tryz.ntmps96
 go_wp2_with fail
 rw [←hW0]
 clear hW0
 refine (CW _ _ xs ys _ (hv.below hb) (hu.below hb)).mono ?_
 rintro e W1 ⟨rfl,hb1⟩
 have q1:=An hb1 h1
 have q2:=An hb1 h2
 have q3:=An hb1 h3
 have q4:=An hb1 h4
 have hpk:=PK.call hb1 hpk0
 clear hpk0 h1 h2 h3 h4 hb hb1
 have hb:=hpk.below
 rw [hcm]
 clear hcm
 go_wp2_with fail
 go_region_held3 (fun w'=>w'.cell? ⟨w.heap.size,0,none⟩=some (.bool s)∧w'.cell? ⟨w.heap.size,1,none⟩=some (.slice a1 xs.length c1)∧w'.cell? ⟨w.heap.size+1,0,none⟩=some (.bool t)∧w'.cell? ⟨w.heap.size+1,1,none⟩=some (.slice a2 ys.length c2)∧Below w.heap.size w w')
  (first | (exact Gx (by assumption) _ _) | (refine ⟨?_,?_,?_,?_,?_⟩ <;> first | assumption | (with_reducible apply AG;assumption) | (with_reducible exact PK.below (by assumption)) | (apply An <;> assumption) | go_keep))
  (first | (go_at_call 100;refine (Cl _ _ ys xs _ (hu.below (by first | assumption | (apply AG;assumption))) (hv.below (by first | assumption | (apply AG;assumption))) hy.dig hx.dig hly Hlen.out (by rw [hx.val,hy.val];exact Int.le_of_lt Hle.out)).mono ?_;rintro e w' ⟨⟨r,rfl,zs,hz1,hz2,hz3⟩,hbz⟩;obtain ⟨a5,c5,rfl⟩:=hz1.shape;have kk:=PK.call hbz (PK.drew hpk);have k0:=kk.blk.cell 0;have k1:=kk.blk.cell 1;have f0:=kk.blk.frozen 0;have f1:=kk.blk.frozen 1;simp only [List.getElem?_toArray,List.getElem?_cons_zero,List.getElem?_cons_succ] at k0 k1))
 have m1:=kk.blk.set 0 (.bool t)
 have m2:=m1.set 1 (.slice a5 zs.length c5)
 have y0:=m2.cell 0
 have y1:=m2.cell 1
 simp only [A0,A6,A5,List.getElem?_toArray,List.getElem?_cons_zero,List.getElem?_cons_succ] at y0 y1
 have z1:=(hz1.setBlk kk.blk (B3 _ _ (fun n e=>by cases e)) 0 (.bool t)).setBlk m1 (B3 _ _ (fun n e=>by cases e)) 1 (.slice a5 zs.length c5)
 have hfin:Below w.heap.size w ((w'.setCell ⟨w.heap.size+1+1,0,none⟩ (.bool t)).setCell ⟨w.heap.size+1+1,1,none⟩ (.slice a5 zs.length c5)):=(kk.below.setCell (p:=⟨w.heap.size+1+1,0,none⟩) (Nat.le_add_right w.heap.size 2) _).setCell (p:=⟨w.heap.size+1+1,1,none⟩) (Nat.le_add_right w.heap.size 2) _
 go_wp2
 refine bodyPost_ret (v:=.agg #[.bool t,.slice a5 zs.length c5]) (by simp [results,Tryz.results96,go_sem,y0,y1]) rfl ?_
 refine ⟨⟨_,rfl,t,_,_,_,rfl,z1,hz2,?_⟩,hfin⟩
 rw [hx.val,hy.val]
 have:=Hst.out
 cases s <;> cases t <;> simp_all [sgn] <;> omega
theorem Gy (s t:Bool) (v u:Value) (xs ys:List Int) (m n:Int) (w:World) (hv:Sl w v xs) (hu:Sl w u ys) (hx:Num 10000 xs m) (hy:Num 10000 ys n) (hlx:xs.length≤100000) (hly:ys.length≤100000) :
  Calls Tryz.prog 96 #[.agg #[.bool s,v],.agg #[.bool t,u]] w (Gives w fun r w'=>Sg w' r (sgn s m+sgn t n)):=by
 by_cases hst:s=t
 ·exact FE s t v u xs ys m n w hv hu hx hy hlx hly hst
 ·by_cases hle:n≤m
  ·exact Hq s t v u xs ys m n w hv hu hx hy hlx hst hle
  ·exact Hs s t v u xs ys m n w hv hu hx hy hly hst (by omega)
end
end Go.Proofs.YtcmomjnailihpaaGreatDoor
/- both: two strings read as integers. -/
namespace Go.Proofs.YtcmomjnailihpaaGreatDoor
section
open Go.RowKit
attribute [local go_sem] Oper.semAt_some
def okS (s:ByteArray):Bool:=validB s.data.toList
def zS (s:ByteArray):Int:=ival s.data.toList
def PV (w:World) (v:Value) (z:Int):Prop:=∃ u xs,v=.agg #[.bool (decide (z<0)),u]∧Sl w u xs∧Num 10000 xs z.natAbs
theorem PV.below {w w':World} {v:Value} {z:Int} (h:PV w v z) (hb:Below w.heap.size w w'):PV w' v z:=by
 obtain ⟨u,xs,h1,h2,h3⟩:=h
 exact ⟨u,xs,h1,h2.below hb,h3⟩
theorem Hu {l:List UInt8} (h:validB l=true):(∀ b∈body l,isD b=true)∧(body l).length≤200∧(decide ((body l).length<l.length)=decide (ival l<0))∧(dnum (body l):Int)=(ival l).natAbs:=by
 have h0:=h
 obtain ⟨he,h1,h2⟩:=Cj h
 generalize hz:ival l=z at *
 have hb:=(DR z).2
 rw [←he] at hb
 have hs:=Am z.natAbs
 refine ⟨by rw [hb];exact hs.2.1,?_,?_,by rw [hb,hs.1]⟩
 ·unfold validB at h0
  simp only [Bool.and_eq_true,decide_eq_true_iff] at h0
  exact h0.1.1.2
 ·rw [hb,he]
  by_cases hn:z<0
  ·rw [BR hn];simp [hn]
  ·rw [Ao (by omega),show z.toNat=z.natAbs by omega];simp [hn]
theorem Hw (s:ByteArray) (w:World) (h:okS s=true):Calls Tryz.prog 120 #[.string s] w (Gives w fun r w'=>PV w' r (zS s)):=by
 obtain ⟨h1,h2,h3,h4⟩:=Hu h
 refine (Kg s _ w rfl h1 h2).mono ?_
 rintro e w' ⟨⟨r,rfl,v,xs,rfl,hv,hn⟩,hb⟩
 rw [h4] at hn
 have e:s.size=s.data.toList.length:=by rw [Array.length_toList];rfl
 exact ⟨⟨_,rfl,v,xs,by rw [e,h3];rfl,hv,hn⟩,hb⟩
theorem isV (s:ByteArray) (w:World):Calls Tryz.prog 119 #[.string s] w fun e w'=>e=.returned (.bool (okS s))∧Below w.heap.size w w':=Hn s w
theorem EL (w:World):∃ W0,W0=((w.alloc (.cells #[.bool false,.slice none 0 0] 114)).alloc (.cells #[.bool false,.slice none 0 0] 114)) ∧
  Blk W0 w.heap.size #[.bool false,.slice none 0 0] 114∧Blk W0 (w.heap.size+1) #[.bool false,.slice none 0 0] 114∧Below w.heap.size w W0:=by
 refine ⟨_,rfl,(Blk.new w _ _).alloc _,?_,((Below.refl _ _).alloc (Aa _) _).alloc (by simp) _⟩
 have:=Blk.new (w.alloc (.cells #[.bool false,.slice none 0 0] 114)) #[.bool false,.slice none 0 0] 114
 rwa [World.size_alloc] at this
theorem Dk {w W:World} {s t:Bool} (h1:Blk W w.heap.size #[.bool false,.slice none 0 0] 114) (h2:Blk W (w.heap.size+1) #[.bool false,.slice none 0 0] 114) (hb:Below w.heap.size w W) (x y:Value) :
  let W':=(((W.setCell ⟨w.heap.size,0,none⟩ (.bool s)).setCell ⟨w.heap.size,1,none⟩ x).setCell ⟨w.heap.size+1,0,none⟩ (.bool t)).setCell ⟨w.heap.size+1,1,none⟩ y
  Blk W' w.heap.size #[.bool s,x] 114∧Blk W' (w.heap.size+1) #[.bool t,y] 114∧Below w.heap.size w W'∧∀ v zs,Sl W v zs→Sl W' v zs:=by
 have a0:=h1.set 0 (.bool s)
 have a1:=a0.set 1 x
 have b1:=(h2.kept (Aj W w.heap.size 0 (.bool s)) (by simp)).kept (Aj _ w.heap.size 1 x) (by simp)
 have b2:=b1.set 0 (.bool t)
 have b3:=b2.set 1 y
 have a2:=(a1.kept (Aj _ (w.heap.size+1) 0 (.bool t)) (by simp)).kept (Aj _ (w.heap.size+1) 1 y) (by simp)
 refine ⟨by simpa using a2,by simpa using b3,?_,fun v zs hz=>?_⟩
 ·exact (((hb.setCell (p:=⟨w.heap.size,0,none⟩) (Aa _) _).setCell (p:=⟨w.heap.size,1,none⟩) (Aa _) _).setCell (p:=⟨w.heap.size+1,0,none⟩) (Nat.le_succ _) _).setCell (p:=⟨w.heap.size+1,1,none⟩) (Nat.le_succ _) _
 ·exact (((hz.setBlk h1 (B3 _ _ (fun n e=>by cases e)) 0 (.bool s)).setBlk a0 (B3 _ _ (fun n e=>by cases e)) 1 x).setBlk b1 (B3 _ _ (fun n e=>by cases e)) 0 (.bool t)).setBlk b2 (B3 _ _ (fun n e=>by cases e)) 1 y
def BothOk (x y:Int) (r:Value) (w:World):Prop:=∃ v u,r=.tuple #[v,u,.bool true]∧PV w v x∧PV w u y
def BothBad (r:Value):Prop:=r=.tuple #[.agg #[.bool false,.slice none 0 0],.agg #[.bool false,.slice none 0 0],.bool false]
theorem DB (a b:ByteArray) (w:World) (h:okS a=false∨okS b=false) :
  Calls Tryz.prog 88 #[.string a,.string b] w (Gives w fun r _=>BothBad r):=by
 obtain ⟨W0,hW0,h1,h2,hb0⟩:=EL w
 by_cases ha:okS a=true
 ·have hb:okS b=false:=h.resolve_left (by rw [ha];decide)
  clear h
  go_enter Tryz.func88,Tryz.ntmps88
  go_wp2_with fail
  rw [←hW0]
  clear hW0
  refine (isV a _).mono ?_
  rintro e W1 ⟨rfl,hb1⟩
  rw [ha]
  go_wp2_with fail
  refine (isV b _).mono ?_
  rintro e W2 ⟨rfl,hb2⟩
  rw [hb]
  have k1:=(h1.below hb1).below hb2
  have k2:=(h2.below hb1).below hb2
  have kb:Below w.heap.size w W2:=Ad hb2 (Ad hb1 hb0 (Aa _)) (Aa _)
  have c0:=k1.cell 0
  have c1:=k1.cell 1
  have d0:=k2.cell 0
  have d1:=k2.cell 1
  have f0:=k1.frozen 0
  have f1:=k1.frozen 1
  have g0:=k2.frozen 0
  have g1:=k2.frozen 1
  simp only [List.getElem?_toArray,List.getElem?_cons_zero,List.getElem?_cons_succ] at c0 c1 d0 d1
  go_wp2
  obtain ⟨m1,m2,m3,_⟩:=Dk (s:=false) (t:=false) k1 k2 kb (.slice none 0 0) (.slice none 0 0)
  have y0:=m1.cell 0
  have y1:=m1.cell 1
  have y2:=m2.cell 0
  have y3:=m2.cell 1
  simp only [List.getElem?_toArray,List.getElem?_cons_zero,List.getElem?_cons_succ] at y0 y1 y2 y3
  refine bodyPost_ret (v:=.tuple #[.agg #[.bool false,.slice none 0 0],.agg #[.bool false,.slice none 0 0],.bool false]) (by simp [results,Tryz.results88,go_sem,y0,y1,y2,y3]) rfl ?_
  exact ⟨⟨_,rfl,rfl⟩,m3⟩
 ·have ha:okS a=false:=by simpa using ha
  clear h
  go_enter Tryz.func88,Tryz.ntmps88
  go_wp2_with fail
  rw [←hW0]
  clear hW0
  refine (isV a _).mono ?_
  rintro e W2 ⟨rfl,hb1⟩
  rw [ha]
  have k1:=h1.below hb1
  have k2:=h2.below hb1
  have kb:Below w.heap.size w W2:=Ad hb1 hb0 (Aa _)
  have c0:=k1.cell 0
  have c1:=k1.cell 1
  have d0:=k2.cell 0
  have d1:=k2.cell 1
  have f0:=k1.frozen 0
  have f1:=k1.frozen 1
  have g0:=k2.frozen 0
  have g1:=k2.frozen 1
  simp only [List.getElem?_toArray,List.getElem?_cons_zero,List.getElem?_cons_succ] at c0 c1 d0 d1
  go_wp2
  obtain ⟨m1,m2,m3,_⟩:=Dk (s:=false) (t:=false) k1 k2 kb (.slice none 0 0) (.slice none 0 0)
  have y0:=m1.cell 0
  have y1:=m1.cell 1
  have y2:=m2.cell 0
  have y3:=m2.cell 1
  simp only [List.getElem?_toArray,List.getElem?_cons_zero,List.getElem?_cons_succ] at y0 y1 y2 y3
  refine bodyPost_ret (v:=.tuple #[.agg #[.bool false,.slice none 0 0],.agg #[.bool false,.slice none 0 0],.bool false]) (by simp [results,Tryz.results88,go_sem,y0,y1,y2,y3]) rfl ?_
  exact ⟨⟨_,rfl,rfl⟩,m3⟩
theorem D6 (a b:ByteArray) (w:World) (ha:okS a=true) (hb:okS b=true) :
  Calls Tryz.prog 88 #[.string a,.string b] w (Gives w (BothOk (zS a) (zS b))):=by
 obtain ⟨W0,hW0,h1,h2,hb0⟩:=EL w
 have Pa:=fun W=>Hw a W ha
 have Pb:=fun W=>Hw b W hb
 go_enter Tryz.func88,Tryz.ntmps88
 go_wp2_with fail
 rw [←hW0]
 clear hW0
 refine (isV a _).mono ?_
 rintro e W1 ⟨rfl,hb1⟩
 rw [ha]
 go_wp2_with fail
 refine (isV b _).mono ?_
 rintro e W2 ⟨rfl,hb2⟩
 rw [hb]
 go_wp2_with fail
 refine (Pa _).mono ?_
 rintro e W3 ⟨⟨r,rfl,va,xs,rfl,hva,hna⟩,hb3⟩
 obtain ⟨a1,c1',rfl⟩:=hva.shape
 go_wp2_with fail
 refine (Pb _).mono ?_
 rintro e W4 ⟨⟨r,rfl,vb,ys,rfl,hvb,hnb⟩,hb4⟩
 obtain ⟨a2,c2',rfl⟩:=hvb.shape
 have k1:=(((h1.below hb1).below hb2).below hb3).below hb4
 have k2:=(((h2.below hb1).below hb2).below hb3).below hb4
 have kb:Below w.heap.size w W4:=Ad hb4 (Ad hb3 (Ad hb2 (Ad hb1 hb0 (Aa _)) (Aa _)) (Aa _)) (Aa _)
 have hva4:=hva.below hb4
 have c0:=k1.cell 0
 have c1:=k1.cell 1
 have d0:=k2.cell 0
 have d1:=k2.cell 1
 have f0:=k1.frozen 0
 have f1:=k1.frozen 1
 have g0:=k2.frozen 0
 have g1:=k2.frozen 1
 simp only [List.getElem?_toArray,List.getElem?_cons_zero,List.getElem?_cons_succ] at c0 c1 d0 d1
 go_wp2
 obtain ⟨m1,m2,m3,m4⟩:=Dk (s:=decide (zS a<0)) (t:=decide (zS b<0)) k1 k2 kb (.slice a1 xs.length c1') (.slice a2 ys.length c2')
 have y0:=m1.cell 0
 have y1:=m1.cell 1
 have y2:=m2.cell 0
 have y3:=m2.cell 1
 simp only [List.getElem?_toArray,List.getElem?_cons_zero,List.getElem?_cons_succ] at y0 y1 y2 y3
 refine bodyPost_ret (v:=.tuple #[.agg #[.bool (decide (zS a<0)),.slice a1 xs.length c1'],.agg #[.bool (decide (zS b<0)),.slice a2 ys.length c2'],.bool true]) (by simp [results,Tryz.results88,go_sem,y0,y1,y2,y3]) rfl ?_
 exact ⟨⟨_,rfl,_,_,rfl,⟨_,_,rfl,m4 _ _ hva4,hna⟩,⟨_,_,rfl,m4 _ _ hvb,hnb⟩⟩,m3⟩
end
end Go.Proofs.YtcmomjnailihpaaGreatDoor
/- Add,Sub. -/
namespace Go.Proofs.YtcmomjnailihpaaGreatDoor
section
open Go.RowKit
attribute [local go_sem] Oper.semAt_some
def resT (ok:Bool) (z:Int):Value:=if ok then .tuple #[.string ⟨(txt z).toArray⟩,.int .i64 (erz z)] else .tuple #[.string ⟨#[]⟩,.int .i64 30]
theorem BM {s:ByteArray} (h:okS s=true):-Big<zS s∧zS s<Big:=(Cj h).2
theorem AL {xs:List Int} {n:Int} (h:Num 10000 xs n) (hn:n<Big):xs.length≤50:=h.length_le (by decide) (by unfold Big at hn;exact Int.lt_of_lt_of_le hn (by decide))
theorem sgn_abs (z:Int):sgn (decide (z<0)) z.natAbs=z:=by
 unfold sgn
 by_cases h:z<0
 ·simp [h];omega
 ·simp [h];omega
theorem B4 {z:Int} (h:-Big<z∧z<Big):(z.natAbs:Int)<Big:=by omega
theorem BZ (W:World) (o p:Obj):Below W.heap.size W ((W.alloc o).alloc p):=((Below.refl _ _).alloc (Aa _) _).alloc (by simp) _
theorem sgn_len {neg:Bool} {n z:Int} {zs:List Int} (h:z=sgn neg n) (hn:Num 10000 zs n) (k:Nat) (hz:-(10000 ^ k)<z∧z<10000 ^ k):zs.length≤k :=
 hn.length_le (by decide) (by cases neg <;> simp [sgn] at h <;> omega)
theorem add_ok (a b:ByteArray) (w:World) (hE:Env w) (ha:okS a=true) (hb:okS b=true) :
  Calls Tryz.prog 59 #[.string a,.string b] w (Gives w fun r _=>r=resT true (zS a+zS b)):=by
 have Ba:=BM ha
 have Bb:=BM hb
 have Pk:=fun W=>D6 a b W ha hb
 go_enter Tryz.func59,Tryz.ntmps59
 go_wp2_with fail
 refine (Pk _).mono ?_
 rintro e W1 ⟨⟨r,rfl,v,u,rfl,⟨x,xs,rfl,hx,hnx⟩,⟨y,ys,rfl,hy,hny⟩⟩,hb1⟩
 have lx:=AL hnx (B4 Ba)
 have ly:=AL hny (B4 Bb)
 obtain ⟨a1,c1,rfl⟩:=hx.shape
 obtain ⟨a2,c2,rfl⟩:=hy.shape
 go_wp2_with fail
 have hb2:=BZ W1 (.cells #[.bool (decide (zS a<0)),.slice a1 xs.length c1] 114) (.cells #[.bool (decide (zS b<0)),.slice a2 ys.length c2] 114)
 refine (Gy _ _ _ _ xs ys _ _ _ (hx.below hb2) (hy.below hb2) hnx hny (by omega) (by omega)).mono ?_
 rintro e W2 ⟨⟨r,rfl,neg,u,zs,n,rfl,hz,hnz,hsum⟩,hb3⟩
 rw [sgn_abs,sgn_abs] at hsum
 have lz:=sgn_len hsum hnz 51 (by unfold Big at Ba Bb;omega)
 have hbw:Below w.heap.size w W2:=Ad hb3 (Ad hb2 hb1 (Aa _)) (Aa _)
 have hE2:=hE.below hbw (Aa _)
 go_wp2_with fail
 refine (Bu neg _ zs n W2 hE2 hz hnz (by omega)).mono ?_
 rintro e W3 ⟨rfl,hb4⟩
 go_wp2
 go_ret2
 exact ⟨⟨_,rfl,by rw [hsum];rfl⟩,Ad hb4 hbw (Aa _)⟩
theorem add_bad (a b:ByteArray) (w:World) (h:okS a=false∨okS b=false) :
  Calls Tryz.prog 59 #[.string a,.string b] w (Gives w fun r _=>r=resT false 0):=by
 have Pk:=fun W=>DB a b W h
 go_enter Tryz.func59,Tryz.ntmps59
 go_wp2_with fail
 refine (Pk _).mono ?_
 rintro e W1 ⟨⟨r,rfl,rfl⟩,hb1⟩
 go_wp2
 go_ret2
 exact ⟨⟨_,rfl,rfl⟩,Ad (BZ W1 _ _) hb1 (Aa _)⟩
theorem JH (a b:ByteArray) (w:World) (hE:Env w) :
  Calls Tryz.prog 59 #[.string a,.string b] w (Gives w fun r _=>r=resT (okS a&&okS b) (zS a+zS b)):=by
 by_cases h:okS a=true∧okS b=true
 ·rw [h.1,h.2];exact add_ok a b w hE h.1 h.2
 ·have hf:(okS a&&okS b)=false:=by
   rw [←Bool.not_eq_true,Bool.and_eq_true];exact h
  rw [hf]
  refine add_bad a b w ?_
  cases ha:okS a
  ·exact .inl rfl
  ·cases hb:okS b
   ·exact .inr rfl
   ·exact absurd ⟨ha,hb⟩ h
end
end Go.Proofs.YtcmomjnailihpaaGreatDoor
/- Sub,Compare,Valid,FromInt. -/
namespace Go.Proofs.YtcmomjnailihpaaGreatDoor
section
open Go.RowKit
attribute [local go_sem] Oper.semAt_some
theorem B6 {p q:Bool} (h:¬ (p=true∧q=true)):(p&&q)=false∧(p=false∨q=false):=by cases p <;> cases q <;> simp_all
theorem Km (s:ByteArray) (w:World):Calls Tryz.prog 101 #[.string s] w fun e w'=>e=.returned (.bool (okS s))∧Below w.heap.size w w':=by
 go_enter Tryz.func101,Tryz.ntmps101
 go_wp2_with fail
 refine (isV s _).mono ?_
 rintro e W1 ⟨rfl,hb1⟩
 go_wp2
 go_ret
 exact ⟨rfl,hb1⟩
theorem Eh (n:Int) (h0:-9223372036854775808≤n) (h1:n≤9223372036854775807) (w:World) (hE:Env w) :
  Calls Tryz.prog 51 #[.int .i64 n] w fun e w'=>e=.returned (.string ⟨(Lib.itoa n).toArray⟩)∧Below w.heap.size w w':=by
 go_enter Tryz.func51,Tryz.ntmps51
 go_wp2_with fail
 refine (Tryz.strconv_Itoa n h0 h1 _ hE.tab).mono ?_
 rintro e W1 ⟨rfl,k,os,rfl⟩
 go_wp2
 go_ret
 exact ⟨rfl,Lib.below_grow _ w (Aa _) k os⟩
end
end Go.Proofs.YtcmomjnailihpaaGreatDoor
/- Mul. -/
namespace Go.Proofs.YtcmomjnailihpaaGreatDoor
section
open Go.RowKit
attribute [local go_sem] Oper.semAt_some
theorem Cp (W1:World) (s t:Bool) (v u:Value):∃ W2,W2=((W1.alloc (.cells #[.bool s,v] 114)).alloc (.cells #[.bool t,u] 114)) ∧
  W2.cell? ⟨W1.heap.size,0,none⟩=some (.bool s)∧W2.cell? ⟨W1.heap.size,1,none⟩=some v∧W2.cell? ⟨W1.heap.size+1,0,none⟩=some (.bool t)∧W2.cell? ⟨W1.heap.size+1,1,none⟩=some u∧Below W1.heap.size W1 W2:=by
 have b1:Blk ((W1.alloc (.cells #[.bool s,v] 114)).alloc (.cells #[.bool t,u] 114)) W1.heap.size #[.bool s,v] 114:=(Blk.new W1 _ _).alloc _
 have b2:Blk ((W1.alloc (.cells #[.bool s,v] 114)).alloc (.cells #[.bool t,u] 114)) (W1.heap.size+1) #[.bool t,u] 114:=by
  have:=Blk.new (W1.alloc (.cells #[.bool s,v] 114)) #[.bool t,u] 114
  rwa [World.size_alloc] at this
 exact ⟨_,rfl,b1.cell 0,b1.cell 1,b2.cell 0,b2.cell 1,BZ W1 _ _⟩
theorem EM {p1 p2 p3 p4:Addr} {x1 x2 x3 x4:Value} {w W W':World} (hb:Below W.heap.size W W') (h:W.cell? p1=some x1∧W.cell? p2=some x2∧W.cell? p3=some x3∧W.cell? p4=some x4∧Below w.heap.size w W) :
  W'.cell? p1=some x1∧W'.cell? p2=some x2∧W'.cell? p3=some x3∧W'.cell? p4=some x4∧Below w.heap.size w W' :=
 ⟨An hb h.1,An hb h.2.1,An hb h.2.2.1,An hb h.2.2.2.1,Ad hb h.2.2.2.2 (Aa _)⟩
theorem sgn_mul (a b:Int):sgn (decide (a<0) != decide (b<0)) (a.natAbs*b.natAbs)=a*b:=by
 have h:=sgn_abs a
 have k:=sgn_abs b
 conv=>rhs;rw [←h,←k]
 unfold sgn
 cases decide (a<0) <;> cases decide (b<0) <;> simp [Int.neg_mul,Int.mul_neg]
theorem mul_ok (a b:ByteArray) (w:World) (hE:Env w) (ha:okS a=true) (hb:okS b=true) :
  Calls Tryz.prog 50 #[.string a,.string b] w (Gives w fun r _=>r=resT true (zS a*zS b)):=by
 have Ba:=BM ha
 have Bb:=BM hb
 have Pk:=fun W=>D6 a b W ha hb
 go_enter Tryz.func50,Tryz.ntmps50
 go_wp2_with fail
 refine (Pk _).mono ?_
 rintro e W1 ⟨⟨r,rfl,v,u,rfl,⟨x,xs,rfl,hx,hnx⟩,⟨y,ys,rfl,hy,hny⟩⟩,hb1⟩
 have lx:=AL hnx (B4 Ba)
 have ly:=AL hny (B4 Bb)
 have hm:=sgn_mul (zS a) (zS b)
 obtain ⟨a1,c1,rfl⟩:=hx.shape
 obtain ⟨a2,c2,rfl⟩:=hy.shape
 generalize hs:decide (zS a<0)=s at *
 generalize ht:decide (zS b<0)=t at *
 obtain ⟨W2,hW2,h1,h2,h3,h4,h5⟩:=Cp W1 s t (.slice a1 xs.length c1) (.slice a2 ys.length c2)
 go_wp2_with fail
 rw [←hW2]
 clear hW2 hs ht
 have lx2:xs.length≤1000:=by omega
 have ly2:ys.length≤1000:=by omega
 have hzl:∀ zs,Num 10000 zs (val 10000 xs*val 10000 ys)→zs.length≤10000:=fun zs hz=>by
  rw [hnx.val,hny.val] at hz
  have h:=Int.mul_le_mul (Int.le_of_lt (B4 Ba)) (Int.le_of_lt (B4 Bb)) (hny.nonneg (by decide)) (by unfold Big;decide)
  have:=hz.length_le (by decide) (m:=101) (Int.lt_of_le_of_lt h (by unfold Big;decide))
  omega
 have hEW:∀ W,Below W1.heap.size W1 W→Env W:=fun W hW=>hE.below (Ad hW hb1 (Aa _)) (Aa _)
 clear lx ly
 go_region_held3 (fun w'=>w'.cell? ⟨W1.heap.size,0,none⟩=some (.bool s)∧w'.cell? ⟨W1.heap.size,1,none⟩=some (.slice a1 xs.length c1)∧w'.cell? ⟨W1.heap.size+1,0,none⟩=some (.bool t)∧w'.cell? ⟨W1.heap.size+1,1,none⟩=some (.slice a2 ys.length c2)∧Below W1.heap.size W1 w')
  (first | exact EM hbt (by assumption) | exact EM hbz ⟨h1,h2,h3,h4,AG h5⟩ | exact ⟨h1,h2,h3,h4,AG h5⟩ | assumption | go_keep)
  (first | (go_at_call 89;refine (Kd _ _ xs ys _ (hx.below (by first | assumption | (apply AG;assumption))) (hy.below (by first | assumption | (apply AG;assumption))) hnx.dig hny.dig lx2 ly2).mono ?_;rintro e w' ⟨⟨r,rfl,zs,hz1,hz2⟩,hbz⟩;obtain ⟨a5,c5,rfl⟩:=hz1.shape;have hbz2:=Ad hbz (AG h5) (Aa _);have hbz3:=hEW _ hbz2;have hzl2:=hzl _ hz2) | (go_at_call 90;refine (Bu _ _ _ _ _ hbz3 hz1 hz2 hzl2).mono ?_;rintro e w2 ⟨rfl,hbt⟩;have hbt2:=Ad hbt hbz2 (Aa _)))
 have hm2:sgn (!s==t) (val 10000 xs*val 10000 ys)=zS a*zS b:=by rw [hnx.val,hny.val];exact hm
 go_wp2
 go_ret2
 exact ⟨⟨_,rfl,by rw [hm2];rfl⟩,Ad hbt2 hb1 (Aa _)⟩
theorem mul_bad (a b:ByteArray) (w:World) (h:okS a=false∨okS b=false) :
  Calls Tryz.prog 50 #[.string a,.string b] w (Gives w fun r _=>r=resT false 0):=by
 have Pk:=fun W=>DB a b W h
 go_enter Tryz.func50,Tryz.ntmps50
 go_wp2_with fail
 refine (Pk _).mono ?_
 rintro e W1 ⟨⟨r,rfl,rfl⟩,hb1⟩
 go_wp2
 go_ret2
 exact ⟨⟨_,rfl,rfl⟩,Ad (BZ W1 _ _) hb1 (Aa _)⟩
theorem Ev (a b:ByteArray) (w:World) (hE:Env w) :
  Calls Tryz.prog 50 #[.string a,.string b] w (Gives w fun r _=>r=resT (okS a&&okS b) (zS a*zS b)):=by
 by_cases h:okS a=true∧okS b=true
 ·rw [h.1,h.2];exact mul_ok a b w hE h.1 h.2
 ·rw [(B6 h).1];exact mul_bad a b w (B6 h).2
end
end Go.Proofs.YtcmomjnailihpaaGreatDoor
/- The quotient and the remainder of signed integers (no program). -/
namespace Go.Proofs.YtcmomjnailihpaaGreatDoor
section
open Go.RowKit
theorem FF (x m:Int) (hm:0<m):sgn (decide (x<0)) (if x<0∧0<(x.natAbs:Int) % m then (x.natAbs:Int) / m+1 else (x.natAbs:Int) / m)=x / m ∧
  (if x<0∧0<(x.natAbs:Int) % m then m-(x.natAbs:Int) % m else (x.natAbs:Int) % m)=x % m:=by
 have hd:=Int.emod_add_mul_ediv (x.natAbs:Int) m
 have h0:=Int.emod_nonneg (x.natAbs:Int) (by omega:m≠0)
 have h1:=Int.emod_lt_of_pos (x.natAbs:Int) hm
 generalize hq:(x.natAbs:Int) / m=q at *
 generalize hr:(x.natAbs:Int) % m=r at *
 have key:∀ Q R:Int,R+m*Q=x→0≤R→R<m→Q=x / m∧R=x % m:=fun Q R e0 e1 e2=>by
  have:=(Int.ediv_emod_unique hm).2 ⟨e0,e1,e2⟩
  exact ⟨this.1.symm,this.2.symm⟩
 by_cases hx:x<0
 ·by_cases hr0:0<r
  ·rw [if_pos ⟨hx,hr0⟩,if_pos ⟨hx,hr0⟩]
   refine key _ _ ?_ (by omega) (by omega)
   have e:sgn (decide (x<0)) (q+1)=-(q+1):=by simp [sgn,hx]
   rw [e,Int.mul_neg,Int.mul_add]
   omega
  ·rw [if_neg (fun h=>hr0 h.2),if_neg (fun h=>hr0 h.2)]
   refine key _ _ ?_ h0 h1
   have e:sgn (decide (x<0)) q=-q:=by simp [sgn,hx]
   rw [e,Int.mul_neg]
   omega
 ·rw [if_neg (fun h=>hx h.1),if_neg (fun h=>hx h.1)]
  refine key _ _ ?_ h0 h1
  have e:sgn (decide (x<0)) q=q:=by simp [sgn,hx]
  rw [e]
  omega
theorem FS (x y:Int) (hy:y≠0):sgn (decide (x<0) != decide (y<0)) (if x<0∧0<(x.natAbs:Int) % y.natAbs then (x.natAbs:Int) / y.natAbs+1 else (x.natAbs:Int) / y.natAbs)=x / y ∧
  (if x<0∧0<(x.natAbs:Int) % y.natAbs then (y.natAbs:Int)-(x.natAbs:Int) % y.natAbs else (x.natAbs:Int) % y.natAbs)=x % y:=by
 obtain ⟨h1,h2⟩:=FF x y.natAbs (by omega)
 by_cases hn:y<0
 ·have e:(y.natAbs:Int)=-y:=by omega
  rw [e] at h1 h2 ⊢
  refine ⟨?_,h2.trans (Int.emod_neg x y)⟩
  have hd:x / y=-(x / -y):=by rw [Int.ediv_neg,Int.neg_neg]
  rw [hd,←h1]
  unfold sgn
  cases decide (x<0) <;> simp [hn]
 ·have e:(y.natAbs:Int)=y:=by omega
  rw [e] at h1 h2 ⊢
  refine ⟨?_,h2⟩
  rw [←h1]
  unfold sgn
  cases decide (x<0) <;> simp [hn]
theorem DU {x y:Int} (hx:Small x):Small (x / y)∧(y≠0→Small y→Small (x % y)):=by
 have hB:(0:Int)<Big:=by unfold Big;decide
 refine ⟨?_,fun h0 hy=>?_⟩
 ·have:=Int.natAbs_ediv_le_natAbs x y
  unfold Small at *;omega
 ·have h1:=Int.emod_nonneg x h0
  have h2:=Int.emod_lt x h0
  unfold Small at *;omega
end
end Go.Proofs.YtcmomjnailihpaaGreatDoor
/- Greatest common divisors and square roots (no program). -/
namespace Go.Proofs.YtcmomjnailihpaaGreatDoor
section
open Go.RowKit
def gcdZ (x y:Int):Int:=(Int.gcd x y:Int)
theorem Lx (x y:Int):gcdZ x.natAbs y.natAbs=gcdZ x y:=by unfold gcdZ;simp [Int.gcd]
theorem Kn {m n:Int} (hm:0≤m) (hn:0<n):gcdZ n (m % n)=gcdZ m n:=by
 obtain ⟨a,rfl⟩:=Int.eq_ofNat_of_zero_le hm
 obtain ⟨b,rfl⟩:=Int.eq_ofNat_of_zero_le (Int.le_of_lt hn)
 unfold gcdZ
 have e:((a:Int) % (b:Int))=((a % b:Nat):Int):=by simp
 rw [e]
 simp only [Int.gcd_natCast_natCast]
 rw [Nat.gcd_comm b,←Nat.gcd_rec,Nat.gcd_comm]
theorem Ko {m:Int} (hm:0≤m):gcdZ m 0=m:=by
 unfold gcdZ;rw [Int.gcd_zero];omega
theorem Hx (x y:Int):0≤gcdZ x y:=Int.natCast_nonneg _
theorem J1 {x y:Int} (hx:Small x) (hy:Small y):Small (gcdZ x y):=by
 have h0:=Hx x y
 have hB:(0:Int)<Big:=by unfold Big;decide
 have h1:gcdZ x y≤max x.natAbs y.natAbs:=by
  unfold gcdZ
  by_cases h:x=0
  ·subst h;rw [Int.zero_gcd];omega
  ·have:=Int.gcd_le_natAbs_left (b:=y) h
   omega
 unfold Small at *
 omega
end
end Go.Proofs.YtcmomjnailihpaaGreatDoor
