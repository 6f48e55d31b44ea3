/- PkE -/
import Derived.Test.YtdkonnnmkceagaaGreatDoorZPkD
import Derived.Laws.IdiomStrings
import Derived.Deep.RegionHeld3
import Derived.Deep.DeepCutAuto
set_option maxHeartbeats 8000000
set_option maxRecDepth 100000
namespace Go.Proofs.YtdkonnnmkceagaaGreatDoor
section
open Go.RowKit
attribute [local go_sem] Oper.semAt_some
theorem IJ (v:Value) (xs:List Int) (w:World) (h:Sl w v xs) :
  Calls Tryz.prog 97 #[v] w fun e w'=>(∃ v',e=.returned v'/\Sl w v' (trim xs)/\v'.ptr? = v.ptr?)/\w=w':=by
 have hl:=h.len_le
 unfold maxLen at hl
 rcases h with ⟨rfl,rfl⟩ | ⟨b,off,cap,rfl,h1,h2,h3,h4⟩
 ·go_enter Tryz.func97,Tryz.ntmps97
  go_wp2;go_loop [0] (fun s=>s=.slice none 0 0) (fun _=>0);case atStart=>rfl
  case round =>
   obtain rfl:=hrel;go_wp2;go_ret;exact ⟨⟨_,rfl,.inl ⟨rfl,rfl⟩,rfl⟩,rfl⟩
 ·go_enter Tryz.func97,Tryz.ntmps97
  go_wp2;go_loop [0] (fun s=>∃ k:Nat,s=.slice (some ⟨b,off,none⟩) k cap/\k<=xs.length/\Hid (EZ xs xs.length=EZ xs k)) (fun s=>Pg s);case atStart=>exact ⟨_,rfl,Aa _,rfl⟩
  case round =>
   obtain ⟨k,rfl,hk,hT⟩:=hrel;cases k with
   | zero =>
    go_wp2;go_ret;exact ⟨⟨_,rfl,by unfold trim;rw [hT.out];exact Sl.take 0 (AE _) h1 h2 h3 h4,rfl⟩,rfl⟩
   | succ k =>
    have hc:=h4 k Ad;by_cases hz:gi xs k=0
    ·have hz':(gi xs k==0)=true:=by simp [hz]
     go_wp2;go_round;case rel=>exact ⟨k,by rfl,Ad,hT.out.trans (Ge hz)⟩
     case measure=>simp [Pg]
    ·have hz':(gi xs k==0)=false:=by simp [hz]
     go_wp2;go_ret;refine ⟨⟨_,rfl,?_,rfl⟩,rfl⟩;have e:trim xs=xs.take (k+1):=by unfold trim;rw [hT.out,GT hz]
     rw [e];exact Sl.take (k+1) hk h1 h2 h3 h4
theorem ret_sb {s t:ByteArray} {p q:Bool} (h:s=t) (k:p=q):Ending.returned (.tuple #[.string s,.bool p])=.returned (.tuple #[.string t,.bool q]):=by rw [h,k]
theorem info_u8:(Tryz.prog.info? 5).map (fun i=>(i.zero,i.size,i.bytes))=some (some (.int .u8 0),1,1):=by kernel_rfl
theorem Qq {ops:Array Oper} {rest:List Oper} {o:Oper} {a:Act} {Q:Exit->Act->World->Prop} {wr:World} {base:Nat} {v:Value} {n:Nat} {l:List UInt8} (y:Int) (b:UInt8) (hy:y=b.toNat) (t:TypeId)
  (ht:Tryz.prog.underlying t=some (.slice 5)) (hgd:o.guard=none) (s x:Operand) (ho:o.op=.call { callee:=.builtin .append,args:=#[s,x],argTypes:=#[t,t] })
  (hs:a.eval s=v) (hx:a.eval x=.slice (some ⟨wr.heap.size,0,none⟩) 1 1) (hown:wr.ownsRow base 5 1 v n (Lib.byteCells l)) (hn:n+1<=1000000000000) (hbase:base<=wr.heap.size)
  (h:∀ g cap w',w'.ownsRow base 5 1 (.slice (some ⟨g,0,none⟩) (n+1) cap) (n+1) (Lib.byteCells (l++[b]))->(wr.alloc (.cells #[.int .u8 y] 5)).grownBy w' v.ownBlock->Below base wr w'->wpList Tryz.prog ops Q rest (a.put o.dst (.slice (some ⟨g,0,none⟩) (n+1) cap)) w') :
  wpList Tryz.prog ops Q (o :: rest) a (wr.alloc (.cells #[.int .u8 y] 5)):=by
 obtain ⟨i0,hi,hz0,hz1,hz2⟩:=info_parts info_u8
 refine wpList_append_own _ hgd s x t ho base 5 i0 (.int .u8 0) 1 1 ht hi hz0 hz1 hz2 rfl Ae v n _ hs (hown.alloc _) ⟨wr.heap.size,0,none⟩ 1 1 [.int .u8 y] hx rfl (by intro t u ht;match t,ht with | 0,ht=>simp at ht;subst ht;simp [Addr.add]) (by intro u hu;simp at hu;subst hu;rfl) (by unfold maxLen;omega) Ad (by simp;omega) ?_
 intro v' w' hown' hgrow hnil
 rcases hown'.2 with ⟨_,h0⟩ | ⟨g,cap,cur,rfl,hg⟩
 ·omega
 ·refine h g cap w' (by rw [JV,<-hy];exact hown') hgrow ?_
  refine ((Below.refl base wr).alloc hbase _).grown hgrow (by simp;omega) (fun k hk=>?_);exact (hown.lt k hk).1
theorem MP {w:World} {base:Nat} {g cap n:Nat} {l:List UInt8} (hown:w.ownsRow base 5 1 (.slice (some ⟨g,0,none⟩) n cap) n (Lib.byteCells l)) (t:TypeId) (ht:Tryz.prog.underlying t=some (.slice 5)) :
  (convert t 9 (.slice (some ⟨g,0,none⟩) n cap)).run Tryz.prog w=.ok (.string ⟨l.toArray⟩) w:=by
 have hl:n=l.length:=by have:=hown.1;rw [KG] at this;omega
 subst hl
 refine run_convert_bytes_back w t 9 5 _ cap l ht Ab Ab ?_
 intro j hj
 exact hown.cells (g:=g) rfl j _ (by simp [Lib.byteCells,hj])
theorem Qr (w:World):(((w.alloc (.cells #[.int .u8 45] 5)).alloc (.cells (#[.int .u8 45]++Builtin.zeroCells #[.int .u8 0] ((Question.appendCap 1 0 5).cut (w.tape w.drawn (Question.appendCap 1 0 5))-1)) 5)).drew).ownsRow w.heap.size 5 1
  (.slice (some ⟨w.heap.size+1,0,none⟩) 1 ((Question.appendCap 1 0 5).cut (w.tape w.drawn (Question.appendCap 1 0 5)))) 1 (Lib.byteCells [45]):=by
 have h1:=grownCap_ge w 1 0 5
 have h2:=grownCap_le_maxLen w 1 0 5 (by unfold maxLen;omega)
 unfold grownCap at h1 h2
 generalize (Question.appendCap 1 0 5).cut (w.tape w.drawn (Question.appendCap 1 0 5))=C at *
 refine ⟨rfl,.inr ⟨w.heap.size+1,C,#[.int .u8 45]++Builtin.zeroCells #[.int .u8 0] (C-1),rfl,Ad,?_,h1,h2,?_,?_⟩⟩
 ·have:=World.alloc_heap_new (w.alloc (.cells #[.int .u8 45] 5)) (.cells (#[.int .u8 45]++Builtin.zeroCells #[.int .u8 0] (C-1)) 5)
  rw [AP] at this;exact this
 ·rw [Array.size_append,size_zeroCells];simp;omega
 ·simp [Lib.byteCells]
theorem MQ (w:World) {A B:Obj}:Below w.heap.size w (((w.alloc A).alloc B).drew):=by
 have h:=((Below.refl _ w).alloc (Aa _) A).alloc Af B;exact ⟨h.os,h.tape,h.output,h.size,h.block⟩
theorem Oj (neg:Bool) (v:Value) (w:World) (hv:Sl w v []) :
  Calls Tryz.prog 36 #[.bool neg,v] w fun e w'=>e=.returned (.tuple #[.string ⟨#[48]⟩,.bool true])/\Below w.heap.size w w':=by
 obtain ⟨a1,c1,rfl⟩:=hv.shape
 go_enter Tryz.func36,Tryz.ntmps36
 go_wp2
 go_ret2
 exact ⟨rfl,Below.refl _ _⟩
theorem Qs (neg:Bool) (v:Value) (xs:List Int) (n:Int) (w:World) (hv:Sl w v xs) (hn:Dm 10 xs n) (hl:xs.length<=1000000) (h0:xs.length≠0) :
  Calls Tryz.prog 36 #[.bool neg,v] w fun e w'=>e=.returned (.tuple #[.string ⟨(Lib.itoa (Do neg n)).toArray⟩,.bool (decide (xs.length<=200))])/\Below w.heap.size w w':=by
 have Hd:=A8 (MJ hn (fun e=>h0 (by rw [e];rfl)) neg)
 have hne:((xs.length:Int)==0)=false:=by rw [Am];omega
 have Hdig:=A8 hn.dig
 rcases hv with ⟨rfl,rfl⟩ | ⟨bb,off,cap,rfl,h1,h2,h3,h4⟩
 ·exact absurd rfl h0
 unfold maxLen at h2
 have H4:=A8 h4
 have Hn0:=A8 h0
 clear h4 h0 hn
 go_enter Tryz.func36,Tryz.ntmps36
 have hb45:((45:UInt8).toNat:Int)=45:=rfl
 cases neg
 go_wp2
 have hown0:w.ownsRow w.heap.size 5 1 (.slice none 0 0) ([]:List UInt8).length (Lib.byteCells []):=World.ownsRow_nil _ _ _ _
 have hbw:Below w.heap.size w w:=Below.refl _ _
 obtain ⟨l0,hl0,hl1⟩:∃ l0:List UInt8,Hid (l0=[])/\l0.length<=1:=⟨[],rfl,Af⟩
 rw [<-hl0.out] at hown0
 rotate_left
 go_wp2
 have hown2:=Qr w
 have hbw:=MQ w (A:=.cells #[.int .u8 45] 5) (B:=.cells (#[.int .u8 45]++Builtin.zeroCells #[.int .u8 0] ((Question.appendCap 1 0 5).cut (w.tape w.drawn (Question.appendCap 1 0 5))-1)) 5)
 generalize (Question.appendCap 1 0 5).cut (w.tape w.drawn (Question.appendCap 1 0 5))=cp at *
 generalize ((w.alloc (.cells #[.int .u8 45] 5)).alloc (.cells (#[.int .u8 45]++Builtin.zeroCells #[.int .u8 0] (cp-1)) 5)).drew=w2 at *
 obtain ⟨l0,hl0,hl1⟩:∃ l0:List UInt8,Hid (l0=[45])/\l0.length<=1:=⟨[45],rfl,Af⟩
 have hown0:w2.ownsRow w.heap.size 5 1 (.slice (some ⟨w.heap.size+1,0,none⟩) 1 cp) l0.length (Lib.byteCells l0):=by rw [hl0.out];exact hown2
 clear hown2
 rotate_left
 all_goals
  go_loopw [6,7] (fun o i wr=>∃ (r:Nat) (q:Int) (l:List UInt8),r<=xs.length/\i=.int .i64 q/\Hid (q=(r:Int)-1)/\wr.ownsRow w.heap.size 5 1 o l.length (Lib.byteCells l)/\l.length+r<=xs.length+1/\Hid (l=l0++DJ (xs.drop r))/\Below w.heap.size w wr)
   (fun _ i _=>(intOf i+1).toNat)
  case atStart=>exact ⟨xs.length,_,l0,Aa _,rfl,rfl,hown0,Ad,(show l0=l0++DJ (xs.drop xs.length) by rw [List.drop_length,show DJ []=[] from rfl,List.append_nil]),hbw⟩
  case round =>
   clear hown0 hbw;obtain ⟨r,q,l,hr,rfl,hq,hown,hlen,hL,hB⟩:=hrel;cases r with
   | zero =>
    obtain rfl:q=-1:=by have:=hq.out;omega
    rcases hown.2 with ⟨rfl,h00⟩ | ⟨g,cp,cur,rfl,hg⟩
    ·have:=Bk List.length hL.out
     rw [BP,J5,Co] at this;exact absurd (by omega:xs.length=0) Hn0.out
    ·have hcv:=MP hown 116 Tryz.underlying116
     have hfin:=Hd.out.trans (show _=l by rw [hL.out,hl0.out];rfl);have HF:=A8 hfin;clear hfin;go_wp2;go_ret2;exact ⟨ret_sb (by rw [HF.out]) (decide_eq_decide.2 Ad),hB⟩
   | succ r =>
    obtain rfl:q=(r:Int):=by have:=hq.out;omega
    have hd:=Hdig.out.gi Ae r;have hd0:=hd.1;have hd1:=hd.2;have hc:=(hB.cell (p:=⟨bb,off+r,none⟩) h3).trans (H4.out r Ad);have h8:=Ih hd0 hd1;have H8:=A8 h8.symm;have hrl:(r:Int)<(xs.length:Int):=by omega
    clear h8 hd;go_wp2_with (at_builtin;refine Qq (48+gi xs r) (LM (gi xs r)) H8.out 116 Tryz.underlying116 rfl _ _ rfl rfl rfl hown Ad hB.size ?_;intro g cp w2 hown2 hg2 hb2);go_roundw;case rel=>exact ⟨r,_,l++[LM (gi xs r)],Ad,rfl,rfl,(by rw [BP];exact hown2),(by rw [BP];simp;omega),(show l++[LM (gi xs r)]=l0++DJ (xs.drop r) by rw [hL.out,MM (k:=r) Ad,List.append_assoc]),hB.trans hb2⟩
    case measure=>simp [intOf]
theorem Fe (neg:Bool) (v:Value) (xs:List Int) (n:Int) (w:World) (hv:Sl w v xs) (hn:Dm 10 xs n) (hl:xs.length<=1000000) :
  Calls Tryz.prog 36 #[.bool neg,v] w fun e w'=>e=.returned (.tuple #[.string ⟨(Lib.itoa (Do neg n)).toArray⟩,.bool (decide (xs.length<=200))])/\Below w.heap.size w w':=by
 by_cases h0:xs.length=0
 ·obtain rfl:=AS h0
  have:=(hn.zero_iff Ae).1 rfl;subst this;rw [H0];exact Oj neg v w hv
 ·exact Qs neg v xs n w hv hn hl h0
theorem Sl.cellAt {w:World} {v:Value} {xs:List Int} (h:Sl w v xs) (h0:xs.length≠0):∃ b off cap,v=.slice (some ⟨b,off,none⟩) xs.length cap/\xs.length<=cap/\cap<=maxLen/\b<w.heap.size/\∀ j,j<xs.length->w.cell? ⟨b,off+j,none⟩=some (.int .i64 (gi xs j)):=by
 rcases h with ⟨_,rfl⟩ | h
 ·exact absurd rfl h0
 ·exact h
theorem Ok (v u:Value) (xs ys:List Int) (w:World) (hv:Sl w v xs) (hu:Sl w u ys) (hne:¬ xs.length=ys.length) :
  Calls Tryz.prog 61 #[v,u] w fun e w'=>e=.returned (.int .i64 (Ia xs ys))/\Below w.heap.size w w':=by
 have hc:Ia xs ys=Lib.compareInt xs.length ys.length:=AF hne
 obtain ⟨a1,c1,rfl⟩:=hv.shape
 obtain ⟨a2,c2,rfl⟩:=hu.shape
 have hb:((xs.length:Int) != ys.length)=true:=by simp;omega
 rw [hc]
 by_cases hlt:xs.length<ys.length
 ·rw [Cy (show (xs.length:Int)<ys.length by omega)]
  clear hc hv hu hne;go_enter Tryz.func61,Tryz.ntmps61;go_wp2;go_ret;exact ⟨rfl,Below.refl _ _⟩
 ·rw [Cz (show (ys.length:Int)<xs.length by omega)]
  clear hc hv hu hne;go_enter Tryz.func61,Tryz.ntmps61;go_wp2;go_ret;exact ⟨rfl,Below.refl _ _⟩
theorem RZ (v u:Value) (xs ys:List Int) (w:World) (hv:Sl w v xs) (hu:Sl w u ys) (hl:xs.length=ys.length) (h0:xs.length≠0) :
  Calls Tryz.prog 61 #[v,u] w fun e w'=>e=.returned (.int .i64 (Ia xs ys))/\Below w.heap.size w w':=by
 have hc:Ia xs ys=Eg xs ys xs.length:=AI hl
 obtain ⟨b1,o1,c1,rfl,h1,h2,h3,h4⟩:=hv.cellAt h0
 obtain ⟨b2,o2,c2,rfl,g1,g2,g3,g4⟩:=hu.cellAt Ad
 rw [hc]
 unfold maxLen at h2 g2
 have Hl:=A8 hl
 have H4:=A8 h4
 have G4:=A8 g4
 have hle:xs.length<=ys.length:=by omega
 have hge:ys.length<=xs.length:=by omega
 have hb:((xs.length:Int) != ys.length)=false:=by simp;omega
 clear hv hu hc hl h4 g4 h0
 go_enter Tryz.func61,Tryz.ntmps61
 go_wp2
 go_loopw [5] (fun i wr=>∃ (r:Nat) (q:Int),r<=xs.length/\i=.int .i64 q/\Hid (q=(r:Int)-1)/\Hid (Eg xs ys xs.length=Eg xs ys r)/\Below w.heap.size w wr) (fun i _=>(intOf i+1).toNat)
 case atStart=>exact ⟨xs.length,_,Aa _,rfl,rfl,rfl,Below.refl _ _⟩
 case round =>
  obtain ⟨r,q,hr,rfl,hq,hC,hB⟩:=hrel;cases r with
  | zero =>
   obtain rfl:q=-1:=by have:=hq.out;omega
   go_wp2;go_ret;exact ⟨D9 (by rw [hC.out];rfl),hB⟩
  | succ r =>
   obtain rfl:q=(r:Int):=by have:=hq.out;omega
   have c1:=(hB.cell (p:=⟨b1,o1+r,none⟩) h3).trans (H4.out r Ad);have c2:=(hB.cell (p:=⟨b2,o2+r,none⟩) g3).trans (G4.out r Ad);have i1:(r:Int)<(xs.length:Int):=by omega
   have i2:(r:Int)<(ys.length:Int):=by omega
   have i3:(0:Int)<=(r:Int):=by omega
   have hS:Eg xs ys (r+1)=if gi xs r=gi ys r then Eg xs ys r else Lib.compareInt (gi xs r) (gi ys r):=rfl
   have hr1:r<=xs.length:=by omega
   generalize hx:gi xs r=x at *
   generalize hy:gi ys r=y at *
   by_cases he:x=y
   ·have hS':=A8 (hC.out.trans (hS.trans (AI he)))
    have hne:(x != y)=false:=by simp [he]
    clear hx hy hS hC hr hq he;go_wp2_with fail;go_quiet (fail);go_wp2;go_roundw;case rel=>exact ⟨r,_,hr1,rfl,rfl,hS',hB.trans ((CN wr nq).mono hB.size)⟩
    case measure=>simp [intOf]
   ·have hS':=hC.out.trans (hS.trans (AF he))
    have hne:(x != y)=true:=by simp [he]
    by_cases hlt:x<y
    ·rw [Cy hlt] at hS'
     have HS:=A8 hS';clear hx hy hS hC hr hq he hS';go_wp2_with fail;go_quiet (fail);go_wp2_with fail;go_quiet (fail);go_wp2;go_ret;exact ⟨D9 (by rw [HS.out]),(hB.trans ((CN wr _).mono hB.size)).trans ((CN _ _).mono (by simp;exact hB.size))⟩
    ·rw [Cz Ad] at hS'
     have HS:=A8 hS';have hlt2:y<=x:=by omega
     clear hx hy hS hC hr hq he hS' hlt;go_wp2_with fail;go_quiet (fail);go_wp2_with fail;go_quiet (fail);go_wp2;go_ret;exact ⟨D9 (by rw [HS.out]),(hB.trans ((CN wr _).mono hB.size)).trans ((CN _ _).mono (by simp;exact hB.size))⟩
theorem Qt (v u:Value) (w:World) (hv:Sl w v []) (hu:Sl w u []) :
  Calls Tryz.prog 61 #[v,u] w fun e w'=>e=.returned (.int .i64 0)/\Below w.heap.size w w':=by
 obtain ⟨a1,c1,rfl⟩:=hv.shape
 obtain ⟨a2,c2,rfl⟩:=hu.shape
 clear hv hu
 simp only [Cf]
 go_enter Tryz.func61,Tryz.ntmps61
 go_wp2
 go_loop [5] (fun i=>i=.int .i64 (-1)) (fun _=>0)
 case atStart=>rfl
 case round =>
  obtain rfl:=hrel;go_wp2;go_ret;exact ⟨rfl,Below.refl _ _⟩
theorem G6 (v u:Value) (xs ys:List Int) (w:World) (hv:Sl w v xs) (hu:Sl w u ys) :
  Calls Tryz.prog 61 #[v,u] w fun e w'=>e=.returned (.int .i64 (Ia xs ys))/\Below w.heap.size w w':=by
 by_cases hl:xs.length=ys.length
 ·by_cases h0:xs.length=0
  ·obtain rfl:=AS h0
   obtain rfl:=AS (hl.symm.trans h0);exact Qt v u w hv hu
  ·exact RZ v u xs ys w hv hu hl h0
 ·exact Ok v u xs ys w hv hu hl
theorem Sl.place {w:World} {v:Value} {xs:List Int} (h:Sl w v xs):∃ (a:Option Addr) (b off cap:Nat),v=.slice a xs.length cap/\(0<xs.length->a=some ⟨b,off,none⟩/\b<w.heap.size)/\xs.length<=9223372036854775807/\∀ j,j<xs.length->w.cell? ⟨b,off+j,none⟩=some (.int .i64 (gi xs j)):=by
 have hl:=h.len_le;unfold maxLen at hl;rcases h with ⟨rfl,rfl⟩ | ⟨b,off,cap,rfl,h1,h2,h3,h4⟩
 ·exact ⟨none,0,0,0,rfl,fun h=>by simp at h,Af,fun j hj=>by simp at hj⟩
 ·exact ⟨_,b,off,cap,rfl,fun _=>⟨rfl,h3⟩,Ad,h4⟩
theorem JW (s c p v d q c':Int) (hv:v+c*p=s) (he:d+c=q+10*c'):(v+q*p)+c'*(p*10)=s+d*p:=by
 have e:c'*(p*10)=(10*c')*p:=by rw [AB p,<-AA,AB c']
 have e2:d+c-q=10*c':=by omega
 have e3:(d+c-q)*p=d*p+c*p-q*p:=by rw [Int.sub_mul,Cb]
 rw [e,<-e2,e3];omega
def MR (xs ys:List Int) (k:Nat):Int:=E0 10 (fun j=>gi xs j+gi ys j) k
theorem H2 {xs ys zs:List Int} {k:Nat} {c x y n:Int} (hdig:DA 10 zs) (hlen:zs.length=k) (hc0:0<=c) (hc1:c<=1) (hS:Hid (val 10 zs+c*10 ^ k=MR xs ys k)) (hx:0<=x/\x<10/\x=gi xs k) (hy:0<=y/\y<10/\y=gi ys k) (hn:n=c+x+y) :
  DA 10 (zs++[n % 10])/\0<=n / 10/\n / 10<=1/\Hid (val 10 (zs++[n % 10])+n / 10*10 ^ (k+1)=MR xs ys (k+1)):=by
 refine ⟨hdig.snoc Ad Ad,Ad,Ad,?_⟩
 show _=_
 rw [DN,hlen,BW]
 exact JW (MR xs ys k) c (10 ^ k) (val 10 zs) (gi xs k+gi ys k) (n % 10) (n / 10) hS.out Ad
theorem S5 (xs ys:List Int) {k:Nat} (h1:xs.length<=k) (h2:ys.length<=k):MR xs ys k=val 10 xs+val 10 ys:=by
 unfold MR;rw [JF,DG 10 xs h1,DG 10 ys h2]
theorem Qu {zs:List Int} (hd:DA 10 zs) (h:∀ j,zs.length=j+1->10 ^ j<=val 10 zs):Top zs:=by
 intro j hj h0;have h1:=h j hj;have h2:val 10 zs=val 10 (zs.take j):=by
  have e:=Ez (xs:=zs) (k:=j) Ad;rw [Bf Ad,h0] at e;rw [e,DN];simp;rw [<-e]
 have h3:=(Dk Ae (hd.take j)).2;rw [B9,Be Ad] at h3;omega
theorem S6 {xs ys zs:List Int} {m n:Int} {k:Nat} (hx:Dm 10 xs m) (hy:Dm 10 ys n) (hdig:DA 10 zs) (hlen:zs.length=k) (h1:xs.length<=k) (h2:ys.length<=k)
  (hS:Hid (val 10 zs+(0:Int)*10 ^ k=MR xs ys k)) (hT:k<=max xs.length ys.length∨Top zs):Dm 10 zs (m+n):=by
 have hv:val 10 zs=m+n:=by have:=hS.out;rw [S5 xs ys h1 h2,hx.val,hy.val] at this;omega
 refine ⟨hdig,?_,hv⟩
 rcases hT with h | h
 ·refine Qu hdig fun j hj=>?_
  have hm:=hx.nonneg Ae;have hn:=hy.nonneg Ae;rw [hv];rcases Nat.le_total xs.length ys.length with hl | hl
  ·have:=hy.ge Ae (k:=j) Ad;omega
  ·have:=hx.ge Ae (k:=j) Ad;omega
 ·exact h
theorem JX {zs:List Int} {d:Int} (h:d≠0):Hid (Top (zs++[d])):=by
 show Top _;intro j hj;have:j=zs.length:=by simp at hj;omega
 subst this;simpa [gi] using h
theorem KV (v u:Value) (xs ys:List Int) (m n:Int) (w:World) (hv:Sl w v xs) (hu:Sl w u ys) (hx:Dm 10 xs m) (hy:Dm 10 ys n) (hlx:xs.length<=100000) (hly:ys.length<=100000) :
  Calls Tryz.prog 65 #[v,u] w (CR w fun r w'=>∃ zs,Sl w' r zs/\Dm 10 zs (m+n)):=by
 obtain ⟨a1,b1,o1,c1,rfl,h1,h2,h4⟩:=hv.place
 obtain ⟨a2,b2,o2,c2,rfl,g1,g2,g4⟩:=hu.place
 have H4:=A8 h4
 have G4:=A8 g4
 have H1:=A8 h1
 have G1:=A8 g1
 have HX:=A8 hx
 have HY:=A8 hy
 clear hv hu h4 g4 h1 g1 hx hy
 go_enter Tryz.func65,Tryz.ntmps65
 go_wp2
 go_loopw [5,6,7] (fun o cr i wr=>∃ (k:Nat) (c:Int) (zs:List Int),i=.int .i64 k/\cr=.int .i64 c/\0<=c/\c<=1/\zs.length=k/\DA 10 zs/\Hid (val 10 zs+c*10 ^ k=MR xs ys k) /\
   (k<=max xs.length ys.length∨k=max xs.length ys.length+1/\c<=0/\Hid (Top zs))/\wr.ownsRow w.heap.size 3 1 o zs.length (zs.map (Value.int .i64))/\Below w.heap.size w wr)
  (fun _ _ i _=>max xs.length ys.length+1-(intOf i).toNat)
 case atStart=>exact ⟨0,0,[],rfl,rfl,Ae,Ae,rfl,DA.nil _,by show _=_;simp [val,MR,E0],.inl (AE _),World.ownsRow_nil _ _ _ _,Below.refl _ _⟩
 case round =>
  obtain ⟨k,c,zs,rfl,rfl,hc0,hc1,hlen,hdig,hS,hT,hown,hB⟩:=hrel;have hxd:0<=gi xs k/\gi xs k<10/\gi xs k=gi xs k:=⟨(HX.out.dig.gi Ae k).1,(HX.out.dig.gi Ae k).2,rfl⟩;have hyd:0<=gi ys k/\gi ys k<10/\gi ys k=gi ys k:=⟨(HY.out.dig.gi Ae k).1,(HY.out.dig.gi Ae k).2,rfl⟩;have x0:=hxd.1;have x1:=hxd.2.1;have y0:=hyd.1;have y1:=hyd.2.1;have hcase:(k<xs.length/\k<ys.length)∨(k<xs.length/\ys.length<=k)∨(xs.length<=k/\k<ys.length)∨(xs.length<=k/\ys.length<=k/\0<c)∨(xs.length<=k/\ys.length<=k/\c<=0):=by omega
  rcases hcase with ⟨k1,k2⟩ | ⟨k1,k2⟩ | ⟨k1,k2⟩ | ⟨k1,k2,k3⟩ | ⟨k1,k2,k3⟩
  ·obtain ⟨rfl,h3⟩:=H1.out Ad
   obtain ⟨rfl,g3⟩:=G1.out Ad;have c1:=(hB.cell (p:=⟨b1,o1+k,none⟩) h3).trans (H4.out k Ad);have i1:(k:Int)<(xs.length:Int):=by omega
   have c2:=(hB.cell (p:=⟨b2,o2+k,none⟩) g3).trans (G4.out k Ad);have i2:(k:Int)<(ys.length:Int):=by omega
   obtain ⟨a1,a2,a3,a4⟩:=H2 (x:=gi xs k) (y:=gi ys k) (n:=c+gi xs k+gi ys k) hdig hlen hc0 hc1 hS hxd hyd Ad;have HA:=A8 (And.intro a1 a4);have Hlen:=A8 hlen;clear hlen a1 a4;go_wp2_with (at_builtin;refine D4 ((c+gi xs k+gi ys k) % 10) 22 Tryz.underlying22 rfl _ _ rfl rfl rfl hown (by have:=Hlen.out;omega) hB.size ?_;intro g cp w2 hown2 hg2 hb2);go_roundw;case rel=>exact ⟨k+1,_,zs++[(c+gi xs k+gi ys k) % 10],by go_num,rfl,a2,a3,(by rw [BP,Hlen.out];rfl),HA.out.1,HA.out.2,(.inl Ad),(by rw [BP];exact hown2),hB.trans hb2⟩
   case measure=>simp [intOf];omega
  ·obtain ⟨rfl,h3⟩:=H1.out Ad
   have c1:=(hB.cell (p:=⟨b1,o1+k,none⟩) h3).trans (H4.out k Ad);have i1:(k:Int)<(xs.length:Int):=by omega
   have hy2:=FS k2;obtain ⟨a1,a2,a3,a4⟩:=H2 (x:=gi xs k) (y:=gi ys k) (n:=c+gi xs k) hdig hlen hc0 hc1 hS hxd hyd Ad;have HA:=A8 (And.intro a1 a4);have Hlen:=A8 hlen;clear hlen a1 a4;go_wp2_with (at_builtin;refine D4 ((c+gi xs k) % 10) 22 Tryz.underlying22 rfl _ _ rfl rfl rfl hown (by have:=Hlen.out;omega) hB.size ?_;intro g cp w2 hown2 hg2 hb2);go_roundw;case rel=>exact ⟨k+1,_,zs++[(c+gi xs k) % 10],by go_num,rfl,a2,a3,(by rw [BP,Hlen.out];rfl),HA.out.1,HA.out.2,(.inl Ad),(by rw [BP];exact hown2),hB.trans hb2⟩
   case measure=>simp [intOf];omega
  ·obtain ⟨rfl,g3⟩:=G1.out Ad
   have c2:=(hB.cell (p:=⟨b2,o2+k,none⟩) g3).trans (G4.out k Ad);have i2:(k:Int)<(ys.length:Int):=by omega
   have hx2:=FS k1;obtain ⟨a1,a2,a3,a4⟩:=H2 (x:=gi xs k) (y:=gi ys k) (n:=c+gi ys k) hdig hlen hc0 hc1 hS hxd hyd Ad;have HA:=A8 (And.intro a1 a4);have Hlen:=A8 hlen;clear hlen a1 a4;go_wp2_with (at_builtin;refine D4 ((c+gi ys k) % 10) 22 Tryz.underlying22 rfl _ _ rfl rfl rfl hown (by have:=Hlen.out;omega) hB.size ?_;intro g cp w2 hown2 hg2 hb2);go_roundw;case rel=>exact ⟨k+1,_,zs++[(c+gi ys k) % 10],by go_num,rfl,a2,a3,(by rw [BP,Hlen.out];rfl),HA.out.1,HA.out.2,(.inl Ad),(by rw [BP];exact hown2),hB.trans hb2⟩
   case measure=>simp [intOf];omega
  ·have hx2:=FS k1
   have hy2:=FS k2;obtain ⟨a1,a2,a3,a4⟩:=H2 (x:=gi xs k) (y:=gi ys k) (n:=c) hdig hlen hc0 hc1 hS hxd hyd Ad;have HA:=A8 (And.intro a1 a4);have Hlen:=A8 hlen;clear hlen a1 a4;go_wp2_with (at_builtin;refine D4 ((c) % 10) 22 Tryz.underlying22 rfl _ _ rfl rfl rfl hown (by have:=Hlen.out;omega) hB.size ?_;intro g cp w2 hown2 hg2 hb2);go_roundw;case rel=>exact ⟨k+1,_,zs++[(c) % 10],by go_num,rfl,a2,a3,(by rw [BP,Hlen.out];rfl),HA.out.1,HA.out.2,(.inr ⟨Ad,Ad,JX Ad⟩),(by rw [BP];exact hown2),hB.trans hb2⟩
   case measure=>simp [intOf];omega
  ·obtain rfl:c=0:=by omega
   have hfin:=A8 (S6 HX.out HY.out hdig hlen k1 k2 hS (by rcases hT with h | h;exact .inl h;exact .inr h.2.2.out));have hsl:=Sl.of_own hown;clear hlen hdig hS hT hown;go_wp2;go_ret;exact ⟨⟨_,rfl,zs,hsl,hfin.out⟩,hB⟩
def MS (xs ys:List Int) (k:Nat):Int:=E0 10 (fun j=>gi xs j-gi ys j) k
theorem Gh {xs ys zs:List Int} {k:Nat} {c x y n q c':Int} (hdig:DA 10 zs) (hlen:zs.length=k) (hS:Hid (val 10 zs-c*10 ^ k=MS xs ys k)) (hx:x=gi xs k) (hy:y=gi ys k) (hn:n=x-c-y) (hq:n=q-10*c') (h0:0<=q) (h1:q<10) :
  DA 10 (zs++[q])/\Hid (val 10 (zs++[q])-c'*10 ^ (k+1)=MS xs ys (k+1)):=by
 refine ⟨hdig.snoc h0 h1,?_⟩
 show _=_
 rw [DN,hlen,BW]
 have:=JW (MS xs ys k) (-c) (10 ^ k) (val 10 zs) (gi xs k-gi ys k) q (-c') (by rw [Cs];have:=hS.out;omega) Ad
 rw [Cs] at this
 exact this
theorem S7 (xs ys:List Int) {k:Nat} (h1:xs.length<=k) (h2:ys.length<=k):MS xs ys k=val 10 xs-val 10 ys:=by
 unfold MS;rw [JG,DG 10 xs h1,DG 10 ys h2]
theorem Qv {xs ys zs:List Int} {m n c:Int} {k:Nat} (hx:Dm 10 xs m) (hy:Dm 10 ys n) (hle:n<=m) (hdig:DA 10 zs) (hlen:zs.length=k) (h1:xs.length<=k) (h2:ys.length<=k) (hc:0<=c)
  (hS:Hid (val 10 zs-c*10 ^ k=MS xs ys k)):Dm 10 (trim zs) (m-n):=by
 have hv:=hS.out
 rw [S7 xs ys h1 h2,hx.val,hy.val] at hv
 have hb:=Dk (b:=10) Ae hdig
 rw [hlen] at hb
 have hc0:c=0:=by
  rcases Int.lt_or_le 0 c with h | h
  ·have:10 ^ k<=c*10 ^ k:=by
    have:=Az (show (1:Int)<=c by omega) (Ce (Ed (b:=10) Ae k));omega
   omega
  ·omega
 subst hc0
 have e:val 10 zs=m-n:=by omega
 rw [<-e]
 exact Dm.trim hdig
theorem Ij (v u:Value) (xs ys:List Int) (m n:Int) (w:World) (hv:Sl w v xs) (hu:Sl w u ys) (hx:Dm 10 xs m) (hy:Dm 10 ys n) (hle:n<=m) (hlx:xs.length<=100000) :
  Calls Tryz.prog 66 #[v,u] w (CR w fun r w'=>∃ zs,Sl w' r zs/\Dm 10 zs (m-n)/\Et w r):=by
 have hly:=hy.len_le Ae hx hle
 obtain ⟨a1,b1,o1,c1,rfl,h1,h2,h4⟩:=hv.place
 obtain ⟨a2,b2,o2,c2,rfl,g1,g2,g4⟩:=hu.place
 have H4:=A8 h4
 have G4:=A8 g4
 have H1:=A8 h1
 have G1:=A8 g1
 have HX:=A8 hx
 have HY:=A8 hy
 clear hv hu h4 g4 h1 g1 hx hy
 go_enter Tryz.func66,Tryz.ntmps66
 go_wp2
 go_loopw [5,6,7] (fun o cr i wr=>∃ (k:Nat) (c:Int) (zs:List Int),i=.int .i64 k/\cr=.int .i64 c/\0<=c/\c<=1/\zs.length=k/\DA 10 zs/\Hid (val 10 zs-c*10 ^ k=MS xs ys k) /\
   k<=xs.length/\wr.ownsRow w.heap.size 3 1 o zs.length (zs.map (Value.int .i64))/\Below w.heap.size w wr)
  (fun _ _ i _=>xs.length-(intOf i).toNat)
 case atStart=>exact ⟨0,0,[],rfl,rfl,Ae,Ae,rfl,DA.nil _,by show _=_;simp [val,MS,E0],AE _,World.ownsRow_nil _ _ _ _,Below.refl _ _⟩
 case round =>
  obtain ⟨k,c,zs,rfl,rfl,hc0,hc1,hlen,hdig,hS,hk,hown,hB⟩:=hrel;have x0:=(HX.out.dig.gi Ae k).1;have x1:=(HX.out.dig.gi Ae k).2;have y0:=(HY.out.dig.gi Ae k).1;have y1:=(HY.out.dig.gi Ae k).2;by_cases hk1:k<xs.length
  ·obtain ⟨rfl,h3⟩:=H1.out Ad
   have c1:=(hB.cell (p:=⟨b1,o1+k,none⟩) h3).trans (H4.out k Ad);have i1:(k:Int)<(xs.length:Int):=by omega
   have Hlen:=A8 hlen;by_cases hk2:k<ys.length
   ·obtain ⟨rfl,g3⟩:=G1.out Ad
    have c2:=(hB.cell (p:=⟨b2,o2+k,none⟩) g3).trans (G4.out k Ad);have i2:(k:Int)<(ys.length:Int):=by omega
    by_cases hneg:gi xs k-c-gi ys k<0
    ·obtain ⟨d1,d2⟩:=Gh (x:=gi xs k) (y:=gi ys k) (n:=gi xs k-c-gi ys k) (q:=gi xs k-c-gi ys k+10) (c':=1) hdig hlen hS rfl rfl Ad Ad Ad Ad
     have HA:=A8 (And.intro d1 d2);skip;clear hlen d1 d2;go_wp2_with (at_builtin;refine D4 (gi xs k-c-gi ys k+10) 22 Tryz.underlying22 rfl _ _ rfl rfl rfl hown (by have:=Hlen.out;omega) hB.size ?_;intro g cp w2 hown2 hg2 hb2);go_roundw;case rel=>exact ⟨k+1,1,zs++[gi xs k-c-gi ys k+10],by go_num,rfl,Ae,Ae,(by rw [BP,Hlen.out];rfl),HA.out.1,HA.out.2,Ad,(by rw [BP];exact hown2),hB.trans hb2⟩
     case measure=>simp [intOf];omega
    ·obtain ⟨d1,d2⟩:=Gh (x:=gi xs k) (y:=gi ys k) (n:=gi xs k-c-gi ys k) (q:=gi xs k-c-gi ys k) (c':=0) hdig hlen hS rfl rfl Ad Ad Ad Ad
     have HA:=A8 (And.intro d1 d2);have hnn:0<=gi xs k-c-gi ys k:=by omega
     clear hlen d1 d2 hneg;go_wp2_with (at_builtin;refine D4 (gi xs k-c-gi ys k) 22 Tryz.underlying22 rfl _ _ rfl rfl rfl hown (by have:=Hlen.out;omega) hB.size ?_;intro g cp w2 hown2 hg2 hb2);go_roundw;case rel=>exact ⟨k+1,0,zs++[gi xs k-c-gi ys k],by go_num,rfl,Ae,Ae,(by rw [BP,Hlen.out];rfl),HA.out.1,HA.out.2,Ad,(by rw [BP];exact hown2),hB.trans hb2⟩
     case measure=>simp [intOf];omega
   ·have hy2:=FS (xs:=ys) (i:=k) Ad
    have hk3:ys.length<=k:=by omega
    by_cases hneg:gi xs k-c<0
    ·obtain ⟨d1,d2⟩:=Gh (x:=gi xs k) (y:=gi ys k) (n:=gi xs k-c) (q:=gi xs k-c+10) (c':=1) hdig hlen hS rfl rfl Ad Ad Ad Ad
     have HA:=A8 (And.intro d1 d2);skip;clear hlen d1 d2;go_wp2_with (at_builtin;refine D4 (gi xs k-c+10) 22 Tryz.underlying22 rfl _ _ rfl rfl rfl hown (by have:=Hlen.out;omega) hB.size ?_;intro g cp w2 hown2 hg2 hb2);go_roundw;case rel=>exact ⟨k+1,1,zs++[gi xs k-c+10],by go_num,rfl,Ae,Ae,(by rw [BP,Hlen.out];rfl),HA.out.1,HA.out.2,Ad,(by rw [BP];exact hown2),hB.trans hb2⟩
     case measure=>simp [intOf];omega
    ·obtain ⟨d1,d2⟩:=Gh (x:=gi xs k) (y:=gi ys k) (n:=gi xs k-c) (q:=gi xs k-c) (c':=0) hdig hlen hS rfl rfl Ad Ad Ad Ad
     have HA:=A8 (And.intro d1 d2);have hnn:0<=gi xs k-c:=by omega
     clear hlen d1 d2 hneg;go_wp2_with (at_builtin;refine D4 (gi xs k-c) 22 Tryz.underlying22 rfl _ _ rfl rfl rfl hown (by have:=Hlen.out;omega) hB.size ?_;intro g cp w2 hown2 hg2 hb2);go_roundw;case rel=>exact ⟨k+1,0,zs++[gi xs k-c],by go_num,rfl,Ae,Ae,(by rw [BP,Hlen.out];rfl),HA.out.1,HA.out.2,Ad,(by rw [BP];exact hown2),hB.trans hb2⟩
     case measure=>simp [intOf];omega
  ·have hfin:=A8 (Qv HX.out HY.out hle hdig hlen Ad Ad hc0 hS)
   have hsl:=Sl.of_own hown;have HFr:=A8 (Et.of_own (w:=w) hown (Aa _));clear hlen hdig hS hown;go_wp2_with fail;refine (IJ _ zs _ hsl).mono ?_;rintro e w2 ⟨⟨v',rfl,hz,hpt⟩,rfl⟩;have HFr2:=A8 (HFr.out.of_ptr hpt);clear hpt HFr;go_wp2;go_ret;exact ⟨⟨_,rfl,_,hz,hfin.out,HFr2.out⟩,hB⟩
theorem HK (v u:Value) (xs ys:List Int) (m n:Int) (w:World) (hv:Sl w v xs) (hu:Sl w u ys) (hx:Dm 10 xs m) (hy:Dm 10 ys n) (hle:n<=m) (hlx:xs.length<=100000) :
  Calls Tryz.prog 66 #[v,u] w (CR w fun r w'=>∃ zs,Sl w' r zs/\Dm 10 zs (m-n)) :=
 (Ij v u xs ys m n w hv hu hx hy hle hlx).mono fun _ _ ⟨⟨r,h1,zs,h2,h3,_⟩,hb⟩=>⟨⟨r,h1,zs,h2,h3⟩,hb⟩
def Fp (l:List UInt8):Bool:=!l.isEmpty&&decide (l.length<=200)&&l.all FR&&(decide (l=[48]) || decide (l.head? ≠ some 48))
theorem Du (t:ByteArray):t.data.toList.length=t.size:=by rw [Bc];rfl
theorem EH (t:ByteArray) (k:Nat) (h:k<t.size):t.data.toList[k]'(by rw [Du];exact h)=t[k]:=rfl
theorem MT (t:ByteArray) (k:Nat) (h:k<t.size):(t.data.toList.take (k+1)).all FR=((t.data.toList.take k).all FR&&FR t[k]):=by
 rw [List.take_succ_eq_append_getElem (by rw [Du];exact h),List.all_append,EH t k h];simp
theorem MV (t:ByteArray) (k:Nat) (h:k<t.size) (hd:FR t[k]=false):Fp t.data.toList=false:=by
 have:t.data.toList.all FR=false:=by
  rw [List.all_eq_false];exact ⟨t[k],by rw [<-EH t k h];exact AC _,by simp [hd]⟩
 unfold Fp;rw [this];simp
theorem JY (t:ByteArray) (h:t.size=0):Fp t.data.toList=false:=by
 have:t.data.toList=[]:=AS (by rw [Du];exact h);rw [this];rfl
theorem KW (t:ByteArray) (h:200<t.size):Fp t.data.toList=false:=by
 unfold Fp;rw [Du,Al Ad];simp
theorem KX (t:ByteArray) (h:t.toList=[48]):Fp t.data.toList=true:=by
 rw [ByteArray.toList_eq] at h;rw [h];decide
theorem KY (t:ByteArray) (h0:0<t.size) (h2:t.size<=200) (ha:t.data.toList.all FR=true) (hz:¬ t.toList=[48]):Fp t.data.toList=(((t[0]).toNat:Int) != 48):=by
 rw [ByteArray.toList_eq] at hz;have hl:=Du t;have e:t.data.toList.head? = some t[0]:=by rw [List.head?_eq_getElem?,Au Ad,EH t 0 h0]
 unfold Fp;rw [e,ha,Al hz,Ay (by omega:t.data.toList.length<=200),Pn];have:t.data.toList.isEmpty=false:=by
  cases hh:t.data.toList with
  | nil=>rw [hh] at hl;simp at hl;omega
  | cons _ _=>rfl
 rw [this];simp [bne,BEq.beq]
theorem MW {t:ByteArray} (h0:0<t.size) (h:t[0]≠45):∀ c r,t.data.toList=c :: r->c≠45:=by
 intro c r e hc;have h1:=EH t 0 h0;have h2:t.data.toList[0]'(by rw [Du];exact h0)=c:=by simp only [e];rfl
 rw [h2] at h1;exact h (h1.symm.trans hc)
theorem MZ {s:ByteArray} (h0:0<s.size) (h:s[0]=45):s.data.toList=45 :: (s.extract 1 s.size).data.toList:=by
 rw [Lib.extract_to_end];have h1:=EH s 0 h0;rw [<-Co (l:=s.data.toList),Cp (by rw [Du];exact h0),h1,h];rfl
theorem JZ {c:UInt8} (h:c≠45):((c.toNat:Int)==45)=false:=by
 refine Am.2 (fun e=>h (UInt8.toNat_inj.1 ?_));have:(45:UInt8).toNat=45:=rfl;omega
theorem N0 {l:List UInt8} (h:∀ c r,l=c :: r->c≠45):DX l=Fp l:=by
 have e:body l=l:=by
  cases l with
  | nil=>rfl
  | cons c r=>exact Fm r (h c r rfl)
 unfold DX Fp;rw [e]
theorem N1 {r:List UInt8}:DX (45 :: r)=(!decide (r=[48])&&Fp r):=by
 unfold DX Fp;rw [EQ];by_cases h:r=[48]
 ·subst h;decide
 ·simp [h]
theorem LN (t:ByteArray) (h0:0<t.size) (h:t[0]≠45) (hs:t.size<=9223372036854775807) (w:World):Calls Tryz.prog 31 #[.string t] w fun e w'=>e=.returned (.bool (okS t))/\Below w.heap.size w w':=by
 have HC:=A8 (show okS t=Fp t.data.toList from N0 (MW h0 h));have hm:(((t[0]).toNat:Int)==45)=false:=JZ h;have hpi:(0:Int)<(t.size:Int):=by omega
 clear h;go_enter Tryz.func31,Tryz.ntmps31;go_wp2;go_loop [3] (fun i=>∃ k:Nat,k<=t.size/\i=.int .i64 k/\Hid ((t.data.toList.take k).all FR=true)) (fun i=>t.size-(intOf i).toNat);case atStart=>exact ⟨0,AE _,rfl,rfl⟩
 case round =>
  obtain ⟨k,hk,rfl,hA⟩:=hrel;by_cases hlt:k<t.size
  ·have hidx:(k:Int)<(t.size:Int):=by omega
   have hstep:=MT t k hlt;by_cases hd:FR t[k]=true
   ·have hd2:=Dw.1 hd
    have l1:(48:Int)<=((t[k]).toNat:Int):=by omega
    have l2:((t[k]).toNat:Int)<=57:=by omega
    have HA:=A8 (show (t.data.toList.take (k+1)).all FR=true by rw [hstep,hA.out,hd];rfl);clear hstep hd hd2;go_wp2;go_round;case rel=>exact ⟨k+1,Ad,by go_num,HA⟩
    case measure=>simp [intOf];omega
   ·have hd2:¬ (48<=(t[k]).toNat/\(t[k]).toNat<=57):=fun h=>hd (Dw.2 h)
    have HF:=A8 (HC.out.trans (MV t k hlt (by simpa using hd)));have hcs:((t[k]).toNat:Int)<48∨(48:Int)<=((t[k]).toNat:Int)/\(57:Int)<((t[k]).toNat:Int):=by omega
    clear hstep hd hd2;rcases hcs with h | ⟨h,h'⟩
    ·go_wp2
     go_ret;exact ⟨D6 HF.out.symm,Below.refl _ _⟩
    ·go_wp2
     go_ret;exact ⟨D6 HF.out.symm,Below.refl _ _⟩
  ·obtain rfl:k=t.size:=by omega
   have hall:t.data.toList.all FR=true:=by have:=hA.out;rwa [Bf (by rw [Du];exact Aa _)] at this
   clear hA hlt;by_cases h0:t.size=0
   ·have HF:=A8 (HC.out.trans (JY t h0))
    have e0:t=⟨#[]⟩:=An (Array.eq_empty_of_size_eq_zero h0);clear HC hall h0;subst e0;go_wp2;go_ret;exact ⟨D6 HF.out.symm,Below.refl _ _⟩
   ·have hp:0<t.size:=by omega
    have hpi:(0:Int)<(t.size:Int):=by omega
    clear h0;by_cases h2:t.size<=200
    ·have h2i:(t.size:Int)<=200:=by omega
     by_cases hz:t.toList=[48]
     ·have HF:=A8 (HC.out.trans (KX t hz))
      have hzb:(t.toList==[48])=true:=by rw [hz];rfl
      clear hz HC hall;go_wp2;go_ret;exact ⟨D6 HF.out.symm,Below.refl _ _⟩
     ·have hzb:(t.toList==[48])=false:=Am.2 hz
      have HF:=A8 (HC.out.trans (KY t hp h2 hall hz));clear hz HC hall;go_wp2;go_ret;exact ⟨D6 (by rw [HF.out]),Below.refl _ _⟩
    ·have h2i:(200:Int)<(t.size:Int):=by omega
     have HF:=A8 (HC.out.trans (KW t Ad));clear HC hall h2;go_wp2;go_ret;exact ⟨D6 HF.out.symm,Below.refl _ _⟩
theorem LO (w:World):Calls Tryz.prog 31 #[.string ⟨#[]⟩] w fun e w'=>e=.returned (.bool (okS ⟨#[]⟩))/\Below w.heap.size w w':=by
 have HF:=A8 (show okS ⟨#[]⟩=false from rfl);go_enter Tryz.func31,Tryz.ntmps31;go_wp2;go_loop [3] (fun i=>i=.int .i64 0) (fun _=>0);case atStart=>rfl
 case round =>
  obtain rfl:=hrel;go_wp2;go_ret;exact ⟨D6 HF.out.symm,Below.refl _ _⟩
theorem LP (s:ByteArray) (h0:0<s.size) (h:s[0]=45) (hs:s.size<=9223372036854775807) (w:World):Calls Tryz.prog 31 #[.string s] w fun e w'=>e=.returned (.bool (okS s))/\Below w.heap.size w w':=by
 have hv:okS s=(!decide ((s.extract 1 s.size).data.toList=[48])&&Fp (s.extract 1 s.size).data.toList):=by
  unfold okS;rw [MZ h0 h];exact N1
 have hm:(((s[0]).toNat:Int)==45)=true:=by rw [h];rfl
 have hpi:(0:Int)<(s.size:Int):=by omega
 have hts:(s.extract 1 s.size).size<=9223372036854775807:=by simp;omega
 clear h;by_cases hz:(s.extract 1 s.size).data.toList=[48]
 ·have HF:=A8 (show okS s=false by rw [hv,Ay hz];rfl)
  have hzb:((s.extract 1 s.size).toList==[48])=true:=by rw [ByteArray.toList_eq,hz];rfl
  clear hv hz hts;go_enter Tryz.func31,Tryz.ntmps31;go_wp2;go_ret;exact ⟨D6 HF.out.symm,Below.refl _ _⟩
 have HC:=A8 (show okS s=Fp (s.extract 1 s.size).data.toList by rw [hv,Al hz];rfl);have hzb:((s.extract 1 s.size).toList==[48])=false:=by rw [ByteArray.toList_eq];exact Am.2 hz
 clear hv hz;go_enter Tryz.func31,Tryz.ntmps31;go_wp2;generalize s.extract 1 s.size=t at *
 clear hzb;go_loop [3] (fun i=>∃ k:Nat,k<=t.size/\i=.int .i64 k/\Hid ((t.data.toList.take k).all FR=true)) (fun i=>t.size-(intOf i).toNat);case atStart=>exact ⟨0,AE _,rfl,rfl⟩
 case round =>
  obtain ⟨k,hk,rfl,hA⟩:=hrel;by_cases hlt:k<t.size
  ·have hidx:(k:Int)<(t.size:Int):=by omega
   have hstep:=MT t k hlt;by_cases hd:FR t[k]=true
   ·have hd2:=Dw.1 hd
    have l1:(48:Int)<=((t[k]).toNat:Int):=by omega
    have l2:((t[k]).toNat:Int)<=57:=by omega
    have HA:=A8 (show (t.data.toList.take (k+1)).all FR=true by rw [hstep,hA.out,hd];rfl);clear hstep hd hd2;go_wp2;go_round;case rel=>exact ⟨k+1,Ad,by go_num,HA⟩
    case measure=>simp [intOf];omega
   ·have hd2:¬ (48<=(t[k]).toNat/\(t[k]).toNat<=57):=fun h=>hd (Dw.2 h)
    have HF:=A8 (HC.out.trans (MV t k hlt (by simpa using hd)));have hcs:((t[k]).toNat:Int)<48∨(48:Int)<=((t[k]).toNat:Int)/\(57:Int)<((t[k]).toNat:Int):=by omega
    clear hstep hd hd2;rcases hcs with h | ⟨h,h'⟩
    ·go_wp2
     go_ret;exact ⟨D6 HF.out.symm,Below.refl _ _⟩
    ·go_wp2
     go_ret;exact ⟨D6 HF.out.symm,Below.refl _ _⟩
  ·obtain rfl:k=t.size:=by omega
   have hall:t.data.toList.all FR=true:=by have:=hA.out;rwa [Bf (by rw [Du];exact Aa _)] at this
   clear hA hlt;by_cases h0:t.size=0
   ·have HF:=A8 (HC.out.trans (JY t h0))
    have e0:t=⟨#[]⟩:=An (Array.eq_empty_of_size_eq_zero h0);clear HC hall h0;subst e0;go_wp2;go_ret;exact ⟨D6 HF.out.symm,Below.refl _ _⟩
   ·have hp:0<t.size:=by omega
    have hpi:(0:Int)<(t.size:Int):=by omega
    clear h0;by_cases h2:t.size<=200
    ·have h2i:(t.size:Int)<=200:=by omega
     by_cases hz:t.toList=[48]
     ·have HF:=A8 (HC.out.trans (KX t hz))
      have hzb:(t.toList==[48])=true:=by rw [hz];rfl
      clear hz HC hall;go_wp2;go_ret;exact ⟨D6 HF.out.symm,Below.refl _ _⟩
     ·have hzb:(t.toList==[48])=false:=Am.2 hz
      have HF:=A8 (HC.out.trans (KY t hp h2 hall hz));clear hz HC hall;go_wp2;go_ret;exact ⟨D6 (by rw [HF.out]),Below.refl _ _⟩
    ·have h2i:(200:Int)<(t.size:Int):=by omega
     have HF:=A8 (HC.out.trans (KW t Ad));clear HC hall h2;go_wp2;go_ret;exact ⟨D6 HF.out.symm,Below.refl _ _⟩
theorem CJ (s:ByteArray) (hs:s.size<=9223372036854775807) (w:World):Calls Tryz.prog 31 #[.string s] w fun e w'=>e=.returned (.bool (okS s))/\Below w.heap.size w w':=by
 by_cases h0:s.size=0
 ·obtain rfl:s=⟨#[]⟩:=An (Array.eq_empty_of_size_eq_zero h0)
  exact LO w
 ·have hp:0<s.size:=by omega
  by_cases h:s[0]=45
  ·exact LP s hp h hs w
  ·exact LN s hp h hs w
def F3 (l:List UInt8):List Int:=l.reverse.map fun b=>(b.toNat:Int)-48
theorem Gi (b:UInt8) (l:List UInt8):F3 (b :: l)=F3 l++[(b.toNat:Int)-48]:=by simp [F3]
theorem Qw (l:List UInt8):(F3 l).length=l.length:=by simp [F3]
theorem Qx {l:List UInt8} (h:∀ b∈l,FR b=true):DA 10 (F3 l):=by
 intro x hx;obtain ⟨b,hb,rfl⟩:=AJ.1 hx;have:=Dw.1 (h b (List.mem_reverse.1 hb));omega
theorem Qy {l:List UInt8} (h:∀ b∈l,FR b=true):val 10 (F3 l)=Df l:=by
 induction l with
 | nil=>rfl
 | cons b l ih =>
  have hb:=Dw.1 (h b Af);rw [Gi,DN,ih (fun c hc=>h c (by simp [hc])),Qw];rw [show b :: l=[b]++l from rfl,Fz];have e:Df [b]=b.toNat-48:=by simp [Df,Lv]
  rw [e];have e2:((b.toNat:Int)-48)=((b.toNat-48:Nat):Int):=by omega
  rw [e2];simp;omega
theorem Qz {l:List UInt8} (h:∀ b∈l,FR b=true) (h0:l≠[]) (hh:∀ b,l.head? = some b->b.toNat≠48):Dm 10 (F3 l) (Df l):=by
 refine ⟨Qx h,?_,Qy h⟩;cases l with
 | nil=>exact absurd rfl h0
 | cons b l =>
  rw [Gi];have hb:=Dw.1 (h b Af);have:=hh b rfl;exact (JX (zs:=F3 l) (d:=(b.toNat:Int)-48) Ad).out
def DV (w:World) (r:Value) (z:Int):Prop:=∃ v xs,r=.tuple #[.bool (decide (z<0)),v]/\Sl w v xs/\Dm 10 xs z.natAbs
theorem LQ (w:World):Calls Tryz.prog 60 #[.string ⟨#[48]⟩] w (CR w fun r w'=>DV w' r 0):=by
 go_enter Tryz.func60,Tryz.ntmps60;go_wp2;go_loop [5,6] (fun o i=>o=.slice none 0 0/\i=.int .i64 0) (fun _ _=>0);case atStart=>exact ⟨rfl,rfl⟩
 case round =>
  obtain ⟨rfl,rfl⟩:=hrel;go_wp2;go_ret2;exact ⟨⟨_,rfl,_,[],rfl,Sl.nil _,Dm.trim (xs:=[]) (DA.nil 10)⟩,Below.refl _ _⟩
theorem N2 (t:ByteArray) (z:Int) (hA:∀ b∈t.data.toList,FR b=true) (hN:Dm 10 (F3 t.data.toList) z.natAbs) (hz:0<z) (h0:0<t.size) (h2:t.size<=200) (h:t[0]≠45) (hne:(t.toList==[48])=false) (w:World) :
  Calls Tryz.prog 60 #[.string t] w (CR w fun r w'=>DV w' r z):=by
 have HA:=A8 hA
 have HN:=A8 hN
 have HZ:=A8 (show decide (z<0)=false from Al Ad)
 have hm:(((t[0]).toNat:Int)==45)=false:=JZ h
 have hpi:(0:Int)<(t.size:Int):=by omega
 clear h hA hN hz
 go_enter Tryz.func60,Tryz.ntmps60
 go_wp2
 go_loopw [5,6] (fun o i wr=>∃ (r:Nat) (q:Int) (ds:List Int),r<=t.size/\i=.int .i64 q/\Hid (q=(r:Int)-1)/\Hid (ds=F3 (t.data.toList.drop r))/\ds.length+r=t.size/\wr.ownsRow w.heap.size 3 1 o ds.length (ds.map (Value.int .i64))/\Below w.heap.size w wr)
  (fun _ i _=>(intOf i+1).toNat)
 case atStart=>exact ⟨t.size,_,[],Aa _,rfl,(by show _=_;omega),(show []=F3 (t.data.toList.drop t.size) by rw [List.drop_of_length_le (by rw [Du];exact Aa _)];rfl),Af,World.ownsRow_nil _ _ _ _,Below.refl _ _⟩
 case round =>
  obtain ⟨r,q,ds,hr,rfl,hq,hD,hlen,hown,hB⟩:=hrel;cases r with
  | zero =>
   obtain rfl:q=-1:=by have:=hq.out;omega
   have hsl:=Sl.of_own hown;have hds:=hD.out;rw [Co] at hds;have HDS:=A8 hds;clear hlen hds hown;go_wp2;go_ret2;exact ⟨⟨_,rfl,_,ds,by rw [HZ.out];rfl,hsl,by rw [HDS.out];exact HN.out⟩,hB⟩
  | succ r =>
   obtain rfl:q=(r:Int):=by have:=hq.out;omega
   have hlt:r<t.size:=by omega
   have hidx:(r:Int)<(t.size:Int):=by omega
   have hd:=Dw.1 (HA.out t[r] (by rw [<-EH t r hlt];exact AC _));have l1:(48:Int)<=((t[r]).toNat:Int):=by omega
   have l2:((t[r]).toNat:Int)<=57:=by omega
   have HD2:=A8 (show ds++[((t[r]).toNat:Int)-48]=F3 (t.data.toList.drop r) by
    rw [Cp (i:=r) (by rw [Du];exact hlt),EH t r hlt,Gi,<-hD.out])
   have Hlen:=A8 hlen;have hdl:ds.length<=1000:=by omega
   clear hd hlen;go_wp2_with (at_builtin;refine D4 (((t[r]).toNat:Int)-48) 22 Tryz.underlying22 rfl _ _ rfl rfl rfl hown Ad hB.size ?_;intro g cp w2 hown2 hg2 hb2);go_roundw;case rel=>exact ⟨r,_,ds++[((t[r]).toNat:Int)-48],Ad,rfl,rfl,HD2,(by rw [BP];have:=Hlen.out;simp;omega),(by rw [BP];exact hown2),hB.trans hb2⟩
   case measure=>simp [intOf]
theorem N3 (s:ByteArray) (z:Int) (hA:∀ b∈(s.extract 1 s.size).data.toList,FR b=true) (hN:Dm 10 (F3 (s.extract 1 s.size).data.toList) z.natAbs) (hz:z<0) (h0:0<s.size) (h2:s.size<=201) (h:s[0]=45) (hne:((s.extract 1 s.size).toList==[48])=false) (w:World) :
  Calls Tryz.prog 60 #[.string s] w (CR w fun r w'=>DV w' r z):=by
 have HA:=A8 hA
 have HN:=A8 hN
 have HZ:=A8 (show decide (z<0)=true from Ay Ad)
 have hm:(((s[0]).toNat:Int)==45)=true:=by rw [h];rfl
 have hpi:(0:Int)<(s.size:Int):=by omega
 have hts:(s.extract 1 s.size).size=s.size-1:=by simp
 have hts2:(((s.extract 1 s.size).size:Nat):Int)=(s.size:Int)-1:=by omega
 clear h hA hN hz
 go_enter Tryz.func60,Tryz.ntmps60
 go_wp2
 generalize s.extract 1 s.size=t at *
 clear hts2
 go_loopw [5,6] (fun o i wr=>∃ (r:Nat) (q:Int) (ds:List Int),r<=t.size/\i=.int .i64 q/\Hid (q=(r:Int)-1)/\Hid (ds=F3 (t.data.toList.drop r))/\ds.length+r=t.size/\wr.ownsRow w.heap.size 3 1 o ds.length (ds.map (Value.int .i64))/\Below w.heap.size w wr)
  (fun _ i _=>(intOf i+1).toNat)
 case atStart=>exact ⟨t.size,_,[],Aa _,rfl,(by show _=_;omega),(show []=F3 (t.data.toList.drop t.size) by rw [List.drop_of_length_le (by rw [Du];exact Aa _)];rfl),Af,World.ownsRow_nil _ _ _ _,Below.refl _ _⟩
 case round =>
  obtain ⟨r,q,ds,hr,rfl,hq,hD,hlen,hown,hB⟩:=hrel;cases r with
  | zero =>
   obtain rfl:q=-1:=by have:=hq.out;omega
   have hsl:=Sl.of_own hown;have hds:=hD.out;rw [Co] at hds;have HDS:=A8 hds;clear hlen hds hown;go_wp2;go_ret2;exact ⟨⟨_,rfl,_,ds,by rw [HZ.out];rfl,hsl,by rw [HDS.out];exact HN.out⟩,hB⟩
  | succ r =>
   obtain rfl:q=(r:Int):=by have:=hq.out;omega
   have hlt:r<t.size:=by omega
   have hidx:(r:Int)<(t.size:Int):=by omega
   have hd:=Dw.1 (HA.out t[r] (by rw [<-EH t r hlt];exact AC _));have l1:(48:Int)<=((t[r]).toNat:Int):=by omega
   have l2:((t[r]).toNat:Int)<=57:=by omega
   have HD2:=A8 (show ds++[((t[r]).toNat:Int)-48]=F3 (t.data.toList.drop r) by
    rw [Cp (i:=r) (by rw [Du];exact hlt),EH t r hlt,Gi,<-hD.out])
   have Hlen:=A8 hlen;have hdl:ds.length<=1000:=by omega
   clear hd hlen;go_wp2_with (at_builtin;refine D4 (((t[r]).toNat:Int)-48) 22 Tryz.underlying22 rfl _ _ rfl rfl rfl hown Ad hB.size ?_;intro g cp w2 hown2 hg2 hb2);go_roundw;case rel=>exact ⟨r,_,ds++[((t[r]).toNat:Int)-48],Ad,rfl,rfl,HD2,(by rw [BP];have:=Hlen.out;simp;omega),(by rw [BP];exact hown2),hB.trans hb2⟩
   case measure=>simp [intOf]
theorem Dy (s:ByteArray) (h:okS s=true) (w:World):Calls Tryz.prog 60 #[.string s] w (CR w fun r w'=>DV w' r (zS s)):=by
 obtain ⟨h1,h2,h3,h4⟩:=J4 h;have hv:DX s.data.toList=true:=h;by_cases hz:zS s=0
 ·have e:s=⟨#[48]⟩:=by
   have h5:=(E8 hv).1;have h6:FV s.data.toList=0:=hz;rw [h6,show Lib.itoa (0:Int)=[48] from H0 false] at h5;exact An (Array.ext' h5)
  rw [hz,e]
  exact LQ w
 ·have hne:body s.data.toList≠[]:=fun e=>by
   unfold DX at hv;rw [e] at hv;simp at hv
  have h0:0<s.size:=by
   rw [<-Du];cases hl:s.data.toList with
   | nil=>rw [hl] at hne;exact absurd rfl hne
   | cons _ _=>simp
  have hd0:Df (body s.data.toList)≠0:=fun e=>by
   rw [e] at h4;exact hz (by show FV _=0;omega)
  have hhead:∀ b,(body s.data.toList).head? = some b->b.toNat≠48:=by
   intro b hb e;have hb2:b=48:=UInt8.toNat_inj.1 e;subst hb2;unfold DX at hv;rw [hb] at hv;simp at hv;have h7:=hv.2;rw [h7] at hd0;exact hd0 rfl
  have hN:=Qz h1 hne hhead
  rw [h4] at hN
  have hb48:body s.data.toList≠[48]:=fun e=>by rw [e] at hd0;exact hd0 rfl
  by_cases hm:s[0]=45
  ·have e:=MZ h0 hm
   have eb:body s.data.toList=(s.extract 1 s.size).data.toList:=by rw [e,EQ]
   rw [eb] at h1 h2 h3 hN hb48;have hneg:zS s<0:=by
    have hl:decide ((s.extract 1 s.size).data.toList.length<s.data.toList.length)=true:=Ay (by rw [e];simp);rw [hl] at h3;exact BS h3.symm
   rw [Du] at h2;refine N3 s (zS s) h1 hN hneg h0 (by have:(s.extract 1 s.size).size=s.size-1:=Af;omega) hm ?_ w;rw [ByteArray.toList_eq];exact Am.2 hb48
  ·have eb:body s.data.toList=s.data.toList:=by
    cases hl:s.data.toList with
    | nil=>rfl
    | cons c r=>exact Fm r (MW h0 hm c r hl)
   rw [eb] at h1 h2 h3 hN hb48
   have hneg:¬ zS s<0:=by
    have hl:decide (s.data.toList.length<s.data.toList.length)=false:=Al Ad;rw [hl] at h3;exact Cu h3.symm
   rw [Du] at h2
   refine N2 s (zS s) h1 hN Ad h0 h2 hm ?_ w
   rw [ByteArray.toList_eq];exact Am.2 hb48
theorem EE (neg:Bool) (v:Value) (xs:List Int) (n:Int) (w:World) (hv:Sl w v xs) (hn:Dm 10 xs n) (hl:xs.length<=1000000) :
  Calls Tryz.prog 64 #[.bool neg,v] w (CR w fun r _=>r=E6 true (Do neg n)):=by
 have hs:xs.length<=200↔Cw (Do neg n):=by
  rw [KS (hn.nonneg Ae)];constructor
  ·intro h;exact Int.lt_of_lt_of_le (hn.lt Ae) (by unfold FB;exact Ee Ae h)
  ·intro h;exact hn.length_le Ae h
 by_cases h:xs.length<=200
 ·have e:E6 true (Do neg n)=.tuple #[.string ⟨(Lib.itoa (Do neg n)).toArray⟩,.int .i64 0]:=by
   unfold E6 Ie Md;rw [AI rfl,AI (hs.1 h),AI (hs.1 h)]
  have HE:=A8 e
  have hd:decide (xs.length<=200)=true:=Ay h
  clear hs e h
  go_enter Tryz.func64,Tryz.ntmps64
  go_wp2_with fail
  refine (Fe neg v xs n w hv hn hl).mono ?_
  rintro e w1 ⟨rfl,hb⟩
  rw [hd]
  go_wp2
  go_ret2
  exact ⟨⟨_,rfl,HE.out.symm⟩,hb⟩
 ·have e:E6 true (Do neg n)=.tuple #[.string ⟨#[]⟩,.int .i64 30]:=by
   unfold E6 Ie Md;rw [AI rfl,AF (fun k=>h (hs.2 k)),AF (fun k=>h (hs.2 k))]
  have HE:=A8 e
  have hd:decide (xs.length<=200)=false:=Al h
  clear hs e h
  go_enter Tryz.func64,Tryz.ntmps64
  go_wp2_with fail
  refine (Fe neg v xs n w hv hn hl).mono ?_
  rintro e w1 ⟨rfl,hb⟩
  rw [hd]
  go_wp2
  go_ret2
  exact ⟨⟨_,rfl,HE.out.symm⟩,hb⟩
theorem cmpL10 {xs ys:List Int} {a b:Int} (hx:Dm 10 xs a) (hy:Dm 10 ys b):Ia xs ys=Lib.compareInt a b:=by
 unfold Ia;by_cases hl:xs.length=ys.length
 ·rw [AI hl,HB 10 Ae hx.dig hy.dig _ (Aa _) Ad,BM,hl,BM,hx.val,hy.val]
 ·rw [AF hl]
  by_cases c:xs.length<ys.length
  ·rw [Cy Ad,Cy (hx.len_lt Ae hy c)]
  ·rw [Cz Ad,Cz (hy.len_lt Ae hx Ad)]
theorem DP {z:Int} (h:Cw z):E6 true z=.tuple #[.string ⟨(Lib.itoa z).toArray⟩,.int .i64 0]:=by unfold E6 Ie Md;rw [AI rfl,AI h,AI h]
theorem FF {z:Int} (h:¬ Cw z):E6 true z=.tuple #[.string ⟨#[]⟩,.int .i64 30]:=by unfold E6 Ie Md;rw [AI rfl,AF h,AF h]
theorem S8 (x y:Int):E6 false x=E6 false y:=rfl
theorem N4 {a b:Int}:(0<=Lib.compareInt a b↔b<=a):=by
 rcases Cr a b with h | h | h
 ·rw [Cy h];omega
 ·rw [h,CU];omega
 ·rw [Cz h];omega
theorem S9 (s t:Bool) (v u:Value) (xs ys:List Int) (m n:Int) (w:World) (hv:Sl w v xs) (hu:Sl w u ys) (hx:Dm 10 xs m) (hy:Dm 10 ys n) (hlx:xs.length<=1000) (hly:ys.length<=1000) :
  Calls Tryz.prog 62 #[.bool s,v,.bool t,u] w (CR w fun r _=>r=E6 true (Do s m+Do t n)):=by
 have hm0:=hx.nonneg Ae
 have hn0:=hy.nonneg Ae
 have lz:∀ zs k,Dm 10 zs k->k<=m+n->zs.length<=10000:=fun zs k hz hk=>hz.length_le Ae (Int.lt_of_le_of_lt hk (by
  have h1:=hx.lt Ae;have h2:=hy.lt Ae;have h3:=Ee (b:=10) Ae hlx;have h4:=Ee (b:=10) Ae hly;have h5:(10:Int) ^ 1001=10 ^ 1000*10:=BW ..;have h6:=Ee (b:=10) Ae (show 1001<=10000 by decide);generalize (10:Int) ^ 1000=P at *
  generalize (10:Int) ^ 1001=Q at *
  generalize (10:Int) ^ 10000=R at *
  omega))
 have LZ:=A8 lz
 clear lz
 by_cases hst:s=t
 ·subst hst
  have HE:=A8 (show Do s m+Do s n=Do s (m+n) by cases s <;> simp [Do] <;> omega);have hsb:(s==s)=true:=by simp
  go_enter Tryz.func62,Tryz.ntmps62;go_wp2_with fail;refine (KV _ _ xs ys m n _ hv hu hx hy Ad Ad).mono ?_;rintro e w1 ⟨⟨r,rfl,zs,hz,hnz⟩,hb⟩;have hl:=LZ.out zs _ hnz Ad;go_wp2_with fail;refine (EE s _ zs _ _ hz hnz Ad).mono ?_;rintro e w2 ⟨⟨r,rfl,rfl⟩,hb2⟩;obtain ⟨z,hzz⟩:∃ z,Hid (Do s (m+n)=z):=⟨_,A8 rfl⟩;rw [hzz.out];cases hs:decide (Cw z) with
  | true =>
   rw [DP (BS hs)];go_wp2;go_ret2;exact ⟨⟨_,rfl,by rw [HE.out,hzz.out];exact (DP (BS hs)).symm⟩,Cv hb2 hb (Aa _)⟩
  | false =>
   rw [FF (Cu hs)];go_wp2;go_ret2;exact ⟨⟨_,rfl,by rw [HE.out,hzz.out];exact (FF (Cu hs)).symm⟩,Cv hb2 hb (Aa _)⟩
 ·have hsb:(s==t)=false:=by simp [hst]
  have hst2:t=!s:=by cases s <;> cases t <;> simp_all
  clear hst;by_cases hle:n<=m
  ·have HE:=A8 (show Do s m+Do t n=Do s (m-n) by rw [hst2];cases s <;> simp [Do] <;> omega)
   have hc:=N4.2 hle;have HC:=A8 (cmpL10 hx hy);clear hst2;go_enter Tryz.func62,Tryz.ntmps62;go_wp2_with fail;refine (G6 _ _ xs ys _ hv hu).mono ?_;rintro e w1 ⟨rfl,hb0⟩;rw [HC.out];generalize Lib.compareInt m n=c at *
   have hv1:=hv.below hb0;have hu1:=hu.below hb0;go_wp2_with fail;refine (HK _ _ xs ys m n _ hv1 hu1 hx hy hle Ad).mono ?_;rintro e w2 ⟨⟨r,rfl,zs,hz,hnz⟩,hb⟩;have hl:=LZ.out zs _ hnz Ad;go_wp2_with fail;refine (EE s _ zs _ _ hz hnz Ad).mono ?_;rintro e w3 ⟨⟨r,rfl,rfl⟩,hb2⟩;obtain ⟨z,hzz⟩:∃ z,Hid (Do s (m-n)=z):=⟨_,A8 rfl⟩;rw [hzz.out];cases hs:decide (Cw z) with
   | true =>
    rw [DP (BS hs)];go_wp2;go_ret2;exact ⟨⟨_,rfl,by rw [HE.out,hzz.out];exact (DP (BS hs)).symm⟩,Cv hb2 (Cv hb hb0 (Aa _)) (Aa _)⟩
   | false =>
    rw [FF (Cu hs)];go_wp2;go_ret2;exact ⟨⟨_,rfl,by rw [HE.out,hzz.out];exact (FF (Cu hs)).symm⟩,Cv hb2 (Cv hb hb0 (Aa _)) (Aa _)⟩
  ·have hle2:m<=n:=by omega
   have HE:=A8 (show Do s m+Do t n=Do t (n-m) by rw [hst2];cases s <;> simp [Do] <;> omega);have HC:=A8 ((cmpL10 hx hy).trans (Cy Ad));clear hst2 hle;go_enter Tryz.func62,Tryz.ntmps62;go_wp2_with fail;refine (G6 _ _ xs ys _ hv hu).mono ?_;rintro e w1 ⟨rfl,hb0⟩;rw [HC.out];have hv1:=hv.below hb0;have hu1:=hu.below hb0;go_wp2_with fail;refine (HK _ _ ys xs n m _ hu1 hv1 hy hx hle2 Ad).mono ?_;rintro e w2 ⟨⟨r,rfl,zs,hz,hnz⟩,hb⟩;have hl:=LZ.out zs _ hnz Ad;go_wp2_with fail;refine (EE t _ zs _ _ hz hnz Ad).mono ?_;rintro e w3 ⟨⟨r,rfl,rfl⟩,hb2⟩;obtain ⟨z,hzz⟩:∃ z,Hid (Do t (n-m)=z):=⟨_,A8 rfl⟩;rw [hzz.out];cases hs:decide (Cw z) with
   | true =>
    rw [DP (BS hs)];go_wp2;go_ret2;exact ⟨⟨_,rfl,by rw [HE.out,hzz.out];exact (DP (BS hs)).symm⟩,Cv hb2 (Cv hb hb0 (Aa _)) (Aa _)⟩
   | false =>
    rw [FF (Cu hs)];go_wp2;go_ret2;exact ⟨⟨_,rfl,by rw [HE.out,hzz.out];exact (FF (Cu hs)).symm⟩,Cv hb2 (Cv hb hb0 (Aa _)) (Aa _)⟩
theorem len10 {xs:List Int} {z:Int} (h:Dm 10 xs z.natAbs) (hz:Cw z):xs.length<=200:=h.length_le Ae (by unfold Cw FB at hz;omega)
theorem rsub_ok (a b:ByteArray) (ha:okS a=true) (hb:okS b=true) (hsa:a.size<=9223372036854775807) (hsb:b.size<=9223372036854775807) (w:World) :
  Calls Tryz.prog 33 #[.string a,.string b] w (CR w fun r _=>r=E6 true (zS a-zS b)):=by
 have V1:=fun W=>CJ a hsa W
 have V2:=fun W=>CJ b hsb W
 have D1:=fun W=>Dy a ha W
 have D2:=fun W=>Dy b hb W
 have Sa:=Dr ha
 have Sb:=Dr hb
 rw [ha] at V1
 rw [hb] at V2
 go_enter Tryz.func33,Tryz.ntmps33
 go_wp2_with fail
 refine (V1 _).mono ?_
 rintro e w1 ⟨rfl,hb1⟩
 go_wp2_with fail
 refine (V2 _).mono ?_
 rintro e w2 ⟨rfl,hb2⟩
 have hB2:=Cv hb2 hb1 (Aa _)
 go_wp2_with fail
 refine (D1 _).mono ?_
 rintro e w3 ⟨⟨r,rfl,v,xs,rfl,hx,hnx⟩,hb3⟩
 have hB3:=Cv hb3 hB2 (Aa _)
 have lx:=len10 hnx Sa
 go_wp2_with fail
 refine (D2 _).mono ?_
 rintro e w4 ⟨⟨r,rfl,u,ys,rfl,hy,hny⟩,hb4⟩
 have hB4:=Cv hb4 hB3 (Aa _)
 have ly:=len10 hny Sb
 have hx4:=hx.below hb4
 go_wp2_with fail
 refine (S9 (decide (zS a<0)) (!decide (zS b<0)) _ _ xs ys _ _ _ hx4 hy hnx hny Ad Ad).mono ?_
 rw [GX,Pq,<-Int.sub_eq_add_neg]
 rintro e w5 ⟨⟨r,rfl,rfl⟩,hb5⟩
 obtain ⟨z,hzz⟩:∃ z,Hid (zS a-zS b=z):=⟨_,A8 rfl⟩
 rw [hzz.out]
 cases hs:decide (Cw z) with
 | true =>
  rw [DP (BS hs)];go_wp2;go_ret2;exact ⟨⟨_,rfl,by rw [hzz.out];exact (DP (BS hs)).symm⟩,Cv hb5 hB4 (Aa _)⟩
 | false =>
  rw [FF (Cu hs)];go_wp2;go_ret2;exact ⟨⟨_,rfl,by rw [hzz.out];exact (FF (Cu hs)).symm⟩,Cv hb5 hB4 (Aa _)⟩
theorem Sc (a b:ByteArray) (h:okS a=false∨okS b=false) (hsa:a.size<=9223372036854775807) (hsb:b.size<=9223372036854775807) (w:World) :
  Calls Tryz.prog 33 #[.string a,.string b] w (CR w fun r _=>r=E6 false 0):=by
 have V1:=fun W=>CJ a hsa W
 have V2:=fun W=>CJ b hsb W
 cases ha:okS a with
 | false =>
  rw [ha] at V1;go_enter Tryz.func33,Tryz.ntmps33;go_wp2_with fail;refine (V1 _).mono ?_;rintro e w1 ⟨rfl,hb1⟩;go_wp2;go_ret2;exact ⟨⟨_,rfl,rfl⟩,hb1⟩
 | true =>
  have hb:okS b=false:=by rcases h with h | h;rw [ha] at h;cases h;exact h
  rw [ha] at V1;rw [hb] at V2;go_enter Tryz.func33,Tryz.ntmps33;go_wp2_with fail;refine (V1 _).mono ?_;rintro e w1 ⟨rfl,hb1⟩;go_wp2_with fail;refine (V2 _).mono ?_;rintro e w2 ⟨rfl,hb2⟩;go_wp2;go_ret2;exact ⟨⟨_,rfl,rfl⟩,(Cv hb2 hb1 (Aa _))⟩
theorem Sd (a b:ByteArray) (hsa:a.size<=9223372036854775807) (hsb:b.size<=9223372036854775807) (w:World) :
  Calls Tryz.prog 33 #[.string a,.string b] w (CR w fun r _=>r=E6 (okS a&&okS b) (zS a-zS b)):=by
 by_cases h:okS a=true/\okS b=true
 ·rw [h.1,h.2];exact rsub_ok a b h.1 h.2 hsa hsb w
 ·rw [(CK h).1,S8 _ 0];exact Sc a b (CK h).2 hsa hsb w
theorem rcmp_ok (a b:ByteArray) (ha:okS a=true) (hb:okS b=true) (hsa:a.size<=9223372036854775807) (hsb:b.size<=9223372036854775807) (w:World) :
  Calls Tryz.prog 32 #[.string a,.string b] w fun e w'=>e=.returned (.int .i64 (Lib.compareInt (zS a) (zS b)))/\Below w.heap.size w w':=by
 have V1:=fun W=>CJ a hsa W
 have V2:=fun W=>CJ b hsb W
 have D1:=fun W=>Dy a ha W
 have D2:=fun W=>Dy b hb W
 rw [ha] at V1
 rw [hb] at V2
 go_enter Tryz.func32,Tryz.ntmps32
 go_wp2_with fail
 refine (V1 _).mono ?_
 rintro e w1 ⟨rfl,hb1⟩
 go_wp2_with fail
 refine (V2 _).mono ?_
 rintro e w2 ⟨rfl,hb2⟩
 have hB2:=Cv hb2 hb1 (Aa _)
 go_wp2_with fail
 refine (D1 _).mono ?_
 rintro e w3 ⟨⟨r,rfl,v,xs,rfl,hx,hnx⟩,hb3⟩
 have hB3:=Cv hb3 hB2 (Aa _)
 go_wp2_with fail
 refine (D2 _).mono ?_
 rintro e w4 ⟨⟨r,rfl,u,ys,rfl,hy,hny⟩,hb4⟩
 have hB4:=Cv hb4 hB3 (Aa _)
 have hx4:=hx.below hb4
 clear hb1 hb2 hb3 hb4 hB2 hB3 hx
 by_cases na:zS a<0
 ·have da:decide (zS a<0)=true:=by simp [na]
  rw [da];by_cases nb:zS b<0
  ·have db:decide (zS b<0)=true:=by simp [nb]
   have hc:=A8 ((cmpL10 hny hnx).trans (Ps na nb));rw [db];clear na nb da db hnx hny;go_wp2_with fail;refine (G6 _ _ ys xs _ hy hx4).mono ?_;rintro e w5 ⟨rfl,hb5⟩;rw [hc.out];go_wp2;go_ret;exact ⟨rfl,Cv hb5 hB4 (Aa _)⟩
  ·have db:decide (zS b<0)=false:=by simp [nb]
   have hc:=A8 (Cy (a:=zS a) (b:=zS b) Ad);rw [db];clear na nb da db hnx hny;go_wp2;go_ret;exact ⟨D9 hc.out.symm,hB4⟩
 ·have da:decide (zS a<0)=false:=by simp [na]
  rw [da];by_cases nb:zS b<0
  ·have db:decide (zS b<0)=true:=by simp [nb]
   have hc:=A8 (Cz (a:=zS a) (b:=zS b) Ad);rw [db];clear na nb da db hnx hny;go_wp2;go_ret;exact ⟨D9 hc.out.symm,hB4⟩
  ·have db:decide (zS b<0)=false:=by simp [nb]
   have hc:=A8 ((cmpL10 hnx hny).trans (Pt na nb));rw [db];clear na nb da db hnx hny;go_wp2_with fail;refine (G6 _ _ xs ys _ hx4 hy).mono ?_;rintro e w5 ⟨rfl,hb5⟩;rw [hc.out];go_wp2;go_ret;exact ⟨rfl,Cv hb5 hB4 (Aa _)⟩
theorem Se (a b:ByteArray) (h:okS a=false∨okS b=false) (hsa:a.size<=9223372036854775807) (hsb:b.size<=9223372036854775807) (w:World) :
  Calls Tryz.prog 32 #[.string a,.string b] w (fun e w'=>e=.returned (.int .i64 0)/\Below w.heap.size w w'):=by
 have V1:=fun W=>CJ a hsa W
 have V2:=fun W=>CJ b hsb W
 cases ha:okS a with
 | false =>
  rw [ha] at V1;go_enter Tryz.func32,Tryz.ntmps32;go_wp2_with fail;refine (V1 _).mono ?_;rintro e w1 ⟨rfl,hb1⟩;go_wp2;go_ret;exact ⟨rfl,hb1⟩
 | true =>
  have hb:okS b=false:=by rcases h with h | h;rw [ha] at h;cases h;exact h
  rw [ha] at V1;rw [hb] at V2;go_enter Tryz.func32,Tryz.ntmps32;go_wp2_with fail;refine (V1 _).mono ?_;rintro e w1 ⟨rfl,hb1⟩;go_wp2_with fail;refine (V2 _).mono ?_;rintro e w2 ⟨rfl,hb2⟩;go_wp2;go_ret;exact ⟨rfl,(Cv hb2 hb1 (Aa _))⟩
theorem Sf (a b:ByteArray) (hsa:a.size<=9223372036854775807) (hsb:b.size<=9223372036854775807) (w:World) :
  Calls Tryz.prog 32 #[.string a,.string b] w fun e w'=>e=.returned (.int .i64 (MA a b))/\Below w.heap.size w w':=by
 unfold MA
 by_cases h:okS a=true/\okS b=true
 ·rw [h.1,h.2];exact rcmp_ok a b h.1 h.2 hsa hsb w
 ·rw [(CK h).1];exact Se a b (CK h).2 hsa hsb w
end
end Go.Proofs.YtdkonnnmkceagaaGreatDoor
