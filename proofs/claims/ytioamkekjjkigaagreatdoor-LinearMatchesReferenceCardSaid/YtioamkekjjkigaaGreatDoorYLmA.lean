/- LmA, Eqd, Cpy, LmB -/
import Derived.Test.YtioamkekjjkigaaGreatDoorYRcE
set_option maxHeartbeats 8000000
set_option maxRecDepth 100000
namespace Go.Proofs.YtioamkekjjkigaaGreatDoor
section
open Go.RowKit
attribute [local go_sem] Oper.semAt_some bne_self_eq_false
structure KO (W:World) (v:Value) (rows:List (List Int×Int)) (m:Nat):Prop where
 sl:EX W v rows
 le:rows.length<=m
theorem KO.below {W W':World} {v:Value} {rows:List (List Int×Int)} {m:Nat} (h:KO W v rows m) (hb:Below W.heap.size W W'):KO W' v rows m:=⟨h.sl.below hb,h.le⟩
theorem lm_r5 {Q:Exit->Act->World->Prop} {us:List Value} {bM bR nm km nr kr:Nat} {am ar:Option Addr} {cm cr z1 z2 z3:Int} {r3:List (List Int×Int)} {w W0:World} {L:Ei} {R:List En}    (x55_0:DQ w L R bM 0 (.int .i64 cm)) (x55_1:DQ w L R bM 1 (.slice am nm km)) (C60:Hid (∀ W,Dp w L R W->Calls Tryz.prog 7 #[.agg #[.int .i64 cm,.slice am nm km],.int .i64 z1,.int .i64 z2,.int .i64 z3] W fun e W'=>∃ (c2:Int) (i:List (List Int×Int)) (a2:Option Addr) (n2:Nat) (k2:Nat),e=.returned (.agg #[.int .i64 c2,.slice a2 n2 k2])/\KO W' (.slice a2 n2 k2) i 6/\Below W.heap.size W W')) (x61_0:DQ w L R bR 0 (.int .i64 cr)) (x61_1:DQ w L R bR 1 (.slice ar nr kr)) (C62:Hid (∀ W,Dp w L R W->Calls Tryz.prog 8 #[.agg #[.int .i64 cr,.slice ar nr kr]] W fun e W'=>∃ (a3:Option Addr) (b:Nat) (k3:Nat),e=.returned (.agg #[.int .i64 cr,.slice a3 b k3])/\KO W' (.slice a3 b k3) r3 6/\Below W.heap.size W W')) (h0:Hid (Dp w L R W0)) (N:us.length=200) (n:us[2]? = some (.int .i64 z1)) (s:us[3]? = some (.int .i64 z2)) (B:us[4]? = some (.int .i64 z3)) (F:us[12]? = some (.pointer (some ⟨bR,0,none⟩))) (j:us[24]? = some (.pointer (some ⟨bM,0,none⟩))) {ops:Array Oper} (G:Dt Tryz.f3.body 5=some ops)
  (D:∀ (x:Nat->Value)  (d:Nat) (c2:Int) (i:List (List Int×Int)) (a2:Option Addr) (n2:Nat) (k2:Nat) (a3:Option Addr) (b:Nat) (k3:Nat) (W':World),x 63=.slice (some ⟨d,0,none⟩) 3 3->x 64=.int .i64 3->x 65=.int .i64 0->Hid (Ds W' d #[.int .i64 cm,.slice am nm km,.int .i64 c2,.slice a2 n2 k2,.int .i64 cr,.slice a3 b k3] 27/\KO W' (.slice a2 n2 k2) i 6/\KO W' (.slice a3 b k3) r3 6)->Hid (Dp w L R W')->Q .normal { tmps:=(Eb [55,56,57,58,59,60,61,62,63,64,65] x us).toArray,defers:=[] } W') :
  (Code.region 5 ops true).wp Tryz.prog Q { tmps:=us.toArray,defers:=[] } W0:=by
 obtain rfl:=B4 (G.symm.trans (rfl:Dt Tryz.f3.body 5=some _))
 clear G
 replace D:=A8 D
 let Fl:Unit->FL:=fun g=>[some (55,.agg #[.int .i64 cm,.slice am nm km]),some (56,.agg #[.int .i64 cm,.slice am nm km]),some (57,.int .i64 z1),some (58,.int .i64 z2),some (59,.int .i64 z3),none,some (61,.agg #[.int .i64 cr,.slice ar nr kr]),none,none,some (64,.int .i64 3),some (65,.int .i64 0)]
 let Ml:Unit->ML:=fun g=>[(5,60,(fun yv W=>∃ (c2:Int) (i:List (List Int×Int)) (a2:Option Addr) (n2:Nat) (k2:Nat),yv=.agg #[.int .i64 c2,.slice a2 n2 k2]/\KO W (.slice a2 n2 k2) i 6),none),(7,62,(fun yv W=>∃ (a3:Option Addr) (b:Nat) (k3:Nat),yv=.agg #[.int .i64 cr,.slice a3 b k3]/\KO W (.slice a3 b k3) r3 6),none),(8,63,(fun yv W=>∃ (d:Nat) (c2:Int) (i:List (List Int×Int)) (a2:Option Addr) (n2:Nat) (k2:Nat) (a3:Option Addr) (b:Nat) (k3:Nat),yv=.slice (some ⟨d,0,none⟩) 3 3/\Ds W d #[.int .i64 cm,.slice am nm km,.int .i64 c2,.slice a2 n2 k2,.int .i64 cr,.slice a3 b k3] 27/\KO W (.slice a2 n2 k2) i 6/\KO W (.slice a3 b k3) r3 6),none)]
 let Sl_:Unit->List (World->Prop):=fun g=>[fun W=>Dp w L R W]
 have St:Iu 200 [55,56,57,58,59,60,61,62,63,64,65] [5,7,8] Fl Ml (Dp w L R) Sl_:=⟨fun _=>by kernel_rfl,fun _=>rfl,fun _ _ hb h=>h.call hb,fun g=>C6.2 ⟨fun yv W W' hb=>fun ⟨g0,g1,n,s,B,e,h⟩=>⟨g0,g1,n,s,B,e,h.below hb⟩,C6.2 ⟨fun yv W W' hb=>fun ⟨g0,g1,n,e,h⟩=>⟨g0,g1,n,e,h.below hb⟩,C6.2 ⟨fun yv W W' hb=>fun ⟨g,c2,i,a2,n2,k2,a3,b,k3,e,h,p0,p1⟩=>⟨g,c2,i,a2,n2,k2,a3,b,k3,e,h.below hb,p0.below hb,p1.below hb⟩,(fun _ h=>by cases h)⟩⟩⟩,fun g=>C6.2 ⟨fun W W' hb h=>h.call hb,(fun _ h=>by cases h)⟩⟩
 refine FM St us [] () N h0.out.drew h0.out.drew ?_ ?_
 refine sV St ?_ (fun z=>z.u j) (fun z=>x55_0 _ z.c) (fun z=>x55_1 _ z.c)
 refine sV St ?_ (fun z=>z.u j) (fun z=>x55_0 _ z.c) (fun z=>x55_1 _ z.c)
 refine sV St ?_ (fun z=>z.u n)
 refine sV St ?_ (fun z=>z.u s)
 refine sV St ?_ (fun z=>z.u B)
 refine Dk (stM St 5 0 rfl rfl (.inl rfl) (fun _=>rfl) (fun _=>by kernel_rfl) fun g T E W hl hw hs z K J=>by
  have V:=z.x 1 hw rfl;have S:=z.x 2 hw rfl;have X:=z.x 3 hw rfl;have P:=z.x 4 hw rfl;have r:=z.c;go_simp;refine Calls.mono (C60.out W r) ?_;rintro e H ⟨c2,i,a2,n2,k2,rfl,hp,hb⟩;exact J _ _ hb ⟨c2,i,a2,n2,k2,rfl,hp⟩) ?_
 refine sV St ?_ (fun z=>z.u F) (fun z=>x61_0 _ z.c) (fun z=>x61_1 _ z.c)
 refine Dk (stM St 7 1 rfl rfl (.inl rfl) (fun _=>rfl) (fun _=>by kernel_rfl) fun g T E W hl hw hs z K J=>by
  have M:=z.x 6 hw rfl;have r:=z.c;go_simp;refine Calls.mono (C62.out W r) ?_;rintro e H ⟨a3,b,k3,rfl,hp,hb⟩;exact J _ _ hb ⟨a3,b,k3,rfl,hp⟩) ?_
 refine Dk (stM St 8 2 rfl rfl (.inl rfl) (fun _=>rfl) (fun _=>by kernel_rfl) fun g T E W hl hw hs z K J=>by
  have Y:=z.x 0 hw rfl;obtain ⟨_,I,c2,i,a2,n2,k2,rfl,C⟩:=z.y 0 hl hw hs rfl;obtain ⟨_,O,a3,b,k3,rfl,o⟩:=z.y 1 hl hw hs rfl;go_simp;exact J _ _ ((Below.refl _ _).alloc (Aa _) _) ⟨_,c2,i,a2,n2,k2,a3,b,k3,rfl,Ds.new _ _ _,C.below ((Below.refl _ _).alloc (Aa _) _),o.below ((Below.refl _ _).alloc (Aa _) _)⟩) ?_
 refine Dk (stV St 9 rfl rfl rfl (fun _=>rfl) fun g T E W hl hw hs z K J=>by
  obtain ⟨_,k,d,c2,i,a2,n2,k2,a3,b,k3,rfl,U,_hq0,_hq1⟩:=z.y 2 hl hw hs rfl;go_simp;exact J) ?_
 refine sV St ?_
 ·exact Du
 ·intro g a W z q
  have p:Dp _ _ _ _:=q;have t:=z.v.get 9 rfl Ab;have A:=z.v.get 10 rfl Ab;obtain ⟨_,k,d,c2,i,a2,n2,k2,a3,b,k3,rfl,l⟩:=z.m.get 2 rfl Ab rfl;rw [z.f.eqs];exact D.out _  d c2 i a2 n2 k2 a3 b k3 _ (by simp [k]) (by simp [t]) (by simp [A]) (A8 l) (A8 p)
theorem lm_r9t {Q:Exit->Act->World->Prop} {us:List Value} {bS n k:Nat} {a:Option Addr} {c:Int} {w W0:World} {L:Ei} {R:List En}    (x74_0:DQ w L R bS 0 (.int .i64 c)) (x74_1:DQ w L R bS 1 (.slice a n k)) (C75:EW w L R 10 #[.agg #[.int .i64 c,.slice a n k]] (.bool true)) (C77:EW w L R 11 #[.agg #[.int .i64 c,.slice a n k]] (.bool true)) (C83:EW w L R 11 #[.agg #[.int .i64 c,.slice a n k]] (.bool true)) (h0:Hid (Dp w L R W0)) (m:us.length=200) (b:us[26]? = some (.pointer (some ⟨bS,0,none⟩))) (d:us[28]? = some (.int .i64 0)) {ops:Array Oper} (l:Dt Tryz.f3.body 9=some ops)
  (i:∀ (x:Nat->Value)  (W':World),x 93=.bool false->Hid (Dp w L R W')->Q .normal { tmps:=(Eb [74,75,76,77,78,79,80,81,82,83,84,85,86,87,88,89,90,91,92,93] x us).toArray,defers:=[] } W') :
  (Code.region 9 ops true).wp Tryz.prog Q { tmps:=us.toArray,defers:=[] } W0:=by
 obtain rfl:=B4 (l.symm.trans (rfl:Dt Tryz.f3.body 9=some _))
 clear l
 replace i:=A8 i
 let Fl:Unit->FL:=fun g=>[some (74,.agg #[.int .i64 c,.slice a n k]),some (75,.bool true),some (76,.agg #[.int .i64 c,.slice a n k]),some (77,.bool true),some (78,.bool false),some (79,.bool false),some (80,.int .i64 0),some (81,.bool true),some (82,.agg #[.int .i64 c,.slice a n k]),some (83,.bool true),some (84,.bool false),some (85,.bool false),some (86,.bool false),some (87,.int .i64 0),some (88,.bool false),some (89,.bool false),none,none,some (92,.bool false),some (93,.bool false)]
 let Ml:Unit->ML:=fun g=>[]
 let Sl_:Unit->List (World->Prop):=fun g=>[fun W=>Dp w L R W]
 have St:Iu 200 [74,75,76,77,78,79,80,81,82,83,84,85,86,87,88,89,90,91,92,93] [] Fl Ml (Dp w L R) Sl_:=⟨fun _=>by kernel_rfl,fun _=>rfl,fun _ _ hb h=>h.call hb,fun g=>(fun _ h=>by cases h),fun g=>C6.2 ⟨fun W W' hb h=>h.call hb,(fun _ h=>by cases h)⟩⟩
 refine FM St us [] () m h0.out.drew h0.out.drew ?_ ?_
 refine sV St ?_ (fun z=>z.u b) (fun z=>x74_0 _ z.c) (fun z=>x74_1 _ z.c)
 refine sC St ?_ (fun z=>C75 _ z.c) (fun z=>z.x 0 rfl)
 refine sV St ?_ (fun z=>z.u b) (fun z=>x74_0 _ z.c) (fun z=>x74_1 _ z.c)
 refine sC St ?_ (fun z=>C77 _ z.c) (fun z=>z.x 2 rfl)
 refine sV St ?_ (fun z=>z.x 1 rfl) (fun z=>z.x 3 rfl)
 refine sV St ?_ (fun z=>z.x 4 rfl)
 refine sG St ?_ 5 (fun z=>z.u d)
 refine sG St ?_ 5 (fun z=>z.x 6 rfl)
 refine sG St ?_ 5 (fun z=>z.u b) (fun z=>x74_0 _ z.c) (fun z=>x74_1 _ z.c)
 refine sH St ?_ 5 (fun z=>C83 _ z.c) (fun z=>z.x 8 rfl)
 refine sG St ?_ 5 (fun z=>z.x 7 rfl) (fun z=>z.x 9 rfl)
 refine sV St ?_ (fun z=>z.x 5 rfl) (fun z=>z.x 10 rfl)
 refine sV St ?_ (fun z=>z.x 11 rfl)
 refine sG St ?_ 12 (fun z=>z.u d)
 refine sG St ?_ 12 (fun z=>z.x 13 rfl)
 refine sG St ?_ 12 (fun z=>z.x 14 rfl)
 refine sK ?_ 15
 refine sK ?_ 15
 refine sG St ?_ 12 (fun z=>z.x 15 rfl)
 refine sV St ?_ (fun z=>z.x 12 rfl) (fun z=>z.x 18 rfl)
 ·exact Du
 ·intro g a W z q
  have e:Dp _ _ _ _:=q;have j:=z.v.get 19 rfl Ab;rw [z.f.eqs];exact i.out _   _ (by simp [j]) (A8 e)
theorem lm_r9f {Q:Exit->Act->World->Prop} {us:List Value} {bS n k:Nat} {a:Option Addr} {c:Int} {w W0:World} {L:Ei} {R:List En}    (x74_0:DQ w L R bS 0 (.int .i64 c)) (x74_1:DQ w L R bS 1 (.slice a n k)) (C75:EW w L R 10 #[.agg #[.int .i64 c,.slice a n k]] (.bool false)) (C77:EW w L R 11 #[.agg #[.int .i64 c,.slice a n k]] (.bool false)) (C83:EW w L R 11 #[.agg #[.int .i64 c,.slice a n k]] (.bool false)) (h0:Hid (Dp w L R W0)) (m:us.length=200) (d:us[26]? = some (.pointer (some ⟨bS,0,none⟩))) (b:us[28]? = some (.int .i64 60)) {ops:Array Oper} (l:Dt Tryz.f3.body 9=some ops)
  (i:∀ (x:Nat->Value)  (W':World),x 93=.bool false->Hid (Dp w L R W')->Q .normal { tmps:=(Eb [74,75,76,77,78,79,80,81,82,83,84,85,86,87,88,89,90,91,92,93] x us).toArray,defers:=[] } W') :
  (Code.region 9 ops true).wp Tryz.prog Q { tmps:=us.toArray,defers:=[] } W0:=by
 obtain rfl:=B4 (l.symm.trans (rfl:Dt Tryz.f3.body 9=some _))
 clear l
 replace i:=A8 i
 let Fl:Unit->FL:=fun g=>[some (74,.agg #[.int .i64 c,.slice a n k]),some (75,.bool false),some (76,.agg #[.int .i64 c,.slice a n k]),some (77,.bool false),some (78,.bool false),some (79,.bool false),some (80,.int .i64 60),some (81,.bool false),some (82,.agg #[.int .i64 c,.slice a n k]),some (83,.bool false),some (84,.bool false),some (85,.bool false),some (86,.bool false),some (87,.int .i64 60),some (88,.bool true),some (89,.bool true),some (90,.int .i64 60),some (91,.bool false),some (92,.bool false),some (93,.bool false)]
 let Ml:Unit->ML:=fun g=>[]
 let Sl_:Unit->List (World->Prop):=fun g=>[fun W=>Dp w L R W]
 have St:Iu 200 [74,75,76,77,78,79,80,81,82,83,84,85,86,87,88,89,90,91,92,93] [] Fl Ml (Dp w L R) Sl_:=⟨fun _=>by kernel_rfl,fun _=>rfl,fun _ _ hb h=>h.call hb,fun g=>(fun _ h=>by cases h),fun g=>C6.2 ⟨fun W W' hb h=>h.call hb,(fun _ h=>by cases h)⟩⟩
 refine FM St us [] () m h0.out.drew h0.out.drew ?_ ?_
 refine sV St ?_ (fun z=>z.u d) (fun z=>x74_0 _ z.c) (fun z=>x74_1 _ z.c)
 refine sC St ?_ (fun z=>C75 _ z.c) (fun z=>z.x 0 rfl)
 refine sV St ?_ (fun z=>z.u d) (fun z=>x74_0 _ z.c) (fun z=>x74_1 _ z.c)
 refine sC St ?_ (fun z=>C77 _ z.c) (fun z=>z.x 2 rfl)
 refine sV St ?_ (fun z=>z.x 1 rfl) (fun z=>z.x 3 rfl)
 refine sV St ?_ (fun z=>z.x 4 rfl)
 refine sG St ?_ 5 (fun z=>z.u b)
 refine sG St ?_ 5 (fun z=>z.x 6 rfl)
 refine sG St ?_ 5 (fun z=>z.u d) (fun z=>x74_0 _ z.c) (fun z=>x74_1 _ z.c)
 refine sH St ?_ 5 (fun z=>C83 _ z.c) (fun z=>z.x 8 rfl)
 refine sG St ?_ 5 (fun z=>z.x 7 rfl) (fun z=>z.x 9 rfl)
 refine sV St ?_ (fun z=>z.x 5 rfl) (fun z=>z.x 10 rfl)
 refine sV St ?_ (fun z=>z.x 11 rfl)
 refine sG St ?_ 12 (fun z=>z.u b)
 refine sG St ?_ 12 (fun z=>z.x 13 rfl)
 refine sG St ?_ 12 (fun z=>z.x 14 rfl)
 refine sG St ?_ 15 (fun z=>z.u b)
 refine sG St ?_ 15 (fun z=>z.x 16 rfl)
 refine sG St ?_ 12 (fun z=>z.x 15 rfl) (fun z=>z.x 17 rfl)
 refine sV St ?_ (fun z=>z.x 12 rfl) (fun z=>z.x 18 rfl)
 ·exact Du
 ·intro g a W z q
  have e:Dp _ _ _ _:=q;have j:=z.v.get 19 rfl Ab;rw [z.f.eqs];exact i.out _   _ (by simp [j]) (A8 e)
theorem lm_r11 {Q:Exit->Act->World->Prop} {us:List Value} {bN bO bM bA no ko np kp:Nat} {ao ap:Option Addr} {lv:Value} {do_ dp dv:ByteArray} {den cm:Int} {vl:List ByteArray} {nc nr ms:Int} {lc kc lh kh:Nat} {ac ah:Option Addr} {hl:List ByteArray} {w W0:World} {L:Ei} {R:List En}    (x95_0:DQ w L R bA 1 (.slice ap np kp)) (x95_1:DQ w L R bA 2 (.string dp)) (x96_0:DQ w L R bO 0 (.slice ao no ko)) (x96_1:DQ w L R bO 1 (.string do_)) (x97_0:DQ w L R bN 0 (.int .i64 nc)) (x97_1:DQ w L R bN 1 (.int .i64 nr)) (x97_2:DQ w L R bN 2 (.slice ac lc kc)) (x97_3:DQ w L R bN 3 (.slice ah lh kh)) (x97_4:DQ w L R bN 4 (.int .i64 ms)) (C98:Hid (∀ W,Dp w L R W->Calls Tryz.prog 12 #[.agg #[.int .i64 nc,.int .i64 nr,.slice ac lc kc,.slice ah lh kh,.int .i64 ms]] W fun e W'=>∃ (ag:Option Addr) (lg:Nat) (kg:Nat),e=.returned (.agg #[.slice ag lg kg,.string ⟨#[49]⟩])/\DS W' (.slice ag lg kg) hl/\Below W.heap.size W W')) (i:DQ w L R bM 0 (.int .i64 cm)) (C103:Hid (∀ W,Dp w L R W->Calls Tryz.prog 13 #[.int .i64 cm,lv,.int .i64 den] W fun e W'=>∃ (ax:Option Addr) (lx:Nat) (kx:Nat),e=.returned (.agg #[.slice ax lx kx,.string dv])/\DS W' (.slice ax lx kx) vl/\Below W.heap.size W W')) (h0:Hid (Dp w L R W0)) (M:us.length=200) (V:us[6]? = some (.int .i64 den)) (S:us[8]? = some (lv)) (s:us[11]? = some (.pointer (some ⟨bN,0,none⟩))) (v:us[16]? = some (.pointer (some ⟨bO,0,none⟩))) (n:us[24]? = some (.pointer (some ⟨bM,0,none⟩))) (t:us[27]? = some (.pointer (some ⟨bA,0,none⟩))) {ops:Array Oper} (C:Dt Tryz.f3.body 11=some ops)
  (A:∀ (x:Nat->Value)  (b:Nat) (ag:Option Addr) (lg:Nat) (kg:Nat) (ax:Option Addr) (lx:Nat) (kx:Nat) (W':World),x 29=.slice (some ⟨b,0,none⟩) 4 4->Hid (Ds W' b #[.slice ap np kp,.string dp,.slice ao no ko,.string do_,.slice ag lg kg,.string ⟨#[49]⟩,.slice ax lx kx,.string dv] 30/\DS W' (.slice ag lg kg) hl/\DS W' (.slice ax lx kx) vl)->Hid (Dp w L R W')->Q .normal { tmps:=(Eb [94,95,96,97,98,99,100,101,102,103,104,29] x us).toArray,defers:=[] } W') :
  (Code.region 11 ops true).wp Tryz.prog Q { tmps:=us.toArray,defers:=[] } W0:=by
 obtain rfl:=B4 (C.symm.trans (rfl:Dt Tryz.f3.body 11=some _))
 clear C
 replace A:=A8 A
 let Fl:Unit->FL:=fun g=>[some (94,.pointer (some ⟨bA,1,none⟩)),some (95,.agg #[.slice ap np kp,.string dp]),some (96,.agg #[.slice ao no ko,.string do_]),some (97,.agg #[.int .i64 nc,.int .i64 nr,.slice ac lc kc,.slice ah lh kh,.int .i64 ms]),none,some (99,.pointer (some ⟨bM,0,none⟩)),some (100,.int .i64 cm),some (101,lv),some (102,.int .i64 den),none,none,none]
 let Ml:Unit->ML:=fun g=>[(4,98,(fun yv W=>∃ (ag:Option Addr) (lg:Nat) (kg:Nat),yv=.agg #[.slice ag lg kg,.string ⟨#[49]⟩]/\DS W (.slice ag lg kg) hl),none),(9,103,(fun yv W=>∃ (ax:Option Addr) (lx:Nat) (kx:Nat),yv=.agg #[.slice ax lx kx,.string dv]/\DS W (.slice ax lx kx) vl),none),(10,104,(fun yv W=>∃ (b:Nat) (ag:Option Addr) (lg:Nat) (kg:Nat) (ax:Option Addr) (lx:Nat) (kx:Nat),yv=.slice (some ⟨b,0,none⟩) 4 4/\Ds W b #[.slice ap np kp,.string dp,.slice ao no ko,.string do_,.slice ag lg kg,.string ⟨#[49]⟩,.slice ax lx kx,.string dv] 30/\DS W (.slice ag lg kg) hl/\DS W (.slice ax lx kx) vl),none),(11,29,(fun yv W=>∃ (b:Nat) (ag:Option Addr) (lg:Nat) (kg:Nat) (ax:Option Addr) (lx:Nat) (kx:Nat),yv=.slice (some ⟨b,0,none⟩) 4 4/\Ds W b #[.slice ap np kp,.string dp,.slice ao no ko,.string do_,.slice ag lg kg,.string ⟨#[49]⟩,.slice ax lx kx,.string dv] 30/\DS W (.slice ag lg kg) hl/\DS W (.slice ax lx kx) vl),none)]
 let Sl_:Unit->List (World->Prop):=fun g=>[fun W=>Dp w L R W]
 have St:Iu 200 [94,95,96,97,98,99,100,101,102,103,104,29] [4,9,10,11] Fl Ml (Dp w L R) Sl_:=⟨fun _=>by kernel_rfl,fun _=>rfl,fun _ _ hb h=>h.call hb,fun g=>C6.2 ⟨fun yv W W' hb=>fun ⟨g0,g1,g2,e,h⟩=>⟨g0,g1,g2,e,h.below hb⟩,C6.2 ⟨fun yv W W' hb=>fun ⟨g0,g1,g2,e,h⟩=>⟨g0,g1,g2,e,h.below hb⟩,C6.2 ⟨fun yv W W' hb=>fun ⟨g,ag,lg,kg,ax,lx,kx,e,h,p0,p1⟩=>⟨g,ag,lg,kg,ax,lx,kx,e,h.below hb,p0.below hb,p1.below hb⟩,C6.2 ⟨fun yv W W' hb=>fun ⟨g,ag,lg,kg,ax,lx,kx,e,h,p0,p1⟩=>⟨g,ag,lg,kg,ax,lx,kx,e,h.below hb,p0.below hb,p1.below hb⟩,(fun _ h=>by cases h)⟩⟩⟩⟩,fun g=>C6.2 ⟨fun W W' hb h=>h.call hb,(fun _ h=>by cases h)⟩⟩
 refine FM St us [] () M h0.out.drew h0.out.drew ?_ ?_
 refine sV St ?_ (fun z=>z.u t)
 refine sV St ?_ (fun z=>z.x 0 rfl) (fun z=>x95_0 _ z.c) (fun z=>x95_1 _ z.c)
 refine sV St ?_ (fun z=>z.u v) (fun z=>x96_0 _ z.c) (fun z=>x96_1 _ z.c)
 refine Dk (stV St 3 rfl rfl rfl (fun _=>rfl) fun g T E W hl hw hs z K J=>by
  have H:=z.u s;have d:=z.c;have X:=x97_0 _ d;have d:=z.c;have k1:=x97_1 _ d;have d:=z.c;have k2:=x97_2 _ d;have d:=z.c;have k3:=x97_3 _ d;have d:=z.c;have k4:=x97_4 _ d;go_simp;exact J) ?_
 refine Dk (stM St 4 0 rfl rfl (.inl rfl) (fun _=>rfl) (fun _=>by kernel_rfl) fun g T E W hl hw hs z K J=>by
  have P:=z.x 3 hw rfl;have d:=z.c;go_simp;refine Calls.mono (C98.out W d) ?_;rintro e I ⟨ag,lg,kg,rfl,hp,hb⟩;exact J _ _ hb ⟨ag,lg,kg,rfl,hp⟩) ?_
 refine sV St ?_ (fun z=>z.u n)
 refine sV St ?_ (fun z=>z.x 5 rfl) (fun z=>i _ z.c)
 refine sV St ?_ (fun z=>z.u S)
 refine sV St ?_ (fun z=>z.u V)
 refine Dk (stM St 9 1 rfl rfl (.inl rfl) (fun _=>rfl) (fun _=>by kernel_rfl) fun g T E W hl hw hs z K J=>by
  have i:=z.x 6 hw rfl;have B:=z.x 7 hw rfl;have G:=z.x 8 hw rfl;have d:=z.c;go_simp;refine Calls.mono (C103.out W d) ?_;rintro e I ⟨ax,lx,kx,rfl,hp,hb⟩;exact J _ _ hb ⟨ax,lx,kx,rfl,hp⟩) ?_
 refine Dk (stM St 10 2 rfl rfl (.inl rfl) (fun _=>rfl) (fun _=>by kernel_rfl) fun g T E W hl hw hs z K J=>by
  have U:=z.x 1 hw rfl;have O:=z.x 2 hw rfl;obtain ⟨_,N,ag,lg,kg,rfl,o⟩:=z.y 0 hl hw hs rfl;obtain ⟨_,D,ax,lx,kx,rfl,r⟩:=z.y 1 hl hw hs rfl;go_simp;exact J _ _ ((Below.refl _ _).alloc (Aa _) _) ⟨_,ag,lg,kg,ax,lx,kx,rfl,Ds.new _ _ _,o.below ((Below.refl _ _).alloc (Aa _) _),r.below ((Below.refl _ _).alloc (Aa _) _)⟩) ?_
 refine Dk (stM St 11 3 rfl rfl (.inl rfl) (fun _=>rfl) (fun _=>by kernel_rfl) fun g T E W hl hw hs z K J=>by
  obtain ⟨_,F,b,ag,lg,kg,ax,lx,kx,rfl,j,_hq0,_hq1⟩:=z.y 2 hl hw hs rfl;go_simp;exact J _ _ (Below.refl _ _) ⟨b,ag,lg,kg,ax,lx,kx,rfl,j,_hq0,_hq1⟩) ?_
 ·exact Du
 ·intro g a W z q
  have p:Dp _ _ _ _:=q;obtain ⟨_,l,b,ag,lg,kg,ax,lx,kx,rfl,k⟩:=z.m.get 3 rfl Ab rfl;rw [z.f.eqs];exact A.out _  b ag lg kg ax lx kx _ (by simp [l]) (A8 k) (A8 p)
theorem lm_r15 {Q:Exit->Act->World->Prop} {us:List Value} {bS bO bA bV n k no ko np kp nv kv:Nat} {a ao ap av:Option Addr} {c:Int} {do_ dp dv:ByteArray} {b1 b2 b3:Bool} {w W0:World} {L:Ei} {R:List En}    (x111_0:DQ w L R bS 0 (.int .i64 c)) (x111_1:DQ w L R bS 1 (.slice a n k)) (x112_0:DQ w L R bV 0 (.slice av nv kv)) (x112_1:DQ w L R bV 1 (.string dv)) (C113:EW w L R 14 #[.agg #[.int .i64 c,.slice a n k],.agg #[.slice av nv kv,.string dv]] (.bool b1)) (C116:EW w L R 15 #[.agg #[.int .i64 c,.slice a n k],.agg #[.slice av nv kv,.string dv]] (.bool b1)) (x121_0:DQ w L R bA 1 (.slice ap np kp)) (x121_1:DQ w L R bA 2 (.string dp)) (C122:EW w L R 16 #[.agg #[.slice av nv kv,.string dv],.agg #[.slice ap np kp,.string dp]] (.bool b2)) (C126:EW w L R 17 #[.agg #[.slice av nv kv,.string dv],.agg #[.slice ap np kp,.string dp]] (.bool b2)) (x131_0:DQ w L R bO 0 (.slice ao no ko)) (x131_1:DQ w L R bO 1 (.string do_)) (C132:EW w L R 16 #[.agg #[.slice av nv kv,.string dv],.agg #[.slice ao no ko,.string do_]] (.bool b3)) (C135:EW w L R 17 #[.agg #[.slice av nv kv,.string dv],.agg #[.slice ao no ko,.string do_]] (.bool b3)) (h0:Hid (Dp w L R W0)) (p:us.length=200) (e:us[16]? = some (.pointer (some ⟨bO,0,none⟩))) (d:us[26]? = some (.pointer (some ⟨bS,0,none⟩))) (i:us[27]? = some (.pointer (some ⟨bA,0,none⟩))) (b:us[31]? = some (.pointer (some ⟨bV,0,none⟩))) {ops:Array Oper} (o:Dt Tryz.f3.body 15=some ops)
  (m:∀ (x:Nat->Value)  (W':World),x 137=.bool false->Hid (Dp w L R W')->Q .normal { tmps:=(Eb [111,112,113,114,115,116,117,118,119,120,121,122,123,124,125,126,127,128,129,130,131,132,133,134,135,136,137] x us).toArray,defers:=[] } W') :
  (Code.region 15 ops true).wp Tryz.prog Q { tmps:=us.toArray,defers:=[] } W0:=by
 obtain rfl:=B4 (o.symm.trans (rfl:Dt Tryz.f3.body 15=some _))
 clear o
 replace m:=A8 m
 let Fl:Unit->FL:=fun g=>[some (111,.agg #[.int .i64 c,.slice a n k]),some (112,.agg #[.slice av nv kv,.string dv]),some (113,.bool b1),some (114,.agg #[.int .i64 c,.slice a n k]),some (115,.agg #[.slice av nv kv,.string dv]),some (116,.bool b1),some (117,.bool false),some (118,.bool false),some (119,.agg #[.slice av nv kv,.string dv]),some (120,.pointer (some ⟨bA,1,none⟩)),some (121,.agg #[.slice ap np kp,.string dp]),some (122,.bool b2),some (123,.agg #[.slice av nv kv,.string dv]),some (124,.pointer (some ⟨bA,1,none⟩)),some (125,.agg #[.slice ap np kp,.string dp]),some (126,.bool b2),some (127,.bool false),some (128,.bool false),some (129,.bool false),some (130,.agg #[.slice av nv kv,.string dv]),some (131,.agg #[.slice ao no ko,.string do_]),some (132,.bool b3),some (133,.agg #[.slice av nv kv,.string dv]),some (134,.agg #[.slice ao no ko,.string do_]),some (135,.bool b3),some (136,.bool false),some (137,.bool false)]
 let Ml:Unit->ML:=fun g=>[]
 let Sl_:Unit->List (World->Prop):=fun g=>[fun W=>Dp w L R W]
 have St:Iu 200 [111,112,113,114,115,116,117,118,119,120,121,122,123,124,125,126,127,128,129,130,131,132,133,134,135,136,137] [] Fl Ml (Dp w L R) Sl_:=⟨fun _=>by kernel_rfl,fun _=>rfl,fun _ _ hb h=>h.call hb,fun g=>(fun _ h=>by cases h),fun g=>C6.2 ⟨fun W W' hb h=>h.call hb,(fun _ h=>by cases h)⟩⟩
 refine FM St us [] () p h0.out.drew h0.out.drew ?_ ?_
 refine sV St ?_ (fun z=>z.u d) (fun z=>x111_0 _ z.c) (fun z=>x111_1 _ z.c)
 refine sV St ?_ (fun z=>z.u b) (fun z=>x112_0 _ z.c) (fun z=>x112_1 _ z.c)
 refine sC St ?_ (fun z=>C113 _ z.c) (fun z=>z.x 0 rfl) (fun z=>z.x 1 rfl)
 refine sV St ?_ (fun z=>z.u d) (fun z=>x111_0 _ z.c) (fun z=>x111_1 _ z.c)
 refine sV St ?_ (fun z=>z.u b) (fun z=>x112_0 _ z.c) (fun z=>x112_1 _ z.c)
 refine sC St ?_ (fun z=>C116 _ z.c) (fun z=>z.x 3 rfl) (fun z=>z.x 4 rfl)
 refine sV St ?_ (fun z=>z.x 2 rfl) (fun z=>z.x 5 rfl)
 refine sV St ?_ (fun z=>z.x 6 rfl)
 refine sG St ?_ 7 (fun z=>z.u b) (fun z=>x112_0 _ z.c) (fun z=>x112_1 _ z.c)
 refine sG St ?_ 7 (fun z=>z.u i)
 refine sG St ?_ 7 (fun z=>z.x 9 rfl) (fun z=>x121_0 _ z.c) (fun z=>x121_1 _ z.c)
 refine sH St ?_ 7 (fun z=>C122 _ z.c) (fun z=>z.x 8 rfl) (fun z=>z.x 10 rfl)
 refine sG St ?_ 7 (fun z=>z.u b) (fun z=>x112_0 _ z.c) (fun z=>x112_1 _ z.c)
 refine sG St ?_ 7 (fun z=>z.u i)
 refine sG St ?_ 7 (fun z=>z.x 13 rfl) (fun z=>x121_0 _ z.c) (fun z=>x121_1 _ z.c)
 refine sH St ?_ 7 (fun z=>C126 _ z.c) (fun z=>z.x 12 rfl) (fun z=>z.x 14 rfl)
 refine sG St ?_ 7 (fun z=>z.x 11 rfl) (fun z=>z.x 15 rfl)
 refine sV St ?_ (fun z=>z.x 7 rfl) (fun z=>z.x 16 rfl)
 refine sV St ?_ (fun z=>z.x 17 rfl)
 refine sG St ?_ 18 (fun z=>z.u b) (fun z=>x112_0 _ z.c) (fun z=>x112_1 _ z.c)
 refine sG St ?_ 18 (fun z=>z.u e) (fun z=>x131_0 _ z.c) (fun z=>x131_1 _ z.c)
 refine sH St ?_ 18 (fun z=>C132 _ z.c) (fun z=>z.x 19 rfl) (fun z=>z.x 20 rfl)
 refine sG St ?_ 18 (fun z=>z.u b) (fun z=>x112_0 _ z.c) (fun z=>x112_1 _ z.c)
 refine sG St ?_ 18 (fun z=>z.u e) (fun z=>x131_0 _ z.c) (fun z=>x131_1 _ z.c)
 refine sH St ?_ 18 (fun z=>C135 _ z.c) (fun z=>z.x 22 rfl) (fun z=>z.x 23 rfl)
 refine sG St ?_ 18 (fun z=>z.x 21 rfl) (fun z=>z.x 24 rfl)
 refine sV St ?_ (fun z=>z.x 18 rfl) (fun z=>z.x 25 rfl)
 ·exact Du
 ·intro g a W z q
  have l:Dp _ _ _ _:=q;have j:=z.v.get 26 rfl Ab;rw [z.f.eqs];exact m.out _   _ (by simp [j]) (A8 l)
theorem lm_r20 {Q:Exit->Act->World->Prop} {us:List Value} {bU bV nu ku nv kv:Nat} {au av:Option Addr} {p q r1 q1 z:Int} {du dv d:ByteArray} {l:List ByteArray} {w W0:World} {L:Ei} {R:List En}    (x145_0:DQ w L R bU 0 (.slice au nu ku)) (x145_1:DQ w L R bU 1 (.string du)) (x146_0:DQ w L R bV 0 (.slice av nv kv)) (x146_1:DQ w L R bV 1 (.string dv)) (C149:EW w L R 19 #[.int .i64 q,.int .i64 9] (.int .i64 r1)) (I:IntKind.i64.wrap (1+r1)=q1) (C151:Hid (∀ W,Dp w L R W->Calls Tryz.prog 18 #[.agg #[.slice au nu ku,.string du],.agg #[.slice av nv kv,.string dv],.int .i64 p,.int .i64 q1] W fun e W'=>∃ (am:Option Addr) (nm:Nat) (km:Nat),e=.returned (.tuple #[.agg #[.slice am nm km,.string d],.int .i64 z])/\TZ W' (.slice am nm km) l/\Below W.heap.size W W')) (h0:Hid (Dp w L R W0)) (O:us.length=200) (P:us[9]? = some (.int .i64 p)) (r:us[10]? = some (.int .i64 q)) (o:us[31]? = some (.pointer (some ⟨bV,0,none⟩))) (A:us[33]? = some (.pointer (some ⟨bU,0,none⟩))) {ops:Array Oper} (D:Dt Tryz.f3.body 20=some ops)
  (t:∀ (x:Nat->Value) (j:Nat) (am:Option Addr) (nm:Nat) (km:Nat) (W':World),x 34=.pointer (some ⟨j,0,none⟩)->x 35=.int .i64 z->Hid (DS W' (.slice am nm km) l)->Hid (Dp w ((j,#[.slice am nm km,.string d],30) :: L) R W')->Q .normal { tmps:=(Eb [145,146,147,148,149,150,151,144,152,153,34,35] x us).toArray,defers:=[] } W') :
  (Code.region 20 ops true).wp Tryz.prog Q { tmps:=us.toArray,defers:=[] } W0:=by
 obtain rfl:=B4 (D.symm.trans (rfl:Dt Tryz.f3.body 20=some _))
 clear D
 replace t:=A8 t
 let Fl:Nat×Option Addr×Nat×Nat->FL:=fun g=>[some (145,.agg #[.slice au nu ku,.string du]),some (146,.agg #[.slice av nv kv,.string dv]),some (147,.int .i64 p),some (148,.int .i64 q),some (149,.int .i64 r1),some (150,.int .i64 q1),some (151,.tuple #[.agg #[.slice g.2.1 g.2.2.1 g.2.2.2,.string d],.int .i64 z]),some (144,.tuple #[.agg #[.slice g.2.1 g.2.2.1 g.2.2.2,.string d],.int .i64 z]),some (152,.agg #[.slice g.2.1 g.2.2.1 g.2.2.2,.string d]),some (153,.int .i64 z),some (34,.pointer (some ⟨g.1,0,none⟩)),none,some (35,.int .i64 z)]
 let Ml:Nat×Option Addr×Nat×Nat->ML:=fun g=>[(6,151,(fun _ W=>TZ W (.slice g.2.1 g.2.2.1 g.2.2.2) l),some 11),(10,34,(fun _ W=>Rm w L R [] g.1 #[.slice none 0 0,.string ⟨#[]⟩] 30 W),some 11)]
 let Sl_:Nat×Option Addr×Nat×Nat->List (World->Prop):=fun g=>[fun W=>Dp w L R W,fun W=>DS W (.slice g.2.1 g.2.2.1 g.2.2.2) l/\Dp w ((g.1,#[.slice g.2.1 g.2.2.1 g.2.2.2,.string d],30) :: L) R W]
 have St:Iu 200 [145,146,147,148,149,150,151,144,152,153,34,35] [6,10] Fl Ml (Dp w L R) Sl_:=⟨fun _=>by kernel_rfl,fun _=>rfl,fun _ _ hb h=>h.call hb,fun g=>C6.2 ⟨fun yv W W' hb=>fun h=>h.below hb,C6.2 ⟨fun yv W W' hb=>fun h=>h.below hb,(fun _ h=>by cases h)⟩⟩,fun g=>C6.2 ⟨fun W W' hb h=>h.call hb,C6.2 ⟨fun W W' hb h=>⟨h.1.below hb,(h.2).call hb⟩,(fun _ h=>by cases h)⟩⟩⟩
 refine FM St us [11] ⟨0,none,0,0⟩ O h0.out.drew h0.out.drew ?_ ?_
 refine sV St ?_ (fun z=>z.u A) (fun z=>x145_0 _ z.c) (fun z=>x145_1 _ z.c)
 refine sV St ?_ (fun z=>z.u o) (fun z=>x146_0 _ z.c) (fun z=>x146_1 _ z.c)
 refine sV St ?_ (fun z=>z.u P)
 refine sV St ?_ (fun z=>z.u r)
 refine sC St ?_ (fun z=>C149 _ z.c) (fun z=>z.x 3 rfl)
 refine sV St ?_ (fun z=>z.x 4 rfl)
 refine Dk (stA St 6 0 0 rfl rfl (.inl rfl) rfl (fun _=>rfl) (fun _=>rfl) Ab fun g T E W hl hw hs z K J=>by
  have G:=z.x 0 hw rfl;have C:=z.x 1 hw rfl;have F:=z.x 2 hw rfl;have M:=z.x 5 hw rfl;have n:=z.c;go_simp;refine Calls.mono (C151.out W n) ?_;rintro e N ⟨am',nm',km',rfl,hp,hb⟩;exact J ⟨g.1,am',nm',km'⟩ N hb Ab rfl rfl hp) ?_
 refine sV St ?_ (fun z=>z.x 6 rfl)
 refine sV St ?_ (fun z=>z.x 7 rfl)
 refine sV St ?_ (fun z=>z.x 7 rfl)
 refine Dk (stA St 10 1 0 rfl rfl (.inl rfl) rfl (fun _=>rfl) (fun _=>rfl) Ab fun g T E W hl hw hs z K J=>by
  have S:∀ q∈([]:List Nat),q<W.heap.size:=fun _ h=>by cases h
  have n:=z.c;go_simp;exact J ⟨W.heap.size,g.2.1,g.2.2.1,g.2.2.2⟩ _ ((Below.refl _ _).alloc (Aa _) _) Ab rfl rfl (Rm.of _ _ n S)) ?_
 refine Dk (stE 11 0 (.inl rfl) rfl rfl (fun _=>rfl) Ab (fun _=>by kernel_rfl) fun g T E W hl hw hs z q K J=>by
  have k:=z.x 10 hw rfl;have H:=z.x 8 hw rfl;have b:Dp _ _ _ _:=q;obtain ⟨_,_,i⟩:=z.y 1 hl hw hs rfl;replace b:=b.adopt i (fun p hp=>.inl (i.L p hp)) (fun p hp=>.inl (i.R p hp));have y0:=b.cell _ _ _ Ah 0;have w0:=b.frozen _ _ _ Ah 0;have U:=b.cell _ _ _ Ah 1;have V:=b.frozen _ _ _ Ah 1;obtain ⟨_,_,B⟩:=z.y 0 hl hw hs rfl;go_simp;exact J _ (((b.put0 0 _).put0 1 _).tail) ⟨B.st2 i.blk Ae 0 1 _ _,((b.put0 0 _).put0 1 _)⟩) ?_
 refine sV St ?_ (fun z=>z.x 9 rfl)
 ·exact Du
 ·intro g a W z q
  have m:=And.right (q);have k:=z.v.get 10 rfl Ab;have s:=z.v.get 12 rfl Ab;rw [z.f.eqs];exact t.out _ g.1 g.2.1 g.2.2.1 g.2.2.2  _ (by simp [k]) (by simp [s]) (A8 (And.left (q))) (A8 m)
theorem lm_r21 {Q:Exit->Act->World->Prop} {us:List Value} {bU bV nu ku nv kv:Nat} {au av:Option Addr} {p q r1 q1 z:Int} {du dv d:ByteArray} {l:List ByteArray} {w W0:World} {L:Ei} {R:List En}    (x155_0:DQ w L R bU 0 (.slice au nu ku)) (x155_1:DQ w L R bU 1 (.string du)) (x156_0:DQ w L R bV 0 (.slice av nv kv)) (x156_1:DQ w L R bV 1 (.string dv)) (C159:EW w L R 19 #[.int .i64 q,.int .i64 9] (.int .i64 r1)) (G:IntKind.i64.wrap (1+r1)=q1) (C161:Hid (∀ W,Dp w L R W->Calls Tryz.prog 20 #[.agg #[.slice au nu ku,.string du],.agg #[.slice av nv kv,.string dv],.int .i64 p,.int .i64 q1] W fun e W'=>∃ (am:Option Addr) (nm:Nat) (km:Nat),e=.returned (.tuple #[.agg #[.slice am nm km,.string d],.int .i64 z])/\TZ W' (.slice am nm km) l/\Below W.heap.size W W')) (h0:Hid (Dp w L R W0)) (O:us.length=200) (P:us[9]? = some (.int .i64 p)) (s:us[10]? = some (.int .i64 q)) (o:us[31]? = some (.pointer (some ⟨bV,0,none⟩))) (A:us[33]? = some (.pointer (some ⟨bU,0,none⟩))) {ops:Array Oper} (F:Dt Tryz.f3.body 21=some ops)
  (t:∀ (x:Nat->Value) (j:Nat) (am:Option Addr) (nm:Nat) (km:Nat) (W':World),x 36=.pointer (some ⟨j,0,none⟩)->x 37=.int .i64 z->Hid (DS W' (.slice am nm km) l)->Hid (Dp w ((j,#[.slice am nm km,.string d],30) :: L) R W')->Q .normal { tmps:=(Eb [155,156,157,158,159,160,161,154,162,163,36,37] x us).toArray,defers:=[] } W') :
  (Code.region 21 ops true).wp Tryz.prog Q { tmps:=us.toArray,defers:=[] } W0:=by
 obtain rfl:=B4 (F.symm.trans (rfl:Dt Tryz.f3.body 21=some _))
 clear F
 replace t:=A8 t
 let Fl:Nat×Option Addr×Nat×Nat->FL:=fun g=>[some (155,.agg #[.slice au nu ku,.string du]),some (156,.agg #[.slice av nv kv,.string dv]),some (157,.int .i64 p),some (158,.int .i64 q),some (159,.int .i64 r1),some (160,.int .i64 q1),some (161,.tuple #[.agg #[.slice g.2.1 g.2.2.1 g.2.2.2,.string d],.int .i64 z]),some (154,.tuple #[.agg #[.slice g.2.1 g.2.2.1 g.2.2.2,.string d],.int .i64 z]),some (162,.agg #[.slice g.2.1 g.2.2.1 g.2.2.2,.string d]),some (163,.int .i64 z),some (36,.pointer (some ⟨g.1,0,none⟩)),none,some (37,.int .i64 z)]
 let Ml:Nat×Option Addr×Nat×Nat->ML:=fun g=>[(6,161,(fun _ W=>TZ W (.slice g.2.1 g.2.2.1 g.2.2.2) l),some 11),(10,36,(fun _ W=>Rm w L R [] g.1 #[.slice none 0 0,.string ⟨#[]⟩] 30 W),some 11)]
 let Sl_:Nat×Option Addr×Nat×Nat->List (World->Prop):=fun g=>[fun W=>Dp w L R W,fun W=>DS W (.slice g.2.1 g.2.2.1 g.2.2.2) l/\Dp w ((g.1,#[.slice g.2.1 g.2.2.1 g.2.2.2,.string d],30) :: L) R W]
 have St:Iu 200 [155,156,157,158,159,160,161,154,162,163,36,37] [6,10] Fl Ml (Dp w L R) Sl_:=⟨fun _=>by kernel_rfl,fun _=>rfl,fun _ _ hb h=>h.call hb,fun g=>C6.2 ⟨fun yv W W' hb=>fun h=>h.below hb,C6.2 ⟨fun yv W W' hb=>fun h=>h.below hb,(fun _ h=>by cases h)⟩⟩,fun g=>C6.2 ⟨fun W W' hb h=>h.call hb,C6.2 ⟨fun W W' hb h=>⟨h.1.below hb,(h.2).call hb⟩,(fun _ h=>by cases h)⟩⟩⟩
 refine FM St us [11] ⟨0,none,0,0⟩ O h0.out.drew h0.out.drew ?_ ?_
 refine sV St ?_ (fun z=>z.u A) (fun z=>x155_0 _ z.c) (fun z=>x155_1 _ z.c)
 refine sV St ?_ (fun z=>z.u o) (fun z=>x156_0 _ z.c) (fun z=>x156_1 _ z.c)
 refine sV St ?_ (fun z=>z.u P)
 refine sV St ?_ (fun z=>z.u s)
 refine sC St ?_ (fun z=>C159 _ z.c) (fun z=>z.x 3 rfl)
 refine sV St ?_ (fun z=>z.x 4 rfl)
 refine Dk (stA St 6 0 0 rfl rfl (.inl rfl) rfl (fun _=>rfl) (fun _=>rfl) Ab fun g T E W hl hw hs z K J=>by
  have M:=z.x 0 hw rfl;have H:=z.x 1 hw rfl;have D:=z.x 2 hw rfl;have I:=z.x 5 hw rfl;have n:=z.c;go_simp;refine Calls.mono (C161.out W n) ?_;rintro e N ⟨am',nm',km',rfl,hp,hb⟩;exact J ⟨g.1,am',nm',km'⟩ N hb Ab rfl rfl hp) ?_
 refine sV St ?_ (fun z=>z.x 6 rfl)
 refine sV St ?_ (fun z=>z.x 7 rfl)
 refine sV St ?_ (fun z=>z.x 7 rfl)
 refine Dk (stA St 10 1 0 rfl rfl (.inl rfl) rfl (fun _=>rfl) (fun _=>rfl) Ab fun g T E W hl hw hs z K J=>by
  have S:∀ q∈([]:List Nat),q<W.heap.size:=fun _ h=>by cases h
  have n:=z.c;go_simp;exact J ⟨W.heap.size,g.2.1,g.2.2.1,g.2.2.2⟩ _ ((Below.refl _ _).alloc (Aa _) _) Ab rfl rfl (Rm.of _ _ n S)) ?_
 refine Dk (stE 11 0 (.inl rfl) rfl rfl (fun _=>rfl) Ab (fun _=>by kernel_rfl) fun g T E W hl hw hs z q K J=>by
  have k:=z.x 10 hw rfl;have C:=z.x 8 hw rfl;have b:Dp _ _ _ _:=q;obtain ⟨_,_,i⟩:=z.y 1 hl hw hs rfl;replace b:=b.adopt i (fun p hp=>.inl (i.L p hp)) (fun p hp=>.inl (i.R p hp));have y0:=b.cell _ _ _ Ah 0;have w0:=b.frozen _ _ _ Ah 0;have U:=b.cell _ _ _ Ah 1;have V:=b.frozen _ _ _ Ah 1;obtain ⟨_,_,B⟩:=z.y 0 hl hw hs rfl;go_simp;exact J _ (((b.put0 0 _).put0 1 _).tail) ⟨B.st2 i.blk Ae 0 1 _ _,((b.put0 0 _).put0 1 _)⟩) ?_
 refine sV St ?_ (fun z=>z.x 9 rfl)
 ·exact Du
 ·intro g a W z q
  have m:=And.right (q);have k:=z.v.get 10 rfl Ab;have r:=z.v.get 12 rfl Ab;rw [z.f.eqs];exact t.out _ g.1 g.2.1 g.2.2.1 g.2.2.2  _ (by simp [k]) (by simp [r]) (A8 (And.left (q))) (A8 m)
theorem lm_r26 {Q:Exit->Act->World->Prop} {us:List Value} {bS bA n k nw kw:Nat} {a aw:Option Addr} {lv wv:Value} {wl cl:List ByteArray} {w W0:World} {L:Ei} {R:List En}    (d:DQ w L R bA 3 (.slice aw nw kw)) (C178:Hid (∀ W,Dp w L R W->Calls Tryz.prog 5 #[wv] W fun e W'=>∃ (ag:Option Addr) (lg:Nat) (kg:Nat),e=.returned (.slice ag lg kg)/\DS W' (.slice ag lg kg) cl/\Below W.heap.size W W')) (l:DQ w L R bS 1 (.slice a n k)) (C183:Hid (∀ W,Dp w L R W->Calls Tryz.prog 22 #[.int .i64 n,lv] W fun e W'=>∃ (ax:Option Addr) (lx:Nat) (kx:Nat),e=.returned (.slice ax lx kx)/\DS W' (.slice ax lx kx) wl/\Below W.heap.size W W')) (h0:Hid (Dp w L R W0)) (U:us.length=200) (S:us[7]? = some (wv)) (V:us[8]? = some (lv)) (D:us[26]? = some (.pointer (some ⟨bS,0,none⟩))) (A:us[27]? = some (.pointer (some ⟨bA,0,none⟩))) {ops:Array Oper} (G:Dt Tryz.f3.body 26=some ops)
  (C:∀ (x:Nat->Value)  (b:Nat) (ag:Option Addr) (lg:Nat) (kg:Nat) (ax:Option Addr) (lx:Nat) (kx:Nat) (W':World),x 184=.slice (some ⟨b,0,none⟩) 3 3->x 185=.int .i64 3->x 186=.int .i64 0->Hid (Ds W' b #[.slice aw nw kw,.slice ag lg kg,.slice ax lx kx] 28/\DS W' (.slice ag lg kg) cl/\DS W' (.slice ax lx kx) wl)->Hid (Dp w L R W')->Q .normal { tmps:=(Eb [175,176,177,178,179,180,181,182,183,184,185,186] x us).toArray,defers:=[] } W') :
  (Code.region 26 ops true).wp Tryz.prog Q { tmps:=us.toArray,defers:=[] } W0:=by
 obtain rfl:=B4 (G.symm.trans (rfl:Dt Tryz.f3.body 26=some _))
 clear G
 replace C:=A8 C
 let Fl:Unit->FL:=fun g=>[some (175,.pointer (some ⟨bA,3,none⟩)),some (176,.slice aw nw kw),some (177,wv),none,some (179,.pointer (some ⟨bS,1,none⟩)),some (180,.slice a n k),some (181,.int .i64 n),some (182,lv),none,none,some (185,.int .i64 3),some (186,.int .i64 0)]
 let Ml:Unit->ML:=fun g=>[(3,178,(fun yv W=>∃ (ag:Option Addr) (lg:Nat) (kg:Nat),yv=.slice ag lg kg/\DS W (.slice ag lg kg) cl),none),(8,183,(fun yv W=>∃ (ax:Option Addr) (lx:Nat) (kx:Nat),yv=.slice ax lx kx/\DS W (.slice ax lx kx) wl),none),(9,184,(fun yv W=>∃ (b:Nat) (ag:Option Addr) (lg:Nat) (kg:Nat) (ax:Option Addr) (lx:Nat) (kx:Nat),yv=.slice (some ⟨b,0,none⟩) 3 3/\Ds W b #[.slice aw nw kw,.slice ag lg kg,.slice ax lx kx] 28/\DS W (.slice ag lg kg) cl/\DS W (.slice ax lx kx) wl),none)]
 let Sl_:Unit->List (World->Prop):=fun g=>[fun W=>Dp w L R W]
 have St:Iu 200 [175,176,177,178,179,180,181,182,183,184,185,186] [3,8,9] Fl Ml (Dp w L R) Sl_:=⟨fun _=>by kernel_rfl,fun _=>rfl,fun _ _ hb h=>h.call hb,fun g=>C6.2 ⟨fun yv W W' hb=>fun ⟨g0,g1,g2,e,h⟩=>⟨g0,g1,g2,e,h.below hb⟩,C6.2 ⟨fun yv W W' hb=>fun ⟨g0,g1,g2,e,h⟩=>⟨g0,g1,g2,e,h.below hb⟩,C6.2 ⟨fun yv W W' hb=>fun ⟨g,ag,lg,kg,ax,lx,kx,e,h,p0,p1⟩=>⟨g,ag,lg,kg,ax,lx,kx,e,h.below hb,p0.below hb,p1.below hb⟩,(fun _ h=>by cases h)⟩⟩⟩,fun g=>C6.2 ⟨fun W W' hb h=>h.call hb,(fun _ h=>by cases h)⟩⟩
 refine FM St us [] () U h0.out.drew h0.out.drew ?_ ?_
 refine sV St ?_ (fun z=>z.u A)
 refine sV St ?_ (fun z=>z.x 0 rfl) (fun z=>d _ z.c)
 refine sV St ?_ (fun z=>z.u S)
 refine Dk (stM St 3 0 rfl rfl (.inl rfl) (fun _=>rfl) (fun _=>by kernel_rfl) fun g T E W hl hw hs z K J=>by
  have H:=z.x 2 hw rfl;have t:=z.c;go_simp;refine Calls.mono (C178.out W t) ?_;rintro e P ⟨ag,lg,kg,rfl,hp,hb⟩;exact J _ _ hb ⟨ag,lg,kg,rfl,hp⟩) ?_
 refine sV St ?_ (fun z=>z.u D)
 refine sV St ?_ (fun z=>z.x 4 rfl) (fun z=>l _ z.c)
 refine sV St ?_ (fun z=>z.x 5 rfl)
 refine sV St ?_ (fun z=>z.u V)
 refine Dk (stM St 8 1 rfl rfl (.inl rfl) (fun _=>rfl) (fun _=>by kernel_rfl) fun g T E W hl hw hs z K J=>by
  have N:=z.x 6 hw rfl;have I:=z.x 7 hw rfl;have t:=z.c;go_simp;refine Calls.mono (C183.out W t) ?_;rintro e P ⟨ax,lx,kx,rfl,hp,hb⟩;exact J _ _ hb ⟨ax,lx,kx,rfl,hp⟩) ?_
 refine Dk (stM St 9 2 rfl rfl (.inl rfl) (fun _=>rfl) (fun _=>by kernel_rfl) fun g T E W hl hw hs z K J=>by
  have d:=z.x 1 hw rfl;obtain ⟨_,F,ag,lg,kg,rfl,r⟩:=z.y 0 hl hw hs rfl;obtain ⟨_,M,ax,lx,kx,rfl,B⟩:=z.y 1 hl hw hs rfl;go_simp;exact J _ _ ((Below.refl _ _).alloc (Aa _) _) ⟨_,ag,lg,kg,ax,lx,kx,rfl,Ds.new _ _ _,r.below ((Below.refl _ _).alloc (Aa _) _),B.below ((Below.refl _ _).alloc (Aa _) _)⟩) ?_
 refine Dk (stV St 10 rfl rfl rfl (fun _=>rfl) fun g T E W hl hw hs z K J=>by
  obtain ⟨_,i,b,ag,lg,kg,ax,lx,kx,rfl,O,_hq0,_hq1⟩:=z.y 2 hl hw hs rfl;go_simp;exact J) ?_
 refine sV St ?_
 ·exact Du
 ·intro g a W z q
  have s:Dp _ _ _ _:=q;have p:=z.v.get 10 rfl Ab;have o:=z.v.get 11 rfl Ab;obtain ⟨_,i,b,ag,lg,kg,ax,lx,kx,rfl,j⟩:=z.m.get 2 rfl Ab rfl;rw [z.f.eqs];exact C.out _  b ag lg kg ax lx kx _ (by simp [i]) (by simp [p]) (by simp [o]) (A8 j) (A8 s)
theorem lm_r29 {Q:Exit->Act->World->Prop} {us:List Value} {bS n k:Nat} {a:Option Addr} {c:Int} {wv:Value} {b1:Bool} {w W0:World} {L:Ei} {R:List En}    (x190_0:DQ w L R bS 0 (.int .i64 c)) (x190_1:DQ w L R bS 1 (.slice a n k)) (C192:EW w L R 23 #[.agg #[.int .i64 c,.slice a n k],wv] (.bool b1)) (C195:EW w L R 24 #[.agg #[.int .i64 c,.slice a n k],wv] (.bool b1)) (h0:Hid (Dp w L R W0)) (m:us.length=200) (e:us[26]? = some (.pointer (some ⟨bS,0,none⟩))) (b:us[39]? = some (wv)) {ops:Array Oper} (l:Dt Tryz.f3.body 29=some ops)
  (j:∀ (x:Nat->Value)  (W':World),x 196=.bool false->Hid (Dp w L R W')->Q .normal { tmps:=(Eb [190,191,192,193,194,195,196] x us).toArray,defers:=[] } W') :
  (Code.region 29 ops true).wp Tryz.prog Q { tmps:=us.toArray,defers:=[] } W0:=by
 obtain rfl:=B4 (l.symm.trans (rfl:Dt Tryz.f3.body 29=some _))
 clear l
 replace j:=A8 j
 let Fl:Unit->FL:=fun g=>[some (190,.agg #[.int .i64 c,.slice a n k]),some (191,wv),some (192,.bool b1),some (193,.agg #[.int .i64 c,.slice a n k]),some (194,wv),some (195,.bool b1),some (196,.bool false)]
 let Ml:Unit->ML:=fun g=>[]
 let Sl_:Unit->List (World->Prop):=fun g=>[fun W=>Dp w L R W]
 have St:Iu 200 [190,191,192,193,194,195,196] [] Fl Ml (Dp w L R) Sl_:=⟨fun _=>by kernel_rfl,fun _=>rfl,fun _ _ hb h=>h.call hb,fun g=>(fun _ h=>by cases h),fun g=>C6.2 ⟨fun W W' hb h=>h.call hb,(fun _ h=>by cases h)⟩⟩
 refine FM St us [] () m h0.out.drew h0.out.drew ?_ ?_
 refine sV St ?_ (fun z=>z.u e) (fun z=>x190_0 _ z.c) (fun z=>x190_1 _ z.c)
 refine sV St ?_ (fun z=>z.u b)
 refine sC St ?_ (fun z=>C192 _ z.c) (fun z=>z.x 0 rfl) (fun z=>z.x 1 rfl)
 refine sV St ?_ (fun z=>z.u e) (fun z=>x190_0 _ z.c) (fun z=>x190_1 _ z.c)
 refine sV St ?_ (fun z=>z.u b)
 refine sC St ?_ (fun z=>C195 _ z.c) (fun z=>z.x 3 rfl) (fun z=>z.x 4 rfl)
 refine sV St ?_ (fun z=>z.x 2 rfl) (fun z=>z.x 5 rfl)
 ·exact Du
 ·intro g a W z q
  have i:Dp _ _ _ _:=q;have d:=z.v.get 6 rfl Ab;rw [z.f.eqs];exact j.out _   _ (by simp [d]) (A8 i)
end
section
open Go.RowKit
structure Ki (p:Nat×Array Value×TypeId) (v:Value) (l:List Int):Prop where
 t:p.2.2=3
 at_:∃ cap,v=.slice (some ⟨p.1,0,none⟩) l.length cap/\l.length<=cap/\cap<=maxLen/\p.2.1.size=cap
 xs:p.2.1.toList.take l.length=l.map (Value.int .i64)
theorem Ki.inB {p:Nat×Array Value×TypeId} {v:Value} {l:List Int} {fs:Ei} (h:Ki p v l) (hp:p∈fs):Nm fs v l:=by
 obtain ⟨g,cs,t⟩:=p;obtain ⟨rfl,⟨cap,h1,h2,h3,a⟩,h5⟩:=h;exact .inr ⟨g,cap,cs,h1,h2,h3,a,hp,h5⟩
theorem Ki.cell {p:Nat×Array Value×TypeId} {v:Value} {l:List Int} (h:Ki p v l) {k:Nat} (hk:k<l.length):p.2.1[k]? = some (.int .i64 (gi l k)):=by
 have e:=BK (fun z=>z[k]?) h.xs;simp only [BM,hk,if_true,AQ,Ax hk] at e;rw [BU] at e;rw [e,FE hk];rfl
theorem Ki.set {g:Nat} {cs:Array Value} {t:TypeId} {v:Value} {l:List Int} (h:Ki (g,cs,t) v l) (k:Nat) (y:Int):Ki (g,cs.setIfInBounds k (.int .i64 y),t) v (l.set k y):=by
 obtain ⟨h1,⟨cap,h2,h3,a,h5⟩,b⟩:=h;refine ⟨h1,⟨cap,by rw [C7];exact h2,by rw [C7];exact h3,a,by simpa using h5⟩,?_⟩;rw [C7];show (cs.setIfInBounds k (.int .i64 y)).toList.take l.length=(l.set k y).map _;rw [C8,List.take_set,b,<-List.map_set]
structure MK (fs:Ei) (rows:List (List Int×Int)) (xs:List Value):Prop where
 len:xs.length=rows.length*2
 fl:fs.length=rows.length
 at_:∀ j r,rows[j]? = some r->∃ p v,fs[j]? = some p/\xs[j*2]? = some v/\xs[j*2+1]? = some (.int .i64 r.2)/\Ki p v r.1
theorem MK.eqs {fs:Ei} {rows:List (List Int×Int)} {xs:List Value} (h:MK fs rows xs):H9 fs rows xs:=⟨h.len,fun j r hj=>by
 obtain ⟨p,v,h1,h2,h3,a⟩:=h.at_ j r hj;exact ⟨v,h2,h3,a.inB (Ay h1)⟩⟩
theorem MK.nil:MK [] [] []:=⟨rfl,rfl,fun j r h=>by simp at h⟩
theorem MK.snoc {fs:Ei} {rows:List (List Int×Int)} {xs:List Value} {p:Nat×Array Value×TypeId} {v:Value} {r:List Int×Int} (h:MK fs rows xs) (hv:Ki p v r.1):MK (fs++[p]) (rows++[r]) (xs++[v,.int .i64 r.2]):=by
 refine ⟨by simp [h.len];omega,by simp [h.fl],fun j r' hj=>?_⟩;by_cases hlt:j<rows.length
 ·rw [BV hlt] at hj
  obtain ⟨q,u,h1,h2,h3,b⟩:=h.at_ j r' hj;refine ⟨q,u,?_,?_,?_,b⟩
  ·rw [BV (by rw [h.fl];exact hlt)];exact h1
  ·rw [BV (by rw [h.len];omega)];exact h2
  ·rw [BV (by rw [h.len];omega)];exact h3
 ·have a:j=rows.length:=by
   have:=(BR.1 hj).1;simp at this;omega
  subst a
  simp at hj
  subst hj
  refine ⟨p,v,?_,?_,?_,hv⟩
  ·rw [BW (by rw [h.fl];exact Aa _),h.fl];simp
  ·rw [BW (by rw [h.len];omega),h.len];simp
  ·rw [BW (by rw [h.len];omega),h.len,show rows.length*2+1-rows.length*2=1 by omega];rfl
theorem MK.set {fs:Ei} {rows:List (List Int×Int)} {xs:List Value} {p:Nat×Array Value×TypeId} {v:Value} {r:List Int×Int} (h:MK fs rows xs) (i:Nat) (hv:Ki p v r.1):MK (fs.set i p) (rows.set i r) ((xs.set (i*2) v).set (i*2+1) (.int .i64 r.2)):=by
 refine ⟨by simp [h.len],by simp [h.fl],fun j r' hj=>?_⟩;have a:j<rows.length:=by have:=(BR.1 hj).1;simpa using this
 by_cases e:i=j
 ·subst e
  rw [Ca a] at hj;obtain rfl:=B4 hj;refine ⟨p,v,Ca (by rw [h.fl];exact a),?_,?_,hv⟩
  ·rw [BJ Ad,Ca (by rw [h.len];omega)]
  ·rw [Ca (by rw [C7,h.len];omega)]
 ·rw [BJ e] at hj
  obtain ⟨q,u,h1,h2,h3,b⟩:=h.at_ j r' hj;refine ⟨q,u,?_,?_,?_,b⟩
  ·rw [BJ e];exact h1
  ·rw [BJ Ad,BJ Ad];exact h2
  ·rw [BJ Ad,BJ Ad];exact h3
theorem Kj {α:Type} {l:List α} {i:Nat} {x:α} (h:l[i]? = some x):l.set i x=l:=by
 refine List.ext_getElem? fun j=>?_
 by_cases e:i=j
 ·subst e;rw [Ca (BR.1 h).1,h]
 ·rw [BJ e]
theorem MK.setC {fs:Ei} {rows:List (List Int×Int)} {xs:List Value} {p:Nat×Array Value×TypeId} {v:Value} {r:List Int×Int} {l:List Int} (h:MK fs rows xs) {i:Nat} (hr:rows[i]? = some r) (hv:Ki p v l):MK (fs.set i p) (rows.set i (l,r.2)) (xs.set (i*2) v):=by
 have h1:=h.set (r:=(l,r.2)) i hv;obtain ⟨_,_,_,_,h3,_⟩:=h.at_ i r hr;have a:(xs.set (i*2) v)[i*2+1]? = some (.int .i64 r.2):=by rw [BJ Ad];exact h3
 rw [show ((xs.set (i*2) v).set (i*2+1) (.int .i64 (l,r.2).2))=xs.set (i*2) v from Kj a] at h1;exact h1
theorem MK.setV {fs:Ei} {rows:List (List Int×Int)} {xs:List Value} {r:List Int×Int} (h:MK fs rows xs) {i:Nat} (hr:rows[i]? = some r) (z:Int):MK fs (rows.set i (r.1,z)) (xs.set (i*2+1) (.int .i64 z)):=by
 obtain ⟨p,v,h1,h2,h3,a⟩:=h.at_ i r hr;have h5:=h.set (r:=(r.1,z)) i a;rw [Kj h1,Kj h2] at h5;exact h5
theorem Mq {cs:Array Value} {n i:Nat} (x:Value):(cs.setIfInBounds i x).toList.take n=(cs.toList.take n).set i x:=by
 rw [C8,List.take_set]
structure Hq (B cap:Nat) (cs:Array Value) (fs:Ei) (rows:List (List Int×Int)):Prop where
 le:rows.length<=cap
 mx:cap<=maxLen
 size:cs.size=cap*2
 eq:MK fs rows (cs.toList.take (rows.length*2))
section
variable {B cap i:Nat} {cs:Array Value} {fs:Ei} {rows:List (List Int×Int)} {r:List Int×Int}
theorem Hq.at_ (h:Hq B cap cs fs rows) (hr:rows[i]? = some r):∃ p v,fs[i]? = some p/\cs[i*2]? = some v/\cs[i*2+1]? = some (.int .i64 r.2)/\Ki p v r.1:=by
 have b:=(BR.1 hr).1;obtain ⟨p,v,h1,h2,h3,a⟩:=h.eq.at_ i r hr;rw [BM,AU Ad,BU] at h2 h3;exact ⟨p,v,h1,h2,h3,a⟩
theorem Hq.setC (h:Hq B cap cs fs rows) (hr:rows[i]? = some r) {p:Nat×Array Value×TypeId} {v:Value} {l:List Int} (hv:Ki p v l):Hq B cap (cs.setIfInBounds (i*2) v) (fs.set i p) (rows.set i (l,r.2)):=by
 have a:=(BR.1 hr).1;refine ⟨by rw [C7];exact h.le,h.mx,by simpa using h.size,?_⟩;rw [C7,Mq];exact h.eq.setC hr hv
theorem Hq.setV (h:Hq B cap cs fs rows) (hr:rows[i]? = some r) (z:Int):Hq B cap (cs.setIfInBounds (i*2+1) (.int .i64 z)) fs (rows.set i (r.1,z)):=by
 have a:=(BR.1 hr).1;refine ⟨by rw [C7];exact h.le,h.mx,by simpa using h.size,?_⟩;rw [C7,Mq];exact h.eq.setV hr z
theorem Hq.setK (h:Hq B cap cs fs rows) (hr:rows[i]? = some r) {g:Nat} {ds:Array Value} {t:TypeId} (hp:fs[i]? = some (g,ds,t)) (k:Nat) (y:Int):Hq B cap cs (fs.set i (g,ds.setIfInBounds k (.int .i64 y),t)) (rows.set i (r.1.set k y,r.2)):=by
 obtain ⟨p,v,h1,h2,h3,a⟩:=h.at_ hr;rw [hp] at h1;obtain rfl:=B4 h1;have h5:=h.setC hr (a.set k y);rw [show cs.setIfInBounds (i*2) v=cs from by
  apply Array.ext';rw [C8];exact Kj (by rw [BU];exact h2)] at h5
 exact h5
theorem Hq.slE {w W:World} {L:Ei} {R:List En} (h:Hq B cap cs fs rows) (a:Dp w ((B,cs,57) :: L) R W) (hs:∀ p∈fs,p∈L):EX W (.slice (some ⟨B,0,none⟩) rows.length cap) rows :=
 h.eq.eqs.slE (a.thaw (n:=rows.length) (k:=2) h.le h.mx h.size rfl) rfl hs
end
theorem Nm.box {fs:Ei} {v:Value} {l:List Int} (h:Nm fs v l) (hl:1<=l.length):∃ p∈fs,Ki p v l:=by
 rcases h with ⟨_,rfl⟩ | ⟨g,cap,cs,h1,h2,h3,a,h5,b⟩
 ·simp at hl
 ·exact ⟨_,h5,rfl,⟨cap,h1,h2,h3,a⟩,b⟩
theorem Dp.tuck {w W:World} {gs fs C:Ei} {R:List En} {T p:Nat×Array Value×TypeId} (h:Dp w (T :: (gs++(fs++C))) R W) (hp:p∈gs):Dp w (T :: ((fs++[p])++C)) R W:=by
 have h1:Dp w (T :: ([p]++(fs++C))) R W:=h.sub (List.Sublist.cons_cons _ (List.Sublist.append (List.singleton_sublist.2 hp) (List.Sublist.refl _)));refine h1.perm (List.Perm.cons _ ?_);rw [Cb];exact show (p :: (fs++C)).Perm (fs++p :: C) from List.perm_middle.symm
theorem Dp.pick {w W:World} {A C:Ei} {R:List En} {T p:Nat×Array Value×TypeId} (h:Dp w (T :: (A++p :: C)) R W):Dp w (p :: T :: (A++C)) R W:=h.perm ((List.Perm.cons _ List.perm_middle).trans (List.Perm.swap _ _ _))
theorem Dp.unpick {w W:World} {A C:Ei} {R:List En} {T p:Nat×Array Value×TypeId} (h:Dp w (p :: T :: (A++C)) R W):Dp w (T :: (A++p :: C)) R W:=h.perm ((List.Perm.swap _ _ _).trans (List.Perm.cons _ List.perm_middle.symm))
theorem Qb {α:Type} {l:List α} {i:Nat} {x:α} (h:l[i]? = some x):∃ A C,l=A++x :: C/\l.eraseIdx i=A++C/\∀ y,l.set i y=A++y :: C:=by
 obtain ⟨a,rfl⟩:=BR.1 h;refine ⟨l.take i,l.drop (i+1),by rw [List.getElem_cons_drop,List.take_append_drop],List.eraseIdx_eq_take_drop_succ _ _,fun y=>?_⟩;rw [List.set_eq_take_append_cons_drop,AU a]
section
variable {w W:World} {L fs:Ei} {R:List En} {T p q:Nat×Array Value×TypeId} {i:Nat}
theorem Dp.pull (h:Dp w (T :: (fs++L)) R W) (a:fs[i]? = some p):Dp w (p :: T :: (fs.eraseIdx i++L)) R W:=by
 obtain ⟨A,C,h1,h2,_⟩:=Qb a;rw [h2,Cb];rw [h1,Cb,Cc] at h;exact h.pick
theorem Dp.push (h:Dp w (q :: T :: (fs.eraseIdx i++L)) R W) (a:fs[i]? = some p):Dp w (T :: (fs.set i q++L)) R W:=by
 obtain ⟨A,C,h1,h2,h3⟩:=Qb a;rw [h2,Cb] at h;rw [h3,Cb,Cc];exact h.unpick
end
section
variable {w W:World} {L fs:Ei} {R:List En} {B cap i n:Nat} {cs:Array Value} {rows:List (List Int×Int)} {r:List Int×Int}
theorem Hq.thaw (h:Hq B cap cs fs rows) (hr:rows[i]? = some r) (a:Dp w ((B,cs,57) :: (fs++L)) R W):∃ v,cs[i*2]? = some v/\Dp w ((B,cs,57) :: (fs.eraseIdx i++L)) (⟨3,1,v,r.1.length,r.1.map (Value.int .i64)⟩ :: R) W:=by
 obtain ⟨⟨g,ds,t⟩,v,h1,h2,_,c⟩:=h.at_ hr;obtain ⟨rfl,⟨cp,rfl,h5,d,e⟩,b⟩:=c;exact ⟨_,h2,(a.pull h1).thaw (k:=1) h5 d (by rw [AY];exact e) (by rw [AY];exact b)⟩
theorem Hq.grown (h:Hq B cap cs fs rows) (hr:rows[i]? = some r) {l:List Int} {v:Value} (hl:1<=l.length) (hn:n=l.length) (c:Dp w ((B,cs.setIfInBounds (i*2) v,57) :: (fs.eraseIdx i++L)) (⟨3,1,v,n,l.map (Value.int .i64)⟩ :: R) W) :
  ∃ fs',Hq B cap (cs.setIfInBounds (i*2) v) fs' (rows.set i (l,r.2))/\Dp w ((B,cs.setIfInBounds (i*2) v,57) :: (fs'++L)) R W:=by
 obtain ⟨p,_,h1,_,_,_⟩:=h.at_ hr
 obtain ⟨gs,b,a⟩:=c.freezeI hn
 obtain ⟨q,hq,hb⟩:=b.box hl
 refine ⟨fs.set i q,h.setC hr hb,Dp.push (i:=i) ?_ h1⟩
 exact a.sub (List.Sublist.append (List.singleton_sublist.2 hq) (List.Sublist.refl _))
end
theorem Dp.addB {w W:World} {L:Ei} {R:List En} (h:Dp w L R W) (cs:Array Value) (t:TypeId):∃ W' B,W'=W.alloc (.cells cs t)/\B=W.heap.size/\Dp w ((B,cs,t) :: L) R W':=⟨_,_,rfl,rfl,h.add cs t⟩
theorem Dp.rot {w W:World} {L:Ei} {R:List En} {T p:Nat×Array Value×TypeId} (h:Dp w (T :: p :: L) R W):Dp w (p :: (L++[T])) R W:=h.perm (List.perm_append_singleton T (p :: L)).symm
def Row0 (w:World) (a:Option Addr) (n:Nat) (l:List Int):Prop:=n=0∨∃ b o,a=some ⟨b,o,none⟩/\b<w.heap.size/\∀ k,k<n->w.cell? ⟨b,o+k,none⟩=some (.int .i64 (gi l k))
theorem Row0.below {w W:World} {a:Option Addr} {n:Nat} {l:List Int} (h:Row0 w a n l) (hb:Below w.heap.size w W):Row0 W a n l:=h.imp id fun ⟨b,o,e,h1,h2⟩=>⟨b,o,e,A9 h1 hb.size,fun k hk=>(hb.cell (p:=⟨b,o+k,none⟩) h1).trans (h2 k hk)⟩
theorem Sl.row0 {w:World} {v:Value} {l:List Int} (h:Sl w v l):∃ a c,v=.slice a l.length c/\Row0 w a l.length l:=by
 rcases h with ⟨rfl,rfl⟩ | ⟨b,off,cap,rfl,h1,h2,h3,d⟩
 ·exact ⟨_,_,rfl,.inl rfl⟩
 ·exact ⟨_,_,rfl,.inr ⟨b,off,rfl,h3,d⟩⟩
theorem Hq.coef {B cap i:Nat} {cs:Array Value} {fs:Ei} {rows:List (List Int×Int)} {r:List Int×Int} (h:Hq B cap cs fs rows) (hr:rows[i]? = some r):∃ g ds cp,fs[i]? = some (g,ds,(3:TypeId))/\cs[i*2]? = some (.slice (some ⟨g,0,none⟩) r.1.length cp)/\∀ k,k<r.1.length->ds[k]? = some (.int .i64 (gi r.1 k)):=by
 obtain ⟨⟨g,ds,t⟩,v,h1,h2,_,a⟩:=h.at_ hr;have hc:=fun k (hk:k<r.1.length)=>a.cell hk
 obtain ⟨rfl,⟨cp,rfl,_,_,_⟩,_⟩:=a;exact ⟨g,ds,cp,h1,h2,hc⟩
end
section
open Go.RowKit
attribute [local go_sem] Oper.semAt_some
theorem copy_r5 {Q:Exit->Act->World->Prop} {us:List Value} {bP bV pb po m mc i:Nat} {v cv:Value} {xs:List Value} {cols z:Int} {zl:List Int} {w W0:World} {L:Ei} {R:List En}  (hn:Hid (i<=1000000)) (t:Hid (zl.length<=1000000)) (Z:(0:Int)<=i) (Y:(i:Int)<m) (A:Hid (∀ W,Dp w L R W->Sl W cv zl)) (mP:(bP,#[.int .i64 cols,.slice (some ⟨pb,po,none⟩) m mc],27)∈L) (n:DQ w L R pb (po+i*2) (cv)) (C:DQ w L R pb (po+i*2+1) (.int .i64 z)) (h0:Hid (Dp w ((bV,#[.int .i64 cols,v],27) :: L) (⟨57,2,v,i,xs⟩ :: R) W0)) (V:us.length=36) (I:us[1]? = some (.pointer (some ⟨bP,0,none⟩))) (G:us[3]? = some (.pointer (some ⟨bV,0,none⟩))) (H:us[4]? = some (.int .i64 i)) {ops:Array Oper} (F:Dt Tryz.f29.body 5=some ops)
  (D:∀ (x:Nat->Value) (gs24:Ei) (o:Option Addr) (cap24:Nat) (G33:Nat) (cap33:Nat) (W':World),Hid (Nm gs24 (.slice o zl.length cap24) zl)->Hid (Dp w ((bV,#[.int .i64 cols,.slice (some ⟨G33,0,none⟩) (i+1) cap33],27) :: (gs24++L)) (⟨57,2,.slice (some ⟨G33,0,none⟩) (i+1) cap33,i+1,xs++[.slice o zl.length cap24,.int .i64 z]⟩ :: R) W')->Q .normal { tmps:=(Eb [15,16,17,18,19,20,21,22,23,24,25,26,27,28,29,30,31,32,33,34] x us).toArray,defers:=[] } W') :
  (Code.region 5 ops true).wp Tryz.prog Q { tmps:=us.toArray,defers:=[] } W0:=by
 obtain rfl:=B4 (F.symm.trans (rfl:Dt Tryz.f29.body 5=some _))
 clear F
 replace D:=A8 D
 let Fl:Ei×Option Addr×Nat×Nat×Nat->FL:=fun g=>[some (15,.pointer (some ⟨bV,1,none⟩)),some (16,v),none,some (18,.pointer (some ⟨bP,1,none⟩)),some (19,.slice (some ⟨pb,po,none⟩) m mc),some (20,.int .i64 i),some (21,.pointer (some ⟨pb,po+i*2,none⟩)),some (22,.pointer (some ⟨pb,po+i*2,none⟩)),some (23,cv),some (24,.slice g.2.1 zl.length g.2.2.1),some (25,.pointer (some ⟨bP,1,none⟩)),some (26,.slice (some ⟨pb,po,none⟩) m mc),some (27,.int .i64 i),some (28,.pointer (some ⟨pb,po+i*2,none⟩)),some (29,.pointer (some ⟨pb,po+i*2+1,none⟩)),some (30,.int .i64 z),some (31,.agg #[.slice g.2.1 zl.length g.2.2.1,.int .i64 z]),none,some (33,.slice (some ⟨g.2.2.2.1,0,none⟩) (i+1) g.2.2.2.2),some (34,.pointer (some ⟨bV,1,none⟩)),none]
 let Ml:Ei×Option Addr×Nat×Nat×Nat->ML:=fun g=>[(2,17,(fun yv W=>∃ (g17:Nat),yv=.slice (some ⟨g17,0,none⟩) 0 0/\Dp w ((g17,#[],3) :: ((bV,#[.int .i64 cols,v],27) :: L)) (⟨57,2,v,i,xs⟩ :: R) W),some 9),(17,32,(fun yv W=>∃ (k:Nat),yv=.slice (some ⟨k,0,none⟩) 1 1/\Ds W k #[.slice g.2.1 zl.length g.2.2.1,.int .i64 z] 57),some 18)]
 let Sl_:Ei×Option Addr×Nat×Nat×Nat->List (World->Prop):=fun g=>[fun W=>Dp w ((bV,#[.int .i64 cols,v],27) :: L) (⟨57,2,v,i,xs⟩ :: R) W,fun W=>Nm g.1 (.slice g.2.1 zl.length g.2.2.1) zl/\Dp w ((bV,#[.int .i64 cols,v],27) :: (g.1++L)) (⟨57,2,v,i,xs⟩ :: R) W,fun W=>Nm g.1 (.slice g.2.1 zl.length g.2.2.1) zl/\Dp w ((bV,#[.int .i64 cols,v],27) :: (g.1++L)) (⟨57,2,.slice (some ⟨g.2.2.2.1,0,none⟩) (i+1) g.2.2.2.2,i+1,xs++[.slice g.2.1 zl.length g.2.2.1,.int .i64 z]⟩ :: R) W,fun W=>Nm g.1 (.slice g.2.1 zl.length g.2.2.1) zl/\Dp w ((bV,#[.int .i64 cols,.slice (some ⟨g.2.2.2.1,0,none⟩) (i+1) g.2.2.2.2],27) :: (g.1++L)) (⟨57,2,.slice (some ⟨g.2.2.2.1,0,none⟩) (i+1) g.2.2.2.2,i+1,xs++[.slice g.2.1 zl.length g.2.2.1,.int .i64 z]⟩ :: R) W]
 have St:Iu 36 [15,16,17,18,19,20,21,22,23,24,25,26,27,28,29,30,31,32,33,34] [2,17] Fl Ml (Dp w L R) Sl_:=⟨fun _=>by kernel_rfl,fun _=>rfl,fun _ _ hb h=>h.call hb,fun g=>C6.2 ⟨fun yv W W' hb=>fun ⟨g,e,h⟩=>⟨g,e,h.call hb⟩,C6.2 ⟨fun yv W W' hb=>fun ⟨g,e,h⟩=>⟨g,e,h.below hb⟩,(fun _ h=>by cases h)⟩⟩,fun g=>C6.2 ⟨fun W W' hb h=>h.call hb,C6.2 ⟨fun W W' hb h=>⟨h.1,(h.2).call hb⟩,C6.2 ⟨fun W W' hb h=>⟨h.1,(h.2).call hb⟩,C6.2 ⟨fun W W' hb h=>⟨h.1,(h.2).call hb⟩,(fun _ h=>by cases h)⟩⟩⟩⟩⟩
 refine FM St us [9,18,20] ⟨[],none,0,0,0⟩ V h0.out.tail.rtail.drew h0.out.drew ?_ ?_
 refine sV St ?_ (fun z=>z.u G)
 refine Dk (stV St 1 rfl rfl rfl (fun _=>rfl) fun g T E W hl hw hs z K J=>by
  have x15:=z.x 0 hw rfl;have k0:W.cell? ⟨bV,1,none⟩=some (v:Value):=z.ld 1 0 1 hl hw hs rfl Ab ⟨fun s=>Dp.cell (s) _ _ _ Ah 1,fun s=>Dp.cell (And.right (s)) _ _ _ Ah 1⟩;go_simp;exact J) ?_
 refine Dk (stM St 2 0 rfl rfl (.inl rfl) (fun _=>rfl) (fun _=>by kernel_rfl) fun g T E W hl hw hs z K J=>by
  go_simp;exact J _ _ ((Below.refl _ _).alloc (Aa _) _) ⟨_,rfl,z.ld 2 0 0 hl hw hs rfl Ab (fun s=>Dp.add s _ _)⟩) ?_
 refine sV St ?_ (fun z=>z.u I)
 refine sV St ?_ (fun z=>z.x 3 rfl) (fun z=>(z.c.cell _ _ _ mP 1).trans (show _=some (.slice (some ⟨pb,po,none⟩) m mc:Value) from rfl))
 refine sV St ?_ (fun z=>z.u H)
 refine sV St ?_ (fun z=>z.x 4 rfl) (fun z=>z.x 5 rfl)
 refine sV St ?_ (fun z=>z.x 6 rfl)
 refine sV St ?_ (fun z=>z.x 7 rfl) (fun z=>n _ z.c)
 refine Dk (stF St 9 0 rfl (.inl rfl) rfl rfl Ab (fun _=>by kernel_rfl) fun g T E W hl hw hs z q K J=>by
  obtain ⟨_,P,g17,rfl,B⟩:=z.y 0 hl hw hs rfl;have n:=z.x 8 hw rfl;have d:Dp _ _ _ _:=q;have S:=z.c;refine On rfl B (by go_simp) (by go_simp) (A.out _ S) t.out ?_;intro gs24' l cap24' M p b;replace b:=b.front;exact J ⟨gs24',l,cap24',g.2.2.2.1,g.2.2.2.2⟩ _ _ rfl Ab ((b.tail.sub (List.sublist_append_right _ _)).rtail) ⟨p,b⟩) ?_
 refine sV St ?_ (fun z=>z.u I)
 refine sV St ?_ (fun z=>z.x 10 rfl) (fun z=>(z.c.cell _ _ _ mP 1).trans (show _=some (.slice (some ⟨pb,po,none⟩) m mc:Value) from rfl))
 refine sV St ?_ (fun z=>z.u H)
 refine sV St ?_ (fun z=>z.x 11 rfl) (fun z=>z.x 12 rfl)
 refine sV St ?_ (fun z=>z.x 13 rfl)
 refine sV St ?_ (fun z=>z.x 14 rfl) (fun z=>C _ z.c)
 refine sV St ?_ (fun z=>z.x 9 rfl) (fun z=>z.x 15 rfl)
 refine Dk (stM St 17 1 rfl rfl (.inl rfl) (fun _=>rfl) (fun _=>by kernel_rfl) fun g T E W hl hw hs z K J=>by
  have O:=z.x 16 hw rfl;go_simp;exact J _ _ ((Below.refl _ _).alloc (Aa _) _) ⟨_,rfl,Ds.new _ _ _⟩) ?_
 refine Dk (stF St 18 1 rfl (.inl rfl) rfl rfl Ab (fun _=>by kernel_rfl) fun g T E W hl hw hs z q K J=>by
  have U:=z.x 1 hw rfl;obtain ⟨_,N,k,rfl,j⟩:=z.y 1 hl hw hs rfl;have d:=And.right (q);refine KJ rfl d (by go_simp) (by go_simp) (j.cell 0) (j.cell 1) rfl rfl hn.out ?_;intro G33' cap33' M b;exact J ⟨g.1,g.2.1,g.2.2.1,G33',cap33'⟩ _ _ rfl Ab ((b.tail.sub (List.sublist_append_right _ _)).rtail) ⟨(And.left (q)),b⟩) ?_
 refine sV St ?_ (fun z=>z.u G)
 refine Dk (stE 20 2 (.inl rfl) rfl rfl (fun _=>rfl) Ab (fun _=>by kernel_rfl) fun g T E W hl hw hs z q K J=>by
  have X:=z.x 18 hw rfl;have x34:=z.x 19 hw rfl;have d:=And.right (q);have y0:=d.cell _ _ _ Ah 1;have w0:=d.frozen _ _ _ Ah 1;go_simp;exact J _ (((d.put0 1 _).tail.sub (List.sublist_append_right _ _)).rtail) ⟨(And.left (q)),(d.put0 1 _)⟩) ?_
 ·exact Du
 ·intro g a W z q
  have r:=And.right (q);rw [z.f.eqs];exact D.out _ g.1 g.2.1 g.2.2.1 g.2.2.2.1 g.2.2.2.2  _  (A8 (And.left (q))) (A8 r)
def CopyP (w:World) (cols:Int) (rows:List (List Int×Int)) (e:Ending) (w':World):Prop :=
 ∃ (B cap:Nat) (cs:Array Value) (fs:Ei),e=.returned (.agg #[.int .i64 cols,.slice (some ⟨B,0,none⟩) rows.length cap])/\Hq B cap cs fs rows/\Dp w ((B,cs,57) :: fs) [] w'
theorem TR {α:Type} {l:List α} {i:Nat} {x:α} (h:l[i]? = some x):l.take (i+1)=l.take i++[x]:=by
 rw [List.take_add_one,h];rfl
theorem Vr (cols:Int) (v:Value) (rows:List (List Int×Int)) (w:World) (h:EX w v rows) (h1:1<=rows.length) (h2:rows.length<=1000000) (h3:∀ r∈rows,1<=r.1.length/\r.1.length<=1000000) :
  Calls Tryz.prog 29 #[.agg #[.int .i64 cols,v]] w (CopyP w cols rows):=by
 rcases h with ⟨rfl,rfl⟩ | ⟨pb,po,mc,rfl,k1,k2,k3,k4⟩
 ·simp at h1
 replace k4:=A8 k4
 replace h3:=A8 h3
 have b:Hid (∀ fs sv xs W,Dp w ((w.heap.size+1+1,#[.int .i64 cols,sv],27) :: (fs++[(w.heap.size+1,#[.int .i64 0,.slice none 0 0],27),(w.heap.size,#[.int .i64 cols,.slice (some ⟨pb,po,none⟩) rows.length mc],27)])) [⟨57,2,sv,rows.length,xs⟩] W->MK fs (rows.take rows.length) xs->∃ B cap,sv=.slice (some ⟨B,0,none⟩) rows.length cap/\∀ W',W'=(W.setCell ⟨w.heap.size+1,0,none⟩ (.int .i64 cols)).setCell ⟨w.heap.size+1,1,none⟩ sv->CopyP w cols rows (.returned (.agg #[.int .i64 cols,sv])) W'):=A8 (fun fs sv xs W a hq=>by
  rw [Cd] at hq;have G:=Dp.front (A:=(w.heap.size+1+1,#[.int .i64 cols,sv],27) :: fs) (C:=[(w.heap.size,#[.int .i64 cols,.slice (some ⟨pb,po,none⟩) rows.length mc],27)]) a;rcases G.freeze with ⟨_,e0,_,_⟩ | ⟨B,cap,cs,rfl,q1,Y,Q,U,_⟩
  ·omega
  ·refine ⟨B,cap,rfl,fun W' e=>?_⟩
   have h5:=G.out2 (.int .i64 cols) (.slice (some ⟨B,0,none⟩) rows.length cap);rw [<-e] at h5;rcases h5.freeze with ⟨j,_,_,_⟩ | ⟨B2,cap2,cs2,j,O,J,P,I,K⟩
   ·cases j
   ·cases j
    refine ⟨B,cap,cs2,fs,rfl,⟨O,J,P,by rw [I];exact hq⟩,K.sub ?_⟩;exact List.Sublist.cons_cons _ (List.Sublist.cons _ (List.Sublist.cons _ (List.sublist_append_left fs _))))
 obtain ⟨m,l⟩:∃ m,m=rows.length:=⟨_,rfl⟩
 rw [<-l] at b h2 |-
 replace l:=A8 l
 clear h1 k1 k2
 obtain ⟨V1,j,E,s1⟩:=(Dp.start w).add' #[.int .i64 cols,.slice (some ⟨pb,po,none⟩) m mc] 27
 obtain ⟨X,F,D,H⟩:=E.add' #[.int .i64 0,.slice none 0 0] 27
 obtain ⟨Z,u,y,M⟩:=D.add' #[.int .i64 cols,.slice none 0 0] 27
 rw [H,s1] at y
 rw [s1] at D
 rw [F,j] at u
 have a:=A8 (y.row0 57 2)
 clear F j E s1 D H y M
 go_enter Tryz.func29,Tryz.ntmps29
 go_upto_region 2 with fail
 rw [<-u]
 clear u
 go_wp2_with fail
 go_loopw [4] (fun s wr=>∃ (i:Nat) (fs:Ei) (sv:Value) (xs:List Value),s=.int .i64 i/\i<=m/\Hid (Dp w ((w.heap.size+1+1,#[.int .i64 cols,sv],27) :: (fs++[(w.heap.size+1,#[.int .i64 0,.slice none 0 0],27),(w.heap.size,#[.int .i64 cols,.slice (some ⟨pb,po,none⟩) m mc],27)])) [⟨57,2,sv,i,xs⟩] wr/\MK fs (rows.take i) xs)) (fun s _=>m-(intOf s).toNat)
 case atStart=>exact ⟨0,[],.slice none 0 0,[],rfl,Ad,A8 ⟨a.out,MK.nil⟩⟩
 case round =>
  clear a;obtain ⟨i,fs,sv,xs,rfl,hi,a⟩:=hrel;have f:=A8 (show (w.heap.size,#[.int .i64 cols,.slice (some ⟨pb,po,none⟩) m mc],27)∈((w.heap.size+1+1,#[.int .i64 cols,sv],27) :: (fs++[(w.heap.size+1,#[.int .i64 0,.slice none 0 0],27),(w.heap.size,#[.int .i64 cols,.slice (some ⟨pb,po,none⟩) m mc],27)]):Ei) from Bw _ (Bq _ Ai));have z1:=(a.out.1.cell _ _ _ f.out 1).trans (show _=some (Value.slice (some ⟨pb,po,none⟩) m mc) from rfl);by_cases x:i<m;case neg =>
   have d:¬ (i:Int)<m:=by omega
   obtain rfl:i=m:=by omega
   obtain ⟨B,cap,rfl,c⟩:=b.out _ _ _ _ a.out.1 a.out.2;have c:=A8 (c _ rfl);have y0:=(a.out.1.cell _ _ _ Ah 0).trans (show _=some (Value.int .i64 cols) from rfl);have V:=(a.out.1.cell _ _ _ Ah 1).trans (show _=some (Value.slice (some ⟨B,0,none⟩) i cap) from rfl);obtain ⟨g0,T,f0,S,x0,x1⟩:=Gj (a.out.1.blks _ (.tail _ (Bq fs Ah))) (.int .i64 cols) (.slice (some ⟨B,0,none⟩) i cap);clear a b f;go_wp2;exact bodyPost_ret (v:=.agg #[.int .i64 cols,.slice (some ⟨B,0,none⟩) i cap]) (by simp [results,Tryz.results29,go_sem,x0,x1]) rfl c.out
  case pos =>
   have d:(i:Int)<m:=by omega
   have q:(0:Int)<=i:=by omega
   obtain ⟨r,hr⟩:∃ r,rows[i]? = some r:=⟨_,Ax (by rw [<-l.out];exact x)⟩;obtain ⟨cv,c1,c2,c3⟩:=k4.out i r hr;have g:=A8 (h3.out r (Ay hr));have o:=A8 (TR hr);replace c2:=A8 (c2.sl g.out.1);replace hr:=A8 hr;go_upto_region 5 with fail;refine copy_r5 (bP:=w.heap.size) (bV:=w.heap.size+1+1) (pb:=pb) (po:=po) (m:=m) (mc:=mc) (i:=i) (v:=sv) (cv:=cv) (xs:=xs) (cols:=cols) (z:=r.2) (zl:=r.1) (w:=w) (L:=fs++[(w.heap.size+1,#[.int .i64 0,.slice none 0 0],27),(w.heap.size,#[.int .i64 cols,.slice (some ⟨pb,po,none⟩) m mc],27)]) (R:=[]) (A8 Ad) (A8 g.out.2) q d (A8 fun W k=>c2.out.below k.below) (Bq _ Ai) (fun W k=>k.old k3 c1) (fun W k=>k.old k3 c3) (A8 a.out.1) rfl rfl rfl rfl Ab ?_;intro xx gs N cap24 G33 cap33 W5 n t;simp only [Eb,Ce,Cg,A5,A6];have hq:=A8 a.out.2;clear a c1 c3 z1 f;go_wp2_with fail;go_roundw;case rel =>
    obtain ⟨p,hp,hb⟩:=Nm.box n.out g.out.1;exact ⟨i+1,fs++[p],_,_,by go_num,Ad,A8 ⟨t.out.tuck hp,by rw [o.out];exact hq.out.snoc hb⟩⟩
   case measure=>simp [intOf];omega
end
section
open Go.RowKit
attribute [local go_sem] Oper.semAt_some bne_self_eq_false
def Qc (w:World) (g o:Nat):Prop:=∃ (a:Option Addr) (n k:Nat) (l:List ByteArray) (d:ByteArray),w.cell? ⟨g,o,none⟩=some (.slice a n k)/\w.cell? ⟨g,o+1,none⟩=some (.string d)/\DS w (.slice a n k) l/\Fz l/\d.size<=201
theorem Qc.below {w W:World} {g o:Nat} (h:Qc w g o) (hg:g<w.heap.size) (hb:Below w.heap.size w W):Qc W g o:=by
 obtain ⟨a,n,k,l,d,h1,h2,h3,b⟩:=h;exact ⟨a,n,k,l,d,(hb.cell (p:=⟨_,_,none⟩) hg).trans h1,(hb.cell (p:=⟨_,_,none⟩) hg).trans h2,h3.below hb,b⟩
def WgtAt (w:World) (g o:Nat):Prop:=∃ (v:Value) (l:List ByteArray),w.cell? ⟨g,o,none⟩=some v/\DS w v l/\Fz l
theorem lm_l4 {Q:Exit->Act->World->Prop} {us:List Value} {bV g nv kv:Nat} {av:Option Addr} {lv:List ByteArray} {dv:ByteArray} {p q:Int} {w:World} (hE:Hid (Fp w)) (hb:Hid (bV<w.heap.size/\g<w.heap.size)) (hq:Hid (Dy q)) (C:Hid (w.cell? ⟨bV,0,none⟩=some (.slice av nv kv)/\w.cell? ⟨bV,1,none⟩=some (.string dv)/\DS w (.slice av nv kv) lv/\Fz lv/\dv.size<=201))
  (hA:Hid (∀ j,j<4->Qc w g (j*2))) {body:Code} (t:EN Tryz.f3.body 4=some body) (hN:us.length=200) (V:us[9]? = some (.int .i64 p)) (A:us[10]? = some (.int .i64 q)) (y:us[31]? = some (.pointer (some ⟨bV,0,none⟩))) (n:us[138]? = some (.slice (some ⟨g,0,none⟩) 4 4)) (k:us[139]? = some (.int .i64 4)) (i:us[140]? = some (.int .i64 0))
  (U:∀ (fr:Nat->Value) (W':World),Hid (Below w.heap.size w W')->Q (.exit 4) { tmps:=(Eb [22,33,34,35,36,37,140,141,142,143,144,145,146,147,148,149,150,151,152,153,154,155,156,157,158,159,160,161,162,163,164,165,166,167,168,169,170,171,172,173] fr us).toArray,defers:=[] } W') :
  (Code.loop body).wp Tryz.prog Q { tmps:=us.toArray,defers:=[] } w:=by
 obtain rfl:=B4 (t.symm.trans (rfl:EN Tryz.f3.body 4=some _))
 clear t
 obtain ⟨u,rfl⟩:=KL hN
 clear hN
 replace V:=DC V
 replace A:=DC A
 replace y:=DC y
 replace n:=DC n
 replace k:=DC k
 replace i:=DC i
 simp only [lit,Nat.reduceAdd,V,A,y,n,k,i] at U |-
 clear V A y n k i
 replace U:=A8 U
 go_loopw [140] (fun s wr=>∃ (j:Nat),s=.int .i64 j/\j<=4/\Hid (Dp w [] [] wr)) (fun s _=>4-(intOf s).toNat)
 case atStart=>exact ⟨0,rfl,Ad,A8 (Dp.start w)⟩
 case round =>
  obtain ⟨j,rfl,hj,P⟩:=hrel;by_cases X:j<4;case neg =>
   have S:¬ (j:Int)<4:=by omega
   go_wp2_with fail;exact lexit [22,33,34,35,36,37,140,141,142,143,144,145,146,147,148,149,150,151,152,153,154,155,156,157,158,159,160,161,162,163,164,165,166,167,168,169,170,171,172,173] (U.out _ _ (A8 P.out.below)) Ab
  case pos =>
   have S:(j:Int)<4:=by omega
   have hj0:(0:Int)<=j:=by omega
   obtain ⟨au,nu,ku,lu,du,a1,a2,a3,a4,a5⟩:=hA.out j X;obtain ⟨r1,O⟩:∃ r,r=Ge q 9:=⟨_,rfl⟩;have PK:=A8 (fun W=>Tz q 9 hq.out Ae Ae W);rw [<-O] at PK;obtain ⟨q1,B⟩:∃ q1,q1=1+r1:=⟨_,rfl⟩;have I:IntKind.i64.wrap (1+r1)=q1:=by
    have h1:=Ec (c:=q) (m:=9) Ae;have h2:=FX (c:=q) (m:=9) Ae;rw [B];exact BT _ Ad
   clear O;obtain ⟨x,hx⟩:∃ x:DG,x={ p:=p,q:=q1,na:=lu,nb:=lv,da:=du,db:=dv }:=⟨_,rfl⟩;have MX0:=fun W (a:Below w.heap.size w W)=>(mix_gen x (.slice au nu ku) (.slice av nv kv) W (hE.out.below a (Aa _)) (by rw [hx];exact a3.below a) (by rw [hx];exact C.out.2.2.1.below a)).mono fun e W' h=>Nq h
   have RX0:=fun W (a:Below w.heap.size w W)=>(Vo x (.slice au nu ku) (.slice av nv kv) W (by rw [hx];exact a3.below a) (by rw [hx];exact C.out.2.2.1.below a) (by rw [hx];exact ⟨a4,C.out.2.2.2.1,a5,C.out.2.2.2.2⟩)).mono fun e W' h=>Nq h
   obtain ⟨l,hl⟩:∃ l,l=(Kf x).1:=⟨_,rfl⟩;obtain ⟨d,hd⟩:∃ d,d=(Kf x).2.1:=⟨_,rfl⟩;obtain ⟨z,Y⟩:∃ z,z=(Kf x).2.2:=⟨_,rfl⟩;rw [<-hl,<-hd,<-Y,hx] at MX0 RX0;have MX:Hid (∀ W,Below w.heap.size w W->Calls Tryz.prog 18 #[.agg #[.slice au nu ku,.string du],.agg #[.slice av nv kv,.string dv],.int .i64 p,.int .i64 q1] W fun e W'=>∃ (am:Option Addr) (nm:Nat) (km:Nat),e=.returned (.tuple #[.agg #[.slice am nm km,.string d],.int .i64 z])/\TZ W' (.slice am nm km) l/\Below W.heap.size W W'):=A8 MX0;have RX:Hid (∀ W,Below w.heap.size w W->Calls Tryz.prog 20 #[.agg #[.slice au nu ku,.string du],.agg #[.slice av nv kv,.string dv],.int .i64 p,.int .i64 q1] W fun e W'=>∃ (am:Option Addr) (nm:Nat) (km:Nat),e=.returned (.tuple #[.agg #[.slice am nm km,.string d],.int .i64 z])/\TZ W' (.slice am nm km) l/\Below W.heap.size W W'):=A8 RX0;clear MX0 RX0 hl hd Y hx B a3 a4 a5;have x0:=P.out.old hb.out.2 a1;have x1:=P.out.old hb.out.2 a2;obtain ⟨V1,bU,e1,eB,Z⟩:=P.out.addB #[.slice au nu ku,.string du] 30;have f:=A8 Z;clear Z a1 a2;go_upto_region 20 with fail;rw [<-e1,<-eB];clear e1 eB x0 x1 P;refine lm_r20 (bU:=bU) (bV:=bV) (nu:=nu) (ku:=ku) (nv:=nv) (kv:=kv) (au:=au) (av:=av) (p:=p) (q:=q) (r1:=r1) (q1:=q1) (z:=z) (du:=du) (dv:=dv) (d:=d) (l:=l) (L:=[]) (R:=[]) (fun W a=>(f.out.call a.below).cell _ _ _ Ah 0) (fun W a=>(f.out.call a.below).cell _ _ _ Ah 1) (fun W a=>(f.out.call a.below).old hb.out.1 C.out.1) (fun W a=>(f.out.call a.below).old hb.out.1 C.out.2.1) (fun W _=>PK.out W) I (A8 fun W a=>MX.out W (f.out.call a.below).below) (A8 (Dp.start _)) rfl rfl rfl rfl rfl Ab ?_;intro xx J am nm km W2 F E v T;simp only [Eb,Ce,Cg,A5,A6,F,E];have b:=A8 (f.out.within T.out);clear f T F E MX;go_upto_region 21 with fail;refine lm_r21 (bU:=bU) (bV:=bV) (nu:=nu) (ku:=ku) (nv:=nv) (kv:=kv) (au:=au) (av:=av) (p:=p) (q:=q) (r1:=r1) (q1:=q1) (z:=z) (du:=du) (dv:=dv) (d:=d) (l:=l) (L:=[]) (R:=[]) (fun W a=>(b.out.call a.below).cell _ _ _ Ai 0) (fun W a=>(b.out.call a.below).cell _ _ _ Ai 1) (fun W a=>(b.out.call a.below).old hb.out.1 C.out.1) (fun W a=>(b.out.call a.below).old hb.out.1 C.out.2.1) (fun W _=>PK.out W) I (A8 fun W a=>RX.out W (b.out.call a.below).below) (A8 (Dp.start _)) rfl rfl rfl rfl rfl Ab ?_;intro xx2 N am2 nm2 km2 W3 D G M H;simp only [Eb,Ce,Cg,A5,A6,D,G];have o:=A8 (b.out.within H.out);replace v:=A8 (v.out.below H.out.below);clear b H D G RX I PK;have SA:=PU _ _ l l d d W3 v.out M.out;rw [show (decide (d=d)&&decide (l=l))=true by simp] at SA;replace SA:=A8 SA;have y0:=(o.out.cell J _ _ Ai 0).trans (show _=some (Value.slice am nm km) from rfl);have y1:=(o.out.cell J _ _ Ai 1).trans (show _=some (Value.string d) from rfl);have y2:=(o.out.cell N _ _ Ah 0).trans (show _=some (Value.slice am2 nm2 km2) from rfl);have y3:=(o.out.cell N _ _ Ah 1).trans (show _=some (Value.string d) from rfl);go_wp2_with fail;refine Calls.mono SA.out ?_;rintro e w4 ⟨rfl,K⟩;have hB:=A8 (o.out.call K).below;clear y0 y1 y2 y3 K SA o v M;go_wp2_with fail;go_roundw;case rel=>exact ⟨j+1,by go_num,Ad,A8 ((Dp.start w).call hB.out)⟩
   case measure=>simp [intOf];omega
theorem lm_l2 {Q:Exit->Act->World->Prop} {us:List Value} {bS bO bA g n k no ko np kp:Nat} {a ao ap:Option Addr} {c p q:Int} {rows:List (List Int×Int)} {lo lp:List ByteArray} {do_ dp:ByteArray} {w:World} (hE:Hid (Fp w)) (hb:Hid (bS<w.heap.size/\bO<w.heap.size/\bA<w.heap.size/\g<w.heap.size)) (hq:Hid (Dy q))
  (F:Hid (w.cell? ⟨bS,0,none⟩=some (.int .i64 c)/\w.cell? ⟨bS,1,none⟩=some (.slice a n k)/\EX w (.slice a n k) rows))
  (hO:Hid (w.cell? ⟨bO,0,none⟩=some (.slice ao no ko)/\w.cell? ⟨bO,1,none⟩=some (.string do_)/\DS w (.slice ao no ko) lo/\Fz lo/\do_.size<=201))
  (y:Hid (w.cell? ⟨bA,1,none⟩=some (.slice ap np kp)/\w.cell? ⟨bA,2,none⟩=some (.string dp)/\DS w (.slice ap np kp) lp/\Fz lp/\dp.size<=201))
  (hA:Hid (∀ j,j<4->Qc w g (j*2))) {body:Code} (l:EN Tryz.f3.body 2=some body) (I:us.length=200) (E:us[9]? = some (.int .i64 p)) (r:us[10]? = some (.int .i64 q)) (o:us[16]? = some (.pointer (some ⟨bO,0,none⟩))) (t:us[26]? = some (.pointer (some ⟨bS,0,none⟩))) (m:us[27]? = some (.pointer (some ⟨bA,0,none⟩))) (v:us[29]? = some (.slice (some ⟨g,0,none⟩) 4 4)) (h:us[105]? = some (.slice (some ⟨g,0,none⟩) 4 4)) (f:us[106]? = some (.int .i64 4)) (e:us[107]? = some (.int .i64 0))
  (D:∀ (fr:Nat->Value) (W':World),Hid (Below w.heap.size w W')->Q (.exit 2) { tmps:=(Eb [22,31,33,34,35,36,37,107,108,109,110,111,112,113,114,115,116,117,118,119,120,121,122,123,124,125,126,127,128,129,130,131,132,133,134,135,136,137,138,139,140,141,142,143,144,145,146,147,148,149,150,151,152,153,154,155,156,157,158,159,160,161,162,163,164,165,166,167,168,169,170,171,172,173,174] fr us).toArray,defers:=[] } W') :
  (Code.loop body).wp Tryz.prog Q { tmps:=us.toArray,defers:=[] } w:=by
 obtain rfl:=B4 (l.symm.trans (rfl:EN Tryz.f3.body 2=some _))
 clear l
 obtain ⟨u,rfl⟩:=KL I
 clear I
 replace E:=DC E
 replace r:=DC r
 replace o:=DC o
 replace t:=DC t
 replace m:=DC m
 replace v:=DC v
 replace h:=DC h
 replace f:=DC f
 replace e:=DC e
 simp only [lit,Nat.reduceAdd,E,r,o,t,m,v,h,f,e] at D |-
 clear E r o t m v h f e
 replace D:=A8 D
 go_loopw [107] (fun s wr=>∃ (j:Nat),s=.int .i64 j/\j<=4/\Hid (Dp w [] [] wr)) (fun s _=>4-(intOf s).toNat)
 case atStart=>exact ⟨0,rfl,Ad,A8 (Dp.start w)⟩
 case round =>
  obtain ⟨j,rfl,hj,A⟩:=hrel;by_cases G:j<4;case neg =>
   have B:¬ (j:Int)<4:=by omega
   go_wp2_with fail;exact lexit [22,31,33,34,35,36,37,107,108,109,110,111,112,113,114,115,116,117,118,119,120,121,122,123,124,125,126,127,128,129,130,131,132,133,134,135,136,137,138,139,140,141,142,143,144,145,146,147,148,149,150,151,152,153,154,155,156,157,158,159,160,161,162,163,164,165,166,167,168,169,170,171,172,173,174] (D.out _ _ (A8 A.out.below)) Ab
  case pos =>
   have B:(j:Int)<4:=by omega
   have N:(0:Int)<=j:=by omega
   obtain ⟨av,nv,kv,lv,dv,a1,a2,a3,a4,a5⟩:=hA.out j G;have x0:=A.out.old hb.out.2.2.2 a1;have x1:=A.out.old hb.out.2.2.2 a2;have CK:=A8 (fun W (d:Below w.heap.size w W)=>KC c (.slice a n k) (.slice av nv kv) rows lv dv W (hE.out.below d (Aa _)) (F.out.2.2.below d) (a3.below d));have RK:=A8 (fun W (d:Below w.heap.size w W)=>Q8 c (.slice a n k) (.slice av nv kv) rows lv dv W (F.out.2.2.below d) (a3.below d) a5 a4);have EP:=A8 (fun W (d:Below w.heap.size w W)=>KI (.slice av nv kv) (.slice ap np kp) lv lp dv dp W (hE.out.below d (Aa _)) (a3.below d) (y.out.2.2.1.below d));have RP:=A8 (fun W (d:Below w.heap.size w W)=>L6 (.slice av nv kv) (.slice ap np kp) lv lp dv dp W (a3.below d) (y.out.2.2.1.below d) a5 y.out.2.2.2.2 a4 y.out.2.2.2.1);have EO:=A8 (fun W (d:Below w.heap.size w W)=>KI (.slice av nv kv) (.slice ao no ko) lv lo dv do_ W (hE.out.below d (Aa _)) (a3.below d) (hO.out.2.2.1.below d));have RO:=A8 (fun W (d:Below w.heap.size w W)=>L6 (.slice av nv kv) (.slice ao no ko) lv lo dv do_ W (a3.below d) (hO.out.2.2.1.below d) a5 hO.out.2.2.2.2 a4 hO.out.2.2.2.1);generalize Fu c rows lv dv=b1 at CK RK;generalize Iy lv dv lp dp=b2 at EP RP;generalize Iy lv dv lo do_=b3 at EO RO;obtain ⟨S,bV,J,eB,H⟩:=A.out.addB #[.slice av nv kv,.string dv] 30;have b:=A8 H;have x:=A8 (show DS w (.slice av nv kv) lv/\Fz lv/\dv.size<=201 from ⟨a3,a4,a5⟩);clear H a1 a2 a3 a4 a5;go_upto_region 15 with fail;rw [<-J,<-eB];clear J eB x0 x1 A;refine lm_r15 (bS:=bS) (bO:=bO) (bA:=bA) (bV:=bV) (n:=n) (k:=k) (no:=no) (ko:=ko) (np:=np) (kp:=kp) (nv:=nv) (kv:=kv) (a:=a) (ao:=ao) (ap:=ap) (av:=av) (c:=c) (do_:=do_) (dp:=dp) (dv:=dv) (b1:=b1) (b2:=b2) (b3:=b3) (L:=[]) (R:=[]) (fun W d=>(b.out.call d.below).old hb.out.1 F.out.1) (fun W d=>(b.out.call d.below).old hb.out.1 F.out.2.1) (fun W d=>(b.out.call d.below).cell _ _ _ Ah 0) (fun W d=>(b.out.call d.below).cell _ _ _ Ah 1) (fun W d=>CK.out W (b.out.call d.below).below) (fun W d=>RK.out W (b.out.call d.below).below) (fun W d=>(b.out.call d.below).old hb.out.2.2.1 y.out.1) (fun W d=>(b.out.call d.below).old hb.out.2.2.1 y.out.2.1) (fun W d=>EP.out W (b.out.call d.below).below) (fun W d=>RP.out W (b.out.call d.below).below) (fun W d=>(b.out.call d.below).old hb.out.2.1 hO.out.1) (fun W d=>(b.out.call d.below).old hb.out.2.1 hO.out.2.1) (fun W d=>EO.out W (b.out.call d.below).below) (fun W d=>RO.out W (b.out.call d.below).below) (A8 (Dp.start _)) rfl rfl rfl rfl rfl Ab ?_;intro xx M i C;simp only [Eb,Ce,Cg,A5,A6,i];replace b:=A8 (b.out.call C.out.below);clear C i CK RK EP RP EO RO;go_wp2_with fail;refine lm_l4 (bV:=bV) (g:=g) (nv:=nv) (kv:=kv) (av:=av) (lv:=lv) (dv:=dv) (p:=p) (q:=q) (w:=M) (A8 (hE.out.below b.out.below (Aa _))) (A8 ⟨b.out.lt _ Ah,A9 hb.out.2.2.2 b.out.size⟩) hq (A8 ⟨b.out.cell _ _ _ Ah 0,b.out.cell _ _ _ Ah 1,x.out.1.below b.out.below,x.out.2⟩) (A8 fun j hj=>(hA.out j hj).below hb.out.2.2.2 b.out.below) Ab rfl rfl rfl rfl rfl rfl rfl ?_;intro O P z;simp only [Eb,Ce,Cg,A5,A6];have K:=A8 (b.out.call z.out).below;clear b z x;go_wp2_with fail;go_roundw;case rel=>exact ⟨j+1,by go_num,Ad,A8 ((Dp.start w).call K.out)⟩
   case measure=>simp [intOf];omega
theorem lm_l6 {Q:Exit->Act->World->Prop} {us:List Value} {bS g n k:Nat} {a:Option Addr} {c:Int} {rows:List (List Int×Int)} {w:World} (hE:Hid (Fp w)) (hb:Hid (bS<w.heap.size/\g<w.heap.size))
  (r:Hid (w.cell? ⟨bS,0,none⟩=some (.int .i64 c)/\w.cell? ⟨bS,1,none⟩=some (.slice a n k)/\EX w (.slice a n k) rows)) (hA:Hid (∀ j,j<3->WgtAt w g j)) {body:Code} (i:EN Tryz.f3.body 6=some body) (v:us.length=200) (l:us[26]? = some (.pointer (some ⟨bS,0,none⟩))) (f:us[184]? = some (.slice (some ⟨g,0,none⟩) 3 3)) (e:us[185]? = some (.int .i64 3)) (b:us[186]? = some (.int .i64 0))
  (q:∀ (fr:Nat->Value) (W':World),Hid (Below w.heap.size w W')->Q (.exit 6) { tmps:=(Eb [22,39,186,187,188,189,190,191,192,193,194,195,196,197] fr us).toArray,defers:=[] } W') :
  (Code.loop body).wp Tryz.prog Q { tmps:=us.toArray,defers:=[] } w:=by
 obtain rfl:=B4 (i.symm.trans (rfl:EN Tryz.f3.body 6=some _))
 clear i
 obtain ⟨u,rfl⟩:=KL v
 clear v
 replace l:=DC l
 replace f:=DC f
 replace e:=DC e
 replace b:=DC b
 simp only [lit,Nat.reduceAdd,l,f,e,b] at q |-
 clear l f e b
 replace q:=A8 q
 go_loopw [186] (fun s wr=>∃ (j:Nat),s=.int .i64 j/\j<=3/\Hid (Dp w [] [] wr)) (fun s _=>3-(intOf s).toNat)
 case atStart=>exact ⟨0,rfl,Ad,A8 (Dp.start w)⟩
 case round =>
  obtain ⟨j,rfl,hj,m⟩:=hrel;by_cases t:j<3;case neg =>
   have o:¬ (j:Int)<3:=by omega
   go_wp2_with fail;exact lexit [22,39,186,187,188,189,190,191,192,193,194,195,196,197] (q.out _ _ (A8 m.out.below)) Ab
  case pos =>
   have o:(j:Int)<3:=by omega
   have y:(0:Int)<=j:=by omega
   obtain ⟨wv,lw,a1,a2,a3⟩:=hA.out j t;have x0:=m.out.old hb.out.2 a1;have CK:=A8 (fun W (d:Below w.heap.size w W)=>GA c (.slice a n k) wv rows lw W (hE.out.below d (Aa _)) (r.out.2.2.below d) (a2.below d));have RK:=A8 (fun W (d:Below w.heap.size w W)=>MG c (.slice a n k) wv rows lw W (r.out.2.2.below d) (a2.below d) a3);generalize Em c rows lw=b1 at CK RK;clear a1 a2 a3;go_upto_region 29 with fail;clear x0;refine lm_r29 (bS:=bS) (n:=n) (k:=k) (a:=a) (c:=c) (wv:=wv) (b1:=b1) (L:=[]) (R:=[]) (fun W d=>(m.out.call d.below).old hb.out.1 r.out.1) (fun W d=>(m.out.call d.below).old hb.out.1 r.out.2.1) (fun W d=>CK.out W (m.out.call d.below).below) (fun W d=>RK.out W (m.out.call d.below).below) (A8 (Dp.start _)) rfl rfl rfl Ab ?_;intro xx z h p;simp only [Eb,Ce,Cg,A5,A6,h];have x:=A8 (m.out.call p.out.below).below;clear m p h CK RK;go_wp2_with fail;go_roundw;case rel=>exact ⟨j+1,by go_num,Ad,A8 ((Dp.start w).call x.out)⟩
   case measure=>simp [intOf];omega
theorem lm_r9 {b:Bool} {ev:Int} (d:ev=if b=true then 0 else 60) {Q:Exit->Act->World->Prop} {us:List Value} {bS n k:Nat} {a:Option Addr} {c:Int} {w:World} (h1:Hid (∀ W,Dp w [] [] W->W.cell? ⟨bS,0,none⟩=some (.int .i64 c)/\W.cell? ⟨bS,1,none⟩=some (.slice a n k)))
  (j:Hid (∀ W,Dp w [] [] W->Calls Tryz.prog 10 #[.agg #[.int .i64 c,.slice a n k]] W (DR W (.bool b)))) (g:Hid (∀ W,Dp w [] [] W->Calls Tryz.prog 11 #[.agg #[.int .i64 c,.slice a n k]] W (DR W (.bool b))))
  (l:us.length=200) (e:us[26]? = some (.pointer (some ⟨bS,0,none⟩))) (f:us[28]? = some (.int .i64 ev)) {ops:Array Oper} (i:Dt Tryz.f3.body 9=some ops)
  (m:∀ (x:Nat->Value) (W':World),x 93=.bool false->Hid (Dp w [] [] W')->Q .normal { tmps:=(Eb [74,75,76,77,78,79,80,81,82,83,84,85,86,87,88,89,90,91,92,93] x us).toArray,defers:=[] } W') :
  (Code.region 9 ops true).wp Tryz.prog Q { tmps:=us.toArray,defers:=[] } w:=by
 have c0:=fun W h=>(h1.out W h).1
 have c1:=fun W h=>(h1.out W h).2
 cases b with
 | true=>rw [AU rfl] at d;subst d;exact lm_r9t (c0) (c1) j.out g.out g.out (A8 (Dp.start _)) l e f i m
 | false=>rw [AP Ae] at d;subst d;exact lm_r9f (c0) (c1) j.out g.out g.out (A8 (Dp.start _)) l e f i m
end
end Go.Proofs.YtioamkekjjkigaaGreatDoor
