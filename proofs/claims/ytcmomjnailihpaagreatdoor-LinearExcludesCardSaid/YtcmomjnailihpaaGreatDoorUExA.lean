/- ExA, ExB, ExW -/
import Derived.Test.YtcmomjnailihpaaGreatDoorUNoA
set_option maxHeartbeats 8000000
set_option maxRecDepth 100000
namespace Go.Proofs.YtcmomjnailihpaaGreatDoor
section
open Go.RowKit
attribute [local go_sem] Oper.semAt_some
theorem Iq {Q:Exit→Act→World→Prop} {us:List Value} {bN:Nat} {nc nr ms:Int} {lc kc lh kh:Nat} {ac ah:Option Addr} {w W0:World} {L:BLs} {R:List RowD}    (x82_0:Hid (∀ W,Mem w L R W→W.cell? ⟨bN,0,none⟩=some (.int .i64 nc))) (x82_1:Hid (∀ W,Mem w L R W→W.cell? ⟨bN,1,none⟩=some (.int .i64 nr))) (x82_2:Hid (∀ W,Mem w L R W→W.cell? ⟨bN,2,none⟩=some (.slice ac lc kc))) (x82_3:Hid (∀ W,Mem w L R W→W.cell? ⟨bN,3,none⟩=some (.slice ah lh kh))) (x82_4:Hid (∀ W,Mem w L R W→W.cell? ⟨bN,4,none⟩=some (.int .i64 ms))) (C83:Hid (∀ W,Mem w L R W→Calls Tryz.prog 30 #[.agg #[.int .i64 nc,.int .i64 nr,.slice ac lc kc,.slice ah lh kh,.int .i64 ms]] W (Rets W (.bool true)))) (h0:Hid (Mem w L R W0)) (hN:us.length=159) (g6:us[6]? = some (.pointer (some ⟨bN,0,none⟩))) (g19:us[19]? = some (.int .i64 0)) {ops:Array Oper} (ho:getOps Tryz.f5.body 11=some ops)
  (hQ:∀ (x:Nat→Value)  (W':World),x 92=.bool false→Hid (Mem w L R W')→Q .normal { tmps:=(sets [79,80,81,82,83,84,85,86,87,88,89,90,91,92] x us).toArray,defers:=[] } W') :
  (Code.region 11 ops true).wp Tryz.prog Q { tmps:=us.toArray,defers:=[] } W0:=by
 obtain rfl:=Option.some.inj (ho.symm.trans (rfl:getOps Tryz.f5.body 11=some _))
 clear ho
 replace hQ:=A8 hQ
 let Fl:Unit→FL:=fun g=>[some (79,.int .i64 0),some (80,.bool false),some (81,.bool false),some (82,.agg #[.int .i64 nc,.int .i64 nr,.slice ac lc kc,.slice ah lh kh,.int .i64 ms]),some (83,.bool true),some (84,.bool false),some (85,.bool false),none,none,none,none,none,some (91,.bool false),some (92,.bool false)]
 let Ml:Unit→ML:=fun g=>[]
 let Sl_:Unit→List (World→Prop):=fun g=>[fun W=>Mem w L R W]
 have St:RgS 159 [79,80,81,82,83,84,85,86,87,88,89,90,91,92] [] Fl Ml (Mem w L R) Sl_:=⟨fun _=>by kernel_rfl,fun _=>rfl,fun _ _ hb h=>h.call hb,fun g=>(fun _ h=>by cases h),fun g=>List.forall_mem_cons.2 ⟨fun W W' hb h=>h.call hb,(fun _ h=>by cases h)⟩⟩
 refine Aq 159 us [79,80,81,82,83,84,85,86,87,88,89,90,91,92] Fl Ml [] (Mem w L R) Sl_ hN (by kernel_rfl) (by kernel_rfl) () h0.out.drew h0.out.drew (by kernel_rfl) ?_ ?_
 refine Ab (stV St 0 rfl rfl rfl (fun _=>rfl) fun g T E W hl hw hs z K J=>by
  have x19:=z.u g19
  go_simp;exact J) ?_
 refine Ab (stV St 1 rfl rfl rfl (fun _=>rfl) fun g T E W hl hw hs z K J=>by
  have x79:=z.x 0 hw rfl
  go_simp;exact J) ?_
 refine Ab (stV St 2 rfl rfl rfl (fun _=>rfl) fun g T E W hl hw hs z K J=>by
  have x80:=z.x 1 hw rfl
  go_simp;exact J) ?_
 refine Ab (stG St 3 rfl rfl (wg 2 rfl rfl (by kernel_rfl) (fun _=>rfl)) rfl (fun _=>rfl) fun g T E W hl hw hs z K J=>by
  have x6:=z.u g6
  have hC:=z.c
  have k0:=x82_0.out _ hC
  have hC:=z.c
  have k1:=x82_1.out _ hC
  have hC:=z.c
  have k2:=x82_2.out _ hC
  have hC:=z.c
  have k3:=x82_3.out _ hC
  have hC:=z.c
  have k4:=x82_4.out _ hC
  go_simp;exact J) ?_
 refine Ab (stH St 4 rfl rfl (wg 2 rfl rfl (by kernel_rfl) (fun _=>rfl)) rfl (fun _=>rfl) fun g T E W hl hw hs z K J=>by
  have x82:=z.x 3 hw rfl
  have hC:=z.c
  go_simp
  refine Calls.mono (C83.out W hC) ?_
  rintro e W2 ⟨rfl,hb⟩
  exact J _ hb) ?_
 refine Ab (stG St 5 rfl rfl (wg 2 rfl rfl (by kernel_rfl) (fun _=>rfl)) rfl (fun _=>rfl) fun g T E W hl hw hs z K J=>by
  have x83:=z.x 4 hw rfl
  go_simp;exact J) ?_
 refine Ab (stG St 6 rfl rfl (wg 2 rfl rfl (by kernel_rfl) (fun _=>rfl)) rfl (fun _=>rfl) fun g T E W hl hw hs z K J=>by
  have x84:=z.x 5 hw rfl
  go_simp;exact J) ?_
 refine Ab (stK 7 6 rfl rfl rfl (fun _=>rfl) (by kernel_rfl) (by decide) rfl (fun _=>by kernel_rfl)) ?_
 refine Ab (stK 8 6 rfl rfl rfl (fun _=>rfl) (by kernel_rfl) (by decide) rfl (fun _=>by kernel_rfl)) ?_
 refine Ab (stK 9 6 rfl rfl rfl (fun _=>rfl) (by kernel_rfl) (by decide) rfl (fun _=>by kernel_rfl)) ?_
 refine Ab (stK 10 6 rfl rfl rfl (fun _=>rfl) (by kernel_rfl) (by decide) rfl (fun _=>by kernel_rfl)) ?_
 refine Ab (stK 11 6 rfl rfl rfl (fun _=>rfl) (by kernel_rfl) (by decide) rfl (fun _=>by kernel_rfl)) ?_
 refine Ab (stG St 12 rfl rfl (wg 2 rfl rfl (by kernel_rfl) (fun _=>rfl)) rfl (fun _=>rfl) fun g T E W hl hw hs z K J=>by
  have x85:=z.x 6 hw rfl
  go_simp;exact J) ?_
 refine Ab (stV St 13 rfl rfl rfl (fun _=>rfl) fun g T E W hl hw hs z K J=>by
  have x81:=z.x 2 hw rfl
  have x91:=z.x 12 hw rfl
  go_simp;exact J) ?_
 ·exact Af
 ·intro g a W z q
  have hM9:Mem _ _ _ _:=q
  have x92:=z.v.get 13 rfl (by kernel_rfl)
  rw [z.f.eqs]
  exact hQ.out _   _ (by simp [x92]) (A8 hM9)
theorem Ir {Q:Exit→Act→World→Prop} {us:List Value} {bN bM:Nat} {c:Int} {sv:Value} {nc nr ms:Int} {lc kc lh kh:Nat} {ac ah:Option Addr} {hl:List ByteArray} {w W0:World} {L:BLs} {R:List RowD}    (x82_0:Hid (∀ W,Mem w L R W→W.cell? ⟨bN,0,none⟩=some (.int .i64 nc))) (x82_1:Hid (∀ W,Mem w L R W→W.cell? ⟨bN,1,none⟩=some (.int .i64 nr))) (x82_2:Hid (∀ W,Mem w L R W→W.cell? ⟨bN,2,none⟩=some (.slice ac lc kc))) (x82_3:Hid (∀ W,Mem w L R W→W.cell? ⟨bN,3,none⟩=some (.slice ah lh kh))) (x82_4:Hid (∀ W,Mem w L R W→W.cell? ⟨bN,4,none⟩=some (.int .i64 ms))) (C83:Hid (∀ W,Mem w L R W→Calls Tryz.prog 30 #[.agg #[.int .i64 nc,.int .i64 nr,.slice ac lc kc,.slice ah lh kh,.int .i64 ms]] W (Rets W (.bool false)))) (x86_0:Hid (∀ W,Mem w L R W→W.cell? ⟨bM,0,none⟩=some (.int .i64 c))) (x86_1:Hid (∀ W,Mem w L R W→W.cell? ⟨bM,1,none⟩=some (sv))) (x87_0:Hid (∀ W,Mem w L R W→W.cell? ⟨bN,0,none⟩=some (.int .i64 nc))) (x87_1:Hid (∀ W,Mem w L R W→W.cell? ⟨bN,1,none⟩=some (.int .i64 nr))) (x87_2:Hid (∀ W,Mem w L R W→W.cell? ⟨bN,2,none⟩=some (.slice ac lc kc))) (x87_3:Hid (∀ W,Mem w L R W→W.cell? ⟨bN,3,none⟩=some (.slice ah lh kh))) (x87_4:Hid (∀ W,Mem w L R W→W.cell? ⟨bN,4,none⟩=some (.int .i64 ms))) (C88:Hid (∀ W,Mem w L R W→Calls Tryz.prog 17 #[.agg #[.int .i64 nc,.int .i64 nr,.slice ac lc kc,.slice ah lh kh,.int .i64 ms]] W fun e W'=>∃ (ag:Option Addr) (lg:Nat) (kg:Nat),e=.returned (.agg #[.slice ag lg kg,.string ⟨#[49]⟩])∧SlS W' (.slice ag lg kg) hl∧Below W.heap.size W W')) (C89:Hid (∀ W (ag:Option Addr) (lg:Nat) (kg:Nat),Mem w L R W→SlS W (.slice ag lg kg) hl→Calls Tryz.prog 19 #[.agg #[.int .i64 c,sv],.agg #[.slice ag lg kg,.string ⟨#[49]⟩]] W (Rets W (.bool true)))) (h0:Hid (Mem w L R W0)) (hN:us.length=159) (g6:us[6]? = some (.pointer (some ⟨bN,0,none⟩))) (g17:us[17]? = some (.pointer (some ⟨bM,0,none⟩))) (g19:us[19]? = some (.int .i64 0)) {ops:Array Oper} (ho:getOps Tryz.f5.body 11=some ops)
  (hQ:∀ (x:Nat→Value)  (W':World),x 92=.bool false→Hid (Mem w L R W')→Q .normal { tmps:=(sets [79,80,81,82,83,84,85,86,87,88,89,90,91,92] x us).toArray,defers:=[] } W') :
  (Code.region 11 ops true).wp Tryz.prog Q { tmps:=us.toArray,defers:=[] } W0:=by
 obtain rfl:=Option.some.inj (ho.symm.trans (rfl:getOps Tryz.f5.body 11=some _))
 clear ho
 replace hQ:=A8 hQ
 let Fl:Unit→FL:=fun g=>[some (79,.int .i64 0),some (80,.bool false),some (81,.bool false),some (82,.agg #[.int .i64 nc,.int .i64 nr,.slice ac lc kc,.slice ah lh kh,.int .i64 ms]),some (83,.bool false),some (84,.bool true),some (85,.bool true),some (86,.agg #[.int .i64 c,sv]),some (87,.agg #[.int .i64 nc,.int .i64 nr,.slice ac lc kc,.slice ah lh kh,.int .i64 ms]),none,some (89,.bool true),some (90,.bool false),some (91,.bool false),some (92,.bool false)]
 let Ml:Unit→ML:=fun g=>[(9,88,(fun yv W=>∃ (ag:Option Addr) (lg:Nat) (kg:Nat),yv=.agg #[.slice ag lg kg,.string ⟨#[49]⟩]∧SlS W (.slice ag lg kg) hl),none)]
 let Sl_:Unit→List (World→Prop):=fun g=>[fun W=>Mem w L R W]
 have St:RgS 159 [79,80,81,82,83,84,85,86,87,88,89,90,91,92] [9] Fl Ml (Mem w L R) Sl_:=⟨fun _=>by kernel_rfl,fun _=>rfl,fun _ _ hb h=>h.call hb,fun g=>List.forall_mem_cons.2 ⟨fun yv W W' hb=>fun ⟨g0,g1,g2,e,h⟩=>⟨g0,g1,g2,e,h.below hb⟩,(fun _ h=>by cases h)⟩,fun g=>List.forall_mem_cons.2 ⟨fun W W' hb h=>h.call hb,(fun _ h=>by cases h)⟩⟩
 refine Aq 159 us [79,80,81,82,83,84,85,86,87,88,89,90,91,92] Fl Ml [] (Mem w L R) Sl_ hN (by kernel_rfl) (by kernel_rfl) () h0.out.drew h0.out.drew (by kernel_rfl) ?_ ?_
 refine Ab (stV St 0 rfl rfl rfl (fun _=>rfl) fun g T E W hl hw hs z K J=>by
  have x19:=z.u g19
  go_simp;exact J) ?_
 refine Ab (stV St 1 rfl rfl rfl (fun _=>rfl) fun g T E W hl hw hs z K J=>by
  have x79:=z.x 0 hw rfl
  go_simp;exact J) ?_
 refine Ab (stV St 2 rfl rfl rfl (fun _=>rfl) fun g T E W hl hw hs z K J=>by
  have x80:=z.x 1 hw rfl
  go_simp;exact J) ?_
 refine Ab (stG St 3 rfl rfl (wg 2 rfl rfl (by kernel_rfl) (fun _=>rfl)) rfl (fun _=>rfl) fun g T E W hl hw hs z K J=>by
  have x6:=z.u g6
  have hC:=z.c
  have k0:=x82_0.out _ hC
  have hC:=z.c
  have k1:=x82_1.out _ hC
  have hC:=z.c
  have k2:=x82_2.out _ hC
  have hC:=z.c
  have k3:=x82_3.out _ hC
  have hC:=z.c
  have k4:=x82_4.out _ hC
  go_simp;exact J) ?_
 refine Ab (stH St 4 rfl rfl (wg 2 rfl rfl (by kernel_rfl) (fun _=>rfl)) rfl (fun _=>rfl) fun g T E W hl hw hs z K J=>by
  have x82:=z.x 3 hw rfl
  have hC:=z.c
  go_simp
  refine Calls.mono (C83.out W hC) ?_
  rintro e W2 ⟨rfl,hb⟩
  exact J _ hb) ?_
 refine Ab (stG St 5 rfl rfl (wg 2 rfl rfl (by kernel_rfl) (fun _=>rfl)) rfl (fun _=>rfl) fun g T E W hl hw hs z K J=>by
  have x83:=z.x 4 hw rfl
  go_simp;exact J) ?_
 refine Ab (stG St 6 rfl rfl (wg 2 rfl rfl (by kernel_rfl) (fun _=>rfl)) rfl (fun _=>rfl) fun g T E W hl hw hs z K J=>by
  have x84:=z.x 5 hw rfl
  go_simp;exact J) ?_
 refine Ab (stG St 7 rfl rfl (wg 6 rfl rfl (by kernel_rfl) (fun _=>rfl)) rfl (fun _=>rfl) fun g T E W hl hw hs z K J=>by
  have x17:=z.u g17
  have hC:=z.c
  have k0:=x86_0.out _ hC
  have hC:=z.c
  have k1:=x86_1.out _ hC
  go_simp;exact J) ?_
 refine Ab (stG St 8 rfl rfl (wg 6 rfl rfl (by kernel_rfl) (fun _=>rfl)) rfl (fun _=>rfl) fun g T E W hl hw hs z K J=>by
  have x6:=z.u g6
  have hC:=z.c
  have k0:=x87_0.out _ hC
  have hC:=z.c
  have k1:=x87_1.out _ hC
  have hC:=z.c
  have k2:=x87_2.out _ hC
  have hC:=z.c
  have k3:=x87_3.out _ hC
  have hC:=z.c
  have k4:=x87_4.out _ hC
  go_simp;exact J) ?_
 refine Ab (stM St 9 0 rfl rfl (wg 6 rfl rfl (by kernel_rfl) (fun _=>rfl)) (fun _=>rfl) (fun _=>by kernel_rfl) fun g T E W hl hw hs z K J=>by
  have x87:=z.x 8 hw rfl
  have hC:=z.c
  go_simp
  refine Calls.mono (C88.out W hC) ?_
  rintro e W2 ⟨ag,lg,kg,rfl,hp,hb⟩
  exact J _ _ hb ⟨ag,lg,kg,rfl,hp⟩) ?_
 refine Ab (stH St 10 rfl rfl (wg 6 rfl rfl (by kernel_rfl) (fun _=>rfl)) rfl (fun _=>rfl) fun g T E W hl hw hs z K J=>by
  have x86:=z.x 7 hw rfl
  obtain ⟨_,x88,ag,lg,kg,rfl,hm9⟩:=z.y 0 hl hw hs rfl
  have hC:=z.c
  go_simp
  refine Calls.mono (C89.out W ag lg kg hC hm9) ?_
  rintro e W2 ⟨rfl,hb⟩
  exact J _ hb) ?_
 refine Ab (stG St 11 rfl rfl (wg 6 rfl rfl (by kernel_rfl) (fun _=>rfl)) rfl (fun _=>rfl) fun g T E W hl hw hs z K J=>by
  have x89:=z.x 10 hw rfl
  go_simp;exact J) ?_
 refine Ab (stG St 12 rfl rfl (wg 2 rfl rfl (by kernel_rfl) (fun _=>rfl)) rfl (fun _=>rfl) fun g T E W hl hw hs z K J=>by
  have x85:=z.x 6 hw rfl
  have x90:=z.x 11 hw rfl
  go_simp;exact J) ?_
 refine Ab (stV St 13 rfl rfl rfl (fun _=>rfl) fun g T E W hl hw hs z K J=>by
  have x81:=z.x 2 hw rfl
  have x91:=z.x 12 hw rfl
  go_simp;exact J) ?_
 ·exact Af
 ·intro g a W z q
  have hM9:Mem _ _ _ _:=q
  have x92:=z.v.get 13 rfl (by kernel_rfl)
  rw [z.f.eqs]
  exact hQ.out _   _ (by simp [x92]) (A8 hM9)
theorem exc_r17 {Q:Exit→Act→World→Prop} {us:List Value} {bN bO bB bX no ko nb kb:Nat} {ao ab:Option Addr} {lv:Value} {do_ db dv:ByteArray} {den c:Int} {vl:List ByteArray} {nc nr ms:Int} {lc kc lh kh:Nat} {ac ah:Option Addr} {hl:List ByteArray} {w W0:World} {L:BLs} {R:List RowD}    (x101_0:Hid (∀ W,Mem w L R W→W.cell? ⟨bN,0,none⟩=some (.int .i64 nc))) (x101_1:Hid (∀ W,Mem w L R W→W.cell? ⟨bN,1,none⟩=some (.int .i64 nr))) (x101_2:Hid (∀ W,Mem w L R W→W.cell? ⟨bN,2,none⟩=some (.slice ac lc kc))) (x101_3:Hid (∀ W,Mem w L R W→W.cell? ⟨bN,3,none⟩=some (.slice ah lh kh))) (x101_4:Hid (∀ W,Mem w L R W→W.cell? ⟨bN,4,none⟩=some (.int .i64 ms))) (C102:Hid (∀ W,Mem w L R W→Calls Tryz.prog 17 #[.agg #[.int .i64 nc,.int .i64 nr,.slice ac lc kc,.slice ah lh kh,.int .i64 ms]] W fun e W'=>∃ (ag:Option Addr) (lg:Nat) (kg:Nat),e=.returned (.agg #[.slice ag lg kg,.string ⟨#[49]⟩])∧SlS W' (.slice ag lg kg) hl∧Below W.heap.size W W')) (x104:Hid (∀ W,Mem w L R W→W.cell? ⟨bX,0,none⟩=some (.int .i64 c))) (C107:Hid (∀ W,Mem w L R W→Calls Tryz.prog 18 #[.int .i64 c,lv,.int .i64 den] W fun e W'=>∃ (ax:Option Addr) (lx:Nat) (kx:Nat),e=.returned (.agg #[.slice ax lx kx,.string dv])∧SlS W' (.slice ax lx kx) vl∧Below W.heap.size W W')) (x108_0:Hid (∀ W,Mem w L R W→W.cell? ⟨bO,0,none⟩=some (.slice ao no ko))) (x108_1:Hid (∀ W,Mem w L R W→W.cell? ⟨bO,1,none⟩=some (.string do_))) (x110_0:Hid (∀ W,Mem w L R W→W.cell? ⟨bB,1,none⟩=some (.slice ab nb kb))) (x110_1:Hid (∀ W,Mem w L R W→W.cell? ⟨bB,2,none⟩=some (.string db))) (h0:Hid (Mem w L R W0)) (hN:us.length=159) (g2:us[2]? = some (lv)) (g3:us[3]? = some (.int .i64 den)) (g6:us[6]? = some (.pointer (some ⟨bN,0,none⟩))) (g10:us[10]? = some (.pointer (some ⟨bO,0,none⟩))) (g18:us[18]? = some (.pointer (some ⟨bB,0,none⟩))) (g21:us[21]? = some (.pointer (some ⟨bX,0,none⟩))) {ops:Array Oper} (ho:getOps Tryz.f5.body 17=some ops)
  (hQ:∀ (x:Nat→Value)  (g111:Nat) (ag:Option Addr) (lg:Nat) (kg:Nat) (ax:Option Addr) (lx:Nat) (kx:Nat) (W':World),x 111=.slice (some ⟨g111,0,none⟩) 4 4→x 112=.int .i64 4→x 113=.int .i64 0→Hid (Blk W' g111 #[.slice ag lg kg,.string ⟨#[49]⟩,.slice ax lx kx,.string dv,.slice ao no ko,.string do_,.slice ab nb kb,.string db] 30∧SlS W' (.slice ag lg kg) hl∧SlS W' (.slice ax lx kx) vl)→Hid (Mem w L R W')→Q .normal { tmps:=(sets [101,102,103,104,105,106,107,108,109,110,111,112,113] x us).toArray,defers:=[] } W') :
  (Code.region 17 ops true).wp Tryz.prog Q { tmps:=us.toArray,defers:=[] } W0:=by
 obtain rfl:=Option.some.inj (ho.symm.trans (rfl:getOps Tryz.f5.body 17=some _))
 clear ho
 replace hQ:=A8 hQ
 let Fl:Unit→FL:=fun g=>[some (101,.agg #[.int .i64 nc,.int .i64 nr,.slice ac lc kc,.slice ah lh kh,.int .i64 ms]),none,some (103,.pointer (some ⟨bX,0,none⟩)),some (104,.int .i64 c),some (105,lv),some (106,.int .i64 den),none,some (108,.agg #[.slice ao no ko,.string do_]),some (109,.pointer (some ⟨bB,1,none⟩)),some (110,.agg #[.slice ab nb kb,.string db]),none,some (112,.int .i64 4),some (113,.int .i64 0)]
 let Ml:Unit→ML:=fun g=>[(1,102,(fun yv W=>∃ (ag:Option Addr) (lg:Nat) (kg:Nat),yv=.agg #[.slice ag lg kg,.string ⟨#[49]⟩]∧SlS W (.slice ag lg kg) hl),none),(6,107,(fun yv W=>∃ (ax:Option Addr) (lx:Nat) (kx:Nat),yv=.agg #[.slice ax lx kx,.string dv]∧SlS W (.slice ax lx kx) vl),none),(10,111,(fun yv W=>∃ (g111:Nat) (ag:Option Addr) (lg:Nat) (kg:Nat) (ax:Option Addr) (lx:Nat) (kx:Nat),yv=.slice (some ⟨g111,0,none⟩) 4 4∧Blk W g111 #[.slice ag lg kg,.string ⟨#[49]⟩,.slice ax lx kx,.string dv,.slice ao no ko,.string do_,.slice ab nb kb,.string db] 30∧SlS W (.slice ag lg kg) hl∧SlS W (.slice ax lx kx) vl),none)]
 let Sl_:Unit→List (World→Prop):=fun g=>[fun W=>Mem w L R W]
 have St:RgS 159 [101,102,103,104,105,106,107,108,109,110,111,112,113] [1,6,10] Fl Ml (Mem w L R) Sl_:=⟨fun _=>by kernel_rfl,fun _=>rfl,fun _ _ hb h=>h.call hb,fun g=>List.forall_mem_cons.2 ⟨fun yv W W' hb=>fun ⟨g0,g1,g2,e,h⟩=>⟨g0,g1,g2,e,h.below hb⟩,List.forall_mem_cons.2 ⟨fun yv W W' hb=>fun ⟨g0,g1,g2,e,h⟩=>⟨g0,g1,g2,e,h.below hb⟩,List.forall_mem_cons.2 ⟨fun yv W W' hb=>fun ⟨g,ag,lg,kg,ax,lx,kx,e,h,p0,p1⟩=>⟨g,ag,lg,kg,ax,lx,kx,e,h.below hb,p0.below hb,p1.below hb⟩,(fun _ h=>by cases h)⟩⟩⟩,fun g=>List.forall_mem_cons.2 ⟨fun W W' hb h=>h.call hb,(fun _ h=>by cases h)⟩⟩
 refine Aq 159 us [101,102,103,104,105,106,107,108,109,110,111,112,113] Fl Ml [] (Mem w L R) Sl_ hN (by kernel_rfl) (by kernel_rfl) () h0.out.drew h0.out.drew (by kernel_rfl) ?_ ?_
 refine Ab (stV St 0 rfl rfl rfl (fun _=>rfl) fun g T E W hl hw hs z K J=>by
  have x6:=z.u g6
  have hC:=z.c
  have k0:=x101_0.out _ hC
  have hC:=z.c
  have k1:=x101_1.out _ hC
  have hC:=z.c
  have k2:=x101_2.out _ hC
  have hC:=z.c
  have k3:=x101_3.out _ hC
  have hC:=z.c
  have k4:=x101_4.out _ hC
  go_simp;exact J) ?_
 refine Ab (stM St 1 0 rfl rfl (.inl rfl) (fun _=>rfl) (fun _=>by kernel_rfl) fun g T E W hl hw hs z K J=>by
  have x101:=z.x 0 hw rfl
  have hC:=z.c
  go_simp
  refine Calls.mono (C102.out W hC) ?_
  rintro e W2 ⟨ag,lg,kg,rfl,hp,hb⟩
  exact J _ _ hb ⟨ag,lg,kg,rfl,hp⟩) ?_
 refine Ab (stV St 2 rfl rfl rfl (fun _=>rfl) fun g T E W hl hw hs z K J=>by
  have x21:=z.u g21
  go_simp;exact J) ?_
 refine Ab (stV St 3 rfl rfl rfl (fun _=>rfl) fun g T E W hl hw hs z K J=>by
  have x103:=z.x 2 hw rfl
  have hC:=z.c
  have k0:=x104.out _ hC
  go_simp;exact J) ?_
 refine Ab (stV St 4 rfl rfl rfl (fun _=>rfl) fun g T E W hl hw hs z K J=>by
  have x2:=z.u g2
  go_simp;exact J) ?_
 refine Ab (stV St 5 rfl rfl rfl (fun _=>rfl) fun g T E W hl hw hs z K J=>by
  have x3:=z.u g3
  go_simp;exact J) ?_
 refine Ab (stM St 6 1 rfl rfl (.inl rfl) (fun _=>rfl) (fun _=>by kernel_rfl) fun g T E W hl hw hs z K J=>by
  have x104:=z.x 3 hw rfl
  have x105:=z.x 4 hw rfl
  have x106:=z.x 5 hw rfl
  have hC:=z.c
  go_simp
  refine Calls.mono (C107.out W hC) ?_
  rintro e W2 ⟨ax,lx,kx,rfl,hp,hb⟩
  exact J _ _ hb ⟨ax,lx,kx,rfl,hp⟩) ?_
 refine Ab (stV St 7 rfl rfl rfl (fun _=>rfl) fun g T E W hl hw hs z K J=>by
  have x10:=z.u g10
  have hC:=z.c
  have k0:=x108_0.out _ hC
  have hC:=z.c
  have k1:=x108_1.out _ hC
  go_simp;exact J) ?_
 refine Ab (stV St 8 rfl rfl rfl (fun _=>rfl) fun g T E W hl hw hs z K J=>by
  have x18:=z.u g18
  go_simp;exact J) ?_
 refine Ab (stV St 9 rfl rfl rfl (fun _=>rfl) fun g T E W hl hw hs z K J=>by
  have x109:=z.x 8 hw rfl
  have hC:=z.c
  have k0:=x110_0.out _ hC
  have hC:=z.c
  have k1:=x110_1.out _ hC
  go_simp;exact J) ?_
 refine Ab (stM St 10 2 rfl rfl (.inl rfl) (fun _=>rfl) (fun _=>by kernel_rfl) fun g T E W hl hw hs z K J=>by
  obtain ⟨_,x102,ag,lg,kg,rfl,hm1⟩:=z.y 0 hl hw hs rfl
  obtain ⟨_,x107,ax,lx,kx,rfl,hm6⟩:=z.y 1 hl hw hs rfl
  have x108:=z.x 7 hw rfl
  have x110:=z.x 9 hw rfl
  go_simp;exact J _ _ ((Below.refl _ _).alloc (Aa _) _) ⟨_,ag,lg,kg,ax,lx,kx,rfl,Blk.new _ _ _,hm1.below ((Below.refl _ _).alloc (Aa _) _),hm6.below ((Below.refl _ _).alloc (Aa _) _)⟩) ?_
 refine Ab (stV St 11 rfl rfl rfl (fun _=>rfl) fun g T E W hl hw hs z K J=>by
  obtain ⟨_,x111,g111,ag,lg,kg,ax,lx,kx,rfl,hb10,_hq0,_hq1⟩:=z.y 2 hl hw hs rfl
  go_simp;exact J) ?_
 refine Ab (stV St 12 rfl rfl rfl (fun _=>rfl) fun g T E W hl hw hs z K J=>by
  go_simp;exact J) ?_
 ·exact Af
 ·intro g a W z q
  have hM9:Mem _ _ _ _:=q
  have x112:=z.v.get 11 rfl (by kernel_rfl)
  have x113:=z.v.get 12 rfl (by kernel_rfl)
  obtain ⟨_,x111,g111,ag,lg,kg,ax,lx,kx,rfl,ho111⟩:=z.m.get 2 rfl (by kernel_rfl) rfl
  rw [z.f.eqs]
  exact hQ.out _  g111 ag lg kg ax lx kx _ (by simp [x111]) (by simp [x112]) (by simp [x113]) (A8 ho111) (A8 hM9)
theorem exc_r23 {Q:Exit→Act→World→Prop} {us:List Value} {bA bB bX hm hk m1 mr kr na ka nb kb:Nat} {hb ar aa ab:Option Addr} {lv wv:Value} {wl cl:List ByteArray} {w W0:World} {L:BLs} {R:List RowD}    (h128:IntKind.i64.wrap ((hm:Int)-1)=(m1:Int)) (h129:m1≤hk) (x131:Hid (∀ W,Mem w L R W→W.cell? ⟨bA,3,none⟩=some (.slice aa na ka))) (x133:Hid (∀ W,Mem w L R W→W.cell? ⟨bB,3,none⟩=some (.slice ab nb kb))) (x135:Hid (∀ W,Mem w L R W→W.cell? ⟨bX,1,none⟩=some (.slice ar mr kr))) (C138:Hid (∀ W,Mem w L R W→Calls Tryz.prog 27 #[.int .i64 mr,lv] W fun e W'=>∃ (ag:Option Addr) (lg:Nat) (kg:Nat),e=.returned (.slice ag lg kg)∧SlS W' (.slice ag lg kg) wl∧Below W.heap.size W W')) (C140:Hid (∀ W,Mem w L R W→Calls Tryz.prog 10 #[wv] W fun e W'=>∃ (ax:Option Addr) (lx:Nat) (kx:Nat),e=.returned (.slice ax lx kx)∧SlS W' (.slice ax lx kx) cl∧Below W.heap.size W W')) (h0:Hid (Mem w L R W0)) (hN:us.length=159) (g2:us[2]? = some (lv)) (g5:us[5]? = some (wv)) (g14:us[14]? = some (.slice hb hm hk)) (g15:us[15]? = some (.pointer (some ⟨bA,0,none⟩))) (g18:us[18]? = some (.pointer (some ⟨bB,0,none⟩))) (g21:us[21]? = some (.pointer (some ⟨bX,0,none⟩))) {ops:Array Oper} (ho:getOps Tryz.f5.body 23=some ops)
  (hQ:∀ (x:Nat→Value)  (g141:Nat) (ag:Option Addr) (lg:Nat) (kg:Nat) (ax:Option Addr) (lx:Nat) (kx:Nat) (W':World),x 141=.slice (some ⟨g141,0,none⟩) 6 6→x 142=.int .i64 6→x 143=.int .i64 0→Hid (Blk W' g141 #[.slice hb hm hk,.slice hb m1 hk,.slice aa na ka,.slice ab nb kb,.slice ag lg kg,.slice ax lx kx] 28∧SlS W' (.slice ag lg kg) wl∧SlS W' (.slice ax lx kx) cl)→Hid (Mem w L R W')→Q .normal { tmps:=(sets [124,125,126,127,128,129,130,131,132,133,134,135,136,137,138,139,140,141,142,143] x us).toArray,defers:=[] } W') :
  (Code.region 23 ops true).wp Tryz.prog Q { tmps:=us.toArray,defers:=[] } W0:=by
 obtain rfl:=Option.some.inj (ho.symm.trans (rfl:getOps Tryz.f5.body 23=some _))
 clear ho
 replace hQ:=A8 hQ
 let Fl:Unit→FL:=fun g=>[some (124,.slice hb hm hk),some (125,.slice hb hm hk),some (126,.slice hb hm hk),some (127,.int .i64 hm),some (128,.int .i64 m1),some (129,.slice hb m1 hk),some (130,.pointer (some ⟨bA,3,none⟩)),some (131,.slice aa na ka),some (132,.pointer (some ⟨bB,3,none⟩)),some (133,.slice ab nb kb),some (134,.pointer (some ⟨bX,1,none⟩)),some (135,.slice ar mr kr),some (136,.int .i64 mr),some (137,lv),none,some (139,wv),none,none,some (142,.int .i64 6),some (143,.int .i64 0)]
 let Ml:Unit→ML:=fun g=>[(14,138,(fun yv W=>∃ (ag:Option Addr) (lg:Nat) (kg:Nat),yv=.slice ag lg kg∧SlS W (.slice ag lg kg) wl),none),(16,140,(fun yv W=>∃ (ax:Option Addr) (lx:Nat) (kx:Nat),yv=.slice ax lx kx∧SlS W (.slice ax lx kx) cl),none),(17,141,(fun yv W=>∃ (g141:Nat) (ag:Option Addr) (lg:Nat) (kg:Nat) (ax:Option Addr) (lx:Nat) (kx:Nat),yv=.slice (some ⟨g141,0,none⟩) 6 6∧Blk W g141 #[.slice hb hm hk,.slice hb m1 hk,.slice aa na ka,.slice ab nb kb,.slice ag lg kg,.slice ax lx kx] 28∧SlS W (.slice ag lg kg) wl∧SlS W (.slice ax lx kx) cl),none)]
 let Sl_:Unit→List (World→Prop):=fun g=>[fun W=>Mem w L R W]
 have St:RgS 159 [124,125,126,127,128,129,130,131,132,133,134,135,136,137,138,139,140,141,142,143] [14,16,17] Fl Ml (Mem w L R) Sl_:=⟨fun _=>by kernel_rfl,fun _=>rfl,fun _ _ hb h=>h.call hb,fun g=>List.forall_mem_cons.2 ⟨fun yv W W' hb=>fun ⟨g0,g1,g2,e,h⟩=>⟨g0,g1,g2,e,h.below hb⟩,List.forall_mem_cons.2 ⟨fun yv W W' hb=>fun ⟨g0,g1,g2,e,h⟩=>⟨g0,g1,g2,e,h.below hb⟩,List.forall_mem_cons.2 ⟨fun yv W W' hb=>fun ⟨g,ag,lg,kg,ax,lx,kx,e,h,p0,p1⟩=>⟨g,ag,lg,kg,ax,lx,kx,e,h.below hb,p0.below hb,p1.below hb⟩,(fun _ h=>by cases h)⟩⟩⟩,fun g=>List.forall_mem_cons.2 ⟨fun W W' hb h=>h.call hb,(fun _ h=>by cases h)⟩⟩
 refine Aq 159 us [124,125,126,127,128,129,130,131,132,133,134,135,136,137,138,139,140,141,142,143] Fl Ml [] (Mem w L R) Sl_ hN (by kernel_rfl) (by kernel_rfl) () h0.out.drew h0.out.drew (by kernel_rfl) ?_ ?_
 refine Ab (stV St 0 rfl rfl rfl (fun _=>rfl) fun g T E W hl hw hs z K J=>by
  have x14:=z.u g14
  go_simp;exact J) ?_
 refine Ab (stV St 1 rfl rfl rfl (fun _=>rfl) fun g T E W hl hw hs z K J=>by
  have x14:=z.u g14
  go_simp;exact J) ?_
 refine Ab (stV St 2 rfl rfl rfl (fun _=>rfl) fun g T E W hl hw hs z K J=>by
  have x14:=z.u g14
  go_simp;exact J) ?_
 refine Ab (stV St 3 rfl rfl rfl (fun _=>rfl) fun g T E W hl hw hs z K J=>by
  have x126:=z.x 2 hw rfl
  go_simp;exact J) ?_
 refine Ab (stV St 4 rfl rfl rfl (fun _=>rfl) fun g T E W hl hw hs z K J=>by
  have x127:=z.x 3 hw rfl
  go_simp;exact J) ?_
 refine Ab (stV St 5 rfl rfl rfl (fun _=>rfl) fun g T E W hl hw hs z K J=>by
  have x125:=z.x 1 hw rfl
  have x128:=z.x 4 hw rfl
  go_simp;exact J) ?_
 refine Ab (stV St 6 rfl rfl rfl (fun _=>rfl) fun g T E W hl hw hs z K J=>by
  have x15:=z.u g15
  go_simp;exact J) ?_
 refine Ab (stV St 7 rfl rfl rfl (fun _=>rfl) fun g T E W hl hw hs z K J=>by
  have x130:=z.x 6 hw rfl
  have hC:=z.c
  have k0:=x131.out _ hC
  go_simp;exact J) ?_
 refine Ab (stV St 8 rfl rfl rfl (fun _=>rfl) fun g T E W hl hw hs z K J=>by
  have x18:=z.u g18
  go_simp;exact J) ?_
 refine Ab (stV St 9 rfl rfl rfl (fun _=>rfl) fun g T E W hl hw hs z K J=>by
  have x132:=z.x 8 hw rfl
  have hC:=z.c
  have k0:=x133.out _ hC
  go_simp;exact J) ?_
 refine Ab (stV St 10 rfl rfl rfl (fun _=>rfl) fun g T E W hl hw hs z K J=>by
  have x21:=z.u g21
  go_simp;exact J) ?_
 refine Ab (stV St 11 rfl rfl rfl (fun _=>rfl) fun g T E W hl hw hs z K J=>by
  have x134:=z.x 10 hw rfl
  have hC:=z.c
  have k0:=x135.out _ hC
  go_simp;exact J) ?_
 refine Ab (stV St 12 rfl rfl rfl (fun _=>rfl) fun g T E W hl hw hs z K J=>by
  have x135:=z.x 11 hw rfl
  go_simp;exact J) ?_
 refine Ab (stV St 13 rfl rfl rfl (fun _=>rfl) fun g T E W hl hw hs z K J=>by
  have x2:=z.u g2
  go_simp;exact J) ?_
 refine Ab (stM St 14 0 rfl rfl (.inl rfl) (fun _=>rfl) (fun _=>by kernel_rfl) fun g T E W hl hw hs z K J=>by
  have x136:=z.x 12 hw rfl
  have x137:=z.x 13 hw rfl
  have hC:=z.c
  go_simp
  refine Calls.mono (C138.out W hC) ?_
  rintro e W2 ⟨ag,lg,kg,rfl,hp,hb⟩
  exact J _ _ hb ⟨ag,lg,kg,rfl,hp⟩) ?_
 refine Ab (stV St 15 rfl rfl rfl (fun _=>rfl) fun g T E W hl hw hs z K J=>by
  have x5:=z.u g5
  go_simp;exact J) ?_
 refine Ab (stM St 16 1 rfl rfl (.inl rfl) (fun _=>rfl) (fun _=>by kernel_rfl) fun g T E W hl hw hs z K J=>by
  have x139:=z.x 15 hw rfl
  have hC:=z.c
  go_simp
  refine Calls.mono (C140.out W hC) ?_
  rintro e W2 ⟨ax,lx,kx,rfl,hp,hb⟩
  exact J _ _ hb ⟨ax,lx,kx,rfl,hp⟩) ?_
 refine Ab (stM St 17 2 rfl rfl (.inl rfl) (fun _=>rfl) (fun _=>by kernel_rfl) fun g T E W hl hw hs z K J=>by
  have x124:=z.x 0 hw rfl
  have x129:=z.x 5 hw rfl
  have x131:=z.x 7 hw rfl
  have x133:=z.x 9 hw rfl
  obtain ⟨_,x138,ag,lg,kg,rfl,hm14⟩:=z.y 0 hl hw hs rfl
  obtain ⟨_,x140,ax,lx,kx,rfl,hm16⟩:=z.y 1 hl hw hs rfl
  go_simp;exact J _ _ ((Below.refl _ _).alloc (Aa _) _) ⟨_,ag,lg,kg,ax,lx,kx,rfl,Blk.new _ _ _,hm14.below ((Below.refl _ _).alloc (Aa _) _),hm16.below ((Below.refl _ _).alloc (Aa _) _)⟩) ?_
 refine Ab (stV St 18 rfl rfl rfl (fun _=>rfl) fun g T E W hl hw hs z K J=>by
  obtain ⟨_,x141,g141,ag,lg,kg,ax,lx,kx,rfl,hb17,_hq0,_hq1⟩:=z.y 2 hl hw hs rfl
  go_simp;exact J) ?_
 refine Ab (stV St 19 rfl rfl rfl (fun _=>rfl) fun g T E W hl hw hs z K J=>by
  go_simp;exact J) ?_
 ·exact Af
 ·intro g a W z q
  have hM9:Mem _ _ _ _:=q
  have x142:=z.v.get 18 rfl (by kernel_rfl)
  have x143:=z.v.get 19 rfl (by kernel_rfl)
  obtain ⟨_,x141,g141,ag,lg,kg,ax,lx,kx,rfl,ho141⟩:=z.m.get 2 rfl (by kernel_rfl) rfl
  rw [z.f.eqs]
  exact hQ.out _  g141 ag lg kg ax lx kx _ (by simp [x141]) (by simp [x142]) (by simp [x143]) (A8 ho141) (A8 hM9)
def Acc (c:Nat) (rows:List (List Int×Int)) (ok:Bool):Prop:=ok=true→∃ nums den,checkL c rows nums den=true
def Ref (c:Nat) (rows:List (List Int×Int)) (ok:Bool):Prop:=ok=true→∃ ws,refutesL c rows ws=true
theorem acc_ref {c:Nat} {rows:List (List Int×Int)} {a b:Bool} (h1:Acc c rows a) (h2:Ref c rows b):(a&&b)=false:=by
 cases ha:a with
 | false=>rfl
 | true =>
  cases hb:b with
  | false=>rfl
  | true =>
   obtain ⟨nums,den,hc⟩:=h1 ha
   obtain ⟨ws,hr⟩:=h2 hb
   have hl:=(CA hc).2.2
   have hs:=Dr hc
   rw [show nums.length=c by omega] at hs
   exact (Ed hs (CT hr)).elim
theorem exc_l2 {Q:Exit→Act→World→Prop} {u0 u1 u2 u3 u4 u5 u6 u7 u8 u9 u10 u11 u12 u13 u14 u15 u16 u17 u18 u19 u20 u23 u24 u25 u26 u27 u28 u29 u30 u31 u32 u33 u34 u35 u36 u37 u38 u39 u40 u41 u42 u43 u44 u45 u46 u47 u48 u49 u50 u51 u52 u53 u54 u55 u56 u57 u58 u59 u60 u61 u62 u63 u64 u65 u66 u67 u68 u69 u70 u71 u72 u73 u74 u75 u76 u77 u78 u79 u80 u81 u82 u83 u84 u85 u86 u87 u88 u89 u90 u91 u92 u93 u94 u95 u96 u97 u98 u99 u100 u101 u102 u103 u104 u105 u106 u107 u108 u109 u110 u114 u115 u116 u117 u118 u119 u120 u121 u122 u123 u124 u125 u126 u127 u128 u129 u130 u131 u132 u133 u134 u135 u136 u137 u138 u139 u140 u141 u142 u143 u144 u145 u146 u147 u148 u149 u150 u151 u152 u153 u154 u155 u156 u157 u158:Value} {bX g c:Nat} {sv:Value} {rows:List (List Int×Int)} {vv:Nat→Value} {ll:Nat→List ByteArray} {dd:Nat→ByteArray} {w:World} (hE:Hid (Env w)) (hb:Hid (bX<w.heap.size∧g<w.heap.size)) (hX:Hid (w.cell? ⟨bX,0,none⟩=some (.int .i64 c)∧w.cell? ⟨bX,1,none⟩=some sv)) (hR:Hid (SlE w sv rows))
  (hA:Hid (∀ j,j<4→w.cell? ⟨g,j*2,none⟩=some (vv j)∧w.cell? ⟨g,j*2+1,none⟩=some (.string (dd j))∧SlS w (vv j) (ll j))) {body:Code} (hbody:getLoop Tryz.f5.body 2=some body)
  (hQ:∀ (ac:Bool) (v24 v113 v114 v115 v116 v117 v118 v119 v120 v121 v122 v123:Value) (W':World),Hid (Acc c rows ac∧Below w.heap.size w W')→Q (.exit 2) { tmps:=List.toArray (u0::u1::u2::u3::u4::u5::u6::u7::u8::u9::u10::u11::u12::u13::u14::u15::u16::u17::u18::u19::u20::.pointer (some ⟨bX,0,none⟩)::.bool ac::u23::v24::u25::u26::u27::u28::u29::u30::u31::u32::u33::u34::u35::u36::u37::u38::u39::u40::u41::u42::u43::u44::u45::u46::u47::u48::u49::u50::u51::u52::u53::u54::u55::u56::u57::u58::u59::u60::u61::u62::u63::u64::u65::u66::u67::u68::u69::u70::u71::u72::u73::u74::u75::u76::u77::u78::u79::u80::u81::u82::u83::u84::u85::u86::u87::u88::u89::u90::u91::u92::u93::u94::u95::u96::u97::u98::u99::u100::u101::u102::u103::u104::u105::u106::u107::u108::u109::u110::.slice (some ⟨g,0,none⟩) 4 4::.int .i64 4::v113::v114::v115::v116::v117::v118::v119::v120::v121::v122::v123::u124::u125::u126::u127::u128::u129::u130::u131::u132::u133::u134::u135::u136::u137::u138::u139::u140::u141::u142::u143::u144::u145::u146::u147::u148::u149::u150::u151::u152::u153::u154::u155::u156::u157::u158::[]),defers:=[] } W') :
  (Code.loop body).wp Tryz.prog Q { tmps:=List.toArray (u0::u1::u2::u3::u4::u5::u6::u7::u8::u9::u10::u11::u12::u13::u14::u15::u16::u17::u18::u19::u20::.pointer (some ⟨bX,0,none⟩)::.bool false::u23::u24::u25::u26::u27::u28::u29::u30::u31::u32::u33::u34::u35::u36::u37::u38::u39::u40::u41::u42::u43::u44::u45::u46::u47::u48::u49::u50::u51::u52::u53::u54::u55::u56::u57::u58::u59::u60::u61::u62::u63::u64::u65::u66::u67::u68::u69::u70::u71::u72::u73::u74::u75::u76::u77::u78::u79::u80::u81::u82::u83::u84::u85::u86::u87::u88::u89::u90::u91::u92::u93::u94::u95::u96::u97::u98::u99::u100::u101::u102::u103::u104::u105::u106::u107::u108::u109::u110::.slice (some ⟨g,0,none⟩) 4 4::.int .i64 4::.int .i64 0::u114::u115::u116::u117::u118::u119::u120::u121::u122::u123::u124::u125::u126::u127::u128::u129::u130::u131::u132::u133::u134::u135::u136::u137::u138::u139::u140::u141::u142::u143::u144::u145::u146::u147::u148::u149::u150::u151::u152::u153::u154::u155::u156::u157::u158::[]),defers:=[] } w:=by
 obtain rfl:=Option.some.inj (hbody.symm.trans (rfl:getLoop Tryz.f5.body 2=some _))
 clear hbody
 replace hQ:=A8 hQ
 go_loopw [22,113] (fun t s wr=>∃ (ac:Bool) (j:Nat),t=.bool ac∧s=.int .i64 j∧j≤4∧Hid (Acc c rows ac∧Mem w [] [] wr)) (fun _ s _=>4-(intOf s).toNat)
 case atStart=>exact ⟨false,0,rfl,rfl,by omega,A8 ⟨(fun h=>by cases h),Mem.start w⟩⟩
 case round =>
  obtain ⟨ac,j,rfl,rfl,hj,hM⟩:=hrel
  by_cases hj4:j<4
  case neg =>
   have hj4':¬ (j:Int)<4:=by omega
   go_wp2_with fail
   exact hQ.out ac _ _ _ _ _ _ _ _ _ _ _ _ _ (A8 ⟨hM.out.1,hM.out.2.below⟩)
  case pos =>
   have hj4':(j:Int)<4:=by omega
   have hj0:(0:Int)≤j:=by omega
   obtain ⟨a1,a2,a3⟩:=hA.out j hj4
   obtain ⟨d,hd⟩:∃ d,d=dd j:=⟨_,rfl⟩
   obtain ⟨l,hl⟩:∃ l,l=ll j:=⟨_,rfl⟩
   rw [←hd] at a2
   rw [←hl] at a3
   obtain ⟨na,nc,hv⟩:=a3.shape
   rw [hv] at a1 a3
   clear hd hl hv
   obtain ⟨n,hn⟩:∃ n,n=l.length:=⟨_,rfl⟩
   rw [←hn] at a1 a3
   clear hn
   have x0:=hM.out.2.old hb.out.2 a1
   have x1:=hM.out.2.old hb.out.2 a2
   have a3:=A8 a3
   obtain ⟨V1,bV,e1,eB,S1⟩:=hM.out.2.addB #[.slice na n nc,.string d] 30
   have hM1:=A8 S1
   have hac:=A8 hM.out.1
   clear S1 a1 a2
   go_upto_region 20 with fail
   rw [←e1,←eB]
   clear e1 eB x0 x1 hM
   cases ac with
   | true =>
    go_wp2_with fail
    go_roundw
    case rel=>exact ⟨true,j+1,by rfl,by go_num,by omega,A8 ⟨hac.out,hM1.out.tail⟩⟩
    case measure=>simp [intOf];omega
   | false =>
    have CH:=Cv c sv (.slice na n nc) rows l d V1 (hE.out.below hM1.out.below (Aa _)) (hR.out.below hM1.out.below) (a3.out.below hM1.out.below)
    obtain ⟨ok,hok⟩:∃ ok,ok=checkL c rows l d:=⟨_,rfl⟩
    rw [←hok] at CH
    have hac2:=A8 (show Acc c rows ok from fun h=>⟨l,d,by rw [←hok];exact h⟩)
    replace CH:=A8 CH
    clear hok
    have y0:=hM1.out.old hb.out.1 hX.out.1
    have y1:=hM1.out.old hb.out.1 hX.out.2
    have y2:=(hM1.out.cell _ _ _ (.head _) 0).trans (show _=some (Value.slice na n nc) from rfl)
    have y3:=(hM1.out.cell _ _ _ (.head _) 1).trans (show _=some (Value.string d) from rfl)
    go_wp2_with fail
    refine Calls.mono CH.out ?_
    rintro e w1 ⟨rfl,hb1⟩
    replace hM1:=A8 (hM1.out.call hb1)
    clear y0 y1 y2 y3 hb1 CH
    go_wp2_with fail
    go_roundw
    case rel=>exact ⟨ok,j+1,by rfl,by go_num,by omega,A8 ⟨hac2.out,hM1.out.tail⟩⟩
    case measure=>simp [intOf];omega
theorem exc_l4 {Q:Exit→Act→World→Prop} {u0 u1 u2 u3 u4 u5 u6 u7 u8 u9 u10 u11 u12 u13 u14 u15 u16 u17 u18 u19 u20 u22 u23 u24 u26 u27 u28 u29 u30 u31 u32 u33 u34 u35 u36 u37 u38 u39 u40 u41 u42 u43 u44 u45 u46 u47 u48 u49 u50 u51 u52 u53 u54 u55 u56 u57 u58 u59 u60 u61 u62 u63 u64 u65 u66 u67 u68 u69 u70 u71 u72 u73 u74 u75 u76 u77 u78 u79 u80 u81 u82 u83 u84 u85 u86 u87 u88 u89 u90 u91 u92 u93 u94 u95 u96 u97 u98 u99 u100 u101 u102 u103 u104 u105 u106 u107 u108 u109 u110 u111 u112 u113 u114 u115 u116 u117 u118 u119 u120 u121 u122 u123 u124 u125 u126 u127 u128 u129 u130 u131 u132 u133 u134 u135 u136 u137 u138 u139 u140 u144 u145 u146 u147 u148 u149 u150 u151 u152 u153 u154 u155 u156 u157 u158:Value} {bX g c:Nat} {sv:Value} {rows:List (List Int×Int)} {vv:Nat→Value} {ll:Nat→List ByteArray} {w:World} (hE:Hid (Env w)) (hb:Hid (bX<w.heap.size∧g<w.heap.size)) (hX:Hid (w.cell? ⟨bX,0,none⟩=some (.int .i64 c)∧w.cell? ⟨bX,1,none⟩=some sv)) (hR:Hid (SlE w sv rows))
  (hA:Hid (∀ j,j<6→w.cell? ⟨g,j,none⟩=some (vv j)∧SlS w (vv j) (ll j))) {body:Code} (hbody:getLoop Tryz.f5.body 4=some body)
  (hQ:∀ (ac:Bool) (v27 v143 v144 v145 v146 v147 v148 v149 v150 v151 v152 v153:Value) (W':World),Hid (Ref c rows ac∧Below w.heap.size w W')→Q (.exit 4) { tmps:=List.toArray (u0::u1::u2::u3::u4::u5::u6::u7::u8::u9::u10::u11::u12::u13::u14::u15::u16::u17::u18::u19::u20::.pointer (some ⟨bX,0,none⟩)::u22::u23::u24::.bool ac::u26::v27::u28::u29::u30::u31::u32::u33::u34::u35::u36::u37::u38::u39::u40::u41::u42::u43::u44::u45::u46::u47::u48::u49::u50::u51::u52::u53::u54::u55::u56::u57::u58::u59::u60::u61::u62::u63::u64::u65::u66::u67::u68::u69::u70::u71::u72::u73::u74::u75::u76::u77::u78::u79::u80::u81::u82::u83::u84::u85::u86::u87::u88::u89::u90::u91::u92::u93::u94::u95::u96::u97::u98::u99::u100::u101::u102::u103::u104::u105::u106::u107::u108::u109::u110::u111::u112::u113::u114::u115::u116::u117::u118::u119::u120::u121::u122::u123::u124::u125::u126::u127::u128::u129::u130::u131::u132::u133::u134::u135::u136::u137::u138::u139::u140::.slice (some ⟨g,0,none⟩) 6 6::.int .i64 6::v143::v144::v145::v146::v147::v148::v149::v150::v151::v152::v153::u154::u155::u156::u157::u158::[]),defers:=[] } W') :
  (Code.loop body).wp Tryz.prog Q { tmps:=List.toArray (u0::u1::u2::u3::u4::u5::u6::u7::u8::u9::u10::u11::u12::u13::u14::u15::u16::u17::u18::u19::u20::.pointer (some ⟨bX,0,none⟩)::u22::u23::u24::.bool false::u26::u27::u28::u29::u30::u31::u32::u33::u34::u35::u36::u37::u38::u39::u40::u41::u42::u43::u44::u45::u46::u47::u48::u49::u50::u51::u52::u53::u54::u55::u56::u57::u58::u59::u60::u61::u62::u63::u64::u65::u66::u67::u68::u69::u70::u71::u72::u73::u74::u75::u76::u77::u78::u79::u80::u81::u82::u83::u84::u85::u86::u87::u88::u89::u90::u91::u92::u93::u94::u95::u96::u97::u98::u99::u100::u101::u102::u103::u104::u105::u106::u107::u108::u109::u110::u111::u112::u113::u114::u115::u116::u117::u118::u119::u120::u121::u122::u123::u124::u125::u126::u127::u128::u129::u130::u131::u132::u133::u134::u135::u136::u137::u138::u139::u140::.slice (some ⟨g,0,none⟩) 6 6::.int .i64 6::.int .i64 0::u144::u145::u146::u147::u148::u149::u150::u151::u152::u153::u154::u155::u156::u157::u158::[]),defers:=[] } w:=by
 obtain rfl:=Option.some.inj (hbody.symm.trans (rfl:getLoop Tryz.f5.body 4=some _))
 clear hbody
 replace hQ:=A8 hQ
 go_loopw [25,143] (fun t s wr=>∃ (ac:Bool) (j:Nat),t=.bool ac∧s=.int .i64 j∧j≤6∧Hid (Ref c rows ac∧Mem w [] [] wr)) (fun _ s _=>6-(intOf s).toNat)
 case atStart=>exact ⟨false,0,rfl,rfl,by omega,A8 ⟨(fun h=>by cases h),Mem.start w⟩⟩
 case round =>
  obtain ⟨ac,j,rfl,rfl,hj,hM⟩:=hrel
  by_cases hj6:j<6
  case neg =>
   have hj6':¬ (j:Int)<6:=by omega
   go_wp2_with fail
   exact hQ.out ac _ _ _ _ _ _ _ _ _ _ _ _ _ (A8 ⟨hM.out.1,hM.out.2.below⟩)
  case pos =>
   have hj6':(j:Int)<6:=by omega
   have hj0:(0:Int)≤j:=by omega
   obtain ⟨a1,a3⟩:=hA.out j hj6
   obtain ⟨l,hl⟩:∃ l,l=ll j:=⟨_,rfl⟩
   obtain ⟨nv,hv⟩:∃ v,v=vv j:=⟨_,rfl⟩
   rw [←hl] at a3
   rw [←hv] at a1 a3
   clear hl hv
   have x0:=hM.out.2.old hb.out.2 a1
   have a3:=A8 a3
   have hac:=A8 hM.out.1
   replace hM:=A8 hM.out.2
   clear a1
   go_upto_region 26 with fail
   clear x0
   cases ac with
   | true =>
    go_wp2_with fail
    go_roundw
    case rel=>exact ⟨true,j+1,by rfl,by go_num,by omega,A8 ⟨hac.out,hM.out⟩⟩
    case measure=>simp [intOf];omega
   | false =>
    have CH:=AZ c sv nv rows l wr (hE.out.below hM.out.below (Aa _)) (hR.out.below hM.out.below) (a3.out.below hM.out.below)
    obtain ⟨ok,hok⟩:∃ ok,ok=refutesL c rows l:=⟨_,rfl⟩
    rw [←hok] at CH
    have hac2:=A8 (show Ref c rows ok from fun h=>⟨l,by rw [←hok];exact h⟩)
    replace CH:=A8 CH
    clear hok
    have y0:=hM.out.old hb.out.1 hX.out.1
    have y1:=hM.out.old hb.out.1 hX.out.2
    go_wp2_with fail
    refine Calls.mono CH.out ?_
    rintro e w1 ⟨rfl,hb1⟩
    replace hM:=A8 (hM.out.call hb1)
    clear y0 y1 hb1 CH
    go_wp2_with fail
    go_roundw
    case rel=>exact ⟨ok,j+1,by rfl,by go_num,by omega,A8 ⟨hac2.out,hM.out⟩⟩
    case measure=>simp [intOf];omega
theorem Mi {W:World} {a:Option Addr} {n m c:Nat} {l:List ByteArray} (hm:m≤n) (h:SlS W (.slice a n c) l):SlS W (.slice a m c) (l.take m):=by
 rcases h with ⟨e,rfl⟩ | ⟨b,off,cap,e,h1,h2,h3,h4⟩
 ·cases e
  obtain rfl:m=0:=by omega
  exact .inl ⟨rfl,by simp⟩
 ·cases e
  refine .inr ⟨b,off,c,by rw [List.length_take,Nat.min_eq_left hm],by rw [List.length_take];omega,h2,h3,fun j x hj=>?_⟩
  by_cases hjm:j<m
  ·exact h4 j x (by rwa [List.getElem?_take,if_pos hjm] at hj)
  ·rw [List.getElem?_take,if_neg hjm] at hj;cases hj
theorem GV {Q:Exit→Act→World→Prop} {u0 u1 u4 u7 u8 u9 u11 u13 u16 u17 u19 u20 u21 u22 u23 u24 u25 u26 u27 u28 u29 u30 u31 u32 u33 u34 u35 u36 u37 u38 u39 u40 u41 u42 u43 u44 u45 u46 u47 u48 u49 u50 u51 u52 u53 u54 u55 u56 u57 u58 u59 u60 u61 u62 u63 u64 u65 u66 u67 u68 u69 u70 u71 u72 u73 u74 u75 u76 u77 u78 u79 u80 u81 u82 u83 u84 u85 u86 u87 u88 u89 u90 u91 u92 u93 u94 u98 u99 u100 u101 u102 u103 u104 u105 u106 u107 u108 u109 u110 u111 u112 u113 u114 u115 u116 u117 u118 u119 u120 u121 u122 u123 u124 u125 u126 u127 u128 u129 u130 u131 u132 u133 u134 u135 u136 u137 u138 u139 u140 u141 u142 u143 u144 u145 u146 u147 u148 u149 u150 u151 u152 u153 u154 u155 u156 u157 u158:Value} {x:NumL} {bN bO bA bB gs c hm hk nc cc nh ch no ko nb kb na ka:Nat} {hb ac ah ao ab aa:Option Addr} {lv wv:Value} {l:List Int} {wl ol bl al hl:List ByteArray} {od bd:ByteArray} {den:Int} {kbw nbw:Nat} {abw:Option Addr} {bw:List ByteArray} {w:World} (hE:Hid (Env w)) (hm1:Hid (1≤hm∧hm≤1000))
  (hlt:Hid (bN<w.heap.size∧bO<w.heap.size∧bA<w.heap.size∧bB<w.heap.size∧gs<w.heap.size))
  (hNc:Hid (w.cell? ⟨bN,0,none⟩=some (.int .i64 x.cols)∧w.cell? ⟨bN,1,none⟩=some (.int .i64 x.rows)∧w.cell? ⟨bN,2,none⟩=some (.slice ac nc cc)∧w.cell? ⟨bN,3,none⟩=some (.slice ah nh ch)∧w.cell? ⟨bN,4,none⟩=some (.int .i64 x.miss)))
  (hOc:Hid (w.cell? ⟨bO,0,none⟩=some (.slice ao no ko)∧w.cell? ⟨bO,1,none⟩=some (.string od)∧SlS w (.slice ao no ko) ol))
  (hAc:Hid (w.cell? ⟨bA,3,none⟩=some (.slice aa na ka)∧SlS w (.slice aa na ka) al))
  (hBc:Hid (w.cell? ⟨bB,1,none⟩=some (.slice ab nb kb)∧w.cell? ⟨bB,2,none⟩=some (.string bd)∧SlS w (.slice ab nb kb) bl∧w.cell? ⟨bB,3,none⟩=some (.slice abw nbw kbw)∧SlS w (.slice abw nbw kbw) bw))
  (hH:Hid (SlS w (.slice hb hm hk) hl)) (hG:Hid (∀ j,j<2→∃ (rows:List (List Int×Int)) (sa:Option Addr) (sn sk:Nat),w.cell? ⟨gs,j*2,none⟩=some (.int .i64 c)∧w.cell? ⟨gs,j*2+1,none⟩=some (.slice sa sn sk)∧SlE w (.slice sa sn sk) rows∧sn≤1000))
  (HD:Hid (∀ W,Below w.heap.size w W→Calls Tryz.prog 17 #[.agg #[.int .i64 x.cols,.int .i64 x.rows,.slice ac nc cc,.slice ah nh ch,.int .i64 x.miss]] W fun e w'=>∃ a n cp,e=.returned (.agg #[.slice a n cp,.string ⟨#[49]⟩])∧SlS w' (.slice a n cp) x.hidN∧Below W.heap.size W w'))
  (VC:Hid (∀ W,Below w.heap.size w W→Calls Tryz.prog 18 #[.int .i64 c,lv,.int .i64 den] W fun e w'=>∃ a m cp,e=.returned (.agg #[.slice a m cp,.string (I (1+pkv den 9))])∧SlS w' (.slice a m cp) (vecL c l)∧Below W.heap.size W w'))
  (WC:Hid (∀ W (n:Nat),n≤1000000→Below w.heap.size w W→Calls Tryz.prog 27 #[.int .i64 n,lv] W fun e w'=>∃ a m cp,e=.returned (.slice a m cp)∧SlS w' (.slice a m cp) (wgtL n l)∧Below W.heap.size W w'))
  (CC:Hid (∀ W,Below w.heap.size w W→Calls Tryz.prog 10 #[wv] W fun e w'=>∃ a m cp,e=.returned (.slice a m cp)∧SlS w' (.slice a m cp) (cutS wl)∧Below W.heap.size W w')) {body:Code} (hbody:getLoop Tryz.f5.body 0=some body)
  (hQ:∀ (v12 v21 v22 v24 v25 v27 v97 v98 v99 v100 v101 v102 v103 v104 v105 v106 v107 v108 v109 v110 v111 v112 v113 v114 v115 v116 v117 v118 v119 v120 v121 v122 v123 v124 v125 v126 v127 v128 v129 v130 v131 v132 v133 v134 v135 v136 v137 v138 v139 v140 v141 v142 v143 v144 v145 v146 v147 v148 v149 v150 v151 v152 v153 v154 v155 v156 v157 v158:Value) (W':World),Hid (Below w.heap.size w W')→Q (.exit 0) { tmps:=List.toArray (u0::u1::lv::.int .i64 den::u4::wv::.pointer (some ⟨bN,0,none⟩)::u7::u8::u9::.pointer (some ⟨bO,0,none⟩)::u11::v12::u13::.slice hb hm hk::.pointer (some ⟨bA,0,none⟩)::u16::u17::.pointer (some ⟨bB,0,none⟩)::u19::u20::v21::v22::u23::v24::v25::u26::v27::u28::u29::u30::u31::u32::u33::u34::u35::u36::u37::u38::u39::u40::u41::u42::u43::u44::u45::u46::u47::u48::u49::u50::u51::u52::u53::u54::u55::u56::u57::u58::u59::u60::u61::u62::u63::u64::u65::u66::u67::u68::u69::u70::u71::u72::u73::u74::u75::u76::u77::u78::u79::u80::u81::u82::u83::u84::u85::u86::u87::u88::u89::u90::u91::u92::u93::u94::.slice (some ⟨gs,0,none⟩) 2 2::.int .i64 2::v97::v98::v99::v100::v101::v102::v103::v104::v105::v106::v107::v108::v109::v110::v111::v112::v113::v114::v115::v116::v117::v118::v119::v120::v121::v122::v123::v124::v125::v126::v127::v128::v129::v130::v131::v132::v133::v134::v135::v136::v137::v138::v139::v140::v141::v142::v143::v144::v145::v146::v147::v148::v149::v150::v151::v152::v153::v154::v155::v156::v157::v158::[]),defers:=[] } W') :
  (Code.loop body).wp Tryz.prog Q { tmps:=List.toArray (u0::u1::lv::.int .i64 den::u4::wv::.pointer (some ⟨bN,0,none⟩)::u7::u8::u9::.pointer (some ⟨bO,0,none⟩)::u11::.bool false::u13::.slice hb hm hk::.pointer (some ⟨bA,0,none⟩)::u16::u17::.pointer (some ⟨bB,0,none⟩)::u19::u20::u21::u22::u23::u24::u25::u26::u27::u28::u29::u30::u31::u32::u33::u34::u35::u36::u37::u38::u39::u40::u41::u42::u43::u44::u45::u46::u47::u48::u49::u50::u51::u52::u53::u54::u55::u56::u57::u58::u59::u60::u61::u62::u63::u64::u65::u66::u67::u68::u69::u70::u71::u72::u73::u74::u75::u76::u77::u78::u79::u80::u81::u82::u83::u84::u85::u86::u87::u88::u89::u90::u91::u92::u93::u94::.slice (some ⟨gs,0,none⟩) 2 2::.int .i64 2::.int .i64 0::u98::u99::u100::u101::u102::u103::u104::u105::u106::u107::u108::u109::u110::u111::u112::u113::u114::u115::u116::u117::u118::u119::u120::u121::u122::u123::u124::u125::u126::u127::u128::u129::u130::u131::u132::u133::u134::u135::u136::u137::u138::u139::u140::u141::u142::u143::u144::u145::u146::u147::u148::u149::u150::u151::u152::u153::u154::u155::u156::u157::u158::[]),defers:=[] } w:=by
 obtain rfl:=Option.some.inj (hbody.symm.trans (rfl:getLoop Tryz.f5.body 0=some _))
 clear hbody
 replace hQ:=A8 hQ
 go_loopw [97] (fun s wr=>∃ (j:Nat),s=.int .i64 j∧j≤2∧Hid (Mem w [] [] wr)) (fun s _=>2-(intOf s).toNat)
 case atStart=>exact ⟨0,rfl,by omega,A8 (Mem.start w)⟩
 case round =>
  obtain ⟨j,rfl,hj,hM⟩:=hrel
  by_cases hj2:j<2
  case neg =>
   have hj2':¬ (j:Int)<2:=by omega
   go_wp2_with fail
   exact hQ.out _ _ _ _ _ _ _ _ _ _ _ _ _ _ _ _ _ _ _ _ _ _ _ _ _ _ _ _ _ _ _ _ _ _ _ _ _ _ _ _ _ _ _ _ _ _ _ _ _ _ _ _ _ _ _ _ _ _ _ _ _ _ _ _ _ _ _ _ _ (A8 hM.out.below)
  case pos =>
   have hj2':(j:Int)<2:=by omega
   have hj0:(0:Int)≤j:=by omega
   obtain ⟨rows,sa,sn,sk,g1,g2,g3,g4⟩:=hG.out j hj2
   have hR:=A8 g3
   have hsn:=A8 g4
   have x0:=hM.out.old hlt.out.2.2.2.2 g1
   have x1:=hM.out.old hlt.out.2.2.2.2 g2
   clear g1 g2 g3 g4
   obtain ⟨V1,bX,e1,eB,S1⟩:=hM.out.addB #[.int .i64 c,.slice sa sn sk] 27
   have hM1:=A8 S1
   clear S1
   go_upto_region 16 with fail
   rw [←e1,←eB]
   clear e1 eB x0 x1 hM
   go_upto_region 17 with fail
   refine exc_r17 (bN:=bN) (bO:=bO) (bB:=bB) (bX:=bX) (no:=no) (ko:=ko) (nb:=nb) (kb:=kb) (ao:=ao) (ab:=ab) (lv:=lv) (do_:=od) (db:=bd) (dv:=I (1+pkv den 9)) (den:=den) (c:=c) (vl:=vecL c l) (nc:=x.cols) (nr:=x.rows) (ms:=x.miss) (lc:=nc) (kc:=cc) (lh:=nh) (kh:=ch) (ac:=ac) (ah:=ah) (hl:=x.hidN) (L:=[]) (R:=[]) (A8 fun W hW=>(hM1.out.call hW.below).old hlt.out.1 hNc.out.1) (A8 fun W hW=>(hM1.out.call hW.below).old hlt.out.1 hNc.out.2.1) (A8 fun W hW=>(hM1.out.call hW.below).old hlt.out.1 hNc.out.2.2.1) (A8 fun W hW=>(hM1.out.call hW.below).old hlt.out.1 hNc.out.2.2.2.1) (A8 fun W hW=>(hM1.out.call hW.below).old hlt.out.1 hNc.out.2.2.2.2) (A8 fun W hW=>HD.out W (hM1.out.call hW.below).below) (A8 fun W hW=>(hM1.out.call hW.below).cell _ _ _ (.head _) 0) (A8 fun W hW=>VC.out W (hM1.out.call hW.below).below) (A8 fun W hW=>(hM1.out.call hW.below).old hlt.out.2.1 hOc.out.1) (A8 fun W hW=>(hM1.out.call hW.below).old hlt.out.2.1 hOc.out.2.1) (A8 fun W hW=>(hM1.out.call hW.below).old hlt.out.2.2.2.1 hBc.out.1) (A8 fun W hW=>(hM1.out.call hW.below).old hlt.out.2.2.2.1 hBc.out.2.1) (A8 (Mem.start _)) rfl rfl rfl rfl rfl rfl rfl (by kernel_rfl) ?_
   intro xx g ag lg kg ax lx kx W5 hx111 hx112 hx113 hblk hM5
   simp only [sets,List.foldl_cons,List.foldl_nil,A5,A6,hx111,hx112,hx113]
   replace hM1:=A8 (hM1.out.call hM5.out.below)
   clear hM5
   go_wp2_with fail
   refine exc_l2 (bX:=bX) (g:=g) (c:=c) (sv:=.slice sa sn sk) (rows:=rows) (vv:=(fun j=>match j with | 0=>(.slice ag lg kg:Value) | 1=>.slice ax lx kx | 2=>.slice ao no ko | _=>.slice ab nb kb)) (ll:=(fun j=>match j with | 0=>(x.hidN:List ByteArray) | 1=>vecL c l | 2=>ol | _=>bl)) (dd:=(fun j=>match j with | 0=>(⟨#[49]⟩:ByteArray) | 1=>I (1+pkv den 9) | 2=>od | _=>bd)) (w:=W5) (A8 (hE.out.below hM1.out.below (Aa _))) (A8 ⟨hM1.out.lt _ (.head _),hblk.out.1.lt⟩) (A8 ⟨hM1.out.cell _ _ _ (.head _) 0,hM1.out.cell _ _ _ (.head _) 1⟩) (A8 (hR.out.below hM1.out.below)) (A8 fun j hj=>match j,hj with | 0,_=>⟨hblk.out.1.cell (0*2),hblk.out.1.cell (0*2+1),hblk.out.2.1⟩ | 1,_=>⟨hblk.out.1.cell (1*2),hblk.out.1.cell (1*2+1),hblk.out.2.2⟩ | 2,_=>⟨hblk.out.1.cell (2*2),hblk.out.1.cell (2*2+1),hOc.out.2.2.below hM1.out.below⟩ | 3,_=>⟨hblk.out.1.cell (3*2),hblk.out.1.cell (3*2+1),hBc.out.2.2.1.below hM1.out.below⟩) (by kernel_rfl) ?_
   intro acc _ _ _ _ _ _ _ _ _ _ _ _ W6 hM6
   replace hM1:=A8 (hM1.out.call hM6.out.2)
   have hacc:=A8 hM6.out.1
   clear hM6 hblk hx111 hx112 hx113
   obtain ⟨m1,hm1e⟩:∃ m1,m1=hm-1:=⟨_,rfl⟩
   have hw1:IntKind.i64.wrap ((hm:Int)-1)=(m1:Int):=by rw [IntWalk.i64_in _ (by have:=hm1.out;omega)];have:=hm1.out;omega
   have hm0:m1≤hm:=by omega
   have hm2:m1≤hk:=by
    rcases hH.out with ⟨e,_⟩ | ⟨_,_,_,e,h1,_⟩
    ·cases e;omega
    ·cases e;omega
   clear hm1e
   go_upto_region 23 with fail
   refine exc_r23 (bA:=bA) (bB:=bB) (bX:=bX) (hm:=hm) (hk:=hk) (m1:=m1) (mr:=sn) (kr:=sk) (na:=na) (ka:=ka) (nb:=nbw) (kb:=kbw) (hb:=hb) (ar:=sa) (aa:=aa) (ab:=abw) (lv:=lv) (wv:=wv) (wl:=wgtL sn l) (cl:=cutS wl) (L:=[]) (R:=[]) hw1 hm2 (A8 fun W hW=>(hM1.out.call hW.below).old hlt.out.2.2.1 hAc.out.1) (A8 fun W hW=>(hM1.out.call hW.below).old hlt.out.2.2.2.1 hBc.out.2.2.2.1) (A8 fun W hW=>(hM1.out.call hW.below).cell _ _ _ (.head _) 1) (A8 fun W hW=>WC.out W sn (by have:=hsn.out;omega) (hM1.out.call hW.below).below) (A8 fun W hW=>CC.out W (hM1.out.call hW.below).below) (A8 (Mem.start _)) rfl rfl rfl rfl rfl rfl rfl (by kernel_rfl) ?_
   intro xx g ag lg kg ax lx kx W7 hx141 hx142 hx143 hblk hM7
   simp only [sets,List.foldl_cons,List.foldl_nil,A5,A6,hx141,hx142,hx143]
   replace hM1:=A8 (hM1.out.call hM7.out.below)
   clear hM7 hw1 hm2
   go_wp2_with fail
   refine exc_l4 (bX:=bX) (g:=g) (c:=c) (sv:=.slice sa sn sk) (rows:=rows) (vv:=(fun j=>match j with | 0=>(.slice hb hm hk:Value) | 1=>.slice hb m1 hk | 2=>.slice aa na ka | 3=>.slice abw nbw kbw | 4=>.slice ag lg kg | _=>.slice ax lx kx)) (ll:=(fun j=>match j with | 0=>(hl:List ByteArray) | 1=>hl.take m1 | 2=>al | 3=>bw | 4=>wgtL sn l | _=>cutS wl)) (w:=W7) (A8 (hE.out.below hM1.out.below (Aa _))) (A8 ⟨hM1.out.lt _ (.head _),hblk.out.1.lt⟩) (A8 ⟨hM1.out.cell _ _ _ (.head _) 0,hM1.out.cell _ _ _ (.head _) 1⟩) (A8 (hR.out.below hM1.out.below)) (A8 fun j hj=>match j,hj with | 0,_=>⟨hblk.out.1.cell 0,hH.out.below hM1.out.below⟩ | 1,_=>⟨hblk.out.1.cell 1,(Mi hm0 (hH.out.below hM1.out.below))⟩ | 2,_=>⟨hblk.out.1.cell 2,hAc.out.2.below hM1.out.below⟩ | 3,_=>⟨hblk.out.1.cell 3,hBc.out.2.2.2.2.below hM1.out.below⟩ | 4,_=>⟨hblk.out.1.cell 4,hblk.out.2.1⟩ | 5,_=>⟨hblk.out.1.cell 5,hblk.out.2.2⟩) (by kernel_rfl) ?_
   intro ref _ _ _ _ _ _ _ _ _ _ _ _ W8 hM8
   replace hM1:=A8 (hM1.out.call hM8.out.2)
   have hno:(acc&&ref)=false:=acc_ref hacc.out hM8.out.1
   clear hM8 hblk hx141 hx142 hx143 hacc hm0
   cases acc with
   | false =>
    go_wp2_with fail
    go_roundw
    case rel=>exact ⟨j+1,by go_num,by omega,A8 hM1.out.tail⟩
    case measure=>simp [intOf];omega
   | true =>
    cases ref with
    | true=>cases hno
    | false =>
     clear hno
     go_wp2_with fail
     go_roundw
     case rel=>exact ⟨j+1,by go_num,by omega,A8 hM1.out.tail⟩
     case measure=>simp [intOf];omega
theorem JA (n:Nat) (l:List Int) (lv:Value) (W:World) (hn:n≤1000000) (hl:Sl W lv l) (hf:∀ z∈l,Fits z):Calls Tryz.prog 27 #[.int .i64 n,lv] W fun e w'=>∃ a m cp,e=.returned (.slice a m cp)∧SlS w' (.slice a m cp) (wgtL n l)∧Below W.heap.size W w' :=
 (Iw n l lv W hn hl hf).mono fun _ _ ⟨v,he,hs,hb⟩=>by
  obtain ⟨a,cp,rfl⟩:=hs.shape
  exact ⟨a,_,cp,he,hs,hb⟩
theorem Mr (v:Value) (l:List ByteArray) (W:World) (hl:SlS W v l):Calls Tryz.prog 10 #[v] W fun e w'=>∃ a m cp,e=.returned (.slice a m cp)∧SlS w' (.slice a m cp) (cutS l)∧Below W.heap.size W w'∧∀ b,(Value.slice a m cp).ownBlock=some b→W.heap.size≤b :=
 (cut_any v l W hl).mono fun _ _ ⟨v,he,hs,hb,ho⟩=>by
  obtain ⟨a,cp,rfl⟩:=hs.shape
  exact ⟨a,_,cp,he,hs,hb,ho⟩
theorem cut_ok1 (v:Value) (l:List ByteArray) (W:World) (hl:SlS W v l):Calls Tryz.prog 10 #[v] W fun e w'=>∃ a m cp,e=.returned (.slice a m cp)∧SlS w' (.slice a m cp) (cutS l)∧Below W.heap.size W w' :=
 (Mr v l W hl).mono fun _ _ ⟨a,m,cp,he,hs,hb,_⟩=>⟨a,m,cp,he,hs,hb⟩
theorem Ms {W W':World} {v:Value} {l:List ByteArray} {B:Nat} (h:SlS W v l) (ho:Only [B] W W') (hne:∀ b,v.ownBlock=some b→b≠B):SlS W' v l:=by
 rcases h with h | ⟨b,off,cap,e,h1,h2,h3,h4⟩
 ·exact .inl h
 ·refine .inr ⟨b,off,cap,e,h1,h2,A9 h3 ho.size,fun j x hj=>?_⟩
  have:=h4 j x hj
  unfold CStr at this ⊢
  rw [Ah (ho.block b h3 (by have:=hne b (by rw [e];rfl);simpa using this))]
  exact this
def OldC (w:World) (b:Nat) (cs:List Value):Prop:=b<w.heap.size∧∀ (k:Nat) (v:Value),cs[k]? = some v→w.cell? ⟨b,k,none⟩=some v
theorem OldC.below {w W:World} {b:Nat} {cs:List Value} (h:OldC w b cs) (hb:Below w.heap.size w W):OldC W b cs:=⟨A9 h.1 hb.size,fun k v hk=>(hb.cell (p:=⟨b,k,none⟩) h.1).trans (h.2 k v hk)⟩
theorem OldC.of {w W:World} {L:BLs} {R:List RowD} {b:Nat} {cs:List Value} {t:TypeId} (h:Mem w L R W) (hm:(b,cs.toArray,t)∈L):OldC W b cs:=⟨h.lt _ hm,fun k v hk=>by
 rw [h.cell _ _ _ hm k]
 simpa using hk⟩
theorem GY (x:NumL) (vc vh nv:Value) (nl:List Int) (lv:Value) (l:List Int) (den:Int) (ov:Value) (ol:List ByteArray) (od:ByteArray) (wv:Value) (wl:List ByteArray) (w:World) (hN:NumOk w x vc vh) (hnl:Sl w nv nl) (hnf:∀ z∈nl,Fits z) (hl:Sl w lv l) (hlf:∀ z∈l,Fits z) (hden:Fits den) (hol:SlS w ov ol) (_:∀ s∈ol,s.size≤maxLen) (hod:od.size≤maxLen) (hwl:SlS w wv wl) (_:∀ s∈wl,s.size≤maxLen) (hE0:EnvQ w) :
  Calls Tryz.prog 5 #[.agg #[.int .i64 x.cols,.int .i64 x.rows,vc,vh,.int .i64 x.miss],nv,lv,.int .i64 den,.agg #[ov,.string od],wv] w (Rets w (.bool true)):=by
 have NO:=A8 (fun W (hW:NumOk W x vc vh) (hb:Below w.heap.size w W)=>Mq x vc vh nv nl W hW (hnl.below hb) hnf)
 have VC:=A8 (fun W (c:Nat) (hc:c≤1000) (hW:Below w.heap.size w W)=>Ld c l den lv W (by omega) (hl.below hW) hlf hden)
 have WC:=A8 (fun W (n:Nat) (hn:n≤1000000) (hW:Below w.heap.size w W)=>JA n l lv W hn (hl.below hW) hlf)
 have CC:=A8 (fun W (hW:Below w.heap.size w W)=>cut_ok1 wv wl W (hwl.below hW))
 obtain ⟨oa,oc,rfl⟩:=hol.shape
 have CO:=A8 (fun W (hW:Below w.heap.size w W)=>Mr (.slice oa ol.length oc) ol W (hol.below hW))
 clear hl hlf hnl hnf hol hwl
 generalize ol.length=on at *
 unfold maxLen at hod
 have hE:=A8 hE0.env
 clear hE0
 obtain ⟨ac,cc,rfl⟩:=hN.c.shape
 obtain ⟨ah,ch,rfl⟩:=hN.h.shape
 have MD:=A8 (fun W (hW:NumOk W x (.slice ac x.coefs.length cc) (.slice ah x.hidden.length ch))=>made_ok hW)
 have HD:=A8 (fun W (hW:NumOk W x (.slice ac x.coefs.length cc) (.slice ah x.hidden.length ch))=>Lc hW)
 have MI:=A8 (fun W (hW:NumOk W x (.slice ac x.coefs.length cc) (.slice ah x.hidden.length ch))=>Lb hW)
 replace hN:=A8 hN
 generalize x.coefs.length=nc at *
 generalize x.hidden.length=nh at *
 obtain ⟨V1,bN,e1,b1,S1⟩:=(MS.start w).add' #[.int .i64 x.cols,.int .i64 x.rows,.slice ac nc cc,.slice ah nh ch,.int .i64 x.miss] 24
 obtain ⟨V2,bO,e2,b2,S2⟩:=S1.add' #[.slice oa on oc,.string od] 30
 have hS:=A8 S2
 rw [e1] at e2 b2
 clear S1 S2 e1
 go_enter Tryz.func5,Tryz.ntmps5
 go_upto_region 1 with fail
 rw [←e2]
 have b2':bO=w.heap.size+1:=by rw [b2];exact World.size_alloc _ _
 rw [←b2',←b1]
 clear e2 b2 b1 b2'
 go_wp2_with fail
 refine Calls.mono (La _ (hS.out.env hE.out)) ?_
 rintro e w1 ⟨rfl,hb⟩
 replace hS:=A8 (hS.out.call hb)
 clear hb
 go_upto_region 3 with fail
 have z0:=(hS.out.cell bO _ _ (.head _) 0).trans (show _=some (Value.slice oa on oc) from rfl)
 have z1:=hS.out.mem.frozen bO _ _ (.head _) 0
 go_wp2_with fail
 refine Calls.mono (CO.out _ hS.out.mem.below) ?_
 rintro e w2 ⟨oa2,on2,oc2,rfl,hs,hb,hown⟩
 have hne:=A8 (show ∀ b,(Value.slice oa2 on2 oc2).ownBlock=some b→b≠bO from fun b hb'=>by have:=hown b hb';have:=hS.out.mem.lt _ (.head _);omega)
 replace hS:=A8 ((hS.out.call hb).slice hs)
 clear hb hs z0 z1 CO hown
 have z0:=(hS.out.cell bO _ _ (.head _) 0).trans (show _=some (Value.slice oa on oc) from rfl)
 have z1:=hS.out.mem.frozen bO _ _ (.head _) 0
 have z2:=(hS.out.cell bO _ _ (.head _) 1).trans (show _=some (Value.string od) from rfl)
 have z3:=hS.out.mem.frozen bO _ _ (.head _) 1
 obtain ⟨k,hk⟩:∃ k:Nat,min (od.size:Int) 101=(k:Int):=⟨min od.size 101,by omega⟩
 have hk1:k≤od.size:=by omega
 have hM:=A8 (((hS.out.mem.put0 0 (.slice oa2 on2 oc2)).put0 1 (.string (od.extract 0 k))))
 have hss:=A8 (hS.out.ss _ (.head _))
 go_upto_region 5 with fail
 obtain ⟨od2,hod2⟩:∃ s,s=od.extract 0 k:=⟨_,rfl⟩
 rw [←hod2] at hM ⊢
 obtain ⟨Wn,eW⟩:∃ W,W=(w2.setCell ⟨bO,0,none⟩ (.slice oa2 on2 oc2)).setCell ⟨bO,1,none⟩ (.string od2):=⟨_,rfl⟩
 rw [←eW] at hM ⊢
 have hOs:=A8 (show SlS Wn (.slice oa2 on2 oc2) (cutS ol) from by rw [eW];exact Ms hss.out (((Only.refl [bO] w2).setCell (p:=⟨bO,0,none⟩) (by simp) _).setCell (p:=⟨bO,1,none⟩) (by simp) _) hne.out)
 clear eW hss hne hS z0 z1 z2 z3 hk hk1 hod2 hod
 have hB:=A8 hM.out.below
 replace hE:=A8 (hM.out.env hE.out)
 replace hN:=A8 (hN.out.below hB.out)
 have hNc:=A8 (OldC.of (cs:=[.int .i64 x.cols,.int .i64 x.rows,.slice ac nc cc,.slice ah nh ch,.int .i64 x.miss]) (t:=24) hM.out (.tail _ (.head _)))
 have hOc:=A8 (OldC.of (cs:=[.slice oa2 on2 oc2,.string od2]) (t:=30) hM.out (.head _))
 clear hM
 have hml:=A8 x.made_len
 have hmc:=A8 (fun h=>x.made_check h)
 have hvm:=A8 x.made_valid
 have hms:=A8 (Jy x)
 have hvn:=A8 (Fm x nl)
 have hnr:=A8 (GX x nl)
 have hnl8:=A8 (show (noneR x nl).length≤8 by rw [C5];have:=x.r_eq;omega)
 have hce:=x.c_eq
 have hre:=x.r_eq
 have hnn:=A8 (show ∀ y d,¬ SolZ (noneR x nl) x.c y d from fun y d h=>Ed h (CT hnr.out))
 have z0:=hNc.out.2 0 _ rfl
 have z1:=hNc.out.2 1 _ rfl
 have z2:=hNc.out.2 2 _ rfl
 have z3:=hNc.out.2 3 _ rfl
 have z4:=hNc.out.2 4 _ rfl
 go_wp2_with fail
 refine Calls.mono (NO.out _ hN.out hB.out) ?_
 rintro e w3 ⟨a,cp,hbb,hm,hk,rfl,hmr,hX,hH,hb⟩
 replace hb:=A8 hb
 clear z0 z1 z2 z3 z4 NO
 obtain ⟨r,hr⟩:∃ r,r=x.r:=⟨_,rfl⟩
 obtain ⟨c,hc⟩:∃ c,c=x.c:=⟨_,rfl⟩
 rw [←hr] at hmr hX hml hre ⊢
 rw [←hc] at hmc hvm hvn hnr hnn hce ⊢
 replace hr:=A8 hr
 replace hc:=A8 hc
 have hcb:=A8 (show c≤1000 by omega)
 have hrb:=A8 (show r≤5 by omega)
 subst hmr
 clear hce hre
 replace hN:=A8 (hN.out.below hb.out)
 replace hNc:=A8 (hNc.out.below hb.out)
 replace hOc:=A8 (hOc.out.below hb.out)
 replace hOs:=A8 (hOs.out.below hb.out)
 replace hE:=A8 (hE.out.below hb.out (Aa _))
 replace hB:=A8 (hB.out.trans (hb.out.mono hB.out.size))
 obtain ⟨Wa,bX,e1,b1,S1⟩:=(Mem.start _).addB #[.int .i64 c,.slice a (r+1) cp] 27
 go_upto_region 6 with fail
 rw [←e1,←b1]
 clear e1 b1
 have hb1:=A8 S1.below
 replace hX:=A8 (hX.below hb1.out)
 replace hH:=A8 (hH.below hb1.out)
 replace hN:=A8 (hN.out.below hb1.out)
 replace hNc:=A8 (hNc.out.below hb1.out)
 replace hOc:=A8 (hOc.out.below hb1.out)
 replace hOs:=A8 (hOs.out.below hb1.out)
 replace hE:=A8 (hE.out.below hb1.out (Aa _))
 replace hB:=A8 (hB.out.trans (hb1.out.mono hB.out.size))
 have hXc:=A8 (OldC.of (cs:=[.int .i64 c,.slice a (r+1) cp]) (t:=27) S1 (.head _))
 clear S1 hb hb1
 have hS2:=A8 (MS.start Wa)
 have z0:=hS2.out.mem.old hXc.out.1 (hXc.out.2 0 _ rfl)
 have z1:=hS2.out.mem.old hXc.out.1 (hXc.out.2 1 _ rfl)
 go_wp2_with fail
 refine Calls.mono (Dt c _ (noneR x nl) _ (hS2.out.env hE.out) (hX.out.below hS2.out.mem.below) (hvn.out) (hnl8.out) hnn.out) ?_
 rintro e w4 ⟨wv1,ws1,rfl,hs1,hrf1,hb⟩
 obtain ⟨a1,k1,rfl⟩:=hs1.shape
 replace hrf1:=A8 hrf1
 replace hS2:=A8 (hS2.out.call hb)
 replace hS2:=A8 (hS2.out.slice hs1)
 clear hb hs1 z0 z1
 obtain ⟨n1,hn1⟩:∃ n,n=ws1.length:=⟨_,rfl⟩
 rw [←hn1] at hS2 ⊢
 replace hn1:=A8 hn1
 obtain ⟨Wn,bA,e1,b1,S1⟩:=hS2.out.add' #[.bool false,.slice none 0 0,.string ⟨#[]⟩,.slice a1 n1 k1] 38
 replace hS2:=A8 S1
 clear S1
 go_upto_region 7 with fail
 rw [←e1,←b1]
 clear e1 b1
 have y0:=(hS2.out.cell bA _ _ (.head _) 0).trans (show _=some (Value.bool false:Value) from rfl)
 have y1:=(hS2.out.cell bA _ _ (.head _) 1).trans (show _=some (Value.slice none 0 0:Value) from rfl)
 have y2:=(hS2.out.cell bA _ _ (.head _) 2).trans (show _=some (Value.string ⟨#[]⟩:Value) from rfl)
 have y3:=(hS2.out.cell bA _ _ (.head _) 3).trans (show _=some (Value.slice a1 n1 k1:Value) from rfl)
 have z0:=hS2.out.mem.old hXc.out.1 (hXc.out.2 0 _ rfl)
 have z1:=hS2.out.mem.old hXc.out.1 (hXc.out.2 1 _ rfl)
 have RF:=AZ c _ _ (noneR x nl) (noneW x nl) _ (hS2.out.env hE.out) (hX.out.below hS2.out.mem.below) (hH.out.below hS2.out.mem.below)
 rw [hnr.out] at RF
 go_wp2_with fail
 refine Calls.mono RF ?_
 rintro e wq ⟨rfl,hb⟩
 replace hS2:=A8 (hS2.out.call hb)
 clear hb z0 z1 y0 y1 y2 y3 RF
 have y0:=(hS2.out.cell bA _ _ (.head _) 0).trans (show _=some (Value.bool false:Value) from rfl)
 have y1:=(hS2.out.cell bA _ _ (.head _) 1).trans (show _=some (Value.slice none 0 0:Value) from rfl)
 have y2:=(hS2.out.cell bA _ _ (.head _) 2).trans (show _=some (Value.string ⟨#[]⟩:Value) from rfl)
 have y3:=(hS2.out.cell bA _ _ (.head _) 3).trans (show _=some (Value.slice a1 n1 k1:Value) from rfl)
 have z0:=hS2.out.mem.old hXc.out.1 (hXc.out.2 0 _ rfl)
 have z1:=hS2.out.mem.old hXc.out.1 (hXc.out.2 1 _ rfl)
 have RF:=AZ c _ _ (noneR x nl) ws1 _ (hS2.out.env hE.out) (hX.out.below hS2.out.mem.below) (hS2.out.ss _ (.head _))
 rw [hrf1.out] at RF
 go_wp2_with fail
 refine Calls.mono RF ?_
 rintro e wq ⟨rfl,hb⟩
 replace hS2:=A8 (hS2.out.call hb)
 clear hb z0 z1 y0 y1 y2 y3 RF hrf1
 go_upto_region 9 with fail
 have z0:=hS2.out.mem.old hNc.out.1 (hNc.out.2 0 _ rfl)
 have z1:=hS2.out.mem.old hNc.out.1 (hNc.out.2 1 _ rfl)
 have z2:=hS2.out.mem.old hNc.out.1 (hNc.out.2 2 _ rfl)
 have z3:=hS2.out.mem.old hNc.out.1 (hNc.out.2 3 _ rfl)
 have z4:=hS2.out.mem.old hNc.out.1 (hNc.out.2 4 _ rfl)
 go_wp2_with fail
 refine Calls.mono (MD.out _ (hN.out.below hS2.out.mem.below)) ?_
 rintro e w5 ⟨a2,cp2,rfl,hs,hb⟩
 replace hS2:=A8 (hS2.out.call hb)
 clear hb z0 z1 z2 z3 z4
 rw [←hr.out] at hs ⊢
 rw [←hc.out]
 obtain ⟨Wb,bM,e1,b1,S1⟩:=hS2.out.add' #[.int .i64 c,.slice a2 r cp2] 27
 have hR:=A8 (show SlE Wb (.slice a2 r cp2) x.made from by rw [e1];exact hs.below ((Below.refl _ _).alloc (Aa _) _))
 clear hs
 go_upto_region 10 with fail
 rw [←e1,←b1]
 clear e1 b1 hS2
 have hb1:=A8 S1.mem.below
 replace hX:=A8 (hX.out.below hb1.out)
 replace hH:=A8 (hH.out.below hb1.out)
 replace hN:=A8 (hN.out.below hb1.out)
 replace hNc:=A8 (hNc.out.below hb1.out)
 replace hOc:=A8 (hOc.out.below hb1.out)
 replace hOs:=A8 (hOs.out.below hb1.out)
 replace hXc:=A8 (hXc.out.below hb1.out)
 replace hE:=A8 (hE.out.below hb1.out (Aa _))
 replace hB:=A8 (hB.out.trans (hb1.out.mono hB.out.size))
 have hMc:=A8 (OldC.of (cs:=[.int .i64 c,.slice a2 r cp2]) (t:=27) S1.mem (.head _))
 have hAc:=A8 (OldC.of (cs:=[.bool false,.slice none 0 0,.string ⟨#[]⟩,.slice a1 n1 k1]) (t:=38) S1.mem (.tail _ (.head _)))
 have hAs:=A8 (show SlS Wb (.slice a1 n1 k1) ws1 from S1.ss _ (.head _))
 clear S1 hb1
 have hS2:=A8 (MS.start Wb)
 have z0:=hS2.out.mem.old hMc.out.1 (hMc.out.2 0 _ rfl)
 have z1:=hS2.out.mem.old hMc.out.1 (hMc.out.2 1 _ rfl)
 go_wp2_with fail
 refine Calls.mono (Ec c _ x.made _ (hS2.out.env hE.out) (hR.out.below hS2.out.mem.below) (hvm.out) (hms.out)) ?_
 rintro e w6 ⟨hb,⟨nv2,nums2,d2,rfl,hs2,hck2⟩ | ⟨wv2,ws2,rfl,hs2,hrf2⟩⟩
 ·
  obtain ⟨a3,k3,rfl⟩:=hs2.shape
  replace hS2:=A8 (hS2.out.call hb)
  replace hS2:=A8 (hS2.out.slice hs2)
  clear hb hs2 z0 z1
  obtain ⟨n3,hn3⟩:∃ n,n=nums2.length:=⟨_,rfl⟩
  rw [←hn3] at hS2 ⊢
  replace hn3:=A8 hn3
  obtain ⟨Wn,bB,e1,b1,S1⟩:=hS2.out.add' #[.bool true,.slice a3 n3 k3,.string d2,.slice none 0 0] 38
  replace hS2:=A8 S1
  clear S1
  go_upto_region 11 with fail
  rw [←e1,←b1]
  clear e1 b1
  rcases Bool.eq_false_or_eq_true x.misses with hmis | hmis
  ·
   refine Iq (bN:=bN) (nc:=x.cols) (nr:=x.rows) (ms:=x.miss) (lc:=nc) (kc:=cc) (lh:=nh) (kh:=ch) (ac:=ac) (ah:=ah) (L:=[]) (R:=[]) (A8 fun W hW=>(hS2.out.call hW.below).mem.old hNc.out.1 (hNc.out.2 0 _ rfl)) (A8 fun W hW=>(hS2.out.call hW.below).mem.old hNc.out.1 (hNc.out.2 1 _ rfl)) (A8 fun W hW=>(hS2.out.call hW.below).mem.old hNc.out.1 (hNc.out.2 2 _ rfl)) (A8 fun W hW=>(hS2.out.call hW.below).mem.old hNc.out.1 (hNc.out.2 3 _ rfl)) (A8 fun W hW=>(hS2.out.call hW.below).mem.old hNc.out.1 (hNc.out.2 4 _ rfl)) (A8 fun W hW=>by have:=MI.out W (hN.out.below (hS2.out.call hW.below).mem.below);rwa [hmis] at this) (A8 (Mem.start _)) rfl rfl rfl (by kernel_rfl) ?_
   intro xx W5 hx92 hM5
   simp only [sets,List.foldl_cons,List.foldl_nil,A5,A6,hx92]
   replace hS2:=A8 (hS2.out.call hM5.out.below)
   clear hM5 hx92
   have z0:=hS2.out.mem.old hXc.out.1 (hXc.out.2 0 _ rfl)
   have z1:=hS2.out.mem.old hXc.out.1 (hXc.out.2 1 _ rfl)
   have z2:=hS2.out.mem.old hMc.out.1 (hMc.out.2 0 _ rfl)
   have z3:=hS2.out.mem.old hMc.out.1 (hMc.out.2 1 _ rfl)
   obtain ⟨Wc,gs,e1,b1,S1⟩:=hS2.out.add' #[.int .i64 c,.slice a (r+1) cp,.int .i64 c,.slice a2 r cp2] 27
   have hS3:=A8 S1
   clear S1 hS2
   go_wp2_with fail
   rw [←e1,←b1]
   clear e1 b1 z0 z1 z2 z3
   have hsz:=hS3.out.mem.size
   refine GV (x:=x) (bN:=bN) (bO:=bO) (bA:=bA) (bB:=bB) (gs:=gs) (c:=c) (hm:=r+1) (hk:=hk) (nc:=nc) (cc:=cc) (nh:=nh) (ch:=ch) (no:=on2) (ko:=oc2) (nb:=n3) (kb:=k3) (na:=n1) (ka:=k1) (hb:=hbb) (ac:=ac) (ah:=ah) (ao:=oa2) (ab:=a3) (aa:=a1) (lv:=lv) (wv:=wv) (l:=l) (wl:=wl) (ol:=cutS ol) (bl:=nums2) (al:=ws1) (hl:=noneW x nl) (od:=od2) (bd:=d2) (den:=den) (kbw:=0) (nbw:=0) (abw:=none) (bw:=[]) (w:=Wc) (A8 (hS3.out.env hE.out)) (A8 (by have:=hrb.out;omega)) (A8 ⟨A9 hNc.out.1 hsz,A9 hOc.out.1 hsz,A9 hAc.out.1 hsz,hS3.out.mem.lt _ (.tail _ (.head _)),hS3.out.mem.lt _ (.head _)⟩) (A8 ⟨hS3.out.mem.old hNc.out.1 (hNc.out.2 0 _ rfl),hS3.out.mem.old hNc.out.1 (hNc.out.2 1 _ rfl),hS3.out.mem.old hNc.out.1 (hNc.out.2 2 _ rfl),hS3.out.mem.old hNc.out.1 (hNc.out.2 3 _ rfl),hS3.out.mem.old hNc.out.1 (hNc.out.2 4 _ rfl)⟩) (A8 ⟨hS3.out.mem.old hOc.out.1 (hOc.out.2 0 _ rfl),hS3.out.mem.old hOc.out.1 (hOc.out.2 1 _ rfl),hOs.out.below hS3.out.mem.below⟩) (A8 ⟨hS3.out.mem.old hAc.out.1 (hAc.out.2 3 _ rfl),hAs.out.below hS3.out.mem.below⟩) (A8 ⟨(hS3.out.cell bB _ _ (.tail _ (.head _)) 1),(hS3.out.cell bB _ _ (.tail _ (.head _)) 2),hS3.out.ss _ (.head _),(hS3.out.cell bB _ _ (.tail _ (.head _)) 3),SlG.nil _⟩) (A8 (hH.out.below hS3.out.mem.below)) (A8 fun j hj=>match j,hj with | 0,_=>⟨noneR x nl,a,r+1,cp,hS3.out.cell gs _ _ (.head _) 0,hS3.out.cell gs _ _ (.head _) 1,hX.out.below hS3.out.mem.below,by have:=hrb.out;omega⟩ | 1,_=>⟨x.made,a2,r,cp2,hS3.out.cell gs _ _ (.head _) 2,hS3.out.cell gs _ _ (.head _) 3,hR.out.below hS3.out.mem.below,by have:=hrb.out;omega⟩) (A8 fun W hW=>HD.out W (hN.out.below (hS3.out.mem.below.trans (hW.mono hsz)))) (A8 fun W hW=>VC.out W c hcb.out (hB.out.trans ((hS3.out.mem.below.trans (hW.mono hsz)).mono hB.out.size))) (A8 fun W n hn hW=>WC.out W n hn (hB.out.trans ((hS3.out.mem.below.trans (hW.mono hsz)).mono hB.out.size))) (A8 fun W hW=>CC.out W (hB.out.trans ((hS3.out.mem.below.trans (hW.mono hsz)).mono hB.out.size))) (by kernel_rfl) ?_
   intro _ _ _ _ _ _ _ _ _ _ _ _ _ _ _ _ _ _ _ _ _ _ _ _ _ _ _ _ _ _ _ _ _ _ _ _ _ _ _ _ _ _ _ _ _ _ _ _ _ _ _ _ _ _ _ _ _ _ _ _ _ _ _ _ _ _ _ _ W12 hB12
   have hfin:=A8 (hB.out.trans ((hS3.out.mem.below.trans (hB12.out.mono hsz)).mono hB.out.size))
   clear hB12 hS3 hN hB hE hR hX hXc hMc hAc hNc hOc hOs hH hAs HD VC WC CC MI MD hsz
   go_wp2
   go_ret
   exact ⟨rfl,hfin.out⟩
  ·
   refine Ir (bN:=bN) (bM:=bM) (c:=c) (sv:=.slice a2 r cp2) (nc:=x.cols) (nr:=x.rows) (ms:=x.miss) (lc:=nc) (kc:=cc) (lh:=nh) (kh:=ch) (ac:=ac) (ah:=ah) (hl:=x.hidN) (L:=[]) (R:=[]) (A8 fun W hW=>(hS2.out.call hW.below).mem.old hNc.out.1 (hNc.out.2 0 _ rfl)) (A8 fun W hW=>(hS2.out.call hW.below).mem.old hNc.out.1 (hNc.out.2 1 _ rfl)) (A8 fun W hW=>(hS2.out.call hW.below).mem.old hNc.out.1 (hNc.out.2 2 _ rfl)) (A8 fun W hW=>(hS2.out.call hW.below).mem.old hNc.out.1 (hNc.out.2 3 _ rfl)) (A8 fun W hW=>(hS2.out.call hW.below).mem.old hNc.out.1 (hNc.out.2 4 _ rfl)) (A8 fun W hW=>by have:=MI.out W (hN.out.below (hS2.out.call hW.below).mem.below);rwa [hmis] at this) (A8 fun W hW=>(hS2.out.call hW.below).mem.old hMc.out.1 (hMc.out.2 0 _ rfl)) (A8 fun W hW=>(hS2.out.call hW.below).mem.old hMc.out.1 (hMc.out.2 1 _ rfl)) (A8 fun W hW=>(hS2.out.call hW.below).mem.old hNc.out.1 (hNc.out.2 0 _ rfl)) (A8 fun W hW=>(hS2.out.call hW.below).mem.old hNc.out.1 (hNc.out.2 1 _ rfl)) (A8 fun W hW=>(hS2.out.call hW.below).mem.old hNc.out.1 (hNc.out.2 2 _ rfl)) (A8 fun W hW=>(hS2.out.call hW.below).mem.old hNc.out.1 (hNc.out.2 3 _ rfl)) (A8 fun W hW=>(hS2.out.call hW.below).mem.old hNc.out.1 (hNc.out.2 4 _ rfl)) (A8 fun W hW=>HD.out W (hN.out.below (hS2.out.call hW.below).mem.below)) (A8 fun W ag lg kg hW hs=>by have:=Cv c (.slice a2 r cp2) (.slice ag lg kg) x.made x.hidN ⟨#[49]⟩ W ((hS2.out.call hW.below).env hE.out) (hR.out.below (hS2.out.call hW.below).mem.below) hs;rwa [show checkL c x.made x.hidN ⟨#[49]⟩=true by rw [←show I 1=⟨#[49]⟩ by kernel_rfl];exact hmc.out hmis] at this) (A8 (Mem.start _)) rfl rfl rfl rfl (by kernel_rfl) ?_
   intro xx W5 hx92 hM5
   simp only [sets,List.foldl_cons,List.foldl_nil,A5,A6,hx92]
   replace hS2:=A8 (hS2.out.call hM5.out.below)
   clear hM5 hx92
   have z0:=hS2.out.mem.old hXc.out.1 (hXc.out.2 0 _ rfl)
   have z1:=hS2.out.mem.old hXc.out.1 (hXc.out.2 1 _ rfl)
   have z2:=hS2.out.mem.old hMc.out.1 (hMc.out.2 0 _ rfl)
   have z3:=hS2.out.mem.old hMc.out.1 (hMc.out.2 1 _ rfl)
   obtain ⟨Wc,gs,e1,b1,S1⟩:=hS2.out.add' #[.int .i64 c,.slice a (r+1) cp,.int .i64 c,.slice a2 r cp2] 27
   have hS3:=A8 S1
   clear S1 hS2
   go_wp2_with fail
   rw [←e1,←b1]
   clear e1 b1 z0 z1 z2 z3
   have hsz:=hS3.out.mem.size
   refine GV (x:=x) (bN:=bN) (bO:=bO) (bA:=bA) (bB:=bB) (gs:=gs) (c:=c) (hm:=r+1) (hk:=hk) (nc:=nc) (cc:=cc) (nh:=nh) (ch:=ch) (no:=on2) (ko:=oc2) (nb:=n3) (kb:=k3) (na:=n1) (ka:=k1) (hb:=hbb) (ac:=ac) (ah:=ah) (ao:=oa2) (ab:=a3) (aa:=a1) (lv:=lv) (wv:=wv) (l:=l) (wl:=wl) (ol:=cutS ol) (bl:=nums2) (al:=ws1) (hl:=noneW x nl) (od:=od2) (bd:=d2) (den:=den) (kbw:=0) (nbw:=0) (abw:=none) (bw:=[]) (w:=Wc) (A8 (hS3.out.env hE.out)) (A8 (by have:=hrb.out;omega)) (A8 ⟨A9 hNc.out.1 hsz,A9 hOc.out.1 hsz,A9 hAc.out.1 hsz,hS3.out.mem.lt _ (.tail _ (.head _)),hS3.out.mem.lt _ (.head _)⟩) (A8 ⟨hS3.out.mem.old hNc.out.1 (hNc.out.2 0 _ rfl),hS3.out.mem.old hNc.out.1 (hNc.out.2 1 _ rfl),hS3.out.mem.old hNc.out.1 (hNc.out.2 2 _ rfl),hS3.out.mem.old hNc.out.1 (hNc.out.2 3 _ rfl),hS3.out.mem.old hNc.out.1 (hNc.out.2 4 _ rfl)⟩) (A8 ⟨hS3.out.mem.old hOc.out.1 (hOc.out.2 0 _ rfl),hS3.out.mem.old hOc.out.1 (hOc.out.2 1 _ rfl),hOs.out.below hS3.out.mem.below⟩) (A8 ⟨hS3.out.mem.old hAc.out.1 (hAc.out.2 3 _ rfl),hAs.out.below hS3.out.mem.below⟩) (A8 ⟨(hS3.out.cell bB _ _ (.tail _ (.head _)) 1),(hS3.out.cell bB _ _ (.tail _ (.head _)) 2),hS3.out.ss _ (.head _),(hS3.out.cell bB _ _ (.tail _ (.head _)) 3),SlG.nil _⟩) (A8 (hH.out.below hS3.out.mem.below)) (A8 fun j hj=>match j,hj with | 0,_=>⟨noneR x nl,a,r+1,cp,hS3.out.cell gs _ _ (.head _) 0,hS3.out.cell gs _ _ (.head _) 1,hX.out.below hS3.out.mem.below,by have:=hrb.out;omega⟩ | 1,_=>⟨x.made,a2,r,cp2,hS3.out.cell gs _ _ (.head _) 2,hS3.out.cell gs _ _ (.head _) 3,hR.out.below hS3.out.mem.below,by have:=hrb.out;omega⟩) (A8 fun W hW=>HD.out W (hN.out.below (hS3.out.mem.below.trans (hW.mono hsz)))) (A8 fun W hW=>VC.out W c hcb.out (hB.out.trans ((hS3.out.mem.below.trans (hW.mono hsz)).mono hB.out.size))) (A8 fun W n hn hW=>WC.out W n hn (hB.out.trans ((hS3.out.mem.below.trans (hW.mono hsz)).mono hB.out.size))) (A8 fun W hW=>CC.out W (hB.out.trans ((hS3.out.mem.below.trans (hW.mono hsz)).mono hB.out.size))) (by kernel_rfl) ?_
   intro _ _ _ _ _ _ _ _ _ _ _ _ _ _ _ _ _ _ _ _ _ _ _ _ _ _ _ _ _ _ _ _ _ _ _ _ _ _ _ _ _ _ _ _ _ _ _ _ _ _ _ _ _ _ _ _ _ _ _ _ _ _ _ _ _ _ _ _ W12 hB12
   have hfin:=A8 (hB.out.trans ((hS3.out.mem.below.trans (hB12.out.mono hsz)).mono hB.out.size))
   clear hB12 hS3 hN hB hE hR hX hXc hMc hAc hNc hOc hOs hH hAs HD VC WC CC MI MD hsz
   go_wp2
   go_ret
   exact ⟨rfl,hfin.out⟩
 ·
  obtain ⟨a3,k3,rfl⟩:=hs2.shape
  replace hS2:=A8 (hS2.out.call hb)
  replace hS2:=A8 (hS2.out.slice hs2)
  clear hb hs2 z0 z1
  obtain ⟨n3,hn3⟩:∃ n,n=ws2.length:=⟨_,rfl⟩
  rw [←hn3] at hS2 ⊢
  replace hn3:=A8 hn3
  obtain ⟨Wn,bB,e1,b1,S1⟩:=hS2.out.add' #[.bool false,.slice none 0 0,.string ⟨#[]⟩,.slice a3 n3 k3] 38
  replace hS2:=A8 S1
  clear S1
  go_upto_region 11 with fail
  rw [←e1,←b1]
  clear e1 b1
  rcases Bool.eq_false_or_eq_true x.misses with hmis | hmis
  ·
   refine Iq (bN:=bN) (nc:=x.cols) (nr:=x.rows) (ms:=x.miss) (lc:=nc) (kc:=cc) (lh:=nh) (kh:=ch) (ac:=ac) (ah:=ah) (L:=[]) (R:=[]) (A8 fun W hW=>(hS2.out.call hW.below).mem.old hNc.out.1 (hNc.out.2 0 _ rfl)) (A8 fun W hW=>(hS2.out.call hW.below).mem.old hNc.out.1 (hNc.out.2 1 _ rfl)) (A8 fun W hW=>(hS2.out.call hW.below).mem.old hNc.out.1 (hNc.out.2 2 _ rfl)) (A8 fun W hW=>(hS2.out.call hW.below).mem.old hNc.out.1 (hNc.out.2 3 _ rfl)) (A8 fun W hW=>(hS2.out.call hW.below).mem.old hNc.out.1 (hNc.out.2 4 _ rfl)) (A8 fun W hW=>by have:=MI.out W (hN.out.below (hS2.out.call hW.below).mem.below);rwa [hmis] at this) (A8 (Mem.start _)) rfl rfl rfl (by kernel_rfl) ?_
   intro xx W5 hx92 hM5
   simp only [sets,List.foldl_cons,List.foldl_nil,A5,A6,hx92]
   replace hS2:=A8 (hS2.out.call hM5.out.below)
   clear hM5 hx92
   have z0:=hS2.out.mem.old hXc.out.1 (hXc.out.2 0 _ rfl)
   have z1:=hS2.out.mem.old hXc.out.1 (hXc.out.2 1 _ rfl)
   have z2:=hS2.out.mem.old hMc.out.1 (hMc.out.2 0 _ rfl)
   have z3:=hS2.out.mem.old hMc.out.1 (hMc.out.2 1 _ rfl)
   obtain ⟨Wc,gs,e1,b1,S1⟩:=hS2.out.add' #[.int .i64 c,.slice a (r+1) cp,.int .i64 c,.slice a2 r cp2] 27
   have hS3:=A8 S1
   clear S1 hS2
   go_wp2_with fail
   rw [←e1,←b1]
   clear e1 b1 z0 z1 z2 z3
   have hsz:=hS3.out.mem.size
   refine GV (x:=x) (bN:=bN) (bO:=bO) (bA:=bA) (bB:=bB) (gs:=gs) (c:=c) (hm:=r+1) (hk:=hk) (nc:=nc) (cc:=cc) (nh:=nh) (ch:=ch) (no:=on2) (ko:=oc2) (nb:=0) (kb:=0) (na:=n1) (ka:=k1) (hb:=hbb) (ac:=ac) (ah:=ah) (ao:=oa2) (ab:=none) (aa:=a1) (lv:=lv) (wv:=wv) (l:=l) (wl:=wl) (ol:=cutS ol) (bl:=[]) (al:=ws1) (hl:=noneW x nl) (od:=od2) (bd:=⟨#[]⟩) (den:=den) (kbw:=k3) (nbw:=n3) (abw:=a3) (bw:=ws2) (w:=Wc) (A8 (hS3.out.env hE.out)) (A8 (by have:=hrb.out;omega)) (A8 ⟨A9 hNc.out.1 hsz,A9 hOc.out.1 hsz,A9 hAc.out.1 hsz,hS3.out.mem.lt _ (.tail _ (.head _)),hS3.out.mem.lt _ (.head _)⟩) (A8 ⟨hS3.out.mem.old hNc.out.1 (hNc.out.2 0 _ rfl),hS3.out.mem.old hNc.out.1 (hNc.out.2 1 _ rfl),hS3.out.mem.old hNc.out.1 (hNc.out.2 2 _ rfl),hS3.out.mem.old hNc.out.1 (hNc.out.2 3 _ rfl),hS3.out.mem.old hNc.out.1 (hNc.out.2 4 _ rfl)⟩) (A8 ⟨hS3.out.mem.old hOc.out.1 (hOc.out.2 0 _ rfl),hS3.out.mem.old hOc.out.1 (hOc.out.2 1 _ rfl),hOs.out.below hS3.out.mem.below⟩) (A8 ⟨hS3.out.mem.old hAc.out.1 (hAc.out.2 3 _ rfl),hAs.out.below hS3.out.mem.below⟩) (A8 ⟨(hS3.out.cell bB _ _ (.tail _ (.head _)) 1),(hS3.out.cell bB _ _ (.tail _ (.head _)) 2),SlG.nil _,(hS3.out.cell bB _ _ (.tail _ (.head _)) 3),hS3.out.ss _ (.head _)⟩) (A8 (hH.out.below hS3.out.mem.below)) (A8 fun j hj=>match j,hj with | 0,_=>⟨noneR x nl,a,r+1,cp,hS3.out.cell gs _ _ (.head _) 0,hS3.out.cell gs _ _ (.head _) 1,hX.out.below hS3.out.mem.below,by have:=hrb.out;omega⟩ | 1,_=>⟨x.made,a2,r,cp2,hS3.out.cell gs _ _ (.head _) 2,hS3.out.cell gs _ _ (.head _) 3,hR.out.below hS3.out.mem.below,by have:=hrb.out;omega⟩) (A8 fun W hW=>HD.out W (hN.out.below (hS3.out.mem.below.trans (hW.mono hsz)))) (A8 fun W hW=>VC.out W c hcb.out (hB.out.trans ((hS3.out.mem.below.trans (hW.mono hsz)).mono hB.out.size))) (A8 fun W n hn hW=>WC.out W n hn (hB.out.trans ((hS3.out.mem.below.trans (hW.mono hsz)).mono hB.out.size))) (A8 fun W hW=>CC.out W (hB.out.trans ((hS3.out.mem.below.trans (hW.mono hsz)).mono hB.out.size))) (by kernel_rfl) ?_
   intro _ _ _ _ _ _ _ _ _ _ _ _ _ _ _ _ _ _ _ _ _ _ _ _ _ _ _ _ _ _ _ _ _ _ _ _ _ _ _ _ _ _ _ _ _ _ _ _ _ _ _ _ _ _ _ _ _ _ _ _ _ _ _ _ _ _ _ _ W12 hB12
   have hfin:=A8 (hB.out.trans ((hS3.out.mem.below.trans (hB12.out.mono hsz)).mono hB.out.size))
   clear hB12 hS3 hN hB hE hR hX hXc hMc hAc hNc hOc hOs hH hAs HD VC WC CC MI MD hsz
   go_wp2
   go_ret
   exact ⟨rfl,hfin.out⟩
  ·
   refine Ir (bN:=bN) (bM:=bM) (c:=c) (sv:=.slice a2 r cp2) (nc:=x.cols) (nr:=x.rows) (ms:=x.miss) (lc:=nc) (kc:=cc) (lh:=nh) (kh:=ch) (ac:=ac) (ah:=ah) (hl:=x.hidN) (L:=[]) (R:=[]) (A8 fun W hW=>(hS2.out.call hW.below).mem.old hNc.out.1 (hNc.out.2 0 _ rfl)) (A8 fun W hW=>(hS2.out.call hW.below).mem.old hNc.out.1 (hNc.out.2 1 _ rfl)) (A8 fun W hW=>(hS2.out.call hW.below).mem.old hNc.out.1 (hNc.out.2 2 _ rfl)) (A8 fun W hW=>(hS2.out.call hW.below).mem.old hNc.out.1 (hNc.out.2 3 _ rfl)) (A8 fun W hW=>(hS2.out.call hW.below).mem.old hNc.out.1 (hNc.out.2 4 _ rfl)) (A8 fun W hW=>by have:=MI.out W (hN.out.below (hS2.out.call hW.below).mem.below);rwa [hmis] at this) (A8 fun W hW=>(hS2.out.call hW.below).mem.old hMc.out.1 (hMc.out.2 0 _ rfl)) (A8 fun W hW=>(hS2.out.call hW.below).mem.old hMc.out.1 (hMc.out.2 1 _ rfl)) (A8 fun W hW=>(hS2.out.call hW.below).mem.old hNc.out.1 (hNc.out.2 0 _ rfl)) (A8 fun W hW=>(hS2.out.call hW.below).mem.old hNc.out.1 (hNc.out.2 1 _ rfl)) (A8 fun W hW=>(hS2.out.call hW.below).mem.old hNc.out.1 (hNc.out.2 2 _ rfl)) (A8 fun W hW=>(hS2.out.call hW.below).mem.old hNc.out.1 (hNc.out.2 3 _ rfl)) (A8 fun W hW=>(hS2.out.call hW.below).mem.old hNc.out.1 (hNc.out.2 4 _ rfl)) (A8 fun W hW=>HD.out W (hN.out.below (hS2.out.call hW.below).mem.below)) (A8 fun W ag lg kg hW hs=>by have:=Cv c (.slice a2 r cp2) (.slice ag lg kg) x.made x.hidN ⟨#[49]⟩ W ((hS2.out.call hW.below).env hE.out) (hR.out.below (hS2.out.call hW.below).mem.below) hs;rwa [show checkL c x.made x.hidN ⟨#[49]⟩=true by rw [←show I 1=⟨#[49]⟩ by kernel_rfl];exact hmc.out hmis] at this) (A8 (Mem.start _)) rfl rfl rfl rfl (by kernel_rfl) ?_
   intro xx W5 hx92 hM5
   simp only [sets,List.foldl_cons,List.foldl_nil,A5,A6,hx92]
   replace hS2:=A8 (hS2.out.call hM5.out.below)
   clear hM5 hx92
   have z0:=hS2.out.mem.old hXc.out.1 (hXc.out.2 0 _ rfl)
   have z1:=hS2.out.mem.old hXc.out.1 (hXc.out.2 1 _ rfl)
   have z2:=hS2.out.mem.old hMc.out.1 (hMc.out.2 0 _ rfl)
   have z3:=hS2.out.mem.old hMc.out.1 (hMc.out.2 1 _ rfl)
   obtain ⟨Wc,gs,e1,b1,S1⟩:=hS2.out.add' #[.int .i64 c,.slice a (r+1) cp,.int .i64 c,.slice a2 r cp2] 27
   have hS3:=A8 S1
   clear S1 hS2
   go_wp2_with fail
   rw [←e1,←b1]
   clear e1 b1 z0 z1 z2 z3
   have hsz:=hS3.out.mem.size
   refine GV (x:=x) (bN:=bN) (bO:=bO) (bA:=bA) (bB:=bB) (gs:=gs) (c:=c) (hm:=r+1) (hk:=hk) (nc:=nc) (cc:=cc) (nh:=nh) (ch:=ch) (no:=on2) (ko:=oc2) (nb:=0) (kb:=0) (na:=n1) (ka:=k1) (hb:=hbb) (ac:=ac) (ah:=ah) (ao:=oa2) (ab:=none) (aa:=a1) (lv:=lv) (wv:=wv) (l:=l) (wl:=wl) (ol:=cutS ol) (bl:=[]) (al:=ws1) (hl:=noneW x nl) (od:=od2) (bd:=⟨#[]⟩) (den:=den) (kbw:=k3) (nbw:=n3) (abw:=a3) (bw:=ws2) (w:=Wc) (A8 (hS3.out.env hE.out)) (A8 (by have:=hrb.out;omega)) (A8 ⟨A9 hNc.out.1 hsz,A9 hOc.out.1 hsz,A9 hAc.out.1 hsz,hS3.out.mem.lt _ (.tail _ (.head _)),hS3.out.mem.lt _ (.head _)⟩) (A8 ⟨hS3.out.mem.old hNc.out.1 (hNc.out.2 0 _ rfl),hS3.out.mem.old hNc.out.1 (hNc.out.2 1 _ rfl),hS3.out.mem.old hNc.out.1 (hNc.out.2 2 _ rfl),hS3.out.mem.old hNc.out.1 (hNc.out.2 3 _ rfl),hS3.out.mem.old hNc.out.1 (hNc.out.2 4 _ rfl)⟩) (A8 ⟨hS3.out.mem.old hOc.out.1 (hOc.out.2 0 _ rfl),hS3.out.mem.old hOc.out.1 (hOc.out.2 1 _ rfl),hOs.out.below hS3.out.mem.below⟩) (A8 ⟨hS3.out.mem.old hAc.out.1 (hAc.out.2 3 _ rfl),hAs.out.below hS3.out.mem.below⟩) (A8 ⟨(hS3.out.cell bB _ _ (.tail _ (.head _)) 1),(hS3.out.cell bB _ _ (.tail _ (.head _)) 2),SlG.nil _,(hS3.out.cell bB _ _ (.tail _ (.head _)) 3),hS3.out.ss _ (.head _)⟩) (A8 (hH.out.below hS3.out.mem.below)) (A8 fun j hj=>match j,hj with | 0,_=>⟨noneR x nl,a,r+1,cp,hS3.out.cell gs _ _ (.head _) 0,hS3.out.cell gs _ _ (.head _) 1,hX.out.below hS3.out.mem.below,by have:=hrb.out;omega⟩ | 1,_=>⟨x.made,a2,r,cp2,hS3.out.cell gs _ _ (.head _) 2,hS3.out.cell gs _ _ (.head _) 3,hR.out.below hS3.out.mem.below,by have:=hrb.out;omega⟩) (A8 fun W hW=>HD.out W (hN.out.below (hS3.out.mem.below.trans (hW.mono hsz)))) (A8 fun W hW=>VC.out W c hcb.out (hB.out.trans ((hS3.out.mem.below.trans (hW.mono hsz)).mono hB.out.size))) (A8 fun W n hn hW=>WC.out W n hn (hB.out.trans ((hS3.out.mem.below.trans (hW.mono hsz)).mono hB.out.size))) (A8 fun W hW=>CC.out W (hB.out.trans ((hS3.out.mem.below.trans (hW.mono hsz)).mono hB.out.size))) (by kernel_rfl) ?_
   intro _ _ _ _ _ _ _ _ _ _ _ _ _ _ _ _ _ _ _ _ _ _ _ _ _ _ _ _ _ _ _ _ _ _ _ _ _ _ _ _ _ _ _ _ _ _ _ _ _ _ _ _ _ _ _ _ _ _ _ _ _ _ _ _ _ _ _ _ W12 hB12
   have hfin:=A8 (hB.out.trans ((hS3.out.mem.below.trans (hB12.out.mono hsz)).mono hB.out.size))
   clear hB12 hS3 hN hB hE hR hX hXc hMc hAc hNc hOc hOs hH hAs HD VC WC CC MI MD hsz
   go_wp2
   go_ret
   exact ⟨rfl,hfin.out⟩
end
end Go.Proofs.YtcmomjnailihpaaGreatDoor
