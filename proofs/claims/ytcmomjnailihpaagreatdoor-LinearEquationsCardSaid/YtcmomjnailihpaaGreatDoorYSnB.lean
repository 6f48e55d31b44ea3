/- SnB, SnC, Vec, SvL, OrE, Stay, LnOpen -/
import Derived.Test.YtcmomjnailihpaaGreatDoorYRgK
import Derived.Deep.DeepCutAuto
import Derived.OpenShut
import Derived.ChangeStays
import Derived.ChangeBook
import Derived.ChangeOld
import Derived.ChangeShapes
import Derived.Lib.SmallJoins
import Derived.Laws.IdiomArrays
import Derived.Deep.Strs
set_option maxHeartbeats 8000000
set_option maxRecDepth 100000
namespace Go.Proofs.YtcmomjnailihpaaGreatDoor
section
open Go.RowKit
attribute [local go_sem] Oper.semAt_some
theorem KR {Q:Exit→Act→World→Prop} {us:List Value} {bV bA bB bC bD bS n1 n2 k1 k2 k3 k4:Nat} {a1 a2 a3 a4:Option Addr} {d1:ByteArray} {w W0:World} {L:BLs} {R:List RowD}    (x80:Hid (∀ W,Mem w L R W→W.cell? ⟨bA,0,none⟩=some (.bool true))) (x83_0:Hid (∀ W,Mem w L R W→W.cell? ⟨bA,1,none⟩=some (.slice a1 n1 k1))) (x83_1:Hid (∀ W,Mem w L R W→W.cell? ⟨bA,2,none⟩=some (.string d1))) (x84_0:Hid (∀ W,Mem w L R W→W.cell? ⟨bV,0,none⟩=some (.slice (some ⟨bS,0,none⟩) 2 2))) (x84_1:Hid (∀ W,Mem w L R W→W.cell? ⟨bV,1,none⟩=some (.string ⟨#[50]⟩))) (C85:Hid (∀ W,Mem w L R W→Calls Tryz.prog 21 #[.agg #[.slice a1 n1 k1,.string d1],.agg #[.slice (some ⟨bS,0,none⟩) 2 2,.string ⟨#[50]⟩]] W (Rets W (.bool true)))) (x89:Hid (∀ W,Mem w L R W→W.cell? ⟨bA,3,none⟩=some (.slice none 0 0))) (x95:Hid (∀ W,Mem w L R W→W.cell? ⟨bB,0,none⟩=some (.bool false))) (C99:Hid (∀ W,Mem w L R W→Calls Tryz.prog 34 #[.int .i64 3,.int .i64 4] W fun e W'=>∃ (v99':Value),e=.returned (.agg #[.int .i64 2,v99'])∧SlE W' v99' (twoL 3 4)∧Below W.heap.size W W')) (x101:Hid (∀ W,Mem w L R W→W.cell? ⟨bB,3,none⟩=some (.slice a2 n2 k2))) (C102:Hid (∀ W (v99':Value),Mem w L R W→SlE W v99' (twoL 3 4)→Calls Tryz.prog 28 #[.agg #[.int .i64 2,v99'],.slice a2 n2 k2] W (Rets W (.bool true)))) (x106:Hid (∀ W,Mem w L R W→W.cell? ⟨bC,0,none⟩=some (.bool true))) (x111:Hid (∀ W,Mem w L R W→W.cell? ⟨bC,1,none⟩=some (.slice a3 0 k3))) (x117:Hid (∀ W,Mem w L R W→W.cell? ⟨bD,0,none⟩=some (.bool false))) (x122:Hid (∀ W,Mem w L R W→W.cell? ⟨bD,3,none⟩=some (.slice a4 1 k4))) (h0:Hid (Mem w L R W0)) (hN:us.length=171) (g1:us[1]? = some (.pointer (some ⟨bV,0,none⟩))) (g2:us[2]? = some (.pointer (some ⟨bA,0,none⟩))) (g4:us[4]? = some (.pointer (some ⟨bB,0,none⟩))) (g6:us[6]? = some (.pointer (some ⟨bC,0,none⟩))) (g8:us[8]? = some (.pointer (some ⟨bD,0,none⟩))) {ops:Array Oper} (ho:getOps Tryz.f9.body 10=some ops)
  (hQ:∀ (x:Nat→Value)  (W':World),x 14=.bool true→Hid (Mem w L R W')→Q .normal { tmps:=(sets [79,80,81,82,83,84,85,86,87,88,89,90,91,92,93,94,95,96,97,98,99,100,101,102,103,104,105,106,107,108,109,110,111,112,113,114,115,116,117,118,119,120,121,122,123,124,125,14] x us).toArray,defers:=[] } W') :
  (Code.region 10 ops true).wp Tryz.prog Q { tmps:=us.toArray,defers:=[] } W0:=by
 obtain rfl:=Option.some.inj (ho.symm.trans (rfl:getOps Tryz.f9.body 10=some _))
 clear ho
 replace hQ:=A8 hQ
 let Fl:Unit→FL:=fun g=>[some (79,.pointer (some ⟨bA,0,none⟩)),some (80,.bool true),some (81,.bool true),some (82,.pointer (some ⟨bA,1,none⟩)),some (83,.agg #[.slice a1 n1 k1,.string d1]),some (84,.agg #[.slice (some ⟨bS,0,none⟩) 2 2,.string ⟨#[50]⟩]),some (85,.bool true),some (86,.bool true),some (87,.bool true),some (88,.pointer (some ⟨bA,3,none⟩)),some (89,.slice none 0 0),some (90,.int .i64 0),some (91,.bool true),some (92,.bool true),some (93,.bool true),some (94,.pointer (some ⟨bB,0,none⟩)),some (95,.bool false),some (96,.bool true),some (97,.bool true),some (98,.bool true),none,some (100,.pointer (some ⟨bB,3,none⟩)),some (101,.slice a2 n2 k2),some (102,.bool true),some (103,.bool true),some (104,.bool true),some (105,.pointer (some ⟨bC,0,none⟩)),some (106,.bool true),some (107,.bool true),some (108,.bool true),some (109,.pointer (some ⟨bC,1,none⟩)),some (110,.pointer (some ⟨bC,1,none⟩)),some (111,.slice a3 0 k3),some (112,.int .i64 0),some (113,.bool true),some (114,.bool true),some (115,.bool true),some (116,.pointer (some ⟨bD,0,none⟩)),some (117,.bool false),some (118,.bool true),some (119,.bool true),some (120,.bool true),some (121,.pointer (some ⟨bD,3,none⟩)),some (122,.slice a4 1 k4),some (123,.int .i64 1),some (124,.bool true),some (125,.bool true),some (14,.bool true)]
 let Ml:Unit→ML:=fun g=>[(20,99,(fun yv W=>∃ (v99':Value),yv=.agg #[.int .i64 2,v99']∧SlE W v99' (twoL 3 4)),none)]
 let Sl_:Unit→List (World→Prop):=fun g=>[fun W=>Mem w L R W]
 have St:RgS 171 [79,80,81,82,83,84,85,86,87,88,89,90,91,92,93,94,95,96,97,98,99,100,101,102,103,104,105,106,107,108,109,110,111,112,113,114,115,116,117,118,119,120,121,122,123,124,125,14] [20] Fl Ml (Mem w L R) Sl_:=⟨fun _=>by kernel_rfl,fun _=>rfl,fun _ _ hb h=>h.call hb,fun g=>List.forall_mem_cons.2 ⟨fun yv W W' hb=>fun ⟨g0,e,h⟩=>⟨g0,e,h.below hb⟩,(fun _ h=>by cases h)⟩,fun g=>List.forall_mem_cons.2 ⟨fun W W' hb h=>h.call hb,(fun _ h=>by cases h)⟩⟩
 refine As 171 us [79,80,81,82,83,84,85,86,87,88,89,90,91,92,93,94,95,96,97,98,99,100,101,102,103,104,105,106,107,108,109,110,111,112,113,114,115,116,117,118,119,120,121,122,123,124,125,14] Fl Ml [] (Mem w L R) Sl_ hN (by kernel_rfl) (by kernel_rfl) () h0.out.drew h0.out.drew (by kernel_rfl) ?_ ?_
 refine Ab (stV St 0 rfl (fun _=>rfl) fun g T E W hl hw hs z K J=>by
  have x2:=z.u g2
  go_simp;exact J) ?_
 refine Ab (stV St 1 rfl (fun _=>rfl) fun g T E W hl hw hs z K J=>by
  have x79:=z.x 0 hw rfl
  have hC:=z.c
  have k0:=x80.out _ hC
  go_simp;exact J) ?_
 refine Ab (stV St 2 rfl (fun _=>rfl) fun g T E W hl hw hs z K J=>by
  have x80:=z.x 1 hw rfl
  go_simp;exact J) ?_
 refine Ab (stG St 3 (wg 2 rfl rfl (by kernel_rfl) (fun _=>rfl)) rfl (fun _=>rfl) fun g T E W hl hw hs z K J=>by
  have x2:=z.u g2
  go_simp;exact J) ?_
 refine Ab (stG St 4 (wg 2 rfl rfl (by kernel_rfl) (fun _=>rfl)) rfl (fun _=>rfl) fun g T E W hl hw hs z K J=>by
  have x82:=z.x 3 hw rfl
  have hC:=z.c
  have k0:=x83_0.out _ hC
  have hC:=z.c
  have k1:=x83_1.out _ hC
  go_simp;exact J) ?_
 refine Ab (stG St 5 (wg 2 rfl rfl (by kernel_rfl) (fun _=>rfl)) rfl (fun _=>rfl) fun g T E W hl hw hs z K J=>by
  have x1:=z.u g1
  have hC:=z.c
  have k0:=x84_0.out _ hC
  have hC:=z.c
  have k1:=x84_1.out _ hC
  go_simp;exact J) ?_
 refine Ab (stH St 6 (wg 2 rfl rfl (by kernel_rfl) (fun _=>rfl)) rfl (fun _=>rfl) fun g T E W hl hw hs z K J=>by
  have x83:=z.x 4 hw rfl
  have x84:=z.x 5 hw rfl
  have hC:=z.c
  go_simp
  refine Calls.mono (C85.out W hC) ?_
  rintro e W2 ⟨rfl,hb⟩
  exact J _ hb) ?_
 refine Ab (stV St 7 rfl (fun _=>rfl) fun g T E W hl hw hs z K J=>by
  have x81:=z.x 2 hw rfl
  have x85:=z.x 6 hw rfl
  go_simp;exact J) ?_
 refine Ab (stV St 8 rfl (fun _=>rfl) fun g T E W hl hw hs z K J=>by
  have x86:=z.x 7 hw rfl
  go_simp;exact J) ?_
 refine Ab (stG St 9 (wg 8 rfl rfl (by kernel_rfl) (fun _=>rfl)) rfl (fun _=>rfl) fun g T E W hl hw hs z K J=>by
  have x2:=z.u g2
  go_simp;exact J) ?_
 refine Ab (stG St 10 (wg 8 rfl rfl (by kernel_rfl) (fun _=>rfl)) rfl (fun _=>rfl) fun g T E W hl hw hs z K J=>by
  have x88:=z.x 9 hw rfl
  have hC:=z.c
  have k0:=x89.out _ hC
  go_simp;exact J) ?_
 refine Ab (stG St 11 (wg 8 rfl rfl (by kernel_rfl) (fun _=>rfl)) rfl (fun _=>rfl) fun g T E W hl hw hs z K J=>by
  have x89:=z.x 10 hw rfl
  go_simp;exact J) ?_
 refine Ab (stG St 12 (wg 8 rfl rfl (by kernel_rfl) (fun _=>rfl)) rfl (fun _=>rfl) fun g T E W hl hw hs z K J=>by
  have x90:=z.x 11 hw rfl
  go_simp;exact J) ?_
 refine Ab (stV St 13 rfl (fun _=>rfl) fun g T E W hl hw hs z K J=>by
  have x87:=z.x 8 hw rfl
  have x91:=z.x 12 hw rfl
  go_simp;exact J) ?_
 refine Ab (stV St 14 rfl (fun _=>rfl) fun g T E W hl hw hs z K J=>by
  have x92:=z.x 13 hw rfl
  go_simp;exact J) ?_
 refine Ab (stG St 15 (wg 14 rfl rfl (by kernel_rfl) (fun _=>rfl)) rfl (fun _=>rfl) fun g T E W hl hw hs z K J=>by
  have x4:=z.u g4
  go_simp;exact J) ?_
 refine Ab (stG St 16 (wg 14 rfl rfl (by kernel_rfl) (fun _=>rfl)) rfl (fun _=>rfl) fun g T E W hl hw hs z K J=>by
  have x94:=z.x 15 hw rfl
  have hC:=z.c
  have k0:=x95.out _ hC
  go_simp;exact J) ?_
 refine Ab (stG St 17 (wg 14 rfl rfl (by kernel_rfl) (fun _=>rfl)) rfl (fun _=>rfl) fun g T E W hl hw hs z K J=>by
  have x95:=z.x 16 hw rfl
  go_simp;exact J) ?_
 refine Ab (stV St 18 rfl (fun _=>rfl) fun g T E W hl hw hs z K J=>by
  have x93:=z.x 14 hw rfl
  have x96:=z.x 17 hw rfl
  go_simp;exact J) ?_
 refine Ab (stV St 19 rfl (fun _=>rfl) fun g T E W hl hw hs z K J=>by
  have x97:=z.x 18 hw rfl
  go_simp;exact J) ?_
 refine Ab (stM St 20 0 (wg 19 rfl rfl (by kernel_rfl) (fun _=>rfl)) (fun _=>rfl) (fun _=>by kernel_rfl) fun g T E W hl hw hs z K J=>by
  have hC:=z.c
  go_simp
  refine Calls.mono (C99.out W hC) ?_
  rintro e W2 ⟨v99',rfl,hp,hb⟩
  exact J _ _ hb ⟨v99',rfl,hp⟩) ?_
 refine Ab (stG St 21 (wg 19 rfl rfl (by kernel_rfl) (fun _=>rfl)) rfl (fun _=>rfl) fun g T E W hl hw hs z K J=>by
  have x4:=z.u g4
  go_simp;exact J) ?_
 refine Ab (stG St 22 (wg 19 rfl rfl (by kernel_rfl) (fun _=>rfl)) rfl (fun _=>rfl) fun g T E W hl hw hs z K J=>by
  have x100:=z.x 21 hw rfl
  have hC:=z.c
  have k0:=x101.out _ hC
  go_simp;exact J) ?_
 refine Ab (stH St 23 (wg 19 rfl rfl (by kernel_rfl) (fun _=>rfl)) rfl (fun _=>rfl) fun g T E W hl hw hs z K J=>by
  obtain ⟨_,x99,v99',rfl,hm20⟩:=z.y 0 hl hw hs rfl
  have x101:=z.x 22 hw rfl
  have hC:=z.c
  go_simp
  refine Calls.mono (C102.out W v99' hC hm20) ?_
  rintro e W2 ⟨rfl,hb⟩
  exact J _ hb) ?_
 refine Ab (stV St 24 rfl (fun _=>rfl) fun g T E W hl hw hs z K J=>by
  have x98:=z.x 19 hw rfl
  have x102:=z.x 23 hw rfl
  go_simp;exact J) ?_
 refine Ab (stV St 25 rfl (fun _=>rfl) fun g T E W hl hw hs z K J=>by
  have x103:=z.x 24 hw rfl
  go_simp;exact J) ?_
 refine Ab (stG St 26 (wg 25 rfl rfl (by kernel_rfl) (fun _=>rfl)) rfl (fun _=>rfl) fun g T E W hl hw hs z K J=>by
  have x6:=z.u g6
  go_simp;exact J) ?_
 refine Ab (stG St 27 (wg 25 rfl rfl (by kernel_rfl) (fun _=>rfl)) rfl (fun _=>rfl) fun g T E W hl hw hs z K J=>by
  have x105:=z.x 26 hw rfl
  have hC:=z.c
  have k0:=x106.out _ hC
  go_simp;exact J) ?_
 refine Ab (stV St 28 rfl (fun _=>rfl) fun g T E W hl hw hs z K J=>by
  have x104:=z.x 25 hw rfl
  have x106:=z.x 27 hw rfl
  go_simp;exact J) ?_
 refine Ab (stV St 29 rfl (fun _=>rfl) fun g T E W hl hw hs z K J=>by
  have x107:=z.x 28 hw rfl
  go_simp;exact J) ?_
 refine Ab (stG St 30 (wg 29 rfl rfl (by kernel_rfl) (fun _=>rfl)) rfl (fun _=>rfl) fun g T E W hl hw hs z K J=>by
  have x6:=z.u g6
  go_simp;exact J) ?_
 refine Ab (stG St 31 (wg 29 rfl rfl (by kernel_rfl) (fun _=>rfl)) rfl (fun _=>rfl) fun g T E W hl hw hs z K J=>by
  have x109:=z.x 30 hw rfl
  go_simp;exact J) ?_
 refine Ab (stG St 32 (wg 29 rfl rfl (by kernel_rfl) (fun _=>rfl)) rfl (fun _=>rfl) fun g T E W hl hw hs z K J=>by
  have x110:=z.x 31 hw rfl
  have hC:=z.c
  have k0:=x111.out _ hC
  go_simp;exact J) ?_
 refine Ab (stG St 33 (wg 29 rfl rfl (by kernel_rfl) (fun _=>rfl)) rfl (fun _=>rfl) fun g T E W hl hw hs z K J=>by
  have x111:=z.x 32 hw rfl
  go_simp;exact J) ?_
 refine Ab (stG St 34 (wg 29 rfl rfl (by kernel_rfl) (fun _=>rfl)) rfl (fun _=>rfl) fun g T E W hl hw hs z K J=>by
  have x112:=z.x 33 hw rfl
  go_simp;exact J) ?_
 refine Ab (stV St 35 rfl (fun _=>rfl) fun g T E W hl hw hs z K J=>by
  have x108:=z.x 29 hw rfl
  have x113:=z.x 34 hw rfl
  go_simp;exact J) ?_
 refine Ab (stV St 36 rfl (fun _=>rfl) fun g T E W hl hw hs z K J=>by
  have x114:=z.x 35 hw rfl
  go_simp;exact J) ?_
 refine Ab (stG St 37 (wg 36 rfl rfl (by kernel_rfl) (fun _=>rfl)) rfl (fun _=>rfl) fun g T E W hl hw hs z K J=>by
  have x8:=z.u g8
  go_simp;exact J) ?_
 refine Ab (stG St 38 (wg 36 rfl rfl (by kernel_rfl) (fun _=>rfl)) rfl (fun _=>rfl) fun g T E W hl hw hs z K J=>by
  have x116:=z.x 37 hw rfl
  have hC:=z.c
  have k0:=x117.out _ hC
  go_simp;exact J) ?_
 refine Ab (stG St 39 (wg 36 rfl rfl (by kernel_rfl) (fun _=>rfl)) rfl (fun _=>rfl) fun g T E W hl hw hs z K J=>by
  have x117:=z.x 38 hw rfl
  go_simp;exact J) ?_
 refine Ab (stV St 40 rfl (fun _=>rfl) fun g T E W hl hw hs z K J=>by
  have x115:=z.x 36 hw rfl
  have x118:=z.x 39 hw rfl
  go_simp;exact J) ?_
 refine Ab (stV St 41 rfl (fun _=>rfl) fun g T E W hl hw hs z K J=>by
  have x119:=z.x 40 hw rfl
  go_simp;exact J) ?_
 refine Ab (stG St 42 (wg 41 rfl rfl (by kernel_rfl) (fun _=>rfl)) rfl (fun _=>rfl) fun g T E W hl hw hs z K J=>by
  have x8:=z.u g8
  go_simp;exact J) ?_
 refine Ab (stG St 43 (wg 41 rfl rfl (by kernel_rfl) (fun _=>rfl)) rfl (fun _=>rfl) fun g T E W hl hw hs z K J=>by
  have x121:=z.x 42 hw rfl
  have hC:=z.c
  have k0:=x122.out _ hC
  go_simp;exact J) ?_
 refine Ab (stG St 44 (wg 41 rfl rfl (by kernel_rfl) (fun _=>rfl)) rfl (fun _=>rfl) fun g T E W hl hw hs z K J=>by
  have x122:=z.x 43 hw rfl
  go_simp;exact J) ?_
 refine Ab (stG St 45 (wg 41 rfl rfl (by kernel_rfl) (fun _=>rfl)) rfl (fun _=>rfl) fun g T E W hl hw hs z K J=>by
  have x123:=z.x 44 hw rfl
  go_simp;exact J) ?_
 refine Ab (stV St 46 rfl (fun _=>rfl) fun g T E W hl hw hs z K J=>by
  have x120:=z.x 41 hw rfl
  have x124:=z.x 45 hw rfl
  go_simp;exact J) ?_
 refine Ab (stV St 47 rfl (fun _=>rfl) fun g T E W hl hw hs z K J=>by
  have x125:=z.x 46 hw rfl
  go_simp;exact J) ?_
 ·exact Ag
 ·intro g a W z q
  have hM9:Mem _ _ _ _:=q
  have x14:=z.v.get 47 rfl (by kernel_rfl)
  rw [z.f.eqs]
  exact hQ.out _   _ (by simp [x14]) (A8 hM9)
theorem KS {Q:Exit→Act→World→Prop} {us:List Value} {bV bS:Nat} {w W0:World} {L:BLs} {R:List RowD}    (C126:Hid (∀ W,Mem w L R W→Calls Tryz.prog 34 #[.int .i64 3,.int .i64 1] W fun e W'=>∃ (v126':Value),e=.returned (.agg #[.int .i64 2,v126'])∧SlE W' v126' (twoL 3 1)∧Below W.heap.size W W')) (x127_0:Hid (∀ W,Mem w L R W→W.cell? ⟨bV,0,none⟩=some (.slice (some ⟨bS,0,none⟩) 2 2))) (x127_1:Hid (∀ W,Mem w L R W→W.cell? ⟨bV,1,none⟩=some (.string ⟨#[50]⟩))) (C128:Hid (∀ W (v126':Value),Mem w L R W→SlE W v126' (twoL 3 1)→Calls Tryz.prog 19 #[.agg #[.int .i64 2,v126'],.agg #[.slice (some ⟨bS,0,none⟩) 2 2,.string ⟨#[50]⟩]] W (Rets W (.bool true)))) (C130:Hid (∀ W,Mem w L R W→Calls Tryz.prog 34 #[.int .i64 3,.int .i64 2] W fun e W'=>∃ (v130':Value),e=.returned (.agg #[.int .i64 2,v130'])∧SlE W' v130' (twoL 3 2)∧Below W.heap.size W W')) (x131_0:Hid (∀ W,Mem w L R W→W.cell? ⟨bV,0,none⟩=some (.slice (some ⟨bS,0,none⟩) 2 2))) (x131_1:Hid (∀ W,Mem w L R W→W.cell? ⟨bV,1,none⟩=some (.string ⟨#[50]⟩))) (C132:Hid (∀ W (v130':Value),Mem w L R W→SlE W v130' (twoL 3 2)→Calls Tryz.prog 19 #[.agg #[.int .i64 2,v130'],.agg #[.slice (some ⟨bS,0,none⟩) 2 2,.string ⟨#[50]⟩]] W (Rets W (.bool false)))) (C136:Hid (∀ W,Mem w L R W→Calls Tryz.prog 34 #[.int .i64 3,.int .i64 4] W fun e W'=>∃ (v136':Value),e=.returned (.agg #[.int .i64 2,v136'])∧SlE W' v136' (twoL 3 4)∧Below W.heap.size W W')) (C138:Hid (∀ W (v136':Value) (g137:Nat),Mem w L R W→SlE W v136' (twoL 3 4)→Blk W g137 #[.string ⟨#[49]⟩,.string ⟨#[45,49]⟩] 9→Calls Tryz.prog 28 #[.agg #[.int .i64 2,v136'],.slice (some ⟨g137,0,none⟩) 2 2] W (Rets W (.bool true)))) (C141:Hid (∀ W,Mem w L R W→Calls Tryz.prog 34 #[.int .i64 3,.int .i64 4] W fun e W'=>∃ (v141':Value),e=.returned (.agg #[.int .i64 2,v141'])∧SlE W' v141' (twoL 3 4)∧Below W.heap.size W W')) (C143:Hid (∀ W (v141':Value) (g142:Nat),Mem w L R W→SlE W v141' (twoL 3 4)→Blk W g142 #[.string ⟨#[45,49]⟩,.string ⟨#[49]⟩] 9→Calls Tryz.prog 28 #[.agg #[.int .i64 2,v141'],.slice (some ⟨g142,0,none⟩) 2 2] W (Rets W (.bool false)))) (C147:Hid (∀ W,Mem w L R W→Calls Tryz.prog 34 #[.int .i64 3,.int .i64 1] W fun e W'=>∃ (v147':Value),e=.returned (.agg #[.int .i64 2,v147'])∧SlE W' v147' (twoL 3 1)∧Below W.heap.size W W')) (C149:Hid (∀ W (v147':Value) (g148:Nat),Mem w L R W→SlE W v147' (twoL 3 1)→Blk W g148 #[.string ⟨#[49]⟩,.string ⟨#[45,49]⟩] 9→Calls Tryz.prog 28 #[.agg #[.int .i64 2,v147'],.slice (some ⟨g148,0,none⟩) 2 2] W (Rets W (.bool false)))) (h0:Hid (Mem w L R W0)) (hN:us.length=171) (g1:us[1]? = some (.pointer (some ⟨bV,0,none⟩))) {ops:Array Oper} (ho:getOps Tryz.f9.body 11=some ops)
  (hQ:∀ (x:Nat→Value)  (W':World),x 15=.bool true→Hid (Mem w L R W')→Q .normal { tmps:=(sets [126,127,128,129,130,131,132,133,134,135,136,137,138,139,140,141,142,143,144,145,146,147,148,149,150,151,15] x us).toArray,defers:=[] } W') :
  (Code.region 11 ops true).wp Tryz.prog Q { tmps:=us.toArray,defers:=[] } W0:=by
 obtain rfl:=Option.some.inj (ho.symm.trans (rfl:getOps Tryz.f9.body 11=some _))
 clear ho
 replace hQ:=A8 hQ
 let Fl:Unit→FL:=fun g=>[none,some (127,.agg #[.slice (some ⟨bS,0,none⟩) 2 2,.string ⟨#[50]⟩]),some (128,.bool true),some (129,.bool true),none,some (131,.agg #[.slice (some ⟨bS,0,none⟩) 2 2,.string ⟨#[50]⟩]),some (132,.bool false),some (133,.bool true),some (134,.bool true),some (135,.bool true),none,none,some (138,.bool true),some (139,.bool true),some (140,.bool true),none,none,some (143,.bool false),some (144,.bool true),some (145,.bool true),some (146,.bool true),none,none,some (149,.bool false),some (150,.bool true),some (151,.bool true),some (15,.bool true)]
 let Ml:Unit→ML:=fun g=>[(0,126,(fun yv W=>∃ (v126':Value),yv=.agg #[.int .i64 2,v126']∧SlE W v126' (twoL 3 1)),none),(4,130,(fun yv W=>∃ (v130':Value),yv=.agg #[.int .i64 2,v130']∧SlE W v130' (twoL 3 2)),none),(10,136,(fun yv W=>∃ (v136':Value),yv=.agg #[.int .i64 2,v136']∧SlE W v136' (twoL 3 4)),none),(11,137,(fun yv W=>∃ (g137:Nat),yv=.slice (some ⟨g137,0,none⟩) 2 2∧Blk W g137 #[.string ⟨#[49]⟩,.string ⟨#[45,49]⟩] 9),none),(15,141,(fun yv W=>∃ (v141':Value),yv=.agg #[.int .i64 2,v141']∧SlE W v141' (twoL 3 4)),none),(16,142,(fun yv W=>∃ (g142:Nat),yv=.slice (some ⟨g142,0,none⟩) 2 2∧Blk W g142 #[.string ⟨#[45,49]⟩,.string ⟨#[49]⟩] 9),none),(21,147,(fun yv W=>∃ (v147':Value),yv=.agg #[.int .i64 2,v147']∧SlE W v147' (twoL 3 1)),none),(22,148,(fun yv W=>∃ (g148:Nat),yv=.slice (some ⟨g148,0,none⟩) 2 2∧Blk W g148 #[.string ⟨#[49]⟩,.string ⟨#[45,49]⟩] 9),none)]
 let Sl_:Unit→List (World→Prop):=fun g=>[fun W=>Mem w L R W]
 have St:RgS 171 [126,127,128,129,130,131,132,133,134,135,136,137,138,139,140,141,142,143,144,145,146,147,148,149,150,151,15] [0,4,10,11,15,16,21,22] Fl Ml (Mem w L R) Sl_:=⟨fun _=>by kernel_rfl,fun _=>rfl,fun _ _ hb h=>h.call hb,fun g=>List.forall_mem_cons.2 ⟨fun yv W W' hb=>fun ⟨g0,e,h⟩=>⟨g0,e,h.below hb⟩,List.forall_mem_cons.2 ⟨fun yv W W' hb=>fun ⟨g0,e,h⟩=>⟨g0,e,h.below hb⟩,List.forall_mem_cons.2 ⟨fun yv W W' hb=>fun ⟨g0,e,h⟩=>⟨g0,e,h.below hb⟩,List.forall_mem_cons.2 ⟨fun yv W W' hb=>fun ⟨g,e,h⟩=>⟨g,e,h.below hb⟩,List.forall_mem_cons.2 ⟨fun yv W W' hb=>fun ⟨g0,e,h⟩=>⟨g0,e,h.below hb⟩,List.forall_mem_cons.2 ⟨fun yv W W' hb=>fun ⟨g,e,h⟩=>⟨g,e,h.below hb⟩,List.forall_mem_cons.2 ⟨fun yv W W' hb=>fun ⟨g0,e,h⟩=>⟨g0,e,h.below hb⟩,List.forall_mem_cons.2 ⟨fun yv W W' hb=>fun ⟨g,e,h⟩=>⟨g,e,h.below hb⟩,(fun _ h=>by cases h)⟩⟩⟩⟩⟩⟩⟩⟩,fun g=>List.forall_mem_cons.2 ⟨fun W W' hb h=>h.call hb,(fun _ h=>by cases h)⟩⟩
 refine As 171 us [126,127,128,129,130,131,132,133,134,135,136,137,138,139,140,141,142,143,144,145,146,147,148,149,150,151,15] Fl Ml [] (Mem w L R) Sl_ hN (by kernel_rfl) (by kernel_rfl) () h0.out.drew h0.out.drew (by kernel_rfl) ?_ ?_
 refine Ab (stM St 0 0 (.inl rfl) (fun _=>rfl) (fun _=>by kernel_rfl) fun g T E W hl hw hs z K J=>by
  have hC:=z.c
  go_simp
  refine Calls.mono (C126.out W hC) ?_
  rintro e W2 ⟨v126',rfl,hp,hb⟩
  exact J _ _ hb ⟨v126',rfl,hp⟩) ?_
 refine Ab (stV St 1 rfl (fun _=>rfl) fun g T E W hl hw hs z K J=>by
  have x1:=z.u g1
  have hC:=z.c
  have k0:=x127_0.out _ hC
  have hC:=z.c
  have k1:=x127_1.out _ hC
  go_simp;exact J) ?_
 refine Ab (stC St 2 rfl (fun _=>rfl) fun g T E W hl hw hs z K J=>by
  obtain ⟨_,x126,v126',rfl,hm0⟩:=z.y 0 hl hw hs rfl
  have x127:=z.x 1 hw rfl
  have hC:=z.c
  go_simp
  refine Calls.mono (C128.out W v126' hC hm0) ?_
  rintro e W2 ⟨rfl,hb⟩
  exact J _ hb) ?_
 refine Ab (stV St 3 rfl (fun _=>rfl) fun g T E W hl hw hs z K J=>by
  have x128:=z.x 2 hw rfl
  go_simp;exact J) ?_
 refine Ab (stM St 4 1 (wg 3 rfl rfl (by kernel_rfl) (fun _=>rfl)) (fun _=>rfl) (fun _=>by kernel_rfl) fun g T E W hl hw hs z K J=>by
  have hC:=z.c
  go_simp
  refine Calls.mono (C130.out W hC) ?_
  rintro e W2 ⟨v130',rfl,hp,hb⟩
  exact J _ _ hb ⟨v130',rfl,hp⟩) ?_
 refine Ab (stG St 5 (wg 3 rfl rfl (by kernel_rfl) (fun _=>rfl)) rfl (fun _=>rfl) fun g T E W hl hw hs z K J=>by
  have x1:=z.u g1
  have hC:=z.c
  have k0:=x131_0.out _ hC
  have hC:=z.c
  have k1:=x131_1.out _ hC
  go_simp;exact J) ?_
 refine Ab (stH St 6 (wg 3 rfl rfl (by kernel_rfl) (fun _=>rfl)) rfl (fun _=>rfl) fun g T E W hl hw hs z K J=>by
  obtain ⟨_,x130,v130',rfl,hm4⟩:=z.y 1 hl hw hs rfl
  have x131:=z.x 5 hw rfl
  have hC:=z.c
  go_simp
  refine Calls.mono (C132.out W v130' hC hm4) ?_
  rintro e W2 ⟨rfl,hb⟩
  exact J _ hb) ?_
 refine Ab (stG St 7 (wg 3 rfl rfl (by kernel_rfl) (fun _=>rfl)) rfl (fun _=>rfl) fun g T E W hl hw hs z K J=>by
  have x132:=z.x 6 hw rfl
  go_simp;exact J) ?_
 refine Ab (stV St 8 rfl (fun _=>rfl) fun g T E W hl hw hs z K J=>by
  have x129:=z.x 3 hw rfl
  have x133:=z.x 7 hw rfl
  go_simp;exact J) ?_
 refine Ab (stV St 9 rfl (fun _=>rfl) fun g T E W hl hw hs z K J=>by
  have x134:=z.x 8 hw rfl
  go_simp;exact J) ?_
 refine Ab (stM St 10 2 (wg 9 rfl rfl (by kernel_rfl) (fun _=>rfl)) (fun _=>rfl) (fun _=>by kernel_rfl) fun g T E W hl hw hs z K J=>by
  have hC:=z.c
  go_simp
  refine Calls.mono (C136.out W hC) ?_
  rintro e W2 ⟨v136',rfl,hp,hb⟩
  exact J _ _ hb ⟨v136',rfl,hp⟩) ?_
 refine Ab (stM St 11 3 (wg 9 rfl rfl (by kernel_rfl) (fun _=>rfl)) (fun _=>rfl) (fun _=>by kernel_rfl) fun g T E W hl hw hs z K J=>by
  go_simp;exact J _ _ ((Below.refl _ _).alloc (Aa _) _) ⟨_,rfl,Blk.new _ _ _⟩) ?_
 refine Ab (stH St 12 (wg 9 rfl rfl (by kernel_rfl) (fun _=>rfl)) rfl (fun _=>rfl) fun g T E W hl hw hs z K J=>by
  obtain ⟨_,x136,v136',rfl,hm10⟩:=z.y 2 hl hw hs rfl
  obtain ⟨_,x137,g137,rfl,hb11⟩:=z.y 3 hl hw hs rfl
  have hC:=z.c
  go_simp
  refine Calls.mono (C138.out W v136' g137 hC hm10 hb11) ?_
  rintro e W2 ⟨rfl,hb⟩
  exact J _ hb) ?_
 refine Ab (stV St 13 rfl (fun _=>rfl) fun g T E W hl hw hs z K J=>by
  have x135:=z.x 9 hw rfl
  have x138:=z.x 12 hw rfl
  go_simp;exact J) ?_
 refine Ab (stV St 14 rfl (fun _=>rfl) fun g T E W hl hw hs z K J=>by
  have x139:=z.x 13 hw rfl
  go_simp;exact J) ?_
 refine Ab (stM St 15 4 (wg 14 rfl rfl (by kernel_rfl) (fun _=>rfl)) (fun _=>rfl) (fun _=>by kernel_rfl) fun g T E W hl hw hs z K J=>by
  have hC:=z.c
  go_simp
  refine Calls.mono (C141.out W hC) ?_
  rintro e W2 ⟨v141',rfl,hp,hb⟩
  exact J _ _ hb ⟨v141',rfl,hp⟩) ?_
 refine Ab (stM St 16 5 (wg 14 rfl rfl (by kernel_rfl) (fun _=>rfl)) (fun _=>rfl) (fun _=>by kernel_rfl) fun g T E W hl hw hs z K J=>by
  go_simp;exact J _ _ ((Below.refl _ _).alloc (Aa _) _) ⟨_,rfl,Blk.new _ _ _⟩) ?_
 refine Ab (stH St 17 (wg 14 rfl rfl (by kernel_rfl) (fun _=>rfl)) rfl (fun _=>rfl) fun g T E W hl hw hs z K J=>by
  obtain ⟨_,x141,v141',rfl,hm15⟩:=z.y 4 hl hw hs rfl
  obtain ⟨_,x142,g142,rfl,hb16⟩:=z.y 5 hl hw hs rfl
  have hC:=z.c
  go_simp
  refine Calls.mono (C143.out W v141' g142 hC hm15 hb16) ?_
  rintro e W2 ⟨rfl,hb⟩
  exact J _ hb) ?_
 refine Ab (stG St 18 (wg 14 rfl rfl (by kernel_rfl) (fun _=>rfl)) rfl (fun _=>rfl) fun g T E W hl hw hs z K J=>by
  have x143:=z.x 17 hw rfl
  go_simp;exact J) ?_
 refine Ab (stV St 19 rfl (fun _=>rfl) fun g T E W hl hw hs z K J=>by
  have x140:=z.x 14 hw rfl
  have x144:=z.x 18 hw rfl
  go_simp;exact J) ?_
 refine Ab (stV St 20 rfl (fun _=>rfl) fun g T E W hl hw hs z K J=>by
  have x145:=z.x 19 hw rfl
  go_simp;exact J) ?_
 refine Ab (stM St 21 6 (wg 20 rfl rfl (by kernel_rfl) (fun _=>rfl)) (fun _=>rfl) (fun _=>by kernel_rfl) fun g T E W hl hw hs z K J=>by
  have hC:=z.c
  go_simp
  refine Calls.mono (C147.out W hC) ?_
  rintro e W2 ⟨v147',rfl,hp,hb⟩
  exact J _ _ hb ⟨v147',rfl,hp⟩) ?_
 refine Ab (stM St 22 7 (wg 20 rfl rfl (by kernel_rfl) (fun _=>rfl)) (fun _=>rfl) (fun _=>by kernel_rfl) fun g T E W hl hw hs z K J=>by
  go_simp;exact J _ _ ((Below.refl _ _).alloc (Aa _) _) ⟨_,rfl,Blk.new _ _ _⟩) ?_
 refine Ab (stH St 23 (wg 20 rfl rfl (by kernel_rfl) (fun _=>rfl)) rfl (fun _=>rfl) fun g T E W hl hw hs z K J=>by
  obtain ⟨_,x147,v147',rfl,hm21⟩:=z.y 6 hl hw hs rfl
  obtain ⟨_,x148,g148,rfl,hb22⟩:=z.y 7 hl hw hs rfl
  have hC:=z.c
  go_simp
  refine Calls.mono (C149.out W v147' g148 hC hm21 hb22) ?_
  rintro e W2 ⟨rfl,hb⟩
  exact J _ hb) ?_
 refine Ab (stG St 24 (wg 20 rfl rfl (by kernel_rfl) (fun _=>rfl)) rfl (fun _=>rfl) fun g T E W hl hw hs z K J=>by
  have x149:=z.x 23 hw rfl
  go_simp;exact J) ?_
 refine Ab (stV St 25 rfl (fun _=>rfl) fun g T E W hl hw hs z K J=>by
  have x146:=z.x 20 hw rfl
  have x150:=z.x 24 hw rfl
  go_simp;exact J) ?_
 refine Ab (stV St 26 rfl (fun _=>rfl) fun g T E W hl hw hs z K J=>by
  have x151:=z.x 25 hw rfl
  go_simp;exact J) ?_
 ·exact Ag
 ·intro g a W z q
  have hM9:Mem _ _ _ _:=q
  have x15:=z.v.get 26 rfl (by kernel_rfl)
  rw [z.f.eqs]
  exact hQ.out _   _ (by simp [x15]) (A8 hM9)
theorem same13 {W:World} {v u:Value} (h1:SlS W v [⟨#[49]⟩,⟨#[51]⟩]) (h2:SlS W u [⟨#[49]⟩,⟨#[51]⟩]):Calls Tryz.prog 26 #[.agg #[v,.string ⟨#[52]⟩],.agg #[u,.string ⟨#[52]⟩]] W (Rets W (.bool true)):=by
 have:=Ln v u _ _ ⟨#[52]⟩ ⟨#[52]⟩ W h1 h2
 simpa using this
theorem val11 {W:World} {v:Value} (h:SlE W v (twoL 1 1)):Calls Tryz.prog 15 #[.agg #[.int .i64 2,v]] W (Rets W (.bool true)):=by
 have:=BI 2 v (twoL 1 1) W h
 rwa [vl11] at this
theorem val65 (W:World):Calls Tryz.prog 15 #[.agg #[.int .i64 65,.slice none 0 0]] W (Rets W (.bool false)):=by
 have:=BI 65 _ [] W (SlG.nil W)
 rwa [vl65] at this
theorem Blk.new1 (W:World) (o:Obj) (cs:Array Value) (t:TypeId):Blk ((W.alloc o).alloc (.cells cs t)) (W.heap.size+1) cs t:=by
 have:=Blk.new (W.alloc o) cs t
 rwa [World.size_alloc] at this
theorem KT (w:World) (hE:Env w):Calls Tryz.prog 9 #[] w (Rets w (.bool true)):=by
 replace hE:=A8 hE
 obtain ⟨V1,bS,e1,b1,S1⟩:=(MS.start w).add' #[.string ⟨#[52]⟩,.string ⟨#[50]⟩] 9
 obtain ⟨V2,bV,e2,b2,S2⟩:=S1.add' #[.slice (some ⟨bS,0,none⟩) 2 2,.string ⟨#[50]⟩] 30
 have hS:=A8 (S2.slice (SlS.of2 (S2.mem.blks _ (.tail _ (.head _)))))
 rw [b1] at e2
 rw [e1] at e2 b2
 rw [World.size_alloc] at b2
 clear S1 S2 e1
 go_enter Tryz.func9,Tryz.ntmps9
 go_upto_region 2 with fail
 rw [←e2,←b2]
 clear e2 b1 b2
 go_wp2_with fail
 refine Calls.mono (BC 3 1 _) ?_
 rintro e w1 ⟨v1,rfl,hv,hb⟩
 replace hS:=A8 (hS.out.call hb)
 clear hb
 go_wp2_with fail
 refine Calls.mono (solve31 v1 _ (hS.out.env hE.out) hv) ?_
 rintro e w2 ⟨a1,l1,d1,k1,rfl,hs1,heq,hb⟩
 clear hv
 replace hS:=A8 (hS.out.call hb)
 replace hS:=A8 (hS.out.slice hs1)
 clear hb hs1
 replace heq:=A8 heq
 obtain ⟨n1,hn1⟩:∃ n,n=l1.length:=⟨_,rfl⟩
 rw [←hn1] at hS ⊢
 replace hn1:=A8 hn1
 obtain ⟨W1,bA,e1,b1,S1⟩:=hS.out.add' #[.bool true,.slice a1 n1 k1,.string d1,.slice none 0 0] 38
 replace hS:=A8 S1
 clear S1
 go_upto_region 3 with fail
 rw [←e1,←b1]
 clear e1 b1
 go_wp2_with fail
 refine Calls.mono (BC 3 4 _) ?_
 rintro e w3 ⟨v2,rfl,hv,hb⟩
 replace hS:=A8 (hS.out.call hb)
 clear hb
 go_wp2_with fail
 refine Calls.mono (solve34 v2 _ (hS.out.env hE.out) hv) ?_
 rintro e w4 ⟨a2,l2,k2,rfl,hs2,hrf,hb⟩
 clear hv
 replace hS:=A8 (hS.out.call hb)
 replace hS:=A8 (hS.out.slice hs2)
 clear hb hs2
 replace hrf:=A8 hrf
 obtain ⟨n2,hn2⟩:∃ n,n=l2.length:=⟨_,rfl⟩
 rw [←hn2] at hS ⊢
 replace hn2:=A8 hn2
 obtain ⟨W1,bB,e1,b1,S1⟩:=hS.out.add' #[.bool false,.slice none 0 0,.string ⟨#[]⟩,.slice a2 n2 k2] 38
 replace hS:=A8 S1
 clear S1
 go_upto_region 4 with fail
 rw [←e1,←b1]
 clear e1 b1
 go_wp2_with fail
 refine Calls.mono (solve00 _ _ ((hS.out.new _).env hE.out) (SlE.of1 (Blk.new _ _ _))) ?_
 rintro e w5 ⟨a3,d3,k3,rfl,hb⟩
 replace hS:=A8 (hS.out.new _ |>.call hb)
 clear hb
 obtain ⟨W1,bC,e1,b1,S1⟩:=hS.out.add' #[.bool true,.slice a3 0 k3,.string d3,.slice none 0 0] 38
 replace hS:=A8 S1
 clear S1
 go_upto_region 5 with fail
 rw [←e1,←b1]
 clear e1 b1
 go_wp2_with fail
 refine Calls.mono (solve01 _ _ ((hS.out.new _).env hE.out) (SlE.of1 (Blk.new _ _ _))) ?_
 rintro e w6 ⟨a4,k4,rfl,hb⟩
 replace hS:=A8 (hS.out.new _ |>.call hb)
 clear hb
 obtain ⟨W1,bD,e1,b1,S1⟩:=hS.out.add' #[.bool false,.slice none 0 0,.string ⟨#[]⟩,.slice a4 1 k4] 38
 replace hS:=A8 S1
 clear S1
 go_upto_region 6 with fail
 rw [←e1,←b1]
 clear e1 b1
 go_wp2_with fail
 refine Calls.mono (mix_ok { p:=1,q:=3,na:=[⟨#[49]⟩,⟨#[48]⟩],nb:=[⟨#[48]⟩,⟨#[49]⟩],da:=⟨#[49]⟩,db:=⟨#[49]⟩ } _ _ _ (((hS.out.new _).new _).env hE.out) ((SlS.of2 (Blk.new _ _ _)).below ((Below.refl _ _).alloc (Aa _) _)) (SlS.of2 (Blk.new1 _ _ _ _)) (by kernel_rfl)) ?_
 intro e w5 hmx
 unfold MixP at hmx
 rw [mix13] at hmx
 obtain ⟨hb,v5,hs5,rfl⟩:=hmx
 obtain ⟨a5,k5,rfl⟩:=hs5.shape
 replace hS:=A8 ((hS.out.new _ |>.new _).call hb)
 replace hS:=A8 (hS.out.slice hs5)
 clear hb hs5
 obtain ⟨W1,bM,e1,b1,S1⟩:=hS.out.add' #[.slice a5 2 k5,.string ⟨#[52]⟩] 30
 replace hS:=A8 S1
 clear S1
 go_upto_region 7 with fail
 rw [←e1,←b1]
 clear e1 b1
 go_wp2_with fail
 refine Calls.mono (solve10 _ _ (SlE.of1 (Blk.new _ _ _))) ?_
 rintro e w8 ⟨rfl,hb⟩
 replace hS:=A8 (hS.out.new _ |>.call hb)
 clear hb
 obtain ⟨W1,bN,e1,b1,S1⟩:=hS.out.add' #[.bool false,.slice none 0 0,.string ⟨#[]⟩,.slice none 0 0] 38
 replace hS:=A8 S1
 clear S1
 go_upto_region 8 with fail
 rw [←e1,←b1]
 clear e1 b1
 go_upto_region 10 with fail
 have rf:=hrf
 clear hrf
 have hn1':=hn1.out
 have hn2':=hn2.out
 subst hn1'
 subst hn2'
 refine KR (bV:=bV) (bA:=bA) (bB:=bB) (bC:=bC) (bD:=bD) (bS:=bS) (a1:=a1) (n1:=l1.length) (k1:=k1) (a2:=a2) (n2:=l2.length) (k2:=k2) (a3:=a3) (k3:=k3) (a4:=a4) (k4:=k4) (d1:=d1) (w:=W1) (W0:=W1) (L:=[]) (R:=[]) (A8 fun W hW=>(hS.out.call hW.below).cell bA _ _ (.tail _ (.tail _ (.tail _ (.tail _ (.tail _ (.head _)))))) 0) (A8 fun W hW=>(hS.out.call hW.below).cell bA _ _ (.tail _ (.tail _ (.tail _ (.tail _ (.tail _ (.head _)))))) 1) (A8 fun W hW=>(hS.out.call hW.below).cell bA _ _ (.tail _ (.tail _ (.tail _ (.tail _ (.tail _ (.head _)))))) 2) (A8 fun W hW=>(hS.out.call hW.below).cell bV _ _ (.tail _ (.tail _ (.tail _ (.tail _ (.tail _ (.tail _ (.head _))))))) 0) (A8 fun W hW=>(hS.out.call hW.below).cell bV _ _ (.tail _ (.tail _ (.tail _ (.tail _ (.tail _ (.tail _ (.head _))))))) 1) (A8 fun W hW=>(by have:=KI _ _ l1 _ d1 ⟨#[50]⟩ W ((hS.out.call hW.below).env hE.out) ((hS.out.call hW.below).ss _ (.tail _ (.tail _ (.head _)))) ((hS.out.call hW.below).ss _ (.tail _ (.tail _ (.tail _ (.head _)))));rwa [heq.out] at this)) (A8 fun W hW=>(hS.out.call hW.below).cell bA _ _ (.tail _ (.tail _ (.tail _ (.tail _ (.tail _ (.head _)))))) 3) (A8 fun W hW=>(hS.out.call hW.below).cell bB _ _ (.tail _ (.tail _ (.tail _ (.tail _ (.head _))))) 0) (A8 fun W hW=>(BC 3 4 W)) (A8 fun W hW=>(hS.out.call hW.below).cell bB _ _ (.tail _ (.tail _ (.tail _ (.tail _ (.head _))))) 3) (A8 fun W v hW hv=>(by have:=Cg 2 v _ (twoL 3 4) l2 W ((hS.out.call hW.below).env hE.out) hv ((hS.out.call hW.below).ss _ (.tail _ (.head _)));rwa [rf.out] at this)) (A8 fun W hW=>(hS.out.call hW.below).cell bC _ _ (.tail _ (.tail _ (.tail _ (.head _)))) 0) (A8 fun W hW=>(hS.out.call hW.below).cell bC _ _ (.tail _ (.tail _ (.tail _ (.head _)))) 1) (A8 fun W hW=>(hS.out.call hW.below).cell bD _ _ (.tail _ (.tail _ (.head _))) 0) (A8 fun W hW=>(hS.out.call hW.below).cell bD _ _ (.tail _ (.tail _ (.head _))) 3) (A8 (Mem.start W1)) rfl rfl rfl rfl rfl rfl (by kernel_rfl) ?_
 intro xx W2 hx14 hW2
 simp only [sets,List.foldl_cons,List.foldl_nil,A5,A6,hx14]
 replace hS:=A8 (hS.out.call hW2.out.below)
 clear hW2 heq rf
 go_upto_region 11 with fail
 refine KS (bV:=bV) (L:=[]) (R:=[]) (A8 fun W hW=>(BC 3 1 W)) (A8 fun W hW=>(hS.out.call hW.below).cell bV _ _ (.tail _ (.tail _ (.tail _ (.tail _ (.tail _ (.tail _ (.head _))))))) 0) (A8 fun W hW=>(hS.out.call hW.below).cell bV _ _ (.tail _ (.tail _ (.tail _ (.tail _ (.tail _ (.tail _ (.head _))))))) 1) (A8 fun W v hW hv=>(by have:=DY 2 v _ (twoL 3 1) _ ⟨#[50]⟩ W ((hS.out.call hW.below).env hE.out) hv ((hS.out.call hW.below).ss _ (.tail _ (.tail _ (.tail _ (.head _)))));rwa [ck31] at this)) (A8 fun W hW=>(BC 3 2 W)) (A8 fun W hW=>(hS.out.call hW.below).cell bV _ _ (.tail _ (.tail _ (.tail _ (.tail _ (.tail _ (.tail _ (.head _))))))) 0) (A8 fun W hW=>(hS.out.call hW.below).cell bV _ _ (.tail _ (.tail _ (.tail _ (.tail _ (.tail _ (.tail _ (.head _))))))) 1) (A8 fun W v hW hv=>(by have:=DY 2 v _ (twoL 3 2) _ ⟨#[50]⟩ W ((hS.out.call hW.below).env hE.out) hv ((hS.out.call hW.below).ss _ (.tail _ (.tail _ (.tail _ (.head _)))));rwa [ck32] at this)) (A8 fun W hW=>(BC 3 4 W)) (A8 fun W v g hW hv hg=>(by have:=Cg 2 v _ (twoL 3 4) _ W ((hS.out.call hW.below).env hE.out) hv (SlS.of2 hg);rwa [rf34] at this)) (A8 fun W hW=>(BC 3 4 W)) (A8 fun W v g hW hv hg=>(by have:=Cg 2 v _ (twoL 3 4) _ W ((hS.out.call hW.below).env hE.out) hv (SlS.of2 hg);rwa [rf34n] at this)) (A8 fun W hW=>(BC 3 1 W)) (A8 fun W v g hW hv hg=>(by have:=Cg 2 v _ (twoL 3 1) _ W ((hS.out.call hW.below).env hE.out) hv (SlS.of2 hg);rwa [rf31n] at this)) (A8 (Mem.start _)) rfl rfl (by kernel_rfl) ?_
 intro xx W3 hx15 hW3
 simp only [sets,List.foldl_cons,List.foldl_nil,A5,A6,hx15]
 replace hS:=A8 (hS.out.call hW3.out.below)
 clear hW3
 have z0:=(hS.out.cell bM _ _ (.tail _ (.head _)) 0).trans (show _=some (Value.slice a5 2 k5) from rfl)
 have z1:=(hS.out.cell bM _ _ (.tail _ (.head _)) 1).trans (show _=some (Value.string ⟨#[52]⟩) from rfl)
 go_wp2_with fail
 refine Calls.mono (same13 (hS.out.new _ |>.ss _ (.head _)) (SlS.of2 (Blk.new _ _ _))) ?_
 rintro e w9 ⟨rfl,hb⟩
 replace hS:=A8 (hS.out.new _ |>.call hb)
 clear hb z0 z1
 go_wp2_with fail
 refine Calls.mono (BC 1 1 _) ?_
 rintro e w10 ⟨v9,rfl,hv,hb⟩
 replace hS:=A8 (hS.out.call hb)
 clear hb
 go_wp2_with fail
 refine Calls.mono (val11 hv) ?_
 rintro e w11 ⟨rfl,hb⟩
 clear hv
 replace hS:=A8 (hS.out.call hb)
 clear hb
 go_wp2_with fail
 refine Calls.mono (val65 _) ?_
 rintro e w12 ⟨rfl,hb⟩
 replace hS:=A8 (hS.out.call hb)
 clear hb
 go_wp2
 go_ret
 exact ⟨rfl,hS.out.mem.below⟩
theorem KW {l:List Int} (h:∀ z∈l,Fits z) (k:Nat):Fits (atv l k):=by
 unfold atv
 by_cases hk:k % l.length<l.length
 ·rw [Bc hk];exact h _ (List.getElem_mem hk)
 ·rw [Bp (by omega)];unfold Fits;decide
def vecN (l:List Int) (k:Nat):Int:=pkv (atv l k) 50
def vecL (n:Nat) (l:List Int):List ByteArray:=(List.range n).map fun k=>I (vecN l k)
theorem vecN_bd (l:List Int) (k:Nat):0≤vecN l k∧vecN l k≤49:=by
 have h1:=Aw (c:=atv l k) (m:=50) (by decide)
 have h2:=BH (c:=atv l k) (m:=50) (by decide)
 unfold vecN;omega
theorem Jk (n:Nat) (l:List Int) (den:Int) (lv:Value) (w:World) (hn:n≤1000000) (hl:Sl w lv l) (hf:∀ z∈l,Fits z) (hd:Fits den) :
  Calls Tryz.prog 18 #[.int .i64 n,lv,.int .i64 den] w fun e w'=>∃ v,e=.returned (.agg #[v,.string (I (1+pkv den 9))])∧SlS w' v (vecL n l)∧Below w.heap.size w w':=by
 have HL:=A8 hl
 have AH:=A8 (fun W (hW:Below w.heap.size w W) (k:Nat)=>Es lv l k W (HL.out.below hW))
 have PH:=A8 (fun W (k:Nat)=>by have:=AF (atv l k) 50 (KW hf k) (by decide) (by decide) W;exact (this:Calls Tryz.prog 35 #[.int .i64 (atv l k),.int .i64 50] W (Rets W (.int .i64 (vecN l k)))))
 have FH:=A8 (fun W (k:Nat)=>Ji (x:=vecN l k) (by have:=vecN_bd l k;unfold Fits;omega) W)
 have P1:=A8 (fun W=>AF den 9 hd (by decide) (by decide) W)
 have hp0:=Aw (c:=den) (m:=9) (by decide)
 have hp1:=BH (c:=den) (m:=9) (by decide)
 have F1:=A8 (fun W=>Ji (x:=1+pkv den 9) (by unfold Fits;omega) W)
 have hw1:IntKind.i64.wrap (1+pkv den 9)=1+pkv den 9:=IntWalk.i64_in _ (by omega)
 obtain ⟨D,hD⟩:∃ D,D=I (1+pkv den 9):=⟨_,rfl⟩
 rw [←hD] at F1 ⊢
 replace hD:=A8 hD
 have hend:Hid (∀ B W v,Mem w [(B,#[v,.string D],30),(w.heap.size,#[.slice none 0 0,.string ⟨#[]⟩],30)] [⟨9,1,v,n,((List.range n).map fun k=>Value.string (I (vecN l k)))⟩] W→∀ W',W'=(W.setCell ⟨w.heap.size,0,none⟩ v).setCell ⟨w.heap.size,1,none⟩ (.string D)→SlS W' v (vecL n l)∧Below w.heap.size w W'):=A8 (fun B W v h W' e=>by
  have h1:=(Mem.out2 (h.perm (List.Perm.swap _ _ _)) v (.string D))
  rw [←e] at h1
  refine ⟨SlS.of_own (n:=n) (l:=vecL n l) (e:=9) (base:=w.heap.size) ?_,h1.below⟩
  have h2:=h1.own0
  unfold vecL
  rw [List.map_map]
  exact h2)
 generalize pkv den 9=p1 at *
 clear hl hp0 hp1 hd
 obtain ⟨V1,e1,S1,s1⟩:=(Mem.start w).add' #[.slice none 0 0,.string ⟨#[]⟩] 30
 have hM:=A8 S1
 clear S1 s1 HL
 go_enter Tryz.func18,Tryz.ntmps18
 go_upto_region 1 with fail
 rw [←e1]
 clear e1
 go_wp2_with fail
 refine Calls.mono (P1.out _) ?_
 rintro e w1 ⟨rfl,hb⟩
 replace hM:=A8 (hM.out.call hb)
 clear hb
 go_wp2_with fail
 refine Calls.mono (F1.out _) ?_
 rintro e w2 ⟨rfl,hb⟩
 replace hM:=A8 (hM.out.call hb)
 clear hb hw1
 obtain ⟨V3,e3,S3,s3⟩:=hM.out.add' #[.slice none 0 0,.string D] 30
 obtain ⟨B,hB⟩:∃ B,B=w2.heap.size:=⟨_,rfl⟩
 rw [←hB] at S3
 replace hM:=A8 (S3.row0 9 1)
 clear S3 s3
 go_upto_region 2 with fail
 rw [←e3,←hB]
 clear e3 hB
 go_wp2_with fail
 go_loopw [8] (fun s wr=>∃ (j:Nat) (v:Value),s=.int .i64 j∧j≤n∧Hid (Mem w [(B,#[v,.string D],30),(w.heap.size,#[.slice none 0 0,.string ⟨#[]⟩],30)] [⟨9,1,v,j,((List.range j).map fun k=>Value.string (I (vecN l k)))⟩] wr)) (fun s _=>n-(intOf s).toNat)
 case atStart=>exact ⟨0,.slice none 0 0,rfl,by omega,hM⟩
 case round =>
  clear hM
  obtain ⟨j,v,rfl,hj,hM⟩:=hrel
  by_cases hjc:j<n
  case neg =>
   have hjc':¬ (j:Int)<n:=by omega
   obtain rfl:j=n:=by omega
   have hfin:=A8 (hend.out _ _ _ hM.out _ rfl)
   have z0:=(hM.out.cell _ _ _ (.head _) 0).trans (show _=some v from rfl)
   have z1:=(hM.out.cell _ _ _ (.head _) 1).trans (show _=some (Value.string D) from rfl)
   obtain ⟨k0,k1,f0,f1,y0,y1⟩:=Eq (hM.out.blks _ (.tail _ (.head _))) v (.string D)
   obtain ⟨a,cp,hsv⟩:=hfin.out.1.shape
   generalize (vecL j l).length=nm at *
   subst hsv
   clear hM hend
   go_wp2
   exact bodyPost_ret (v:=.agg #[.slice a nm cp,.string D]) (by simp [results,Tryz.results18,go_sem,y0,y1]) rfl ⟨_,rfl,hfin.out.1,hfin.out.2⟩
  case pos =>
   have hjc':(j:Int)<n:=by omega
   go_upto_region 5 with fail
   refine KV (bV:=B) (n:=j) (j:=j) (w:=w) (L:=[(w.heap.size,#[.slice none 0 0,.string ⟨#[]⟩],30)]) (R:=[]) (A8 (by omega)) (A8 fun W hW=>AH.out W hW.below j) (A8 fun W hW=>PH.out W j) (A8 fun W hW=>FH.out W j) hM rfl rfl rfl rfl (by kernel_rfl) ?_
   intro xx G cap W5 hM5
   simp only [sets,List.foldl_cons,List.foldl_nil,A5,A6]
   clear hM
   have hxs:((List.range (j+1)).map fun k=>Value.string (I (vecN l k)))=((List.range j).map fun k=>Value.string (I (vecN l k)))++[.string (I (vecN l j))]:=by rw [List.range_succ,List.map_append];rfl
   rw [←hxs] at hM5
   clear hxs
   go_wp2_with fail
   go_roundw
   case rel=>exact ⟨j+1,_,by go_num,by omega,hM5⟩
   case measure=>simp [intOf];omega
structure NumOk (W:World) (x:NumL) (vc vh:Value):Prop where
 c:Sl W vc x.coefs
 h:Sl W vh x.hidden
 f:Fits x.cols∧Fits x.rows∧Fits x.miss
 fc:∀ z∈x.coefs,Fits z
 fh:∀ z∈x.hidden,Fits z
theorem Ff {l:List Int} (h:∀ z∈l,Fits z) (k:Nat):Fits (atv l k):=by
 unfold atv
 by_cases hk:k % l.length<l.length
 ·rw [Bc hk];exact h _ (List.getElem_mem hk)
 ·rw [Bp (by omega)];unfold Fits;decide
theorem NumOk.below {W W':World} {x:NumL} {vc vh:Value} (h:NumOk W x vc vh) (hb:Below W.heap.size W W'):NumOk W' x vc vh:=⟨h.c.below hb,h.h.below hb,h.f,h.fc,h.fh⟩
theorem made_ok {W:World} {x:NumL} {vc vh:Value} (h:NumOk W x vc vh):Calls Tryz.prog 11 #[.agg #[.int .i64 x.cols,.int .i64 x.rows,vc,vh,.int .i64 x.miss]] W fun e w'=>∃ a cp,e=.returned (.agg #[.int .i64 x.c,.slice a x.r cp])∧SlE w' (.slice a x.r cp) x.made∧Below W.heap.size W w' :=
 (M5 x vc vh W h.c h.h h.f (fun k=>⟨Ff h.fc k,Ff h.fh k⟩)).mono fun e w' ⟨v,he,hs,hb⟩=>by
  obtain ⟨a,cp,rfl⟩:=hs.shape
  rw [x.made_len] at hs he
  exact ⟨a,cp,he,hs,hb⟩
theorem Jh (x:NumL):x.made.length≤8:=by rw [x.made_len];have:=x.r_eq;omega
end
section
open Go.RowKit
theorem KX {W:World} {x:NumL} {vc vh:Value} (h:NumOk W x vc vh):Calls Tryz.prog 17 #[.agg #[.int .i64 x.cols,.int .i64 x.rows,vc,vh,.int .i64 x.miss]] W fun e w'=>∃ a n cp,e=.returned (.agg #[.slice a n cp,.string ⟨#[49]⟩])∧SlS w' (.slice a n cp) x.hidN∧Below W.heap.size W w' :=
 (Jj x vc vh W h.c h.h h.f.1 (fun k=>Ff h.fh k)).mono fun e w' ⟨v,he,hs,hb⟩=>by
  obtain ⟨a,cp,rfl⟩:=hs.shape
  exact ⟨a,_,cp,he,hs,hb⟩
theorem KY (n:Nat) (l:List Int) (den:Int) (lv:Value) (W:World) (hn:n≤1000000) (hl:Sl W lv l) (hf:∀ z∈l,Fits z) (hd:Fits den) :
  Calls Tryz.prog 18 #[.int .i64 n,lv,.int .i64 den] W fun e w'=>∃ a m cp,e=.returned (.agg #[.slice a m cp,.string (I (1+pkv den 9))])∧SlS w' (.slice a m cp) (vecL n l)∧Below W.heap.size W w' :=
 (Jk n l den lv W hn hl hf hd).mono fun e w' ⟨v,he,hs,hb⟩=>by
  obtain ⟨a,cp,rfl⟩:=hs.shape
  exact ⟨a,_,cp,he,hs,hb⟩
end
section
open Go.RowKit Go.ChangeShapes
section
variable {H:Type} {enc:TypeId×Value→H} {P:Program}
theorem Jm {W W':World} (hb:Below W.heap.size W W') {p:MemPlace} (h:p.block<W.heap.size):W.sameAt W' p:=by
 cases p with
 | cell b off=>exact hb.cell (p:=⟨b,off,none⟩) h
 | map b=>exact hb.block b h
theorem L0 (hl:laidOutB P=true) {t:TypeId} (hr:P.readableRec t=true) (hrow:t<P.types.size) (hsz:∀ u e,InBook P t u→P.underlying u=some (.slice e)→0<P.cellsOf e)
  {W W':World} (hb:Below W.heap.size W W') {v:Value} {d:DataW H} {ps:List MemPlace} (hlt:∀ p∈ps,p.block<W.heap.size) (h:DataW.Trod enc P W 0 (fun _=>true) true t v d ps) :
  DataW.Trod enc P W' 0 (fun b=>decide (b<W.heap.size)) true t v d ps:=by
 obtain ⟨n,hn⟩:=h
 refine ⟨n,DataW.trod_stays (kids_book hl hr) (fun {u e} hT hu=>hsz u e hT hu) (fun e=>by cases e) ⟨hrow,book_self t⟩ hn (fun p hp=>Jm hb (hlt p hp)) (fun p hp=>by simpa using hlt p hp)⟩
def rowsB (P:Program) (ts:List TypeId):Bool:=ts.all fun t=>P.readableRec t&&decide (t<P.types.size)&&(P.book t).all fun u=>match P.underlying u with
 | some (.slice e)=>decide (0<P.cellsOf e)
 | _=>true
theorem Ga (hl:laidOutB P=true) {W W':World} (hb:Below W.heap.size W W'):∀ {ts:List TypeId} {vs:List Value} {ds:List (DataW H)} {ps:List MemPlace},rowsB P ts=true →
  DataW.TrodAll enc P W 0 (fun _=>true) true ts vs ds ps→DataW.TrodAll enc P W' 0 (fun b=>decide (b<W.heap.size)) true ts vs ds ps
 | [],[],[],_,_,h=>h
 | t :: ts,v :: vs,d :: ds,ps,hr,h=>by
  have hlt:=h.lt
  obtain ⟨p,q,h1,h2,e⟩:=h
  unfold rowsB at hr
  rw [List.all_cons,Bool.and_eq_true] at hr
  obtain ⟨hr1,hr2⟩:=hr
  simp only [Bool.and_eq_true,decide_eq_true_eq,List.all_eq_true] at hr1
  obtain ⟨⟨r1,r2⟩,r3⟩:=hr1
  refine ⟨p,q,L0 hl r1 r2 (fun u e hT hu=>?_) hb (fun x hx=>hlt x (by rw [e];exact List.mem_append_left _ hx)) h1,Ga hl hb hr2 h2,e⟩
  have:=r3 u hT.2
  rw [hu] at this
  simpa using this
end
end
section
open Go.RowKit Go.ChangeShapes Go.WideShapes Go.Deep
theorem L1 {w:World} {b:Nat} {x:TypeId×Nat} (h:w.shape? b=some x):b<w.heap.size:=by
 unfold World.shape? at h
 by_cases hb:b<w.heap.size
 ·exact hb
 ·rw [Array.getElem?_eq_none (by omega)] at h;simp at h
theorem DH {n:Int} (h:(Lit.int .i64 n).wf=true):Fits n:=by simpa [Fits,Lit.wf,IntKind.min,IntKind.max,IntKind.signed,IntKind.bits] using h
section
variable {H:Type} {enc:TypeId×Value→H} {W:World} {sp:Nat→Bool} {held:Bool}
theorem L2 {t e:TypeId} {k b0 fuel:Nat} {v:Value} {y:DataW H×List MemPlace} (hu:Tryz.prog.underlying t=some (.slice e)) (hc:Tryz.prog.cellsOf e=k) (hk:Cell.okWide Tryz.prog W .any b0 t v) (h:DataW.trod enc Tryz.prog W 0 sp held fuel t [v]=some y) :
  v=.slice none 0 0∨∃ b off len cap,v=.slice (some ⟨b,off,none⟩) len cap∧len≤cap∧cap≤maxLen∧b<W.heap.size∧∀ i,i<len→∃ (cs:List Value) (n:Nat) (x:DataW H×List MemPlace),cs.length=k∧(∀ (j:Nat) (h:j<cs.length),W.cell? ⟨b,off+i*k+j,none⟩=some cs[j])∧DataW.trod enc Tryz.prog W 0 sp held n e cs=some x:=by
 rcases open_slice hu h with ⟨hcs,_⟩ | ⟨a,len,cap,m,n,D,Pl,hcs,_,hl,hm,hmm,_,hx⟩
 ·left;simpa using hcs
 ·right
  obtain rfl:v=.slice (some a) len cap:=by simpa using hcs
  have hk2:W.has Tryz.prog .any b0 a e cap:=by
   simp only [Cell.okWide,hu,Cell.ok] at hk
   exact hk.2.2
  obtain ⟨_,hsp,row,cells,hsh,_⟩:=hk2
  have hlt:=L1 hsh
  obtain ⟨b,off,spot⟩:=a
  obtain rfl:spot=none:=hsp
  refine ⟨b,off,len,cap,rfl,hl,hm,hlt,fun i hi=>?_⟩
  obtain ⟨cs',h1,h2⟩:=hx i (by rw [hmm];split <;> omega)
  rw [hc] at h1
  obtain ⟨_,hlen,hcell⟩:=World.cells?_some h1
  refine ⟨cs',n,_,hlen,fun j hj=>?_,h2⟩
  have q:=hcell j (by omega)
  rw [add_add,add_plain,←Nat.add_assoc] at q
  rw [q,List.getElem?_eq_getElem hj]
theorem M6 {t e:TypeId} {b0:Nat} {v:Value} {d:DataW H} {p:List MemPlace} (hu:Tryz.prog.underlying t=some (.slice e)) (hv:Value.okWide Tryz.prog W .any b0 t v) (h:DataW.Trod enc Tryz.prog W 0 sp held t v d p):∃ fuel,Cell.okWide Tryz.prog W .any b0 t v∧DataW.trod enc Tryz.prog W 0 sp held fuel t [v]=some (d,p):=by
 obtain ⟨a,len,cap,rfl⟩:=okWide_slice hu hv
 obtain ⟨fuel,hf⟩:=h
 exact ⟨fuel,by simpa [Value.okWide,hu] using hv,hf⟩
theorem Dp {b0 fuel:Nat} {v:Value} {y:DataW H×List MemPlace} (hk:Cell.okWide Tryz.prog W .any b0 22 v) (h:DataW.trod enc Tryz.prog W 0 sp held fuel 22 [v]=some y):∃ l:List Int,Sl W v l∧∀ z∈l,Fits z:=by
 have hi:Tryz.prog.underlying 3=some (.int .i64):=by kernel_rfl
 rcases L2 Tryz.underlying22 (k:=1) (by kernel_rfl) hk h with rfl | ⟨b,off,len,cap,rfl,hl,hm,hlt,hx⟩
 ·exact ⟨[],Sl.nil W,fun z hz=>by cases hz⟩
 ·have each:∀ i,i<len→∃ z:Int,W.cell? ⟨b,off+i,none⟩=some (.int .i64 z)∧Fits z:=fun i hi'=>by
   obtain ⟨cs,n,x,hlen,hcell,ht⟩:=hx i hi'
   match cs,hlen with
   | [c0],_ =>
    obtain ⟨z0,e0,_,f0⟩:=DataW.trod_int hi ht
    have q:=hcell 0 (by simp)
    rw [Nat.mul_one] at q
    simp at e0
    subst e0
    exact ⟨z0,q,DH f0⟩
  obtain ⟨q,hq⟩:=choose_lt (α:=Int) (h:=each)
  refine ⟨(List.range len).map q,.inr ⟨b,off,cap,by simp,by simpa using hl,hm,hlt,fun j hj=>?_⟩,fun d hd=>?_⟩
  ·have hj':j<len:=by simpa using hj
   rw [gi_map _ hj'];exact (hq j hj').1
  ·obtain ⟨i,hi',rfl⟩:=List.mem_map.1 hd
   exact (hq i (List.mem_range.1 hi')).2
theorem L3:Tryz.prog.cellTypes Tryz.prog.depth 24=some [3,3,22,22,3]:=by kernel_rfl
theorem M7 {b0:Nat} {v:Value} {d:DataW H} {p:List MemPlace} (hv:Value.okWide Tryz.prog W .any b0 24 v) (h:DataW.Trod enc Tryz.prog W 0 sp held 24 v d p) :
  ∃ (x:NumL) (vc vh:Value),v=.agg #[.int .i64 x.cols,.int .i64 x.rows,vc,vh,.int .i64 x.miss]∧NumOk W x vc vh:=by
 have hi:Tryz.prog.underlying 3=some (.int .i64):=by kernel_rfl
 simp only [Value.okWide,Tryz.underlying24] at hv
 obtain ⟨cs,rfl,hsz,ts,hts,hlen,hrow⟩:=hv
 rw [L3] at hts
 cases hts
 obtain ⟨fuel,hf⟩:=h
 have hsz5:cs.size=5:=by
  have:Tryz.prog.cellsOf 24=5:=by kernel_rfl
  simpa [this] using hsz
 obtain ⟨csl⟩:=cs
 match csl,hsz5 with
 | [c0,c1,c2,c3,c4],_ =>
  obtain ⟨xs,n,_,_,hl,hlen5,hfs⟩:=DataW.trod_struct Tryz.underlying24 hf
  have hc1:Tryz.prog.cellsOf 3=1:=by kernel_rfl
  have hc2:Tryz.prog.cellsOf 22=1:=by kernel_rfl
  have hx5:xs.length=5:=hlen5
  match xs,hx5 with
  | [y0,y1,y2,y3,y4],_ =>
  have g0:DataW.trod enc Tryz.prog W 0 sp held n 3 [c0]=some y0:=by have:=hfs 0 _ rfl;simpa [hc1,Value.cells] using this
  have g1:DataW.trod enc Tryz.prog W 0 sp held n 3 [c1]=some y1:=by have:=hfs 1 _ rfl;simpa [hc1,Value.cells] using this
  have g2:DataW.trod enc Tryz.prog W 0 sp held n 22 [c2]=some y2:=by have:=hfs 2 _ rfl;simpa [hc2,Value.cells] using this
  have g3:DataW.trod enc Tryz.prog W 0 sp held n 22 [c3]=some y3:=by have:=hfs 3 _ rfl;simpa [hc2,Value.cells] using this
  have g4:DataW.trod enc Tryz.prog W 0 sp held n 3 [c4]=some y4:=by have:=hfs 4 _ rfl;simpa [hc1,Value.cells] using this
  obtain ⟨z0,e0,_,f0⟩:=DataW.trod_int hi g0
  obtain ⟨z1,e1,_,f1⟩:=DataW.trod_int hi g1
  obtain ⟨z4,e4,_,f4⟩:=DataW.trod_int hi g4
  obtain ⟨u2,hu2,k2⟩:=hrow 2 c2 rfl
  obtain ⟨u3,hu3,k3⟩:=hrow 3 c3 rfl
  cases hu2
  cases hu3
  obtain ⟨lc,hlc,flc⟩:=Dp k2 g2
  obtain ⟨lh,hlh,flh⟩:=Dp k3 g3
  simp at e0 e1 e4
  subst e0;subst e1;subst e4
  exact ⟨⟨z0,z1,lc,lh,z4⟩,c2,c3,rfl,hlc,hlh,⟨DH f0,DH f1,DH f4⟩,flc,flh⟩
theorem Fh {b0:Nat} {v:Value} {d:DataW H} {p:List MemPlace} (hv:Value.okWide Tryz.prog W .any b0 22 v) (h:DataW.Trod enc Tryz.prog W 0 sp held 22 v d p):∃ l:List Int,Sl W v l∧∀ z∈l,Fits z:=by
 obtain ⟨fuel,h1,h2⟩:=M6 Tryz.underlying22 hv h
 exact Dp h1 h2
end
end
end Go.Proofs.YtcmomjnailihpaaGreatDoor
