/- EqA -/
import Derived.Test.YtcmomjnailihpaaGreatDoorYRgK
set_option maxHeartbeats 8000000
set_option maxRecDepth 100000
namespace Go.Proofs.YtcmomjnailihpaaGreatDoor
section
open Go.RowKit
attribute [local go_sem] Oper.semAt_some
theorem eq_r14 {Q:Exit→Act→World→Prop} {us:List Value} {bT B m cap i k pb n cp:Nat} {ds:Array Value} {c f y:Int} {w W0:World} {L:BLs} {R:List RowD} {r84:Int} (hi0:(0:Int)≤i) (hi1:(i:Int)<m) (hk0:(0:Int)≤k) (hk1:(k:Int)<n) (hds:ds[k]? = some (.int .i64 y)) (mT:(bT,#[.int .i64 c,.slice (some ⟨B,0,none⟩) m cap],27)∈L) (x72:Hid (∀ W,Mem w L R W→W.cell? ⟨B,i*2,none⟩=some (.slice (some ⟨pb,0,none⟩) n cp))) (x79:Hid (∀ W,Mem w L R W→W.cell? ⟨B,i*2,none⟩=some (.slice (some ⟨pb,0,none⟩) n cp))) (h84:IntKind.i64.wrap (y*f)=r84) (h0:Hid (Mem w ((pb,ds,3) :: L) R W0)) (hN:us.length=277) (g16:us[16]? = some (.pointer (some ⟨bT,0,none⟩))) (g17:us[17]? = some (.int .i64 i)) (g18:us[18]? = some (.int .i64 f)) (g19:us[19]? = some (.int .i64 k)) {ops:Array Oper} (ho:getOps Tryz.f6.body 14=some ops)
  (hQ:∀ (x:Nat→Value)  (W':World),Hid (Mem w ((pb,(ds).setIfInBounds (k) (.int .i64 r84),3) :: L) R W')→Q .normal { tmps:=(sets [67,68,69,70,71,72,73,74,75,76,77,78,79,80,81,82,83,84,85] x us).toArray,defers:=[] } W') :
  (Code.region 14 ops true).wp Tryz.prog Q { tmps:=us.toArray,defers:=[] } W0:=by
 obtain rfl:=Option.some.inj (ho.symm.trans (rfl:getOps Tryz.f6.body 14=some _))
 clear ho
 replace hQ:=A8 hQ
 let Fl:Unit→FL:=fun g=>[some (67,.pointer (some ⟨bT,1,none⟩)),some (68,.slice (some ⟨B,0,none⟩) m cap),some (69,.int .i64 i),some (70,.pointer (some ⟨B,i*2,none⟩)),some (71,.pointer (some ⟨B,i*2,none⟩)),some (72,.slice (some ⟨pb,0,none⟩) n cp),some (73,.int .i64 k),some (74,.pointer (some ⟨bT,1,none⟩)),some (75,.slice (some ⟨B,0,none⟩) m cap),some (76,.int .i64 i),some (77,.pointer (some ⟨B,i*2,none⟩)),some (78,.pointer (some ⟨B,i*2,none⟩)),some (79,.slice (some ⟨pb,0,none⟩) n cp),some (80,.int .i64 k),some (81,.pointer (some ⟨pb,k,none⟩)),some (82,.int .i64 y),some (83,.int .i64 f),some (84,.int .i64 r84),some (85,.pointer (some ⟨pb,k,none⟩)),none]
 let Ml:Unit→ML:=fun g=>[]
 let Sl_:Unit→List (World→Prop):=fun g=>[fun W=>Mem w ((pb,ds,3) :: L) R W,fun W=>Mem w ((pb,(ds).setIfInBounds (k) (.int .i64 r84),3) :: L) R W]
 have St:RgS 277 [67,68,69,70,71,72,73,74,75,76,77,78,79,80,81,82,83,84,85] [] Fl Ml (Mem w L R) Sl_:=⟨fun _=>by kernel_rfl,fun _=>rfl,fun _ _ hb h=>h.call hb,fun g=>(fun _ h=>by cases h),fun g=>List.forall_mem_cons.2 ⟨fun W W' hb h=>h.call hb,List.forall_mem_cons.2 ⟨fun W W' hb h=>h.call hb,(fun _ h=>by cases h)⟩⟩⟩
 refine As 277 us [67,68,69,70,71,72,73,74,75,76,77,78,79,80,81,82,83,84,85] Fl Ml [19] (Mem w L R) Sl_ hN (by kernel_rfl) (by kernel_rfl) () h0.out.tail.drew h0.out.drew (by kernel_rfl) ?_ ?_
 refine Ab (stV St 0 rfl (fun _=>rfl) fun g T E W hl hw hs z K J=>by
  have x16:=z.u g16
  go_simp;exact J) ?_
 refine Ab (stV St 1 rfl (fun _=>rfl) fun g T E W hl hw hs z K J=>by
  have x67:=z.x 0 hw rfl
  have hC:=z.c
  have k0:=(hC.cell _ _ _ mT 1).trans (show _=some (.slice (some ⟨B,0,none⟩) m cap:Value) from rfl)
  go_simp;exact J) ?_
 refine Ab (stV St 2 rfl (fun _=>rfl) fun g T E W hl hw hs z K J=>by
  have x17:=z.u g17
  go_simp;exact J) ?_
 refine Ab (stV St 3 rfl (fun _=>rfl) fun g T E W hl hw hs z K J=>by
  have x68:=z.x 1 hw rfl
  have x69:=z.x 2 hw rfl
  go_simp;exact J) ?_
 refine Ab (stV St 4 rfl (fun _=>rfl) fun g T E W hl hw hs z K J=>by
  have x70:=z.x 3 hw rfl
  go_simp;exact J) ?_
 refine Ab (stV St 5 rfl (fun _=>rfl) fun g T E W hl hw hs z K J=>by
  have x71:=z.x 4 hw rfl
  have hC:=z.c
  have k0:=x72.out _ hC
  go_simp;exact J) ?_
 refine Ab (stV St 6 rfl (fun _=>rfl) fun g T E W hl hw hs z K J=>by
  have x19:=z.u g19
  go_simp;exact J) ?_
 refine Ab (stV St 7 rfl (fun _=>rfl) fun g T E W hl hw hs z K J=>by
  have x16:=z.u g16
  go_simp;exact J) ?_
 refine Ab (stV St 8 rfl (fun _=>rfl) fun g T E W hl hw hs z K J=>by
  have x74:=z.x 7 hw rfl
  have hC:=z.c
  have k0:=(hC.cell _ _ _ mT 1).trans (show _=some (.slice (some ⟨B,0,none⟩) m cap:Value) from rfl)
  go_simp;exact J) ?_
 refine Ab (stV St 9 rfl (fun _=>rfl) fun g T E W hl hw hs z K J=>by
  have x17:=z.u g17
  go_simp;exact J) ?_
 refine Ab (stV St 10 rfl (fun _=>rfl) fun g T E W hl hw hs z K J=>by
  have x75:=z.x 8 hw rfl
  have x76:=z.x 9 hw rfl
  go_simp;exact J) ?_
 refine Ab (stV St 11 rfl (fun _=>rfl) fun g T E W hl hw hs z K J=>by
  have x77:=z.x 10 hw rfl
  go_simp;exact J) ?_
 refine Ab (stV St 12 rfl (fun _=>rfl) fun g T E W hl hw hs z K J=>by
  have x78:=z.x 11 hw rfl
  have hC:=z.c
  have k0:=x79.out _ hC
  go_simp;exact J) ?_
 refine Ab (stV St 13 rfl (fun _=>rfl) fun g T E W hl hw hs z K J=>by
  have x19:=z.u g19
  go_simp;exact J) ?_
 refine Ab (stV St 14 rfl (fun _=>rfl) fun g T E W hl hw hs z K J=>by
  have x79:=z.x 12 hw rfl
  have x80:=z.x 13 hw rfl
  go_simp;exact J) ?_
 refine Ab (stV St 15 rfl (fun _=>rfl) fun g T E W hl hw hs z K J=>by
  have x81:=z.x 14 hw rfl
  have k0:W.cell? ⟨pb,k,none⟩=some (.int .i64 y:Value):=z.ld 15 0 0 hl hw hs rfl (by kernel_rfl) (fun s=>(Mem.cell (s) _ _ _ (.head _) (k)).trans hds)
  go_simp;exact J) ?_
 refine Ab (stV St 16 rfl (fun _=>rfl) fun g T E W hl hw hs z K J=>by
  have x18:=z.u g18
  go_simp;exact J) ?_
 refine Ab (stV St 17 rfl (fun _=>rfl) fun g T E W hl hw hs z K J=>by
  have x82:=z.x 15 hw rfl
  have x83:=z.x 16 hw rfl
  go_simp;exact J) ?_
 refine Ab (stV St 18 rfl (fun _=>rfl) fun g T E W hl hw hs z K J=>by
  have x72:=z.x 5 hw rfl
  have x73:=z.x 6 hw rfl
  go_simp;exact J) ?_
 refine Ab (stE 19 0 (.inl rfl) rfl rfl (fun _=>rfl) (by kernel_rfl) (fun _=>by kernel_rfl) fun g T E W hl hw hs z q K J=>by
  have x84:=z.x 17 hw rfl
  have x85:=z.x 18 hw rfl
  have hM0:Mem _ _ _ _:=q
  have y0:=(hM0.cell _ _ _ (.head _) (k)).trans hds
  have w0:=hM0.frozen _ _ _ (.head _) (k)
  go_simp;exact J _ ((hM0.put0 (k) _).tail) (hM0.put0 (k) _)) ?_
 ·exact Ag
 ·intro g a W z q
  have hM9:Mem _ _ _ _:=q
  rw [z.f.eqs]
  exact hQ.out _   _  (A8 hM9)
theorem LU {Q:Exit→Act→World→Prop} {us:List Value} {bT B m cap i:Nat} {cs:Array Value} {c f zv:Int} {w W0:World} {L:BLs} {R:List RowD} {r96:Int} (hi0:(0:Int)≤i) (hi1:(i:Int)<m) (hcs:cs[i*2+1]? = some (.int .i64 zv)) (mT:(bT,#[.int .i64 c,.slice (some ⟨B,0,none⟩) m cap],27)∈L) (h96:IntKind.i64.wrap (zv*f)=r96) (h0:Hid (Mem w ((B,cs,60) :: L) R W0)) (hN:us.length=277) (g16:us[16]? = some (.pointer (some ⟨bT,0,none⟩))) (g17:us[17]? = some (.int .i64 i)) (g18:us[18]? = some (.int .i64 f)) {ops:Array Oper} (ho:getOps Tryz.f6.body 15=some ops)
  (hQ:∀ (x:Nat→Value)  (W':World),Hid (Mem w ((B,(cs).setIfInBounds (i*2+1) (.int .i64 r96),60) :: L) R W')→Q .normal { tmps:=(sets [86,87,88,89,90,91,92,93,94,95,96,97,98] x us).toArray,defers:=[] } W') :
  (Code.region 15 ops true).wp Tryz.prog Q { tmps:=us.toArray,defers:=[] } W0:=by
 obtain rfl:=Option.some.inj (ho.symm.trans (rfl:getOps Tryz.f6.body 15=some _))
 clear ho
 replace hQ:=A8 hQ
 let Fl:Unit→FL:=fun g=>[some (86,.pointer (some ⟨bT,1,none⟩)),some (87,.slice (some ⟨B,0,none⟩) m cap),some (88,.int .i64 i),some (89,.pointer (some ⟨bT,1,none⟩)),some (90,.slice (some ⟨B,0,none⟩) m cap),some (91,.int .i64 i),some (92,.pointer (some ⟨B,i*2,none⟩)),some (93,.pointer (some ⟨B,i*2+1,none⟩)),some (94,.int .i64 zv),some (95,.int .i64 f),some (96,.int .i64 r96),some (97,.pointer (some ⟨B,i*2,none⟩)),some (98,.pointer (some ⟨B,i*2+1,none⟩)),none]
 let Ml:Unit→ML:=fun g=>[]
 let Sl_:Unit→List (World→Prop):=fun g=>[fun W=>Mem w ((B,cs,60) :: L) R W,fun W=>Mem w ((B,(cs).setIfInBounds (i*2+1) (.int .i64 r96),60) :: L) R W]
 have St:RgS 277 [86,87,88,89,90,91,92,93,94,95,96,97,98] [] Fl Ml (Mem w L R) Sl_:=⟨fun _=>by kernel_rfl,fun _=>rfl,fun _ _ hb h=>h.call hb,fun g=>(fun _ h=>by cases h),fun g=>List.forall_mem_cons.2 ⟨fun W W' hb h=>h.call hb,List.forall_mem_cons.2 ⟨fun W W' hb h=>h.call hb,(fun _ h=>by cases h)⟩⟩⟩
 refine As 277 us [86,87,88,89,90,91,92,93,94,95,96,97,98] Fl Ml [13] (Mem w L R) Sl_ hN (by kernel_rfl) (by kernel_rfl) () h0.out.tail.drew h0.out.drew (by kernel_rfl) ?_ ?_
 refine Ab (stV St 0 rfl (fun _=>rfl) fun g T E W hl hw hs z K J=>by
  have x16:=z.u g16
  go_simp;exact J) ?_
 refine Ab (stV St 1 rfl (fun _=>rfl) fun g T E W hl hw hs z K J=>by
  have x86:=z.x 0 hw rfl
  have hC:=z.c
  have k0:=(hC.cell _ _ _ mT 1).trans (show _=some (.slice (some ⟨B,0,none⟩) m cap:Value) from rfl)
  go_simp;exact J) ?_
 refine Ab (stV St 2 rfl (fun _=>rfl) fun g T E W hl hw hs z K J=>by
  have x17:=z.u g17
  go_simp;exact J) ?_
 refine Ab (stV St 3 rfl (fun _=>rfl) fun g T E W hl hw hs z K J=>by
  have x16:=z.u g16
  go_simp;exact J) ?_
 refine Ab (stV St 4 rfl (fun _=>rfl) fun g T E W hl hw hs z K J=>by
  have x89:=z.x 3 hw rfl
  have hC:=z.c
  have k0:=(hC.cell _ _ _ mT 1).trans (show _=some (.slice (some ⟨B,0,none⟩) m cap:Value) from rfl)
  go_simp;exact J) ?_
 refine Ab (stV St 5 rfl (fun _=>rfl) fun g T E W hl hw hs z K J=>by
  have x17:=z.u g17
  go_simp;exact J) ?_
 refine Ab (stV St 6 rfl (fun _=>rfl) fun g T E W hl hw hs z K J=>by
  have x90:=z.x 4 hw rfl
  have x91:=z.x 5 hw rfl
  go_simp;exact J) ?_
 refine Ab (stV St 7 rfl (fun _=>rfl) fun g T E W hl hw hs z K J=>by
  have x92:=z.x 6 hw rfl
  go_simp;exact J) ?_
 refine Ab (stV St 8 rfl (fun _=>rfl) fun g T E W hl hw hs z K J=>by
  have x93:=z.x 7 hw rfl
  have k0:W.cell? ⟨B,i*2+1,none⟩=some (.int .i64 zv:Value):=z.ld 8 0 0 hl hw hs rfl (by kernel_rfl) (fun s=>(Mem.cell (s) _ _ _ (.head _) (i*2+1)).trans hcs)
  go_simp;exact J) ?_
 refine Ab (stV St 9 rfl (fun _=>rfl) fun g T E W hl hw hs z K J=>by
  have x18:=z.u g18
  go_simp;exact J) ?_
 refine Ab (stV St 10 rfl (fun _=>rfl) fun g T E W hl hw hs z K J=>by
  have x94:=z.x 8 hw rfl
  have x95:=z.x 9 hw rfl
  go_simp;exact J) ?_
 refine Ab (stV St 11 rfl (fun _=>rfl) fun g T E W hl hw hs z K J=>by
  have x87:=z.x 1 hw rfl
  have x88:=z.x 2 hw rfl
  go_simp;exact J) ?_
 refine Ab (stV St 12 rfl (fun _=>rfl) fun g T E W hl hw hs z K J=>by
  have x97:=z.x 11 hw rfl
  go_simp;exact J) ?_
 refine Ab (stE 13 0 (.inl rfl) rfl rfl (fun _=>rfl) (by kernel_rfl) (fun _=>by kernel_rfl) fun g T E W hl hw hs z q K J=>by
  have x96:=z.x 10 hw rfl
  have x98:=z.x 12 hw rfl
  have hM0:Mem _ _ _ _:=q
  have y0:=(hM0.cell _ _ _ (.head _) (i*2+1)).trans hcs
  have w0:=hM0.frozen _ _ _ (.head _) (i*2+1)
  go_simp;exact J _ ((hM0.put0 (i*2+1) _).tail) (hM0.put0 (i*2+1) _)) ?_
 ·exact Ag
 ·intro g a W z q
  have hM9:Mem _ _ _ _:=q
  rw [z.f.eqs]
  exact hQ.out _   _  (A8 hM9)
theorem eq_r21 {Q:Exit→Act→World→Prop} {us:List Value} {bT B m cap i j k pb n cp qb n2 cp2:Nat} {ds:Array Value} {c y y2:Int} {w W0:World} {L:BLs} {R:List RowD} {r145:Int} (hi0:(0:Int)≤i) (hi1:(i:Int)<m) (hj0:(0:Int)≤j) (hj1:(j:Int)<m) (hk0:(0:Int)≤k) (hk1:(k:Int)<n) (hk2:(k:Int)<n2) (hds:ds[k]? = some (.int .i64 y)) (mT:(bT,#[.int .i64 c,.slice (some ⟨B,0,none⟩) m cap],27)∈L) (x125:Hid (∀ W,Mem w L R W→W.cell? ⟨B,i*2,none⟩=some (.slice (some ⟨pb,0,none⟩) n cp))) (x132:Hid (∀ W,Mem w L R W→W.cell? ⟨B,i*2,none⟩=some (.slice (some ⟨pb,0,none⟩) n cp))) (x141:Hid (∀ W,Mem w L R W→W.cell? ⟨B,j*2,none⟩=some (.slice (some ⟨qb,0,none⟩) n2 cp2))) (x144:Hid (∀ W,Mem w L R W→W.cell? ⟨qb,k,none⟩=some (.int .i64 y2))) (h145:IntKind.i64.wrap (y+y2)=r145) (h0:Hid (Mem w ((pb,ds,3) :: L) R W0)) (hN:us.length=277) (g16:us[16]? = some (.pointer (some ⟨bT,0,none⟩))) (g20:us[20]? = some (.int .i64 i)) (g21:us[21]? = some (.int .i64 j)) (g22:us[22]? = some (.int .i64 k)) {ops:Array Oper} (ho:getOps Tryz.f6.body 21=some ops)
  (hQ:∀ (x:Nat→Value)  (W':World),Hid (Mem w ((pb,(ds).setIfInBounds (k) (.int .i64 r145),3) :: L) R W')→Q .normal { tmps:=(sets [120,121,122,123,124,125,126,127,128,129,130,131,132,133,134,135,136,137,138,139,140,141,142,143,144,145,146] x us).toArray,defers:=[] } W') :
  (Code.region 21 ops true).wp Tryz.prog Q { tmps:=us.toArray,defers:=[] } W0:=by
 obtain rfl:=Option.some.inj (ho.symm.trans (rfl:getOps Tryz.f6.body 21=some _))
 clear ho
 replace hQ:=A8 hQ
 let Fl:Unit→FL:=fun g=>[some (120,.pointer (some ⟨bT,1,none⟩)),some (121,.slice (some ⟨B,0,none⟩) m cap),some (122,.int .i64 i),some (123,.pointer (some ⟨B,i*2,none⟩)),some (124,.pointer (some ⟨B,i*2,none⟩)),some (125,.slice (some ⟨pb,0,none⟩) n cp),some (126,.int .i64 k),some (127,.pointer (some ⟨bT,1,none⟩)),some (128,.slice (some ⟨B,0,none⟩) m cap),some (129,.int .i64 i),some (130,.pointer (some ⟨B,i*2,none⟩)),some (131,.pointer (some ⟨B,i*2,none⟩)),some (132,.slice (some ⟨pb,0,none⟩) n cp),some (133,.int .i64 k),some (134,.pointer (some ⟨pb,k,none⟩)),some (135,.int .i64 y),some (136,.pointer (some ⟨bT,1,none⟩)),some (137,.slice (some ⟨B,0,none⟩) m cap),some (138,.int .i64 j),some (139,.pointer (some ⟨B,j*2,none⟩)),some (140,.pointer (some ⟨B,j*2,none⟩)),some (141,.slice (some ⟨qb,0,none⟩) n2 cp2),some (142,.int .i64 k),some (143,.pointer (some ⟨qb,k,none⟩)),some (144,.int .i64 y2),some (145,.int .i64 r145),some (146,.pointer (some ⟨pb,k,none⟩)),none]
 let Ml:Unit→ML:=fun g=>[]
 let Sl_:Unit→List (World→Prop):=fun g=>[fun W=>Mem w ((pb,ds,3) :: L) R W,fun W=>Mem w ((pb,(ds).setIfInBounds (k) (.int .i64 r145),3) :: L) R W]
 have St:RgS 277 [120,121,122,123,124,125,126,127,128,129,130,131,132,133,134,135,136,137,138,139,140,141,142,143,144,145,146] [] Fl Ml (Mem w L R) Sl_:=⟨fun _=>by kernel_rfl,fun _=>rfl,fun _ _ hb h=>h.call hb,fun g=>(fun _ h=>by cases h),fun g=>List.forall_mem_cons.2 ⟨fun W W' hb h=>h.call hb,List.forall_mem_cons.2 ⟨fun W W' hb h=>h.call hb,(fun _ h=>by cases h)⟩⟩⟩
 refine As 277 us [120,121,122,123,124,125,126,127,128,129,130,131,132,133,134,135,136,137,138,139,140,141,142,143,144,145,146] Fl Ml [27] (Mem w L R) Sl_ hN (by kernel_rfl) (by kernel_rfl) () h0.out.tail.drew h0.out.drew (by kernel_rfl) ?_ ?_
 refine Ab (stV St 0 rfl (fun _=>rfl) fun g T E W hl hw hs z K J=>by
  have x16:=z.u g16
  go_simp;exact J) ?_
 refine Ab (stV St 1 rfl (fun _=>rfl) fun g T E W hl hw hs z K J=>by
  have x120:=z.x 0 hw rfl
  have hC:=z.c
  have k0:=(hC.cell _ _ _ mT 1).trans (show _=some (.slice (some ⟨B,0,none⟩) m cap:Value) from rfl)
  go_simp;exact J) ?_
 refine Ab (stV St 2 rfl (fun _=>rfl) fun g T E W hl hw hs z K J=>by
  have x20:=z.u g20
  go_simp;exact J) ?_
 refine Ab (stV St 3 rfl (fun _=>rfl) fun g T E W hl hw hs z K J=>by
  have x121:=z.x 1 hw rfl
  have x122:=z.x 2 hw rfl
  go_simp;exact J) ?_
 refine Ab (stV St 4 rfl (fun _=>rfl) fun g T E W hl hw hs z K J=>by
  have x123:=z.x 3 hw rfl
  go_simp;exact J) ?_
 refine Ab (stV St 5 rfl (fun _=>rfl) fun g T E W hl hw hs z K J=>by
  have x124:=z.x 4 hw rfl
  have hC:=z.c
  have k0:=x125.out _ hC
  go_simp;exact J) ?_
 refine Ab (stV St 6 rfl (fun _=>rfl) fun g T E W hl hw hs z K J=>by
  have x22:=z.u g22
  go_simp;exact J) ?_
 refine Ab (stV St 7 rfl (fun _=>rfl) fun g T E W hl hw hs z K J=>by
  have x16:=z.u g16
  go_simp;exact J) ?_
 refine Ab (stV St 8 rfl (fun _=>rfl) fun g T E W hl hw hs z K J=>by
  have x127:=z.x 7 hw rfl
  have hC:=z.c
  have k0:=(hC.cell _ _ _ mT 1).trans (show _=some (.slice (some ⟨B,0,none⟩) m cap:Value) from rfl)
  go_simp;exact J) ?_
 refine Ab (stV St 9 rfl (fun _=>rfl) fun g T E W hl hw hs z K J=>by
  have x20:=z.u g20
  go_simp;exact J) ?_
 refine Ab (stV St 10 rfl (fun _=>rfl) fun g T E W hl hw hs z K J=>by
  have x128:=z.x 8 hw rfl
  have x129:=z.x 9 hw rfl
  go_simp;exact J) ?_
 refine Ab (stV St 11 rfl (fun _=>rfl) fun g T E W hl hw hs z K J=>by
  have x130:=z.x 10 hw rfl
  go_simp;exact J) ?_
 refine Ab (stV St 12 rfl (fun _=>rfl) fun g T E W hl hw hs z K J=>by
  have x131:=z.x 11 hw rfl
  have hC:=z.c
  have k0:=x132.out _ hC
  go_simp;exact J) ?_
 refine Ab (stV St 13 rfl (fun _=>rfl) fun g T E W hl hw hs z K J=>by
  have x22:=z.u g22
  go_simp;exact J) ?_
 refine Ab (stV St 14 rfl (fun _=>rfl) fun g T E W hl hw hs z K J=>by
  have x132:=z.x 12 hw rfl
  have x133:=z.x 13 hw rfl
  go_simp;exact J) ?_
 refine Ab (stV St 15 rfl (fun _=>rfl) fun g T E W hl hw hs z K J=>by
  have x134:=z.x 14 hw rfl
  have k0:W.cell? ⟨pb,k,none⟩=some (.int .i64 y:Value):=z.ld 15 0 0 hl hw hs rfl (by kernel_rfl) (fun s=>(Mem.cell (s) _ _ _ (.head _) (k)).trans hds)
  go_simp;exact J) ?_
 refine Ab (stV St 16 rfl (fun _=>rfl) fun g T E W hl hw hs z K J=>by
  have x16:=z.u g16
  go_simp;exact J) ?_
 refine Ab (stV St 17 rfl (fun _=>rfl) fun g T E W hl hw hs z K J=>by
  have x136:=z.x 16 hw rfl
  have hC:=z.c
  have k0:=(hC.cell _ _ _ mT 1).trans (show _=some (.slice (some ⟨B,0,none⟩) m cap:Value) from rfl)
  go_simp;exact J) ?_
 refine Ab (stV St 18 rfl (fun _=>rfl) fun g T E W hl hw hs z K J=>by
  have x21:=z.u g21
  go_simp;exact J) ?_
 refine Ab (stV St 19 rfl (fun _=>rfl) fun g T E W hl hw hs z K J=>by
  have x137:=z.x 17 hw rfl
  have x138:=z.x 18 hw rfl
  go_simp;exact J) ?_
 refine Ab (stV St 20 rfl (fun _=>rfl) fun g T E W hl hw hs z K J=>by
  have x139:=z.x 19 hw rfl
  go_simp;exact J) ?_
 refine Ab (stV St 21 rfl (fun _=>rfl) fun g T E W hl hw hs z K J=>by
  have x140:=z.x 20 hw rfl
  have hC:=z.c
  have k0:=x141.out _ hC
  go_simp;exact J) ?_
 refine Ab (stV St 22 rfl (fun _=>rfl) fun g T E W hl hw hs z K J=>by
  have x22:=z.u g22
  go_simp;exact J) ?_
 refine Ab (stV St 23 rfl (fun _=>rfl) fun g T E W hl hw hs z K J=>by
  have x141:=z.x 21 hw rfl
  have x142:=z.x 22 hw rfl
  go_simp;exact J) ?_
 refine Ab (stV St 24 rfl (fun _=>rfl) fun g T E W hl hw hs z K J=>by
  have x143:=z.x 23 hw rfl
  have hC:=z.c
  have k0:=x144.out _ hC
  go_simp;exact J) ?_
 refine Ab (stV St 25 rfl (fun _=>rfl) fun g T E W hl hw hs z K J=>by
  have x135:=z.x 15 hw rfl
  have x144:=z.x 24 hw rfl
  go_simp;exact J) ?_
 refine Ab (stV St 26 rfl (fun _=>rfl) fun g T E W hl hw hs z K J=>by
  have x125:=z.x 5 hw rfl
  have x126:=z.x 6 hw rfl
  go_simp;exact J) ?_
 refine Ab (stE 27 0 (.inl rfl) rfl rfl (fun _=>rfl) (by kernel_rfl) (fun _=>by kernel_rfl) fun g T E W hl hw hs z q K J=>by
  have x145:=z.x 25 hw rfl
  have x146:=z.x 26 hw rfl
  have hM0:Mem _ _ _ _:=q
  have y0:=(hM0.cell _ _ _ (.head _) (k)).trans hds
  have w0:=hM0.frozen _ _ _ (.head _) (k)
  go_simp;exact J _ ((hM0.put0 (k) _).tail) (hM0.put0 (k) _)) ?_
 ·exact Ag
 ·intro g a W z q
  have hM9:Mem _ _ _ _:=q
  rw [z.f.eqs]
  exact hQ.out _   _  (A8 hM9)
theorem eq_r23 {Q:Exit→Act→World→Prop} {us:List Value} {bT B m cap i j:Nat} {cs:Array Value} {c zv zw:Int} {w W0:World} {L:BLs} {R:List RowD} {r165:Int} (hi0:(0:Int)≤i) (hi1:(i:Int)<m) (hj0:(0:Int)≤j) (hj1:(j:Int)<m) (hcs:cs[i*2+1]? = some (.int .i64 zv)) (hcs2:cs[j*2+1]? = some (.int .i64 zw)) (mT:(bT,#[.int .i64 c,.slice (some ⟨B,0,none⟩) m cap],27)∈L) (h165:IntKind.i64.wrap (zv+zw)=r165) (h0:Hid (Mem w ((B,cs,60) :: L) R W0)) (hN:us.length=277) (g16:us[16]? = some (.pointer (some ⟨bT,0,none⟩))) (g20:us[20]? = some (.int .i64 i)) (g21:us[21]? = some (.int .i64 j)) {ops:Array Oper} (ho:getOps Tryz.f6.body 23=some ops)
  (hQ:∀ (x:Nat→Value)  (W':World),Hid (Mem w ((B,(cs).setIfInBounds (i*2+1) (.int .i64 r165),60) :: L) R W')→Q .normal { tmps:=(sets [150,151,152,153,154,155,156,157,158,159,160,161,162,163,164,165,166,167] x us).toArray,defers:=[] } W') :
  (Code.region 23 ops true).wp Tryz.prog Q { tmps:=us.toArray,defers:=[] } W0:=by
 obtain rfl:=Option.some.inj (ho.symm.trans (rfl:getOps Tryz.f6.body 23=some _))
 clear ho
 replace hQ:=A8 hQ
 let Fl:Unit→FL:=fun g=>[some (150,.pointer (some ⟨bT,1,none⟩)),some (151,.slice (some ⟨B,0,none⟩) m cap),some (152,.int .i64 i),some (153,.pointer (some ⟨bT,1,none⟩)),some (154,.slice (some ⟨B,0,none⟩) m cap),some (155,.int .i64 i),some (156,.pointer (some ⟨B,i*2,none⟩)),some (157,.pointer (some ⟨B,i*2+1,none⟩)),some (158,.int .i64 zv),some (159,.pointer (some ⟨bT,1,none⟩)),some (160,.slice (some ⟨B,0,none⟩) m cap),some (161,.int .i64 j),some (162,.pointer (some ⟨B,j*2,none⟩)),some (163,.pointer (some ⟨B,j*2+1,none⟩)),some (164,.int .i64 zw),some (165,.int .i64 r165),some (166,.pointer (some ⟨B,i*2,none⟩)),some (167,.pointer (some ⟨B,i*2+1,none⟩)),none]
 let Ml:Unit→ML:=fun g=>[]
 let Sl_:Unit→List (World→Prop):=fun g=>[fun W=>Mem w ((B,cs,60) :: L) R W,fun W=>Mem w ((B,(cs).setIfInBounds (i*2+1) (.int .i64 r165),60) :: L) R W]
 have St:RgS 277 [150,151,152,153,154,155,156,157,158,159,160,161,162,163,164,165,166,167] [] Fl Ml (Mem w L R) Sl_:=⟨fun _=>by kernel_rfl,fun _=>rfl,fun _ _ hb h=>h.call hb,fun g=>(fun _ h=>by cases h),fun g=>List.forall_mem_cons.2 ⟨fun W W' hb h=>h.call hb,List.forall_mem_cons.2 ⟨fun W W' hb h=>h.call hb,(fun _ h=>by cases h)⟩⟩⟩
 refine As 277 us [150,151,152,153,154,155,156,157,158,159,160,161,162,163,164,165,166,167] Fl Ml [18] (Mem w L R) Sl_ hN (by kernel_rfl) (by kernel_rfl) () h0.out.tail.drew h0.out.drew (by kernel_rfl) ?_ ?_
 refine Ab (stV St 0 rfl (fun _=>rfl) fun g T E W hl hw hs z K J=>by
  have x16:=z.u g16
  go_simp;exact J) ?_
 refine Ab (stV St 1 rfl (fun _=>rfl) fun g T E W hl hw hs z K J=>by
  have x150:=z.x 0 hw rfl
  have hC:=z.c
  have k0:=(hC.cell _ _ _ mT 1).trans (show _=some (.slice (some ⟨B,0,none⟩) m cap:Value) from rfl)
  go_simp;exact J) ?_
 refine Ab (stV St 2 rfl (fun _=>rfl) fun g T E W hl hw hs z K J=>by
  have x20:=z.u g20
  go_simp;exact J) ?_
 refine Ab (stV St 3 rfl (fun _=>rfl) fun g T E W hl hw hs z K J=>by
  have x16:=z.u g16
  go_simp;exact J) ?_
 refine Ab (stV St 4 rfl (fun _=>rfl) fun g T E W hl hw hs z K J=>by
  have x153:=z.x 3 hw rfl
  have hC:=z.c
  have k0:=(hC.cell _ _ _ mT 1).trans (show _=some (.slice (some ⟨B,0,none⟩) m cap:Value) from rfl)
  go_simp;exact J) ?_
 refine Ab (stV St 5 rfl (fun _=>rfl) fun g T E W hl hw hs z K J=>by
  have x20:=z.u g20
  go_simp;exact J) ?_
 refine Ab (stV St 6 rfl (fun _=>rfl) fun g T E W hl hw hs z K J=>by
  have x154:=z.x 4 hw rfl
  have x155:=z.x 5 hw rfl
  go_simp;exact J) ?_
 refine Ab (stV St 7 rfl (fun _=>rfl) fun g T E W hl hw hs z K J=>by
  have x156:=z.x 6 hw rfl
  go_simp;exact J) ?_
 refine Ab (stV St 8 rfl (fun _=>rfl) fun g T E W hl hw hs z K J=>by
  have x157:=z.x 7 hw rfl
  have k0:W.cell? ⟨B,i*2+1,none⟩=some (.int .i64 zv:Value):=z.ld 8 0 0 hl hw hs rfl (by kernel_rfl) (fun s=>(Mem.cell (s) _ _ _ (.head _) (i*2+1)).trans hcs)
  go_simp;exact J) ?_
 refine Ab (stV St 9 rfl (fun _=>rfl) fun g T E W hl hw hs z K J=>by
  have x16:=z.u g16
  go_simp;exact J) ?_
 refine Ab (stV St 10 rfl (fun _=>rfl) fun g T E W hl hw hs z K J=>by
  have x159:=z.x 9 hw rfl
  have hC:=z.c
  have k0:=(hC.cell _ _ _ mT 1).trans (show _=some (.slice (some ⟨B,0,none⟩) m cap:Value) from rfl)
  go_simp;exact J) ?_
 refine Ab (stV St 11 rfl (fun _=>rfl) fun g T E W hl hw hs z K J=>by
  have x21:=z.u g21
  go_simp;exact J) ?_
 refine Ab (stV St 12 rfl (fun _=>rfl) fun g T E W hl hw hs z K J=>by
  have x160:=z.x 10 hw rfl
  have x161:=z.x 11 hw rfl
  go_simp;exact J) ?_
 refine Ab (stV St 13 rfl (fun _=>rfl) fun g T E W hl hw hs z K J=>by
  have x162:=z.x 12 hw rfl
  go_simp;exact J) ?_
 refine Ab (stV St 14 rfl (fun _=>rfl) fun g T E W hl hw hs z K J=>by
  have x163:=z.x 13 hw rfl
  have k0:W.cell? ⟨B,j*2+1,none⟩=some (.int .i64 zw:Value):=z.ld 14 0 0 hl hw hs rfl (by kernel_rfl) (fun s=>(Mem.cell (s) _ _ _ (.head _) (j*2+1)).trans hcs2)
  go_simp;exact J) ?_
 refine Ab (stV St 15 rfl (fun _=>rfl) fun g T E W hl hw hs z K J=>by
  have x158:=z.x 8 hw rfl
  have x164:=z.x 14 hw rfl
  go_simp;exact J) ?_
 refine Ab (stV St 16 rfl (fun _=>rfl) fun g T E W hl hw hs z K J=>by
  have x151:=z.x 1 hw rfl
  have x152:=z.x 2 hw rfl
  go_simp;exact J) ?_
 refine Ab (stV St 17 rfl (fun _=>rfl) fun g T E W hl hw hs z K J=>by
  have x166:=z.x 16 hw rfl
  go_simp;exact J) ?_
 refine Ab (stE 18 0 (.inl rfl) rfl rfl (fun _=>rfl) (by kernel_rfl) (fun _=>by kernel_rfl) fun g T E W hl hw hs z q K J=>by
  have x165:=z.x 15 hw rfl
  have x167:=z.x 17 hw rfl
  have hM0:Mem _ _ _ _:=q
  have y0:=(hM0.cell _ _ _ (.head _) (i*2+1)).trans hcs
  have w0:=hM0.frozen _ _ _ (.head _) (i*2+1)
  go_simp;exact J _ ((hM0.put0 (i*2+1) _).tail) (hM0.put0 (i*2+1) _)) ?_
 ·exact Ag
 ·intro g a W z q
  have hM9:Mem _ _ _ _:=q
  rw [z.f.eqs]
  exact hQ.out _   _  (A8 hM9)
theorem eq_r29 {Q:Exit→Act→World→Prop} {us:List Value} {bT B m cap i:Nat} {cs:Array Value} {c by_ zv:Int} {w W0:World} {L:BLs} {R:List RowD} {c189:Int} {r190:Int} {r191:Int} (hi0:(0:Int)≤i) (hi1:(i:Int)<m) (hcs:cs[i*2+1]? = some (.int .i64 zv)) (mT:(bT,#[.int .i64 c,.slice (some ⟨B,0,none⟩) m cap],27)∈L) (C189:Hid (∀ W,Mem w L R W→Calls Tryz.prog 24 #[.int .i64 by_,.int .i64 1000] W (Rets W (.int .i64 c189)))) (h190:IntKind.i64.wrap (1+c189)=r190) (h191:IntKind.i64.wrap (zv*r190)=r191) (h0:Hid (Mem w ((B,cs,60) :: L) R W0)) (hN:us.length=277) (g4:us[4]? = some (.int .i64 by_)) (g23:us[23]? = some (.pointer (some ⟨bT,0,none⟩))) (g25:us[25]? = some (.int .i64 i)) {ops:Array Oper} (ho:getOps Tryz.f6.body 29=some ops)
  (hQ:∀ (x:Nat→Value)  (W':World),Hid (Mem w ((B,(cs).setIfInBounds (i*2+1) (.int .i64 r191),60) :: L) R W')→Q .normal { tmps:=(sets [179,180,181,182,183,184,185,186,187,188,189,190,191,192,193] x us).toArray,defers:=[] } W') :
  (Code.region 29 ops true).wp Tryz.prog Q { tmps:=us.toArray,defers:=[] } W0:=by
 obtain rfl:=Option.some.inj (ho.symm.trans (rfl:getOps Tryz.f6.body 29=some _))
 clear ho
 replace hQ:=A8 hQ
 let Fl:Unit→FL:=fun g=>[some (179,.pointer (some ⟨bT,1,none⟩)),some (180,.slice (some ⟨B,0,none⟩) m cap),some (181,.int .i64 i),some (182,.pointer (some ⟨bT,1,none⟩)),some (183,.slice (some ⟨B,0,none⟩) m cap),some (184,.int .i64 i),some (185,.pointer (some ⟨B,i*2,none⟩)),some (186,.pointer (some ⟨B,i*2+1,none⟩)),some (187,.int .i64 zv),some (188,.int .i64 by_),some (189,.int .i64 c189),some (190,.int .i64 r190),some (191,.int .i64 r191),some (192,.pointer (some ⟨B,i*2,none⟩)),some (193,.pointer (some ⟨B,i*2+1,none⟩)),none]
 let Ml:Unit→ML:=fun g=>[]
 let Sl_:Unit→List (World→Prop):=fun g=>[fun W=>Mem w ((B,cs,60) :: L) R W,fun W=>Mem w ((B,(cs).setIfInBounds (i*2+1) (.int .i64 r191),60) :: L) R W]
 have St:RgS 277 [179,180,181,182,183,184,185,186,187,188,189,190,191,192,193] [] Fl Ml (Mem w L R) Sl_:=⟨fun _=>by kernel_rfl,fun _=>rfl,fun _ _ hb h=>h.call hb,fun g=>(fun _ h=>by cases h),fun g=>List.forall_mem_cons.2 ⟨fun W W' hb h=>h.call hb,List.forall_mem_cons.2 ⟨fun W W' hb h=>h.call hb,(fun _ h=>by cases h)⟩⟩⟩
 refine As 277 us [179,180,181,182,183,184,185,186,187,188,189,190,191,192,193] Fl Ml [15] (Mem w L R) Sl_ hN (by kernel_rfl) (by kernel_rfl) () h0.out.tail.drew h0.out.drew (by kernel_rfl) ?_ ?_
 refine Ab (stV St 0 rfl (fun _=>rfl) fun g T E W hl hw hs z K J=>by
  have x23:=z.u g23
  go_simp;exact J) ?_
 refine Ab (stV St 1 rfl (fun _=>rfl) fun g T E W hl hw hs z K J=>by
  have x179:=z.x 0 hw rfl
  have hC:=z.c
  have k0:=(hC.cell _ _ _ mT 1).trans (show _=some (.slice (some ⟨B,0,none⟩) m cap:Value) from rfl)
  go_simp;exact J) ?_
 refine Ab (stV St 2 rfl (fun _=>rfl) fun g T E W hl hw hs z K J=>by
  have x25:=z.u g25
  go_simp;exact J) ?_
 refine Ab (stV St 3 rfl (fun _=>rfl) fun g T E W hl hw hs z K J=>by
  have x23:=z.u g23
  go_simp;exact J) ?_
 refine Ab (stV St 4 rfl (fun _=>rfl) fun g T E W hl hw hs z K J=>by
  have x182:=z.x 3 hw rfl
  have hC:=z.c
  have k0:=(hC.cell _ _ _ mT 1).trans (show _=some (.slice (some ⟨B,0,none⟩) m cap:Value) from rfl)
  go_simp;exact J) ?_
 refine Ab (stV St 5 rfl (fun _=>rfl) fun g T E W hl hw hs z K J=>by
  have x25:=z.u g25
  go_simp;exact J) ?_
 refine Ab (stV St 6 rfl (fun _=>rfl) fun g T E W hl hw hs z K J=>by
  have x183:=z.x 4 hw rfl
  have x184:=z.x 5 hw rfl
  go_simp;exact J) ?_
 refine Ab (stV St 7 rfl (fun _=>rfl) fun g T E W hl hw hs z K J=>by
  have x185:=z.x 6 hw rfl
  go_simp;exact J) ?_
 refine Ab (stV St 8 rfl (fun _=>rfl) fun g T E W hl hw hs z K J=>by
  have x186:=z.x 7 hw rfl
  have k0:W.cell? ⟨B,i*2+1,none⟩=some (.int .i64 zv:Value):=z.ld 8 0 0 hl hw hs rfl (by kernel_rfl) (fun s=>(Mem.cell (s) _ _ _ (.head _) (i*2+1)).trans hcs)
  go_simp;exact J) ?_
 refine Ab (stV St 9 rfl (fun _=>rfl) fun g T E W hl hw hs z K J=>by
  have x4:=z.u g4
  go_simp;exact J) ?_
 refine Ab (stC St 10 rfl (fun _=>rfl) fun g T E W hl hw hs z K J=>by
  have x188:=z.x 9 hw rfl
  have hC:=z.c
  go_simp
  refine Calls.mono (C189.out W hC) ?_
  rintro e W2 ⟨rfl,hb⟩
  exact J _ hb) ?_
 refine Ab (stV St 11 rfl (fun _=>rfl) fun g T E W hl hw hs z K J=>by
  have x189:=z.x 10 hw rfl
  go_simp;exact J) ?_
 refine Ab (stV St 12 rfl (fun _=>rfl) fun g T E W hl hw hs z K J=>by
  have x187:=z.x 8 hw rfl
  have x190:=z.x 11 hw rfl
  go_simp;exact J) ?_
 refine Ab (stV St 13 rfl (fun _=>rfl) fun g T E W hl hw hs z K J=>by
  have x180:=z.x 1 hw rfl
  have x181:=z.x 2 hw rfl
  go_simp;exact J) ?_
 refine Ab (stV St 14 rfl (fun _=>rfl) fun g T E W hl hw hs z K J=>by
  have x192:=z.x 13 hw rfl
  go_simp;exact J) ?_
 refine Ab (stE 15 0 (.inl rfl) rfl rfl (fun _=>rfl) (by kernel_rfl) (fun _=>by kernel_rfl) fun g T E W hl hw hs z q K J=>by
  have x191:=z.x 12 hw rfl
  have x193:=z.x 14 hw rfl
  have hM0:Mem _ _ _ _:=q
  have y0:=(hM0.cell _ _ _ (.head _) (i*2+1)).trans hcs
  have w0:=hM0.frozen _ _ _ (.head _) (i*2+1)
  go_simp;exact J _ ((hM0.put0 (i*2+1) _).tail) (hM0.put0 (i*2+1) _)) ?_
 ·exact Ag
 ·intro g a W z q
  have hM9:Mem _ _ _ _:=q
  rw [z.f.eqs]
  exact hQ.out _   _  (A8 hM9)
theorem LW {Q:Exit→Act→World→Prop} {us:List Value} {bN bS bA bB lc kc lh kh n1 k1 n2 k2:Nat} {ac ah a1 a2:Option Addr} {lv:Value} {d1 d2 dv:ByteArray} {nc nr ms den c:Int} {hl vl:List ByteArray} {w W0:World} {L:BLs} {R:List RowD}    (x253_0:Hid (∀ W,Mem w L R W→W.cell? ⟨bA,1,none⟩=some (.slice a1 n1 k1))) (x253_1:Hid (∀ W,Mem w L R W→W.cell? ⟨bA,2,none⟩=some (.string d1))) (x255_0:Hid (∀ W,Mem w L R W→W.cell? ⟨bB,1,none⟩=some (.slice a2 n2 k2))) (x255_1:Hid (∀ W,Mem w L R W→W.cell? ⟨bB,2,none⟩=some (.string d2))) (x256_0:Hid (∀ W,Mem w L R W→W.cell? ⟨bN,0,none⟩=some (.int .i64 nc))) (x256_1:Hid (∀ W,Mem w L R W→W.cell? ⟨bN,1,none⟩=some (.int .i64 nr))) (x256_2:Hid (∀ W,Mem w L R W→W.cell? ⟨bN,2,none⟩=some (.slice ac lc kc))) (x256_3:Hid (∀ W,Mem w L R W→W.cell? ⟨bN,3,none⟩=some (.slice ah lh kh))) (x256_4:Hid (∀ W,Mem w L R W→W.cell? ⟨bN,4,none⟩=some (.int .i64 ms))) (C257:Hid (∀ W,Mem w L R W→Calls Tryz.prog 17 #[.agg #[.int .i64 nc,.int .i64 nr,.slice ac lc kc,.slice ah lh kh,.int .i64 ms]] W fun e W'=>∃ (ag:Option Addr) (lg:Nat) (kg:Nat),e=.returned (.agg #[.slice ag lg kg,.string ⟨#[49]⟩])∧SlS W' (.slice ag lg kg) hl∧Below W.heap.size W W')) (x259:Hid (∀ W,Mem w L R W→W.cell? ⟨bS,0,none⟩=some (.int .i64 c))) (C262:Hid (∀ W,Mem w L R W→Calls Tryz.prog 18 #[.int .i64 c,lv,.int .i64 den] W fun e W'=>∃ (ax:Option Addr) (lx:Nat) (kx:Nat),e=.returned (.agg #[.slice ax lx kx,.string dv])∧SlS W' (.slice ax lx kx) vl∧Below W.heap.size W W')) (h0:Hid (Mem w L R W0)) (hN:us.length=277) (g5:us[5]? = some (lv)) (g6:us[6]? = some (.int .i64 den)) (g7:us[7]? = some (.pointer (some ⟨bN,0,none⟩))) (g15:us[15]? = some (.pointer (some ⟨bS,0,none⟩))) (g26:us[26]? = some (.pointer (some ⟨bA,0,none⟩))) (g28:us[28]? = some (.pointer (some ⟨bB,0,none⟩))) {ops:Array Oper} (ho:getOps Tryz.f6.body 37=some ops)
  (hQ:∀ (x:Nat→Value)  (g263:Nat) (ag:Option Addr) (lg:Nat) (kg:Nat) (ax:Option Addr) (lx:Nat) (kx:Nat) (W':World),x 263=.slice (some ⟨g263,0,none⟩) 4 4→x 264=.int .i64 4→x 265=.int .i64 0→Hid (Blk W' g263 #[.slice a1 n1 k1,.string d1,.slice a2 n2 k2,.string d2,.slice ag lg kg,.string ⟨#[49]⟩,.slice ax lx kx,.string dv] 30∧SlS W' (.slice ag lg kg) hl∧SlS W' (.slice ax lx kx) vl)→Hid (Mem w L R W')→Q .normal { tmps:=(sets [252,253,254,255,256,257,258,259,260,261,262,263,264,265] x us).toArray,defers:=[] } W') :
  (Code.region 37 ops true).wp Tryz.prog Q { tmps:=us.toArray,defers:=[] } W0:=by
 obtain rfl:=Option.some.inj (ho.symm.trans (rfl:getOps Tryz.f6.body 37=some _))
 clear ho
 replace hQ:=A8 hQ
 let Fl:Unit→FL:=fun g=>[some (252,.pointer (some ⟨bA,1,none⟩)),some (253,.agg #[.slice a1 n1 k1,.string d1]),some (254,.pointer (some ⟨bB,1,none⟩)),some (255,.agg #[.slice a2 n2 k2,.string d2]),some (256,.agg #[.int .i64 nc,.int .i64 nr,.slice ac lc kc,.slice ah lh kh,.int .i64 ms]),none,some (258,.pointer (some ⟨bS,0,none⟩)),some (259,.int .i64 c),some (260,lv),some (261,.int .i64 den),none,none,some (264,.int .i64 4),some (265,.int .i64 0)]
 let Ml:Unit→ML:=fun g=>[(5,257,(fun yv W=>∃ (ag:Option Addr) (lg:Nat) (kg:Nat),yv=.agg #[.slice ag lg kg,.string ⟨#[49]⟩]∧SlS W (.slice ag lg kg) hl),none),(10,262,(fun yv W=>∃ (ax:Option Addr) (lx:Nat) (kx:Nat),yv=.agg #[.slice ax lx kx,.string dv]∧SlS W (.slice ax lx kx) vl),none),(11,263,(fun yv W=>∃ (g263:Nat) (ag:Option Addr) (lg:Nat) (kg:Nat) (ax:Option Addr) (lx:Nat) (kx:Nat),yv=.slice (some ⟨g263,0,none⟩) 4 4∧Blk W g263 #[.slice a1 n1 k1,.string d1,.slice a2 n2 k2,.string d2,.slice ag lg kg,.string ⟨#[49]⟩,.slice ax lx kx,.string dv] 30∧SlS W (.slice ag lg kg) hl∧SlS W (.slice ax lx kx) vl),none)]
 let Sl_:Unit→List (World→Prop):=fun g=>[fun W=>Mem w L R W]
 have St:RgS 277 [252,253,254,255,256,257,258,259,260,261,262,263,264,265] [5,10,11] Fl Ml (Mem w L R) Sl_:=⟨fun _=>by kernel_rfl,fun _=>rfl,fun _ _ hb h=>h.call hb,fun g=>List.forall_mem_cons.2 ⟨fun yv W W' hb=>fun ⟨g0,g1,g2,e,h⟩=>⟨g0,g1,g2,e,h.below hb⟩,List.forall_mem_cons.2 ⟨fun yv W W' hb=>fun ⟨g0,g1,g2,e,h⟩=>⟨g0,g1,g2,e,h.below hb⟩,List.forall_mem_cons.2 ⟨fun yv W W' hb=>fun ⟨g,ag,lg,kg,ax,lx,kx,e,h,p0,p1⟩=>⟨g,ag,lg,kg,ax,lx,kx,e,h.below hb,p0.below hb,p1.below hb⟩,(fun _ h=>by cases h)⟩⟩⟩,fun g=>List.forall_mem_cons.2 ⟨fun W W' hb h=>h.call hb,(fun _ h=>by cases h)⟩⟩
 refine As 277 us [252,253,254,255,256,257,258,259,260,261,262,263,264,265] Fl Ml [] (Mem w L R) Sl_ hN (by kernel_rfl) (by kernel_rfl) () h0.out.drew h0.out.drew (by kernel_rfl) ?_ ?_
 refine Ab (stV St 0 rfl (fun _=>rfl) fun g T E W hl hw hs z K J=>by
  have x26:=z.u g26
  go_simp;exact J) ?_
 refine Ab (stV St 1 rfl (fun _=>rfl) fun g T E W hl hw hs z K J=>by
  have x252:=z.x 0 hw rfl
  have hC:=z.c
  have k0:=x253_0.out _ hC
  have hC:=z.c
  have k1:=x253_1.out _ hC
  go_simp;exact J) ?_
 refine Ab (stV St 2 rfl (fun _=>rfl) fun g T E W hl hw hs z K J=>by
  have x28:=z.u g28
  go_simp;exact J) ?_
 refine Ab (stV St 3 rfl (fun _=>rfl) fun g T E W hl hw hs z K J=>by
  have x254:=z.x 2 hw rfl
  have hC:=z.c
  have k0:=x255_0.out _ hC
  have hC:=z.c
  have k1:=x255_1.out _ hC
  go_simp;exact J) ?_
 refine Ab (stV St 4 rfl (fun _=>rfl) fun g T E W hl hw hs z K J=>by
  have x7:=z.u g7
  have hC:=z.c
  have k0:=x256_0.out _ hC
  have hC:=z.c
  have k1:=x256_1.out _ hC
  have hC:=z.c
  have k2:=x256_2.out _ hC
  have hC:=z.c
  have k3:=x256_3.out _ hC
  have hC:=z.c
  have k4:=x256_4.out _ hC
  go_simp;exact J) ?_
 refine Ab (stM St 5 0 (.inl rfl) (fun _=>rfl) (fun _=>by kernel_rfl) fun g T E W hl hw hs z K J=>by
  have x256:=z.x 4 hw rfl
  have hC:=z.c
  go_simp
  refine Calls.mono (C257.out W hC) ?_
  rintro e W2 ⟨ag,lg,kg,rfl,hp,hb⟩
  exact J _ _ hb ⟨ag,lg,kg,rfl,hp⟩) ?_
 refine Ab (stV St 6 rfl (fun _=>rfl) fun g T E W hl hw hs z K J=>by
  have x15:=z.u g15
  go_simp;exact J) ?_
 refine Ab (stV St 7 rfl (fun _=>rfl) fun g T E W hl hw hs z K J=>by
  have x258:=z.x 6 hw rfl
  have hC:=z.c
  have k0:=x259.out _ hC
  go_simp;exact J) ?_
 refine Ab (stV St 8 rfl (fun _=>rfl) fun g T E W hl hw hs z K J=>by
  have x5:=z.u g5
  go_simp;exact J) ?_
 refine Ab (stV St 9 rfl (fun _=>rfl) fun g T E W hl hw hs z K J=>by
  have x6:=z.u g6
  go_simp;exact J) ?_
 refine Ab (stM St 10 1 (.inl rfl) (fun _=>rfl) (fun _=>by kernel_rfl) fun g T E W hl hw hs z K J=>by
  have x259:=z.x 7 hw rfl
  have x260:=z.x 8 hw rfl
  have x261:=z.x 9 hw rfl
  have hC:=z.c
  go_simp
  refine Calls.mono (C262.out W hC) ?_
  rintro e W2 ⟨ax,lx,kx,rfl,hp,hb⟩
  exact J _ _ hb ⟨ax,lx,kx,rfl,hp⟩) ?_
 refine Ab (stM St 11 2 (.inl rfl) (fun _=>rfl) (fun _=>by kernel_rfl) fun g T E W hl hw hs z K J=>by
  have x253:=z.x 1 hw rfl
  have x255:=z.x 3 hw rfl
  obtain ⟨_,x257,ag,lg,kg,rfl,hm5⟩:=z.y 0 hl hw hs rfl
  obtain ⟨_,x262,ax,lx,kx,rfl,hm10⟩:=z.y 1 hl hw hs rfl
  go_simp;exact J _ _ ((Below.refl _ _).alloc (Aa _) _) ⟨_,ag,lg,kg,ax,lx,kx,rfl,Blk.new _ _ _,hm5.below ((Below.refl _ _).alloc (Aa _) _),hm10.below ((Below.refl _ _).alloc (Aa _) _)⟩) ?_
 refine Ab (stV St 12 rfl (fun _=>rfl) fun g T E W hl hw hs z K J=>by
  obtain ⟨_,x263,g263,ag,lg,kg,ax,lx,kx,rfl,hb11,_hq0,_hq1⟩:=z.y 2 hl hw hs rfl
  go_simp;exact J) ?_
 refine Ab (stV St 13 rfl (fun _=>rfl) fun g T E W hl hw hs z K J=>by
  go_simp;exact J) ?_
 ·exact Ag
 ·intro g a W z q
  have hM9:Mem _ _ _ _:=q
  have x264:=z.v.get 12 rfl (by kernel_rfl)
  have x265:=z.v.get 13 rfl (by kernel_rfl)
  obtain ⟨_,x263,g263,ag,lg,kg,ax,lx,kx,rfl,ho263⟩:=z.m.get 2 rfl (by kernel_rfl) rfl
  rw [z.f.eqs]
  exact hQ.out _  g263 ag lg kg ax lx kx _ (by simp [x263]) (by simp [x264]) (by simp [x265]) (A8 ho263) (A8 hM9)
theorem eq_r40 {Q:Exit→Act→World→Prop} {us:List Value} {bS bT bV:Nat} {sv tv nv:Value} {d:ByteArray} {c:Int} {ok:Bool} {w W0:World} {L:BLs} {R:List RowD}    (x269_0:Hid (∀ W,Mem w L R W→W.cell? ⟨bS,0,none⟩=some (.int .i64 c))) (x269_1:Hid (∀ W,Mem w L R W→W.cell? ⟨bS,1,none⟩=some (sv))) (x270_0:Hid (∀ W,Mem w L R W→W.cell? ⟨bV,0,none⟩=some (nv))) (x270_1:Hid (∀ W,Mem w L R W→W.cell? ⟨bV,1,none⟩=some (.string d))) (C271:Hid (∀ W,Mem w L R W→Calls Tryz.prog 19 #[.agg #[.int .i64 c,sv],.agg #[nv,.string d]] W (Rets W (.bool ok)))) (x272_0:Hid (∀ W,Mem w L R W→W.cell? ⟨bT,0,none⟩=some (.int .i64 c))) (x272_1:Hid (∀ W,Mem w L R W→W.cell? ⟨bT,1,none⟩=some (tv))) (x273_0:Hid (∀ W,Mem w L R W→W.cell? ⟨bV,0,none⟩=some (nv))) (x273_1:Hid (∀ W,Mem w L R W→W.cell? ⟨bV,1,none⟩=some (.string d))) (C274:Hid (∀ W,Mem w L R W→Calls Tryz.prog 19 #[.agg #[.int .i64 c,tv],.agg #[nv,.string d]] W (Rets W (.bool ok)))) (h0:Hid (Mem w L R W0)) (hN:us.length=277) (g15:us[15]? = some (.pointer (some ⟨bS,0,none⟩))) (g16:us[16]? = some (.pointer (some ⟨bT,0,none⟩))) (g35:us[35]? = some (.pointer (some ⟨bV,0,none⟩))) {ops:Array Oper} (ho:getOps Tryz.f6.body 40=some ops)
  (hQ:∀ (x:Nat→Value)  (W':World),x 275=.bool false→Hid (Mem w L R W')→Q .normal { tmps:=(sets [269,270,271,272,273,274,275] x us).toArray,defers:=[] } W') :
  (Code.region 40 ops true).wp Tryz.prog Q { tmps:=us.toArray,defers:=[] } W0:=by
 obtain rfl:=Option.some.inj (ho.symm.trans (rfl:getOps Tryz.f6.body 40=some _))
 clear ho
 replace hQ:=A8 hQ
 let Fl:Unit→FL:=fun g=>[some (269,.agg #[.int .i64 c,sv]),some (270,.agg #[nv,.string d]),some (271,.bool ok),some (272,.agg #[.int .i64 c,tv]),some (273,.agg #[nv,.string d]),some (274,.bool ok),some (275,.bool false)]
 let Ml:Unit→ML:=fun g=>[]
 let Sl_:Unit→List (World→Prop):=fun g=>[fun W=>Mem w L R W]
 have St:RgS 277 [269,270,271,272,273,274,275] [] Fl Ml (Mem w L R) Sl_:=⟨fun _=>by kernel_rfl,fun _=>rfl,fun _ _ hb h=>h.call hb,fun g=>(fun _ h=>by cases h),fun g=>List.forall_mem_cons.2 ⟨fun W W' hb h=>h.call hb,(fun _ h=>by cases h)⟩⟩
 refine As 277 us [269,270,271,272,273,274,275] Fl Ml [] (Mem w L R) Sl_ hN (by kernel_rfl) (by kernel_rfl) () h0.out.drew h0.out.drew (by kernel_rfl) ?_ ?_
 refine Ab (stV St 0 rfl (fun _=>rfl) fun g T E W hl hw hs z K J=>by
  have x15:=z.u g15
  have hC:=z.c
  have k0:=x269_0.out _ hC
  have hC:=z.c
  have k1:=x269_1.out _ hC
  go_simp;exact J) ?_
 refine Ab (stV St 1 rfl (fun _=>rfl) fun g T E W hl hw hs z K J=>by
  have x35:=z.u g35
  have hC:=z.c
  have k0:=x270_0.out _ hC
  have hC:=z.c
  have k1:=x270_1.out _ hC
  go_simp;exact J) ?_
 refine Ab (stC St 2 rfl (fun _=>rfl) fun g T E W hl hw hs z K J=>by
  have x269:=z.x 0 hw rfl
  have x270:=z.x 1 hw rfl
  have hC:=z.c
  go_simp
  refine Calls.mono (C271.out W hC) ?_
  rintro e W2 ⟨rfl,hb⟩
  exact J _ hb) ?_
 refine Ab (stV St 3 rfl (fun _=>rfl) fun g T E W hl hw hs z K J=>by
  have x16:=z.u g16
  have hC:=z.c
  have k0:=x272_0.out _ hC
  have hC:=z.c
  have k1:=x272_1.out _ hC
  go_simp;exact J) ?_
 refine Ab (stV St 4 rfl (fun _=>rfl) fun g T E W hl hw hs z K J=>by
  have x35:=z.u g35
  have hC:=z.c
  have k0:=x273_0.out _ hC
  have hC:=z.c
  have k1:=x273_1.out _ hC
  go_simp;exact J) ?_
 refine Ab (stC St 5 rfl (fun _=>rfl) fun g T E W hl hw hs z K J=>by
  have x272:=z.x 3 hw rfl
  have x273:=z.x 4 hw rfl
  have hC:=z.c
  go_simp
  refine Calls.mono (C274.out W hC) ?_
  rintro e W2 ⟨rfl,hb⟩
  exact J _ hb) ?_
 refine Ab (stV St 6 rfl (fun _=>rfl) fun g T E W hl hw hs z K J=>by
  have x271:=z.x 2 hw rfl
  have x274:=z.x 5 hw rfl
  go_simp;exact J) ?_
 ·exact Ag
 ·intro g a W z q
  have hM9:Mem _ _ _ _:=q
  have x275:=z.v.get 6 rfl (by kernel_rfl)
  rw [z.f.eqs]
  exact hQ.out _   _ (by simp [x275]) (A8 hM9)
end
end Go.Proofs.YtcmomjnailihpaaGreatDoor
