/- NoA, NoB, NoC -/
import Derived.Test.YtcmomjnailihpaaGreatDoorUMdC
set_option maxHeartbeats 8000000
set_option maxRecDepth 100000
namespace Go.Proofs.YtcmomjnailihpaaGreatDoor
section
open Go.RowKit
attribute [local go_sem] Oper.semAt_some
theorem none_r4 {Q:Exit→Act→World→Prop} {us:List Value} {bN bS n:Nat} {ms:Int} {w W0:World} {L:BLs} {R:List RowD} {c24:Int} {r25:Int} (hn:Hid (n≤1000000))  (x20:Hid (∀ W,Mem w L R W→W.cell? ⟨bS,0,none⟩=some (.int .i64 n))) (x23:Hid (∀ W,Mem w L R W→W.cell? ⟨bN,4,none⟩=some (.int .i64 ms))) (C24:Hid (∀ W,Mem w L R W→Calls Tryz.prog 35 #[.int .i64 ms,.int .i64 9] W (Rets W (.int .i64 c24)))) (h25:IntKind.i64.wrap ((-1)-c24)=r25) (h0:Hid (Mem w L R W0)) (hN:us.length=106) (g2:us[2]? = some (.pointer (some ⟨bN,0,none⟩))) (g6:us[6]? = some (.pointer (some ⟨bS,0,none⟩))) {ops:Array Oper} (ho:getOps Tryz.f31.body 4=some ops)
  (hQ:∀ (x:Nat→Value) (b21:Nat) (b9:Nat) (W':World),x 9=.pointer (some ⟨b9,0,none⟩)→Hid (Mem w ((b9,#[.slice (some ⟨b21,0,none⟩) n n,.int .i64 r25],60) :: (b21,Array.replicate n (.int .i64 0),3) :: L) R W')→Q .normal { tmps:=(sets [19,20,21,22,23,24,25,26,9] x us).toArray,defers:=[] } W') :
  (Code.region 4 ops true).wp Tryz.prog Q { tmps:=us.toArray,defers:=[] } W0:=by
 obtain rfl:=Option.some.inj (ho.symm.trans (rfl:getOps Tryz.f31.body 4=some _))
 clear ho
 replace hQ:=A8 hQ
 let Fl:Nat×Nat→FL:=fun g=>[some (19,.pointer (some ⟨bS,0,none⟩)),some (20,.int .i64 n),some (21,.slice (some ⟨g.1,0,none⟩) n n),some (22,.pointer (some ⟨bN,4,none⟩)),some (23,.int .i64 ms),some (24,.int .i64 c24),some (25,.int .i64 r25),some (26,.agg #[.slice (some ⟨g.1,0,none⟩) n n,.int .i64 r25]),some (9,.pointer (some ⟨g.2,0,none⟩)),none]
 let Ml:Nat×Nat→ML:=fun g=>[(2,21,(fun _ W=>New w L R [] g.1 (Array.replicate n (.int .i64 0)) 3 W),some 9),(8,9,(fun _ W=>New w L R [] g.2 #[.slice none 0 0,.int .i64 0] 60 W),some 9)]
 let Sl_:Nat×Nat→List (World→Prop):=fun g=>[fun W=>Mem w L R W,fun W=>Mem w ((g.2,#[.slice (some ⟨g.1,0,none⟩) n n,.int .i64 r25],60) :: (g.1,Array.replicate n (.int .i64 0),3) :: L) R W]
 have St:RgS 106 [19,20,21,22,23,24,25,26,9] [2,8] Fl Ml (Mem w L R) Sl_:=⟨fun _=>by kernel_rfl,fun _=>rfl,fun _ _ hb h=>h.call hb,fun g=>List.forall_mem_cons.2 ⟨fun yv W W' hb=>fun h=>h.below hb,List.forall_mem_cons.2 ⟨fun yv W W' hb=>fun h=>h.below hb,(fun _ h=>by cases h)⟩⟩,fun g=>List.forall_mem_cons.2 ⟨fun W W' hb h=>h.call hb,List.forall_mem_cons.2 ⟨fun W W' hb h=>h.call hb,(fun _ h=>by cases h)⟩⟩⟩
 refine Aq 106 us [19,20,21,22,23,24,25,26,9] Fl Ml [9] (Mem w L R) Sl_ hN (by kernel_rfl) (by kernel_rfl) ⟨0,0⟩ h0.out.drew h0.out.drew (by kernel_rfl) ?_ ?_
 refine Ab (stV St 0 rfl rfl rfl (fun _=>rfl) fun g T E W hl hw hs z K J=>by
  have x6:=z.u g6
  go_simp;exact J) ?_
 refine Ab (stV St 1 rfl rfl rfl (fun _=>rfl) fun g T E W hl hw hs z K J=>by
  have x19:=z.x 0 hw rfl
  have hC:=z.c
  have k0:=x20.out _ hC
  go_simp;exact J) ?_
 refine Ab (stA St 2 0 0 rfl rfl (.inl rfl) rfl (fun _=>rfl) (fun _=>rfl) (by kernel_rfl) fun g T E W hl hw hs z K J=>by
  have x20:=z.x 1 hw rfl
  have hi:∀ q∈([]:List Nat),q<W.heap.size:=fun _ h=>by cases h
  have hC:=z.c
  refine FN _ _ rfl n (by go_simp) (by go_simp) hn.out ?_
  intro W2 hk hb
  exact J ⟨W.heap.size,g.2⟩ _ hb (by kernel_rfl) rfl rfl (New.made hC hi hk)) ?_
 refine Ab (stV St 3 rfl rfl rfl (fun _=>rfl) fun g T E W hl hw hs z K J=>by
  have x2:=z.u g2
  go_simp;exact J) ?_
 refine Ab (stV St 4 rfl rfl rfl (fun _=>rfl) fun g T E W hl hw hs z K J=>by
  have x22:=z.x 3 hw rfl
  have hC:=z.c
  have k0:=x23.out _ hC
  go_simp;exact J) ?_
 refine Ab (stC St 5 rfl rfl rfl (fun _=>rfl) fun g T E W hl hw hs z K J=>by
  have x23:=z.x 4 hw rfl
  have hC:=z.c
  go_simp
  refine Calls.mono (C24.out W hC) ?_
  rintro e W2 ⟨rfl,hb⟩
  exact J _ hb) ?_
 refine Ab (stV St 6 rfl rfl rfl (fun _=>rfl) fun g T E W hl hw hs z K J=>by
  have x24:=z.x 5 hw rfl
  go_simp;exact J) ?_
 refine Ab (stV St 7 rfl rfl rfl (fun _=>rfl) fun g T E W hl hw hs z K J=>by
  have x21:=z.x 2 hw rfl
  have x25:=z.x 6 hw rfl
  go_simp;exact J) ?_
 refine Ab (stA St 8 1 0 rfl rfl (.inl rfl) rfl (fun _=>rfl) (fun _=>rfl) (by kernel_rfl) fun g T E W hl hw hs z K J=>by
  have hi:∀ q∈([]:List Nat),q<W.heap.size:=fun _ h=>by cases h
  have hC:=z.c
  go_simp;exact J ⟨g.1,W.heap.size⟩ _ ((Below.refl _ _).alloc (Aa _) _) (by kernel_rfl) rfl rfl (New.of _ _ hC hi)) ?_
 refine Ab (stE 9 0 (.inl rfl) rfl rfl (fun _=>rfl) (by kernel_rfl) (fun _=>by kernel_rfl) fun g T E W hl hw hs z q K J=>by
  have x9:=z.x 8 hw rfl
  have x26:=z.x 7 hw rfl
  have hM0:Mem _ _ _ _:=q
  obtain ⟨_,_,hn2⟩:=z.y 0 hl hw hs rfl
  replace hM0:=hM0.adopt hn2 (fun p hp=>.inl (hn2.L p hp)) (fun p hp=>.inl (hn2.R p hp))
  obtain ⟨_,_,hn8⟩:=z.y 1 hl hw hs rfl
  replace hM0:=hM0.adopt hn8 (List.forall_mem_cons.2 ⟨.inr (show (3:TypeId)≠60 from by decide),fun p hp=>.inl (hn8.L p hp)⟩) (fun p hp=>.inl (hn8.R p hp))
  have y0:=hM0.cell _ _ _ (.head _) 0
  have w0:=hM0.frozen _ _ _ (.head _) 0
  have y1:=hM0.cell _ _ _ (.head _) 1
  have w1:=hM0.frozen _ _ _ (.head _) 1
  go_simp;exact J _ (((hM0.put0 0 _).put0 1 _).tail.tail) ((hM0.put0 0 _).put0 1 _)) ?_
 ·exact Af
 ·intro g a W z q
  have hM9:Mem _ _ _ _:=q
  have x9:=z.v.get 8 rfl (by kernel_rfl)
  rw [z.f.eqs]
  exact hQ.out _ g.1 g.2  _ (by simp [x9]) (A8 hM9)
theorem none_r8 {Q:Exit→Act→World→Prop} {us:List Value} {bN bE G n k:Nat} {ds:Array Value} {hv:Value} {e0 y0:Int} {w W0:World} {L:BLs} {R:List RowD} {c39:Int} {c40:Int} (hk0:(0:Int)≤k) (hk1:(k:Int)<n) (hds:ds[k]? = some (.int .i64 y0)) (mE:(bE,#[.slice (some ⟨G,0,none⟩) n n,.int .i64 e0],60)∈L) (x37:Hid (∀ W,Mem w L R W→W.cell? ⟨bN,3,none⟩=some (hv))) (C39:Hid (∀ W,Mem w L R W→Calls Tryz.prog 36 #[hv,.int .i64 k] W (Rets W (.int .i64 c39)))) (C40:Hid (∀ W,Mem w L R W→Calls Tryz.prog 35 #[.int .i64 c39,.int .i64 5] W (Rets W (.int .i64 c40)))) (h0:Hid (Mem w ((G,ds,3) :: L) R W0)) (hN:us.length=106) (g2:us[2]? = some (.pointer (some ⟨bN,0,none⟩))) (g9:us[9]? = some (.pointer (some ⟨bE,0,none⟩))) (g10:us[10]? = some (.int .i64 k)) {ops:Array Oper} (ho:getOps Tryz.f31.body 8=some ops)
  (hQ:∀ (x:Nat→Value)  (W':World),Hid (Mem w ((G,(ds).setIfInBounds (k) (.int .i64 c40),3) :: L) R W')→Q .normal { tmps:=(sets [33,34,35,36,37,38,39,40,41] x us).toArray,defers:=[] } W') :
  (Code.region 8 ops true).wp Tryz.prog Q { tmps:=us.toArray,defers:=[] } W0:=by
 obtain rfl:=Option.some.inj (ho.symm.trans (rfl:getOps Tryz.f31.body 8=some _))
 clear ho
 replace hQ:=A8 hQ
 let Fl:Unit→FL:=fun g=>[some (33,.pointer (some ⟨bE,0,none⟩)),some (34,.slice (some ⟨G,0,none⟩) n n),some (35,.int .i64 k),some (36,.pointer (some ⟨bN,3,none⟩)),some (37,hv),some (38,.int .i64 k),some (39,.int .i64 c39),some (40,.int .i64 c40),some (41,.pointer (some ⟨G,k,none⟩)),none]
 let Ml:Unit→ML:=fun g=>[]
 let Sl_:Unit→List (World→Prop):=fun g=>[fun W=>Mem w ((G,ds,3) :: L) R W,fun W=>Mem w ((G,(ds).setIfInBounds (k) (.int .i64 c40),3) :: L) R W]
 have St:RgS 106 [33,34,35,36,37,38,39,40,41] [] Fl Ml (Mem w L R) Sl_:=⟨fun _=>by kernel_rfl,fun _=>rfl,fun _ _ hb h=>h.call hb,fun g=>(fun _ h=>by cases h),fun g=>List.forall_mem_cons.2 ⟨fun W W' hb h=>h.call hb,List.forall_mem_cons.2 ⟨fun W W' hb h=>h.call hb,(fun _ h=>by cases h)⟩⟩⟩
 refine Aq 106 us [33,34,35,36,37,38,39,40,41] Fl Ml [9] (Mem w L R) Sl_ hN (by kernel_rfl) (by kernel_rfl) () h0.out.tail.drew h0.out.drew (by kernel_rfl) ?_ ?_
 refine Ab (stV St 0 rfl rfl rfl (fun _=>rfl) fun g T E W hl hw hs z K J=>by
  have x9:=z.u g9
  go_simp;exact J) ?_
 refine Ab (stV St 1 rfl rfl rfl (fun _=>rfl) fun g T E W hl hw hs z K J=>by
  have x33:=z.x 0 hw rfl
  have hC:=z.c
  have k0:=(hC.cell _ _ _ mE 0).trans (show _=some (.slice (some ⟨G,0,none⟩) n n:Value) from rfl)
  go_simp;exact J) ?_
 refine Ab (stV St 2 rfl rfl rfl (fun _=>rfl) fun g T E W hl hw hs z K J=>by
  have x10:=z.u g10
  go_simp;exact J) ?_
 refine Ab (stV St 3 rfl rfl rfl (fun _=>rfl) fun g T E W hl hw hs z K J=>by
  have x2:=z.u g2
  go_simp;exact J) ?_
 refine Ab (stV St 4 rfl rfl rfl (fun _=>rfl) fun g T E W hl hw hs z K J=>by
  have x36:=z.x 3 hw rfl
  have hC:=z.c
  have k0:=x37.out _ hC
  go_simp;exact J) ?_
 refine Ab (stV St 5 rfl rfl rfl (fun _=>rfl) fun g T E W hl hw hs z K J=>by
  have x10:=z.u g10
  go_simp;exact J) ?_
 refine Ab (stC St 6 rfl rfl rfl (fun _=>rfl) fun g T E W hl hw hs z K J=>by
  have x37:=z.x 4 hw rfl
  have x38:=z.x 5 hw rfl
  have hC:=z.c
  go_simp
  refine Calls.mono (C39.out W hC) ?_
  rintro e W2 ⟨rfl,hb⟩
  exact J _ hb) ?_
 refine Ab (stC St 7 rfl rfl rfl (fun _=>rfl) fun g T E W hl hw hs z K J=>by
  have x39:=z.x 6 hw rfl
  have hC:=z.c
  go_simp
  refine Calls.mono (C40.out W hC) ?_
  rintro e W2 ⟨rfl,hb⟩
  exact J _ hb) ?_
 refine Ab (stV St 8 rfl rfl rfl (fun _=>rfl) fun g T E W hl hw hs z K J=>by
  have x34:=z.x 1 hw rfl
  have x35:=z.x 2 hw rfl
  go_simp;exact J) ?_
 refine Ab (stE 9 0 (.inl rfl) rfl rfl (fun _=>rfl) (by kernel_rfl) (fun _=>by kernel_rfl) fun g T E W hl hw hs z q K J=>by
  have x40:=z.x 7 hw rfl
  have x41:=z.x 8 hw rfl
  have hM0:Mem _ _ _ _:=q
  have y0:=(hM0.cell _ _ _ (.head _) (k)).trans hds
  have w0:=hM0.frozen _ _ _ (.head _) (k)
  go_simp;exact J _ ((hM0.put0 (k) _).tail) (hM0.put0 (k) _)) ?_
 ·exact Af
 ·intro g a W z q
  have hM9:Mem _ _ _ _:=q
  rw [z.f.eqs]
  exact hQ.out _   _  (A8 hM9)
theorem Mj {Q:Exit→Act→World→Prop} {us:List Value} {bS bE G B so m cap n i k qb qo qn qc:Nat} {ds:Array Value} {e0 f y y2:Int} {w W0:World} {L:BLs} {R:List RowD} {r81:Int} {r82:Int} (hi0:(0:Int)≤i) (hi1:(i:Int)<m) (hk0:(0:Int)≤k) (hk1:(k:Int)<n) (hk2:(k:Int)<qn) (hds:ds[k]? = some (.int .i64 y)) (mE:(bE,#[.slice (some ⟨G,0,none⟩) n n,.int .i64 e0],60)∈L) (x73:Hid (∀ W,Mem w L R W→W.cell? ⟨bS,1,none⟩=some (.slice (some ⟨B,so,none⟩) m cap))) (x77:Hid (∀ W,Mem w L R W→W.cell? ⟨B,so+i*2,none⟩=some (.slice (some ⟨qb,qo,none⟩) qn qc))) (x80:Hid (∀ W,Mem w L R W→W.cell? ⟨qb,qo+k,none⟩=some (.int .i64 y2))) (h81:IntKind.i64.wrap (f*y2)=r81) (h82:IntKind.i64.wrap (y-r81)=r82) (h0:Hid (Mem w ((G,ds,3) :: L) R W0)) (hN:us.length=106) (g6:us[6]? = some (.pointer (some ⟨bS,0,none⟩))) (g9:us[9]? = some (.pointer (some ⟨bE,0,none⟩))) (g11:us[11]? = some (.int .i64 i)) (g12:us[12]? = some (.int .i64 f)) (g13:us[13]? = some (.int .i64 k)) {ops:Array Oper} (ho:getOps Tryz.f31.body 17=some ops)
  (hQ:∀ (x:Nat→Value)  (W':World),Hid (Mem w ((G,(ds).setIfInBounds (k) (.int .i64 r82),3) :: L) R W')→Q .normal { tmps:=(sets [63,64,65,66,67,68,69,70,71,72,73,74,75,76,77,78,79,80,81,82,83] x us).toArray,defers:=[] } W') :
  (Code.region 17 ops true).wp Tryz.prog Q { tmps:=us.toArray,defers:=[] } W0:=by
 obtain rfl:=Option.some.inj (ho.symm.trans (rfl:getOps Tryz.f31.body 17=some _))
 clear ho
 replace hQ:=A8 hQ
 let Fl:Unit→FL:=fun g=>[some (63,.pointer (some ⟨bE,0,none⟩)),some (64,.slice (some ⟨G,0,none⟩) n n),some (65,.int .i64 k),some (66,.pointer (some ⟨bE,0,none⟩)),some (67,.slice (some ⟨G,0,none⟩) n n),some (68,.int .i64 k),some (69,.pointer (some ⟨G,k,none⟩)),some (70,.int .i64 y),some (71,.int .i64 f),some (72,.pointer (some ⟨bS,1,none⟩)),some (73,.slice (some ⟨B,so,none⟩) m cap),some (74,.int .i64 i),some (75,.pointer (some ⟨B,so+i*2,none⟩)),some (76,.pointer (some ⟨B,so+i*2,none⟩)),some (77,.slice (some ⟨qb,qo,none⟩) qn qc),some (78,.int .i64 k),some (79,.pointer (some ⟨qb,qo+k,none⟩)),some (80,.int .i64 y2),some (81,.int .i64 r81),some (82,.int .i64 r82),some (83,.pointer (some ⟨G,k,none⟩)),none]
 let Ml:Unit→ML:=fun g=>[]
 let Sl_:Unit→List (World→Prop):=fun g=>[fun W=>Mem w ((G,ds,3) :: L) R W,fun W=>Mem w ((G,(ds).setIfInBounds (k) (.int .i64 r82),3) :: L) R W]
 have St:RgS 106 [63,64,65,66,67,68,69,70,71,72,73,74,75,76,77,78,79,80,81,82,83] [] Fl Ml (Mem w L R) Sl_:=⟨fun _=>by kernel_rfl,fun _=>rfl,fun _ _ hb h=>h.call hb,fun g=>(fun _ h=>by cases h),fun g=>List.forall_mem_cons.2 ⟨fun W W' hb h=>h.call hb,List.forall_mem_cons.2 ⟨fun W W' hb h=>h.call hb,(fun _ h=>by cases h)⟩⟩⟩
 refine Aq 106 us [63,64,65,66,67,68,69,70,71,72,73,74,75,76,77,78,79,80,81,82,83] Fl Ml [21] (Mem w L R) Sl_ hN (by kernel_rfl) (by kernel_rfl) () h0.out.tail.drew h0.out.drew (by kernel_rfl) ?_ ?_
 refine Ab (stV St 0 rfl rfl rfl (fun _=>rfl) fun g T E W hl hw hs z K J=>by
  have x9:=z.u g9
  go_simp;exact J) ?_
 refine Ab (stV St 1 rfl rfl rfl (fun _=>rfl) fun g T E W hl hw hs z K J=>by
  have x63:=z.x 0 hw rfl
  have hC:=z.c
  have k0:=(hC.cell _ _ _ mE 0).trans (show _=some (.slice (some ⟨G,0,none⟩) n n:Value) from rfl)
  go_simp;exact J) ?_
 refine Ab (stV St 2 rfl rfl rfl (fun _=>rfl) fun g T E W hl hw hs z K J=>by
  have x13:=z.u g13
  go_simp;exact J) ?_
 refine Ab (stV St 3 rfl rfl rfl (fun _=>rfl) fun g T E W hl hw hs z K J=>by
  have x9:=z.u g9
  go_simp;exact J) ?_
 refine Ab (stV St 4 rfl rfl rfl (fun _=>rfl) fun g T E W hl hw hs z K J=>by
  have x66:=z.x 3 hw rfl
  have hC:=z.c
  have k0:=(hC.cell _ _ _ mE 0).trans (show _=some (.slice (some ⟨G,0,none⟩) n n:Value) from rfl)
  go_simp;exact J) ?_
 refine Ab (stV St 5 rfl rfl rfl (fun _=>rfl) fun g T E W hl hw hs z K J=>by
  have x13:=z.u g13
  go_simp;exact J) ?_
 refine Ab (stV St 6 rfl rfl rfl (fun _=>rfl) fun g T E W hl hw hs z K J=>by
  have x67:=z.x 4 hw rfl
  have x68:=z.x 5 hw rfl
  go_simp;exact J) ?_
 refine Ab (stV St 7 rfl rfl rfl (fun _=>rfl) fun g T E W hl hw hs z K J=>by
  have x69:=z.x 6 hw rfl
  have k0:W.cell? ⟨G,k,none⟩=some (.int .i64 y:Value):=z.ld 7 0 0 hl hw hs rfl (by kernel_rfl) (fun s=>(Mem.cell (s) _ _ _ (.head _) (k)).trans hds)
  go_simp;exact J) ?_
 refine Ab (stV St 8 rfl rfl rfl (fun _=>rfl) fun g T E W hl hw hs z K J=>by
  have x12:=z.u g12
  go_simp;exact J) ?_
 refine Ab (stV St 9 rfl rfl rfl (fun _=>rfl) fun g T E W hl hw hs z K J=>by
  have x6:=z.u g6
  go_simp;exact J) ?_
 refine Ab (stV St 10 rfl rfl rfl (fun _=>rfl) fun g T E W hl hw hs z K J=>by
  have x72:=z.x 9 hw rfl
  have hC:=z.c
  have k0:=x73.out _ hC
  go_simp;exact J) ?_
 refine Ab (stV St 11 rfl rfl rfl (fun _=>rfl) fun g T E W hl hw hs z K J=>by
  have x11:=z.u g11
  go_simp;exact J) ?_
 refine Ab (stV St 12 rfl rfl rfl (fun _=>rfl) fun g T E W hl hw hs z K J=>by
  have x73:=z.x 10 hw rfl
  have x74:=z.x 11 hw rfl
  go_simp;exact J) ?_
 refine Ab (stV St 13 rfl rfl rfl (fun _=>rfl) fun g T E W hl hw hs z K J=>by
  have x75:=z.x 12 hw rfl
  go_simp;exact J) ?_
 refine Ab (stV St 14 rfl rfl rfl (fun _=>rfl) fun g T E W hl hw hs z K J=>by
  have x76:=z.x 13 hw rfl
  have hC:=z.c
  have k0:=x77.out _ hC
  go_simp;exact J) ?_
 refine Ab (stV St 15 rfl rfl rfl (fun _=>rfl) fun g T E W hl hw hs z K J=>by
  have x13:=z.u g13
  go_simp;exact J) ?_
 refine Ab (stV St 16 rfl rfl rfl (fun _=>rfl) fun g T E W hl hw hs z K J=>by
  have x77:=z.x 14 hw rfl
  have x78:=z.x 15 hw rfl
  go_simp;exact J) ?_
 refine Ab (stV St 17 rfl rfl rfl (fun _=>rfl) fun g T E W hl hw hs z K J=>by
  have x79:=z.x 16 hw rfl
  have hC:=z.c
  have k0:=x80.out _ hC
  go_simp;exact J) ?_
 refine Ab (stV St 18 rfl rfl rfl (fun _=>rfl) fun g T E W hl hw hs z K J=>by
  have x71:=z.x 8 hw rfl
  have x80:=z.x 17 hw rfl
  go_simp;exact J) ?_
 refine Ab (stV St 19 rfl rfl rfl (fun _=>rfl) fun g T E W hl hw hs z K J=>by
  have x70:=z.x 7 hw rfl
  have x81:=z.x 18 hw rfl
  go_simp;exact J) ?_
 refine Ab (stV St 20 rfl rfl rfl (fun _=>rfl) fun g T E W hl hw hs z K J=>by
  have x64:=z.x 1 hw rfl
  have x65:=z.x 2 hw rfl
  go_simp;exact J) ?_
 refine Ab (stE 21 0 (.inl rfl) rfl rfl (fun _=>rfl) (by kernel_rfl) (fun _=>by kernel_rfl) fun g T E W hl hw hs z q K J=>by
  have x82:=z.x 19 hw rfl
  have x83:=z.x 20 hw rfl
  have hM0:Mem _ _ _ _:=q
  have y0:=(hM0.cell _ _ _ (.head _) (k)).trans hds
  have w0:=hM0.frozen _ _ _ (.head _) (k)
  go_simp;exact J _ ((hM0.put0 (k) _).tail) (hM0.put0 (k) _)) ?_
 ·exact Af
 ·intro g a W z q
  have hM9:Mem _ _ _ _:=q
  rw [z.f.eqs]
  exact hQ.out _   _  (A8 hM9)
theorem Mk {Q:Exit→Act→World→Prop} {us:List Value} {bS bE B so m cap i:Nat} {ev:Value} {e0 f y2:Int} {w W0:World} {L:BLs} {R:List RowD} {r93:Int} {r94:Int} (hi0:(0:Int)≤i) (hi1:(i:Int)<m)  (x88:Hid (∀ W,Mem w L R W→W.cell? ⟨bS,1,none⟩=some (.slice (some ⟨B,so,none⟩) m cap))) (x92:Hid (∀ W,Mem w L R W→W.cell? ⟨B,so+i*2+1,none⟩=some (.int .i64 y2))) (h93:IntKind.i64.wrap (f*y2)=r93) (h94:IntKind.i64.wrap (e0-r93)=r94) (h0:Hid (Mem w ((bE,#[ev,.int .i64 e0],60) :: L) R W0)) (hN:us.length=106) (g6:us[6]? = some (.pointer (some ⟨bS,0,none⟩))) (g9:us[9]? = some (.pointer (some ⟨bE,0,none⟩))) (g11:us[11]? = some (.int .i64 i)) (g12:us[12]? = some (.int .i64 f)) {ops:Array Oper} (ho:getOps Tryz.f31.body 18=some ops)
  (hQ:∀ (x:Nat→Value)  (W':World),Hid (Mem w ((bE,#[ev,.int .i64 r94],60) :: L) R W')→Q .normal { tmps:=(sets [84,85,86,87,88,89,90,91,92,93,94,95] x us).toArray,defers:=[] } W') :
  (Code.region 18 ops true).wp Tryz.prog Q { tmps:=us.toArray,defers:=[] } W0:=by
 obtain rfl:=Option.some.inj (ho.symm.trans (rfl:getOps Tryz.f31.body 18=some _))
 clear ho
 replace hQ:=A8 hQ
 let Fl:Unit→FL:=fun g=>[some (84,.pointer (some ⟨bE,1,none⟩)),some (85,.int .i64 e0),some (86,.int .i64 f),some (87,.pointer (some ⟨bS,1,none⟩)),some (88,.slice (some ⟨B,so,none⟩) m cap),some (89,.int .i64 i),some (90,.pointer (some ⟨B,so+i*2,none⟩)),some (91,.pointer (some ⟨B,so+i*2+1,none⟩)),some (92,.int .i64 y2),some (93,.int .i64 r93),some (94,.int .i64 r94),some (95,.pointer (some ⟨bE,1,none⟩)),none]
 let Ml:Unit→ML:=fun g=>[]
 let Sl_:Unit→List (World→Prop):=fun g=>[fun W=>Mem w ((bE,#[ev,.int .i64 e0],60) :: L) R W,fun W=>Mem w ((bE,#[ev,.int .i64 r94],60) :: L) R W]
 have St:RgS 106 [84,85,86,87,88,89,90,91,92,93,94,95] [] Fl Ml (Mem w L R) Sl_:=⟨fun _=>by kernel_rfl,fun _=>rfl,fun _ _ hb h=>h.call hb,fun g=>(fun _ h=>by cases h),fun g=>List.forall_mem_cons.2 ⟨fun W W' hb h=>h.call hb,List.forall_mem_cons.2 ⟨fun W W' hb h=>h.call hb,(fun _ h=>by cases h)⟩⟩⟩
 refine Aq 106 us [84,85,86,87,88,89,90,91,92,93,94,95] Fl Ml [12] (Mem w L R) Sl_ hN (by kernel_rfl) (by kernel_rfl) () h0.out.tail.drew h0.out.drew (by kernel_rfl) ?_ ?_
 refine Ab (stV St 0 rfl rfl rfl (fun _=>rfl) fun g T E W hl hw hs z K J=>by
  have x9:=z.u g9
  go_simp;exact J) ?_
 refine Ab (stV St 1 rfl rfl rfl (fun _=>rfl) fun g T E W hl hw hs z K J=>by
  have x84:=z.x 0 hw rfl
  have k0:W.cell? ⟨bE,1,none⟩=some (.int .i64 e0:Value):=z.ld 1 0 0 hl hw hs rfl (by kernel_rfl) (fun s=>Mem.cell (s) _ _ _ (.head _) 1)
  go_simp;exact J) ?_
 refine Ab (stV St 2 rfl rfl rfl (fun _=>rfl) fun g T E W hl hw hs z K J=>by
  have x12:=z.u g12
  go_simp;exact J) ?_
 refine Ab (stV St 3 rfl rfl rfl (fun _=>rfl) fun g T E W hl hw hs z K J=>by
  have x6:=z.u g6
  go_simp;exact J) ?_
 refine Ab (stV St 4 rfl rfl rfl (fun _=>rfl) fun g T E W hl hw hs z K J=>by
  have x87:=z.x 3 hw rfl
  have hC:=z.c
  have k0:=x88.out _ hC
  go_simp;exact J) ?_
 refine Ab (stV St 5 rfl rfl rfl (fun _=>rfl) fun g T E W hl hw hs z K J=>by
  have x11:=z.u g11
  go_simp;exact J) ?_
 refine Ab (stV St 6 rfl rfl rfl (fun _=>rfl) fun g T E W hl hw hs z K J=>by
  have x88:=z.x 4 hw rfl
  have x89:=z.x 5 hw rfl
  go_simp;exact J) ?_
 refine Ab (stV St 7 rfl rfl rfl (fun _=>rfl) fun g T E W hl hw hs z K J=>by
  have x90:=z.x 6 hw rfl
  go_simp;exact J) ?_
 refine Ab (stV St 8 rfl rfl rfl (fun _=>rfl) fun g T E W hl hw hs z K J=>by
  have x91:=z.x 7 hw rfl
  have hC:=z.c
  have k0:=x92.out _ hC
  go_simp;exact J) ?_
 refine Ab (stV St 9 rfl rfl rfl (fun _=>rfl) fun g T E W hl hw hs z K J=>by
  have x86:=z.x 2 hw rfl
  have x92:=z.x 8 hw rfl
  go_simp;exact J) ?_
 refine Ab (stV St 10 rfl rfl rfl (fun _=>rfl) fun g T E W hl hw hs z K J=>by
  have x85:=z.x 1 hw rfl
  have x93:=z.x 9 hw rfl
  go_simp;exact J) ?_
 refine Ab (stV St 11 rfl rfl rfl (fun _=>rfl) fun g T E W hl hw hs z K J=>by
  have x9:=z.u g9
  go_simp;exact J) ?_
 refine Ab (stE 12 0 (.inl rfl) rfl rfl (fun _=>rfl) (by kernel_rfl) (fun _=>by kernel_rfl) fun g T E W hl hw hs z q K J=>by
  have x94:=z.x 10 hw rfl
  have x95:=z.x 11 hw rfl
  have hM0:Mem _ _ _ _:=q
  have y0:=hM0.cell _ _ _ (.head _) 1
  have w0:=hM0.frozen _ _ _ (.head _) 1
  go_simp;exact J _ ((hM0.put0 1 _).tail) (hM0.put0 1 _)) ?_
 ·exact Af
 ·intro g a W z q
  have hM9:Mem _ _ _ _:=q
  rw [z.f.eqs]
  exact hQ.out _   _  (A8 hM9)
theorem Mm {Q:Exit→Act→World→Prop} {us:List Value} {bR bS n sn sk:Nat} {sq:Option Addr} {v:Value} {c:Int} {xs:List Value} {w W0:World} {L:BLs} {R:List RowD}  (hn:Hid (n≤1000000)) (mS:(bS,#[.int .i64 c,.slice sq sn sk],27)∈L)  (h0:Hid (Mem w ((bR,#[.int .i64 0,.slice none 0 0],27) :: L) (⟨9,1,v,n,xs⟩ :: R) W0)) (hN:us.length=106) (g4:us[4]? = some (.pointer (some ⟨bR,0,none⟩))) (g6:us[6]? = some (.pointer (some ⟨bS,0,none⟩))) (g8:us[8]? = some (v)) {ops:Array Oper} (ho:getOps Tryz.f31.body 20=some ops)
  (hQ:∀ (x:Nat→Value) (G105:Nat) (cap105:Nat) (W':World),x 5=.slice (some ⟨G105,0,none⟩) (n+1) cap105→Hid (Mem w ((bR,#[.int .i64 c,.slice sq sn sk],27) :: L) (⟨9,1,.slice (some ⟨G105,0,none⟩) (n+1) cap105,n+1,xs++[.string ⟨#[49]⟩]⟩ :: R) W')→Q .normal { tmps:=(sets [102,103,104,105,5] x us).toArray,defers:=[] } W') :
  (Code.region 20 ops true).wp Tryz.prog Q { tmps:=us.toArray,defers:=[] } W0:=by
 obtain rfl:=Option.some.inj (ho.symm.trans (rfl:getOps Tryz.f31.body 20=some _))
 clear ho
 replace hQ:=A8 hQ
 let Fl:Nat×Nat→FL:=fun g=>[some (102,.agg #[.int .i64 c,.slice sq sn sk]),some (103,v),none,some (105,.slice (some ⟨g.1,0,none⟩) (n+1) g.2),none,some (5,.slice (some ⟨g.1,0,none⟩) (n+1) g.2)]
 let Ml:Nat×Nat→ML:=fun g=>[(2,104,(fun yv W=>∃ (g104:Nat),yv=.slice (some ⟨g104,0,none⟩) 1 1∧Blk W g104 #[.string ⟨#[49]⟩] 9),some 3)]
 let Sl_:Nat×Nat→List (World→Prop):=fun g=>[fun W=>Mem w ((bR,#[.int .i64 0,.slice none 0 0],27) :: L) (⟨9,1,v,n,xs⟩ :: R) W,fun W=>Mem w ((bR,#[.int .i64 0,.slice none 0 0],27) :: L) (⟨9,1,.slice (some ⟨g.1,0,none⟩) (n+1) g.2,n+1,xs++[.string ⟨#[49]⟩]⟩ :: R) W,fun W=>Mem w ((bR,#[.int .i64 c,.slice sq sn sk],27) :: L) (⟨9,1,.slice (some ⟨g.1,0,none⟩) (n+1) g.2,n+1,xs++[.string ⟨#[49]⟩]⟩ :: R) W]
 have St:RgS 106 [102,103,104,105,5] [2] Fl Ml (Mem w L R) Sl_:=⟨fun _=>by kernel_rfl,fun _=>rfl,fun _ _ hb h=>h.call hb,fun g=>List.forall_mem_cons.2 ⟨fun yv W W' hb=>fun ⟨g,e,h⟩=>⟨g,e,h.below hb⟩,(fun _ h=>by cases h)⟩,fun g=>List.forall_mem_cons.2 ⟨fun W W' hb h=>h.call hb,List.forall_mem_cons.2 ⟨fun W W' hb h=>h.call hb,List.forall_mem_cons.2 ⟨fun W W' hb h=>h.call hb,(fun _ h=>by cases h)⟩⟩⟩⟩
 refine Aq 106 us [102,103,104,105,5] Fl Ml [3,4] (Mem w L R) Sl_ hN (by kernel_rfl) (by kernel_rfl) ⟨0,0⟩ h0.out.tail.rtail.drew h0.out.drew (by kernel_rfl) ?_ ?_
 refine Ab (stV St 0 rfl rfl rfl (fun _=>rfl) fun g T E W hl hw hs z K J=>by
  have x6:=z.u g6
  have hC:=z.c
  have k0:=(hC.cell _ _ _ mS 0).trans (show _=some (.int .i64 c:Value) from rfl)
  have hC:=z.c
  have k1:=(hC.cell _ _ _ mS 1).trans (show _=some (.slice sq sn sk:Value) from rfl)
  go_simp;exact J) ?_
 refine Ab (stV St 1 rfl rfl rfl (fun _=>rfl) fun g T E W hl hw hs z K J=>by
  have x8:=z.u g8
  go_simp;exact J) ?_
 refine Ab (stM St 2 0 rfl rfl (.inl rfl) (fun _=>rfl) (fun _=>by kernel_rfl) fun g T E W hl hw hs z K J=>by
  go_simp;exact J _ _ ((Below.refl _ _).alloc (Aa _) _) ⟨_,rfl,Blk.new _ _ _⟩) ?_
 refine Ab (stF St 3 0 rfl (.inl rfl) rfl rfl (by kernel_rfl) (fun _=>by kernel_rfl) fun g T E W hl hw hs z q K J=>by
  have x103:=z.x 1 hw rfl
  obtain ⟨_,x104,g104,rfl,hb2⟩:=z.y 0 hl hw hs rfl
  have hM0:Mem _ _ _ _:=q
  refine Cx rfl hM0 (by go_simp) (by go_simp) (hb2.cell 0) hn.out ?_
  intro G105' cap105' W2 hM2
  exact J ⟨G105',cap105'⟩ _ _ rfl (by kernel_rfl) (hM2.tail.rtail) hM2) ?_
 refine Ab (stE 4 1 (.inl rfl) rfl rfl (fun _=>rfl) (by kernel_rfl) (fun _=>by kernel_rfl) fun g T E W hl hw hs z q K J=>by
  have x4:=z.u g4
  have x102:=z.x 0 hw rfl
  have hM0:Mem _ _ _ _:=q
  have y0:=hM0.cell _ _ _ (.head _) 0
  have w0:=hM0.frozen _ _ _ (.head _) 0
  have y1:=hM0.cell _ _ _ (.head _) 1
  have w1:=hM0.frozen _ _ _ (.head _) 1
  go_simp;exact J _ (((hM0.put0 0 _).put0 1 _).tail.rtail) ((hM0.put0 0 _).put0 1 _)) ?_
 refine Ab (stV St 5 rfl rfl rfl (fun _=>rfl) fun g T E W hl hw hs z K J=>by
  have x105:=z.x 3 hw rfl
  go_simp;exact J) ?_
 ·exact Af
 ·intro g a W z q
  have hM9:Mem _ _ _ _:=q
  have x5:=z.v.get 5 rfl (by kernel_rfl)
  rw [z.f.eqs]
  exact hQ.out _ g.1 g.2  _ (by simp [x5]) (A8 hM9)
theorem none_l0 {Q:Exit→Act→World→Prop} {u0 u1 u3 u4 u5 u7 u8 u11 u12 u13 u14 u15 u16 u17 u18 u19 u20 u21 u22 u23 u24 u25 u26 u27 u28 u29 u30 u31 u32 u33 u34 u35 u36 u37 u38 u39 u40 u41 u42 u43 u44 u45 u46 u47 u48 u49 u50 u51 u52 u53 u54 u55 u56 u57 u58 u59 u60 u61 u62 u63 u64 u65 u66 u67 u68 u69 u70 u71 u72 u73 u74 u75 u76 u77 u78 u79 u80 u81 u82 u83 u84 u85 u86 u87 u88 u89 u90 u91 u92 u93 u94 u95 u96 u97 u98 u99 u100 u101 u102 u103 u104 u105:Value} {x:NumL} {bN bS bE G n:Nat} {hv:Value} {e0:Int} {w W0:World} {L:BLs} {R:List RowD} (hn:Hid (n≤1000)) (hf:Hid (∀ k,Fits (atv x.hidden k))) (AH:Hid (∀ W,Mem w L R W→∀ k:Nat,Calls Tryz.prog 36 #[hv,.int .i64 k] W (Rets W (.int .i64 (atv x.hidden k))))) (hN:Hid (∀ W,Mem w L R W→W.cell? ⟨bN,3,none⟩=some hv)) (hS:Hid (∀ W,Mem w L R W→W.cell? ⟨bS,0,none⟩=some (.int .i64 n))) (h0:Hid (Mem w ((G,Array.replicate n (.int .i64 0),3) :: (bE,#[.slice (some ⟨G,0,none⟩) n n,.int .i64 e0],60) :: L) R W0)) {body:Code} (hbody:getLoop Tryz.f31.body 0=some body)
  (hQ:∀ (v10 v27 v28 v29 v30 v31 v32 v33 v34 v35 v36 v37 v38 v39 v40 v41:Value) (W':World),Hid (Mem w ((G,intArr (upK (List.replicate n 0) (nBase x) n),3) :: (bE,#[.slice (some ⟨G,0,none⟩) n n,.int .i64 e0],60) :: L) R W')→Q (.exit 0) { tmps:=List.toArray (u0::u1::.pointer (some ⟨bN,0,none⟩)::u3::u4::u5::.pointer (some ⟨bS,0,none⟩)::u7::u8::.pointer (some ⟨bE,0,none⟩)::v10::u11::u12::u13::u14::u15::u16::u17::u18::u19::u20::u21::u22::u23::u24::u25::u26::v27::v28::v29::v30::v31::v32::v33::v34::v35::v36::v37::v38::v39::v40::v41::u42::u43::u44::u45::u46::u47::u48::u49::u50::u51::u52::u53::u54::u55::u56::u57::u58::u59::u60::u61::u62::u63::u64::u65::u66::u67::u68::u69::u70::u71::u72::u73::u74::u75::u76::u77::u78::u79::u80::u81::u82::u83::u84::u85::u86::u87::u88::u89::u90::u91::u92::u93::u94::u95::u96::u97::u98::u99::u100::u101::u102::u103::u104::u105::[]),defers:=[] } W') :
  (Code.loop body).wp Tryz.prog Q { tmps:=List.toArray (u0::u1::.pointer (some ⟨bN,0,none⟩)::u3::u4::u5::.pointer (some ⟨bS,0,none⟩)::u7::u8::.pointer (some ⟨bE,0,none⟩)::.int .i64 0::u11::u12::u13::u14::u15::u16::u17::u18::u19::u20::u21::u22::u23::u24::u25::u26::u27::u28::u29::u30::u31::u32::u33::u34::u35::u36::u37::u38::u39::u40::u41::u42::u43::u44::u45::u46::u47::u48::u49::u50::u51::u52::u53::u54::u55::u56::u57::u58::u59::u60::u61::u62::u63::u64::u65::u66::u67::u68::u69::u70::u71::u72::u73::u74::u75::u76::u77::u78::u79::u80::u81::u82::u83::u84::u85::u86::u87::u88::u89::u90::u91::u92::u93::u94::u95::u96::u97::u98::u99::u100::u101::u102::u103::u104::u105::[]),defers:=[] } W0:=by
 obtain rfl:=Option.some.inj (hbody.symm.trans (rfl:getLoop Tryz.f31.body 0=some _))
 clear hbody
 replace hQ:=A8 hQ
 go_loopw [10] (fun s wr=>∃ (k:Nat),s=.int .i64 k∧k≤n∧Hid (Mem w ((G,intArr (upK (List.replicate n 0) (nBase x) k),3) :: (bE,#[.slice (some ⟨G,0,none⟩) n n,.int .i64 e0],60) :: L) R wr)) (fun s _=>n-(intOf s).toNat)
 case atStart=>exact ⟨0,rfl,by omega,A8 (by rw [IC,←IG];exact h0.out)⟩
 case round =>
  clear h0
  obtain ⟨k,rfl,hk,hM⟩:=hrel
  have y0:=hS.out _ hM.out.tail.tail
  by_cases hkn:k<n
  case neg =>
   have hkn':¬ (k:Int)<n:=by omega
   obtain rfl:k=n:=by omega
   go_wp2_with fail
   exact hQ.out _ _ _ _ _ _ _ _ _ _ _ _ _ _ _ _ _ hM
  case pos =>
   have hkn':(k:Int)<n:=by omega
   have hn9:=hn.out
   have hk0:(0:Int)≤k:=by omega
   have hds:=Fs (l:=upK (List.replicate n 0) (nBase x) k) (k:=k) (by rw [D9];simpa using hkn)
   go_upto_region 8 with fail
   refine none_r8 (bN:=bN) (bE:=bE) (G:=G) (n:=n) (k:=k) (hv:=hv) (e0:=e0) (w:=w) (L:=(bE,#[.slice (some ⟨G,0,none⟩) n n,.int .i64 e0],60) :: L) (R:=R) hk0 hkn' hds (.head _) (A8 fun W hW=>hN.out W hW.tail) (A8 fun W hW=>AH.out W hW.tail k) (A8 fun W hW=>Au (atv x.hidden k) 5 (hf.out k) (by decide) (by decide) W) hM rfl rfl rfl rfl (by kernel_rfl) ?_
   intro xx W5 hM5
   simp only [sets,List.foldl_cons,List.foldl_nil,A5,A6]
   have hM6:=hM5.out
   rw [show (Value.int .i64 (pkv (atv x.hidden k) 5))=.int .i64 (nBase x k) from rfl,Ft,←ID] at hM6
   replace hM5:=A8 hM6
   clear hM hM6 hds y0
   go_wp2_with fail
   go_roundw
   case rel=>exact ⟨k+1,by go_num,by omega,hM5⟩
   case measure=>simp [intOf];omega
theorem none_l4 {Q:Exit→Act→World→Prop} {u0 u1 u2 u3 u4 u5 u7 u8 u10 u14 u15 u16 u17 u18 u19 u20 u21 u22 u23 u24 u25 u26 u27 u28 u29 u30 u31 u32 u33 u34 u35 u36 u37 u38 u39 u40 u41 u42 u43 u44 u45 u46 u47 u48 u49 u50 u51 u52 u53 u54 u55 u56 u57 u58 u59 u60 u61 u62 u63 u64 u65 u66 u67 u68 u69 u70 u71 u72 u73 u74 u75 u76 u77 u78 u79 u80 u81 u82 u83 u84 u85 u86 u87 u88 u89 u90 u91 u92 u93 u94 u95 u96 u97 u98 u99 u100 u101 u102 u103 u104 u105:Value} {bS bE G B so m cap n i qb qo qc:Nat} {f e0:Int} {l l2:List Int} {w W0:World} {L:BLs} {R:List RowD} (hn:Hid (n=l.length∧n≤1000)) (him:Hid (i<m)) (hf:Hid (-3≤f∧f≤3)) (hl:Hid (∀ q,(-1000≤gi l q∧gi l q≤1000)∧-9≤gi l2 q∧gi l2 q≤9)) (hS:Hid (∀ W,Mem w L R W→W.cell? ⟨bS,0,none⟩=some (.int .i64 n)∧W.cell? ⟨bS,1,none⟩=some (.slice (some ⟨B,so,none⟩) m cap))) (hB:Hid (∀ W,Mem w L R W→W.cell? ⟨B,so+i*2,none⟩=some (.slice (some ⟨qb,qo,none⟩) n qc)∧∀ k,k<n→W.cell? ⟨qb,qo+k,none⟩=some (.int .i64 (gi l2 k)))) (h0:Hid (Mem w ((G,intArr l,3) :: (bE,#[.slice (some ⟨G,0,none⟩) n n,.int .i64 e0],60) :: L) R W0)) {body:Code} (hbody:getLoop Tryz.f31.body 4=some body)
  (hQ:∀ (v13 v57 v58 v59 v60 v61 v62 v63 v64 v65 v66 v67 v68 v69 v70 v71 v72 v73 v74 v75 v76 v77 v78 v79 v80 v81 v82 v83:Value) (W':World),Hid (Mem w ((G,intArr (upK l (fun q=>gi l q-f*gi l2 q) n),3) :: (bE,#[.slice (some ⟨G,0,none⟩) n n,.int .i64 e0],60) :: L) R W')→Q (.exit 4) { tmps:=List.toArray (u0::u1::u2::u3::u4::u5::.pointer (some ⟨bS,0,none⟩)::u7::u8::.pointer (some ⟨bE,0,none⟩)::u10::.int .i64 i::.int .i64 f::v13::u14::u15::u16::u17::u18::u19::u20::u21::u22::u23::u24::u25::u26::u27::u28::u29::u30::u31::u32::u33::u34::u35::u36::u37::u38::u39::u40::u41::u42::u43::u44::u45::u46::u47::u48::u49::u50::u51::u52::u53::u54::u55::u56::v57::v58::v59::v60::v61::v62::v63::v64::v65::v66::v67::v68::v69::v70::v71::v72::v73::v74::v75::v76::v77::v78::v79::v80::v81::v82::v83::u84::u85::u86::u87::u88::u89::u90::u91::u92::u93::u94::u95::u96::u97::u98::u99::u100::u101::u102::u103::u104::u105::[]),defers:=[] } W') :
  (Code.loop body).wp Tryz.prog Q { tmps:=List.toArray (u0::u1::u2::u3::u4::u5::.pointer (some ⟨bS,0,none⟩)::u7::u8::.pointer (some ⟨bE,0,none⟩)::u10::.int .i64 i::.int .i64 f::.int .i64 0::u14::u15::u16::u17::u18::u19::u20::u21::u22::u23::u24::u25::u26::u27::u28::u29::u30::u31::u32::u33::u34::u35::u36::u37::u38::u39::u40::u41::u42::u43::u44::u45::u46::u47::u48::u49::u50::u51::u52::u53::u54::u55::u56::u57::u58::u59::u60::u61::u62::u63::u64::u65::u66::u67::u68::u69::u70::u71::u72::u73::u74::u75::u76::u77::u78::u79::u80::u81::u82::u83::u84::u85::u86::u87::u88::u89::u90::u91::u92::u93::u94::u95::u96::u97::u98::u99::u100::u101::u102::u103::u104::u105::[]),defers:=[] } W0:=by
 obtain rfl:=Option.some.inj (hbody.symm.trans (rfl:getLoop Tryz.f31.body 4=some _))
 clear hbody
 replace hQ:=A8 hQ
 go_loopw [13] (fun s wr=>∃ (k:Nat),s=.int .i64 k∧k≤n∧Hid (Mem w ((G,intArr (upK l (fun q=>gi l q-f*gi l2 q) k),3) :: (bE,#[.slice (some ⟨G,0,none⟩) n n,.int .i64 e0],60) :: L) R wr)) (fun s _=>n-(intOf s).toNat)
 case atStart=>exact ⟨0,rfl,by omega,A8 (by rw [IC];exact h0.out)⟩
 case round =>
  clear h0
  obtain ⟨k,rfl,hk,hM⟩:=hrel
  have y0:=(hS.out _ hM.out.tail.tail).1
  by_cases hkn:k<n
  case neg =>
   have hkn':¬ (k:Int)<n:=by omega
   obtain rfl:k=n:=by omega
   go_wp2_with fail
   exact hQ.out _ _ _ _ _ _ _ _ _ _ _ _ _ _ _ _ _ _ _ _ _ _ _ _ _ _ _ _ _ hM
  case pos =>
   have hkn':(k:Int)<n:=by omega
   have hn9:=hn.out.2
   have hk0:(0:Int)≤k:=by omega
   have hi0:(0:Int)≤i:=by omega
   have hi1:(i:Int)<m:=by have:=him.out;omega
   have hds:=Fs (l:=upK l (fun q=>gi l q-f*gi l2 q) k) (k:=k) (by rw [D9,←hn.out.1];exact hkn)
   rw [gi_upK (by rw [←hn.out.1];exact hkn),if_neg (by omega)] at hds
   have hpb:=GW (K:=3) (F:=9) hf.out (hl.out k).2
   have hw1:IntKind.i64.wrap (f*gi l2 k)=f*gi l2 k:=IntWalk.i64_in _ (by omega)
   have hw2:IntKind.i64.wrap (gi l k-f*gi l2 k)=gi l k-f*gi l2 k:=IntWalk.i64_in _ (by have:=(hl.out k).1;omega)
   clear hpb
   go_upto_region 17 with fail
   refine Mj (bS:=bS) (bE:=bE) (G:=G) (B:=B) (so:=so) (m:=m) (cap:=cap) (n:=n) (i:=i) (k:=k) (qb:=qb) (qo:=qo) (qn:=n) (qc:=qc) (e0:=e0) (f:=f) (y:=gi l k) (y2:=gi l2 k) (w:=w) (L:=(bE,#[.slice (some ⟨G,0,none⟩) n n,.int .i64 e0],60) :: L) (R:=R) hi0 hi1 hk0 hkn' hkn' hds (.head _) (A8 fun W hW=>(hS.out W hW.tail).2) (A8 fun W hW=>(hB.out W hW.tail).1) (A8 fun W hW=>(hB.out W hW.tail).2 k hkn) hw1 hw2 hM rfl rfl rfl rfl rfl rfl (by kernel_rfl) ?_
   intro xx W5 hM5
   simp only [sets,List.foldl_cons,List.foldl_nil,A5,A6]
   have hM6:=hM5.out
   rw [Ft,←ID (h:=fun q=>gi l q-f*gi l2 q)] at hM6
   replace hM5:=A8 hM6
   clear hM hM6 hds y0 hw1 hw2
   go_wp2_with fail
   go_roundw
   case rel=>exact ⟨k+1,by go_num,by omega,hM5⟩
   case measure=>simp [intOf];omega
theorem none_l2 {Q:Exit→Act→World→Prop} {u0 u2 u3 u4 u5 u10 u12 u13 u14 u15 u16 u17 u18 u19 u20 u21 u22 u23 u24 u25 u26 u27 u28 u29 u30 u31 u32 u33 u34 u35 u36 u37 u38 u39 u40 u41 u42 u43 u44 u45 u46 u47 u48 u49 u50 u51 u52 u53 u54 u55 u56 u57 u58 u59 u60 u61 u62 u63 u64 u65 u66 u67 u68 u69 u70 u71 u72 u73 u74 u75 u76 u77 u78 u79 u80 u81 u82 u83 u84 u85 u86 u87 u88 u89 u90 u91 u92 u93 u94 u95 u96 u97 u98 u99 u100 u101 u102 u103 u104 u105:Value} {x:NumL} {bS bE G B so m cap n:Nat} {wv:Value} {ws:List Int} {w W0:World} {L:BLs} {R:List RowD} (hm:Hid (m=x.r∧m≤5)) (hn:Hid (n=x.c∧n≤1000)) (hf:Hid (∀ k,Fits (atv ws k))) (AW:Hid (∀ W,Mem w L R W→∀ k:Nat,Calls Tryz.prog 36 #[wv,.int .i64 k] W (Rets W (.int .i64 (atv ws k))))) (hS:Hid (∀ W,Mem w L R W→W.cell? ⟨bS,0,none⟩=some (.int .i64 n)∧W.cell? ⟨bS,1,none⟩=some (.slice (some ⟨B,so,none⟩) m cap))) (hB:Hid (∀ i,i<m→∃ qb qo qc,∀ W,Mem w L R W→W.cell? ⟨B,so+i*2,none⟩=some (.slice (some ⟨qb,qo,none⟩) n qc)∧(∀ k,k<n→W.cell? ⟨qb,qo+k,none⟩=some (.int .i64 (gi (x.row i).1 k)))∧W.cell? ⟨B,so+i*2+1,none⟩=some (.int .i64 (x.val i)))) (h0:Hid (Mem w ((G,intArr (nRow x ws 0),3) :: (bE,#[.slice (some ⟨G,0,none⟩) n n,.int .i64 (nVal x ws 0)],60) :: L) R W0)) {body:Code} (hbody:getLoop Tryz.f31.body 2=some body)
  (hQ:∀ (v:Value) (v11 v12 v13 v42 v43 v44 v45 v46 v47 v48 v49 v50 v51 v52 v53 v54 v55 v56 v57 v58 v59 v60 v61 v62 v63 v64 v65 v66 v67 v68 v69 v70 v71 v72 v73 v74 v75 v76 v77 v78 v79 v80 v81 v82 v83 v84 v85 v86 v87 v88 v89 v90 v91 v92 v93 v94 v95:Value) (W':World),Hid (Mem w ((G,intArr (nRow x ws m),3) :: (bE,#[.slice (some ⟨G,0,none⟩) n n,.int .i64 (nVal x ws m)],60) :: L) (⟨9,1,v,m,((List.range m).map fun q=>Value.string (I (nC ws q)))⟩ :: R) W')→Q (.exit 2) { tmps:=List.toArray (u0::wv::u2::u3::u4::u5::.pointer (some ⟨bS,0,none⟩)::.int .i64 m::v::.pointer (some ⟨bE,0,none⟩)::u10::v11::v12::v13::u14::u15::u16::u17::u18::u19::u20::u21::u22::u23::u24::u25::u26::u27::u28::u29::u30::u31::u32::u33::u34::u35::u36::u37::u38::u39::u40::u41::v42::v43::v44::v45::v46::v47::v48::v49::v50::v51::v52::v53::v54::v55::v56::v57::v58::v59::v60::v61::v62::v63::v64::v65::v66::v67::v68::v69::v70::v71::v72::v73::v74::v75::v76::v77::v78::v79::v80::v81::v82::v83::v84::v85::v86::v87::v88::v89::v90::v91::v92::v93::v94::v95::u96::u97::u98::u99::u100::u101::u102::u103::u104::u105::[]),defers:=[] } W') :
  (Code.loop body).wp Tryz.prog Q { tmps:=List.toArray (u0::wv::u2::u3::u4::u5::.pointer (some ⟨bS,0,none⟩)::.int .i64 m::.slice none 0 0::.pointer (some ⟨bE,0,none⟩)::u10::.int .i64 0::u12::u13::u14::u15::u16::u17::u18::u19::u20::u21::u22::u23::u24::u25::u26::u27::u28::u29::u30::u31::u32::u33::u34::u35::u36::u37::u38::u39::u40::u41::u42::u43::u44::u45::u46::u47::u48::u49::u50::u51::u52::u53::u54::u55::u56::u57::u58::u59::u60::u61::u62::u63::u64::u65::u66::u67::u68::u69::u70::u71::u72::u73::u74::u75::u76::u77::u78::u79::u80::u81::u82::u83::u84::u85::u86::u87::u88::u89::u90::u91::u92::u93::u94::u95::u96::u97::u98::u99::u100::u101::u102::u103::u104::u105::[]),defers:=[] } W0:=by
 obtain rfl:=Option.some.inj (hbody.symm.trans (rfl:getLoop Tryz.f31.body 2=some _))
 clear hbody
 replace hQ:=A8 hQ
 go_loopw [8,11] (fun u s wr=>∃ (i:Nat),s=.int .i64 i∧i≤m∧Hid (Mem w ((G,intArr (nRow x ws i),3) :: (bE,#[.slice (some ⟨G,0,none⟩) n n,.int .i64 (nVal x ws i)],60) :: L) (⟨9,1,u,i,((List.range i).map fun q=>Value.string (I (nC ws q)))⟩ :: R) wr)) (fun _ s _=>m-(intOf s).toNat)
 case atStart=>exact ⟨0,rfl,by omega,A8 (h0.out.row0 9 1)⟩
 case round =>
  clear h0
  obtain ⟨i,rfl,hi,hM⟩:=hrel
  by_cases him:i<m
  case neg =>
   have him':¬ (i:Int)<m:=by omega
   obtain rfl:i=m:=by omega
   go_wp2_with fail
   exact hQ.out _ _ _ _ _ _ _ _ _ _ _ _ _ _ _ _ _ _ _ _ _ _ _ _ _ _ _ _ _ _ _ _ _ _ _ _ _ _ _ _ _ _ _ _ _ _ _ _ _ _ _ _ _ _ _ _ _ _ _ hM
  case pos =>
   have him':(i:Int)<m:=by omega
   have hm9:=hm.out.2
   have hi0:(0:Int)≤i:=by omega
   have A1:=A8 (fun W (hW:Mem w L R W)=>AW.out W hW i)
   have P1:=A8 (fun W=>Au (atv ws i) 7 (hf.out i) (by decide) (by decide) W)
   have hfb:=A8 (K4 ws i)
   have hw:IntKind.i64.wrap (pkv (atv ws i) 7-3)=nC ws i:=IntWalk.i64_in _ (by have:=hfb.out;unfold nC at this;omega)
   have F1:=A8 (fun W=>Fj (x:=nC ws i) (by have:=hfb.out;unfold Fits;omega) W)
   have hxs:=A8 (show ((List.range (i+1)).map fun q=>Value.string (I (nC ws q)))=((List.range i).map fun q=>Value.string (I (nC ws q)))++[.string (I (nC ws i))] by rw [List.range_succ,List.map_append];rfl)
   have hr1:=A8 (show (List.range n).map (fun q=>gi (nRow x ws i) q-nC ws i*gi (x.row i).1 q)=nRow x ws (i+1) by
    unfold nRow
    rw [←hn.out.1]
    refine List.map_congr_left fun q hq=>?_
    rw [D2 _ (List.mem_range.1 hq),show (x.row i).1=(List.range n).map (x.coef i) by rw [hn.out.1];rfl,D2 _ (List.mem_range.1 hq)]
    show nBase x q-LnM.sm i (fun q'=>nC ws q'*x.coef q' q)-nC ws i*x.coef i q=nBase x q-(LnM.sm i (fun q'=>nC ws q'*x.coef q' q)+nC ws i*x.coef i q)
    omega)
   have hv1:=A8 (show nVal x ws i-nC ws i*x.val i=nVal x ws (i+1) by
    show -1-pkv x.miss 9-LnM.sm i (fun q=>nC ws q*x.val q)-nC ws i*x.val i=-1-pkv x.miss 9-(LnM.sm i (fun q=>nC ws q*x.val q)+nC ws i*x.val i)
    omega)
   have hlb:=A8 (show ∀ q,(-1000≤gi (nRow x ws i) q∧gi (nRow x ws i) q≤1000)∧-9≤gi (x.row i).1 q∧gi (x.row i).1 q≤9 from fun q=>by
    by_cases hq:q<x.c
    ·have h1:gi (nRow x ws i) q=nCoef x ws i q:=D2 _ hq
     have h2:gi (x.row i).1 q=x.coef i q:=D2 _ hq
     have h3:=IF x ws (i:=i) (by omega) q
     have h4:=x.coef_bd i q
     rw [h1,h2];omega
    ·have h1:gi (nRow x ws i) q=0:=BT (by unfold nRow;simp;omega)
     have h2:gi (x.row i).1 q=0:=BT (by show ((List.range x.c).map (x.coef i)).length≤q;simp;omega)
     rw [h1,h2];omega)
   have hvb:=A8 (⟨K5 x ws (i:=i) (by omega),x.val_bd i⟩:_∧_)
   have hnl:=A8 (show n=(nRow x ws i).length∧n≤1000 from ⟨by unfold nRow;rw [hn.out.1];simp,hn.out.2⟩)
   obtain ⟨qb,qo,qc,hB1⟩:=hB.out i him
   replace hB1:=A8 hB1
   generalize pkv (atv ws i) 7=p1 at *
   generalize atv ws i=a1 at *
   generalize I (nC ws i)=s1 at *
   generalize nC ws i=f at *
   generalize nRow x ws i=l0 at *
   generalize nVal x ws i=z0 at *
   generalize (x.row i).1=l2 at *
   generalize x.val i=zi at *
   go_wp2_with fail
   refine Calls.mono (A1.out _ hM.out.tail.tail.rtail) ?_
   rintro e w1 ⟨rfl,hb⟩
   replace hM:=A8 (hM.out.call hb)
   clear hb
   go_wp2_with fail
   refine Calls.mono (P1.out _) ?_
   rintro e w2 ⟨rfl,hb⟩
   replace hM:=A8 (hM.out.call hb)
   clear hb
   go_wp2_with fail
   refine Calls.mono (F1.out _) ?_
   rintro e w3 ⟨rfl,hb⟩
   replace hM:=A8 (hM.out.call hb)
   clear hb A1 P1 F1
   go_upto_region 14 with (at_builtin;refine En rfl rfl (hM.out.new _) rfl rfl ((Blk.new _ _ _).cell 0) (by omega) ?_;intro g2 c2 W8 hM8;rw [←hxs.out] at hM8)
   have hM9:=A8 hM8
   clear hM8 hM
   go_wp2_with fail
   refine none_l4 (bS:=bS) (bE:=bE) (G:=G) (B:=B) (so:=so) (m:=m) (cap:=cap) (n:=n) (i:=i) (qb:=qb) (qo:=qo) (qc:=qc) (f:=f) (e0:=z0) (l:=l0) (l2:=l2) (w:=w) (L:=L) (R:=⟨9,1,.slice (some ⟨g2,0,none⟩) (i+1) c2,i+1,((List.range (i+1)).map fun q=>Value.string (I (nC ws q)))⟩ :: R) hnl (A8 him) hfb hlb (A8 fun W hW=>hS.out W hW.rtail) (A8 fun W hW=>⟨(hB1.out W hW.rtail).1,(hB1.out W hW.rtail).2.1⟩) hM9 (by kernel_rfl) ?_
   intro u13 u57 u58 u59 u60 u61 u62 u63 u64 u65 u66 u67 u68 u69 u70 u71 u72 u73 u74 u75 u76 u77 u78 u79 u80 u81 u82 u83 W4 hM4
   rw [K6 hnl.out.1,hr1.out] at hM4
   clear hM9
   have hpb:=GW (K:=3) (F:=400) hfb.out hvb.out.2
   have hw1:IntKind.i64.wrap (f*zi)=f*zi:=IntWalk.i64_in _ (by omega)
   have hw2:IntKind.i64.wrap (z0-f*zi)=z0-f*zi:=IntWalk.i64_in _ (by have:=hvb.out.1;omega)
   clear hpb
   have hi1:=him'
   go_upto_region 18 with fail
   refine Mk (bS:=bS) (bE:=bE) (B:=B) (so:=so) (m:=m) (cap:=cap) (i:=i) (ev:=.slice (some ⟨G,0,none⟩) n n) (e0:=z0) (f:=f) (y2:=zi) (w:=w) (L:=(G,intArr (nRow x ws (i+1)),3) :: L) (R:=⟨9,1,.slice (some ⟨g2,0,none⟩) (i+1) c2,i+1,((List.range (i+1)).map fun q=>Value.string (I (nC ws q)))⟩ :: R) hi0 hi1 (A8 fun W hW=>(hS.out W hW.tail.rtail).2) (A8 fun W hW=>(hB1.out W hW.tail.rtail).2.2) hw1 hw2 (A8 (hM4.out.perm (List.Perm.swap _ _ _))) rfl rfl rfl rfl rfl (by kernel_rfl) ?_
   intro xx W5 hM5
   simp only [sets,List.foldl_cons,List.foldl_nil,A5,A6]
   rw [hv1.out] at hM5
   have hM6:=A8 (hM5.out.perm (List.Perm.swap _ _ _))
   clear hM4 hM5 hw1 hw2 hv1 hr1 hxs hlb hvb hnl hfb hw
   go_wp2_with fail
   go_roundw
   case rel=>exact ⟨i+1,by go_num,by omega,hM6⟩
   case measure=>simp [intOf];omega
theorem Mp {W:World} {x:NumL} {vc vh:Value} (h:NumOk W x vc vh):Calls Tryz.prog 11 #[.agg #[.int .i64 x.cols,.int .i64 x.rows,vc,vh,.int .i64 x.miss]] W (MadeP x W) :=
 Iu x vc vh W h.c h.h h.f (fun k=>⟨Cb h.fc k,Cb h.fh k⟩)
def NoneP (x:NumL) (ws:List Int) (w:World) (e:Ending) (w':World):Prop :=
 ∃ a cp b m k,e=.returned (.tuple #[.agg #[.int .i64 x.c,.slice a (x.r+1) cp],.slice b m k])∧m=x.r+1∧SlE w' (.slice a (x.r+1) cp) (noneR x ws)∧SlS w' (.slice b m k) (noneW x ws)∧Below w.heap.size w w'
theorem inB_arr {fs:BLs} {G n:Nat} {l:List Int} (hn:n=l.length) (hm:n≤maxLen) (h:(G,intArr l,(3:TypeId))∈fs):InB fs (.slice (some ⟨G,0,none⟩) n n) l:=by
 subst hn
 refine .inr ⟨G,l.length,intArr l,rfl,Aa _,hm,by unfold intArr;simp,h,?_⟩
 unfold intArr
 rw [List.take_of_length_le (by simp)]
theorem Mq (x:NumL) (vc vh wv:Value) (ws:List Int) (w:World) (hN:NumOk w x vc vh) (hw:Sl w wv ws) (hwf:∀ z∈ws,Fits z) :
  Calls Tryz.prog 31 #[.agg #[.int .i64 x.cols,.int .i64 x.rows,vc,vh,.int .i64 x.miss],wv] w (NoneP x ws w):=by
 obtain ⟨ac,cc,rfl⟩:=hN.c.shape
 obtain ⟨ah,ch,rfl⟩:=hN.h.shape
 have MM:=A8 (fun W (hW:NumOk W x (.slice ac x.coefs.length cc) (.slice ah x.hidden.length ch))=>Mp hW)
 have AH:=A8 (fun W (hW:Below w.heap.size w W) (k:Nat)=>CK (.slice ah x.hidden.length ch) x.hidden k W (hN.h.below hW))
 have AW:=A8 (fun W (hW:Below w.heap.size w W) (k:Nat)=>CK wv ws k W (hw.below hW))
 have hfh:=A8 (fun k=>Cb hN.fh k)
 have hfw:=A8 (fun k=>Cb hwf k)
 have hfm:=A8 hN.f.2.2
 replace hN:=A8 hN
 generalize x.coefs.length=nc at *
 generalize x.hidden.length=nh at *
 clear hw hwf
 obtain ⟨V1,bN,e1,b1,S1⟩:=(Mem.start w).addB #[.int .i64 x.cols,.int .i64 x.rows,.slice ac nc cc,.slice ah nh ch,.int .i64 x.miss] 24
 obtain ⟨V2,bR,e2,b2,S2⟩:=S1.addB #[.int .i64 0,.slice none 0 0] 27
 have hM:=A8 S2
 rw [e1] at e2 b2
 clear S1 S2 e1
 go_enter Tryz.func31,Tryz.ntmps31
 go_upto_region 1 with fail
 rw [←e2]
 have b2':bR=w.heap.size+1:=by rw [b2];exact World.size_alloc _ _
 rw [←b2',←b1]
 clear e2 b2 b1 b2'
 have z0:=(hM.out.cell bN _ _ (.tail _ (.head _)) 0).trans (show _=some (Value.int .i64 x.cols:Value) from rfl)
 have z1:=(hM.out.cell bN _ _ (.tail _ (.head _)) 1).trans (show _=some (Value.int .i64 x.rows:Value) from rfl)
 have z2:=(hM.out.cell bN _ _ (.tail _ (.head _)) 2).trans (show _=some (Value.slice ac nc cc:Value) from rfl)
 have z3:=(hM.out.cell bN _ _ (.tail _ (.head _)) 3).trans (show _=some (Value.slice ah nh ch:Value) from rfl)
 have z4:=(hM.out.cell bN _ _ (.tail _ (.head _)) 4).trans (show _=some (Value.int .i64 x.miss:Value) from rfl)
 go_wp2_with fail
 refine Calls.mono (MM.out _ (hN.out.below hM.out.below)) ?_
 rintro e w1 ⟨B,cap,cs,fs,rfl,h1,h2,h3,h4,h5⟩
 replace hM:=A8 (hM.out.within h5)
 have hE:=A8 (⟨h1,h2,h3,h4⟩:x.r≤cap∧cap≤maxLen∧cs.size=cap*2∧EqsAt fs x.made (cs.toList.take (x.r*2)))
 clear h1 h2 h3 h4 h5 z0 z1 z2 z3 z4 MM hN
 have hce:=x.c_eq
 have hre:=x.r_eq
 have hvl:=x.made_valid
 obtain ⟨r,hr⟩:∃ r,r=x.r:=⟨_,rfl⟩
 obtain ⟨c,hc⟩:∃ c,c=x.c:=⟨_,rfl⟩
 rw [←hr] at hE ⊢
 rw [←hc]
 have hc0':=A8 (show 0<c∧c≤8 from by omega)
 have hr0':=A8 (show 0<r∧r≤5 from by omega)
 replace hr:=A8 hr
 replace hc:=A8 hc
 clear hce hre
 have hSL:SlE w1 (.slice (some ⟨B,0,none⟩) r cap) x.made:=hE.out.2.2.2.slE (hM.out.thaw (k:=2) hE.out.1 hE.out.2.1 hE.out.2.2.1 rfl) (by rw [x.made_len];exact hr.out) (fun p hp=>List.mem_append_left _ hp)
 obtain ⟨Wb,bS,e1,b1,S1⟩:=hM.out.addB #[.int .i64 c,.slice (some ⟨B,0,none⟩) r cap] 27
 have hSL2:SlE Wb (.slice (some ⟨B,0,none⟩) r cap) x.made:=by rw [e1];exact hSL.below ((Below.refl _ _).alloc (Aa _) _)
 replace hM:=A8 S1
 clear S1 hSL
 go_upto_region 2 with fail
 rw [←e1,←b1]
 clear e1 b1
 obtain ⟨sb,so,mc,hsv,hRA⟩:=rows_at hSL2 (by rw [x.made_len,←hr.out];exact hr0'.out.1) hc0'.out.1 (fun q hq=>by have:=(AQ hvl).2.2.2 q hq;have:=hc.out;omega)
 rw [x.made_len,←hr.out] at hsv
 cases hsv
 replace hRA:=A8 hRA
 clear hSL2 hvl
 have hbS:=A8 (⟨hM.out.lt _ (.head _),hM.out.cell _ _ _ (.head _) 0,hM.out.cell _ _ _ (.head _) 1⟩:bS<Wb.heap.size∧Wb.cell? ⟨bS,0,none⟩=some (.int .i64 c)∧Wb.cell? ⟨bS,1,none⟩=some (.slice (some ⟨B,0,none⟩) r cap))
 have hbN:=A8 (⟨hM.out.lt _ (.tail _ (.tail _ (List.mem_append_right fs (.tail _ (.head _))))),hM.out.cell _ _ _ (.tail _ (.tail _ (List.mem_append_right fs (.tail _ (.head _))))) 3,hM.out.cell _ _ _ (.tail _ (.tail _ (List.mem_append_right fs (.tail _ (.head _))))) 4⟩:bN<Wb.heap.size∧Wb.cell? ⟨bN,3,none⟩=some (.slice ah nh ch)∧Wb.cell? ⟨bN,4,none⟩=some (.int .i64 x.miss))
 have hBw:=A8 hM.out.below
 have z1:=hbS.out.2.2
 go_upto_region 4 with fail
 clear z1
 have hq1:=Av (c:=x.miss) (m:=9) (by decide)
 have hq2:=BF (c:=x.miss) (m:=9) (by decide)
 have hw0:IntKind.i64.wrap (-1-pkv x.miss 9)=nVal x ws 0:=by rw [show nVal x ws 0=-1-pkv x.miss 9 from by show -1-pkv x.miss 9-0=_;omega];exact IntWalk.i64_in _ (by omega)
 clear hq1 hq2
 refine none_r4 (bN:=bN) (bS:=bS) (n:=c) (ms:=x.miss) (w:=Wb) (L:=[]) (R:=[]) (A8 (by have:=hc0'.out;omega)) (A8 fun W hW=>hW.old hbS.out.1 hbS.out.2.1) (A8 fun W hW=>hW.old hbN.out.1 hbN.out.2.2) (A8 fun W _=>Au x.miss 9 hfm.out (by decide) (by decide) W) hw0 (A8 (Mem.start Wb)) rfl rfl rfl (by kernel_rfl) ?_
 intro xx G bE W2 hx9 hM2
 simp only [sets,List.foldl_cons,List.foldl_nil,A5,A6,hx9]
 clear hw0 hx9
 go_wp2_with fail
 refine none_l0 (x:=x) (bN:=bN) (bS:=bS) (bE:=bE) (G:=G) (n:=c) (hv:=.slice ah nh ch) (e0:=nVal x ws 0) (w:=Wb) (L:=[]) (R:=[]) (A8 (by have:=hc0'.out;omega)) hfh (A8 fun W hW k=>AH.out W (hBw.out.trans (hW.below.mono hBw.out.size)) k) (A8 fun W hW=>hW.old hbN.out.1 hbN.out.2.1) (A8 fun W hW=>hW.old hbS.out.1 hbS.out.2.1) (A8 (hM2.out.perm (List.Perm.swap _ _ _))) (by kernel_rfl) ?_
 intro _ _ _ _ _ _ _ _ _ _ _ _ _ _ _ _ W3 hM3
 clear hM2
 have hn0:upK (List.replicate c 0) (nBase x) c=nRow x ws 0:=by rw [K6 (by simp)];unfold nRow;rw [←hc.out];refine List.map_congr_left fun k _=>?_;show _=nBase x k-0;omega
 rw [hn0] at hM3
 clear hn0
 go_wp2_with fail
 refine none_l2 (x:=x) (bS:=bS) (bE:=bE) (G:=G) (B:=B) (so:=0) (m:=r) (cap:=cap) (n:=c) (wv:=wv) (ws:=ws) (w:=Wb) (L:=[]) (R:=[]) (A8 ⟨hr.out,hr0'.out.2⟩) (A8 ⟨hc.out,by have:=hc0'.out;omega⟩) hfw (A8 fun W hW k=>AW.out W (hBw.out.trans (hW.below.mono hBw.out.size)) k) (A8 fun W hW=>⟨hW.old hbS.out.1 hbS.out.2.1,hW.old hbS.out.1 hbS.out.2.2⟩) (A8 fun i hi=>by have h:=hRA.out.row i (by rw [x.made_len,←hr.out];exact hi);rw [x.rowOf_made (by rw [←hr.out];exact hi)] at h;obtain ⟨cb,co,cc2,z1,_,z3,z4,z5⟩:=h;exact ⟨cb,co,cc2,fun W hW=>⟨hW.old hRA.out.lt z1,fun k hk=>hW.old z3 (z4 k hk),hW.old hRA.out.lt z5⟩⟩) hM3 (by kernel_rfl) ?_
 intro sw _ _ _ _ _ _ _ _ _ _ _ _ _ _ _ _ _ _ _ _ _ _ _ _ _ _ _ _ _ _ _ _ _ _ _ _ _ _ _ _ _ _ _ _ _ _ _ _ _ _ _ _ _ _ _ _ _ W4 hM4
 clear hM3 AH AW hRA
 have hM5:=A8 (Mem.thaw (k:=2) (n:=r) ((hM.out.within hM4.out).front (A:=[_,_,_])) hE.out.1 hE.out.2.1 hE.out.2.2.1 rfl)
 clear hM hM4 hbS hbN hBw
 have hr9:=hr0'.out.2
 have y0:=(hM5.out.cell bE _ _ (.tail _ (.head _)) 0).trans (show _=some (Value.slice (some ⟨G,0,none⟩) c c) from rfl)
 have y1:=(hM5.out.cell bE _ _ (.tail _ (.head _)) 1).trans (show _=some (Value.int .i64 (nVal x ws r)) from rfl)
 have y2:=(hM5.out.cell bS _ _ (.tail _ (.tail _ (.head _))) 1).trans (show _=some (Value.slice (some ⟨B,0,none⟩) r cap) from rfl)
 go_upto_region 20 with (at_builtin;refine Ch rfl rfl (hM5.out.new _) rfl rfl ((Blk.new _ _ _).cell 0) ((Blk.new _ _ _).cell 1) rfl rfl (by omega) ?_;intro g2 c2 W8 hM8;have q0:=hM8.cell bS _ _ (.tail _ (.tail _ (.head _))) 1;have q1:=hM8.frozen bS _ _ (.tail _ (.tail _ (.head _))) 1;replace hM8:=hM8.put (A:=[_,_]) 1 (.slice (some ⟨g2,0,none⟩) (r+1) c2))
 obtain ⟨W6,e6⟩:∃ W6,W6=W8.setCell ⟨bS,1,none⟩ (.slice (some ⟨g2,0,none⟩) (r+1) c2):=⟨_,rfl⟩
 rw [←e6] at hM8 ⊢
 clear e6 q0 q1 y0 y1 y2 hM5
 have hM9:=A8 ((Mem.rswap2 hM8).front (A:=_ :: _ :: _ :: fs))
 clear hM8
 refine Mm (bR:=bR) (bS:=bS) (n:=r) (sn:=r+1) (sk:=c2) (sq:=some ⟨g2,0,none⟩) (v:=sw) (c:=c) (xs:=((List.range r).map fun q=>Value.string (I (nC ws q)))) (w:=w) (A8 (by omega)) (.tail _ (.tail _ (.head _)))  hM9 rfl rfl rfl rfl (by kernel_rfl) ?_
 intro xx G9 cap9 W7 hx5 hM7
 simp only [sets,List.foldl_cons,List.foldl_nil,A5,A6,hx5]
 clear hM9 hx5
 have x0:=(hM7.out.cell bR _ _ (.head _) 0).trans (show _=some (Value.int .i64 c) from rfl)
 have x1:=(hM7.out.cell bR _ _ (.head _) 1).trans (show _=some (Value.slice (some ⟨g2,0,none⟩) (r+1) c2) from rfl)
 have hSS:SlS W7 (.slice (some ⟨G9,0,none⟩) (r+1) cap9) (noneW x ws):=SlS.of_own (by have:=hM7.out.own0;unfold noneW;rw [List.map_append,List.map_map,←hr.out];exact this)
 have hSE:SlE W7 (.slice (some ⟨g2,0,none⟩) (r+1) c2) (noneR x ws):=by
  have hq:=hE.out.2.2.2.snoc (gs:=(G,intArr (nRow x ws r),3) :: fs) (inB_arr (G:=G) (n:=c) (l:=nRow x ws r) (by unfold nRow;rw [hc.out];simp) (by have:=hc0'.out;unfold maxLen;omega) (.head _)) (fun p hp=>.tail _ hp) (z:=nVal x ws r)
  rw [hr.out] at hq
  have h9:=hM7.out.rtail
  rw [hr.out] at h9
  have:=EqsAt.slE (rows:=noneR x ws) hq h9 (by rw [C5]) (fun p hp=>by rcases List.mem_cons.1 hp with rfl | hp;exact .tail _ (.head _);exact .tail _ (.tail _ (.tail _ (.tail _ (List.mem_append_left _ hp)))))
  rw [hr.out];exact this
 have hfin:=A8 (show NoneP x ws w (.returned (.tuple #[.agg #[.int .i64 c,.slice (some ⟨g2,0,none⟩) (r+1) c2],.slice (some ⟨G9,0,none⟩) (r+1) cap9])) W7 from ⟨some ⟨g2,0,none⟩,c2,some ⟨G9,0,none⟩,r+1,cap9,by rw [←hc.out,←hr.out],by rw [←hr.out],by rw [←hr.out];exact hSE,hSS,hM7.out.below⟩)
 clear hSS hSE hM7 hE
 go_wp2
 exact bodyPost_ret (v:=.tuple #[.agg #[.int .i64 c,.slice (some ⟨g2,0,none⟩) (r+1) c2],.slice (some ⟨G9,0,none⟩) (r+1) cap9]) (by simp [results,Tryz.results31,go_sem,x0,x1]) rfl hfin.out
end
end Go.Proofs.YtcmomjnailihpaaGreatDoor
