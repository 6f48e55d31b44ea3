/- EqB, EqC, EqW -/
import Derived.Test.YtcmomjnailihpaaGreatDoorYEqA
import Derived.Test.YtcmomjnailihpaaGreatDoorYSnB
set_option maxHeartbeats 8000000
set_option maxRecDepth 100000
namespace Go.Proofs.YtcmomjnailihpaaGreatDoor
section
open Go.RowKit
attribute [local go_sem] Oper.semAt_some
def mulF (fs:List Int) (i:Nat):Int:=if i<fs.length then gi [-3,-2,-1,1,2,5] (pkv (gi fs i) 6).toNat else 3
theorem tab6 {p:Nat} (h:p<6):gi [-3,-2,-1,1,2,5] p≠0∧-5≤gi [-3,-2,-1,1,2,5] p∧gi [-3,-2,-1,1,2,5] p≤5:=by
 match p,h with
 | 0,_=>decide
 | 1,_=>decide
 | 2,_=>decide
 | 3,_=>decide
 | 4,_=>decide
 | 5,_=>decide
theorem JO (fs:List Int) (i:Nat):mulF fs i≠0∧-5≤mulF fs i∧mulF fs i≤5:=by
 unfold mulF
 split
 ·refine tab6 ?_
  have h1:=Aw (c:=gi fs i) (m:=6) (by decide)
  have h2:=BH (c:=gi fs i) (m:=6) (by decide)
  omega
 ·decide
theorem eq_l2 {Q:Exit→Act→World→Prop} {u0 u1 u2 u3 u4 u5 u6 u7 u8 u9 u10 u11 u12 u13 u14 u15 u20 u21 u22 u23 u24 u25 u26 u27 u28 u29 u30 u31 u32 u33 u34 u35 u36 u37 u38 u39 u40 u41 u42 u43 u44 u45 u46 u47 u48 u49 u50 u51 u52 u53 u54 u55 u56 u57 u58 u59 u60 u61 u62 u63 u64 u65 u66 u67 u68 u69 u70 u71 u72 u73 u74 u75 u76 u77 u78 u79 u80 u81 u82 u83 u84 u85 u86 u87 u88 u89 u90 u91 u92 u93 u94 u95 u96 u97 u98 u99 u100 u101 u102 u103 u104 u105 u106 u107 u108 u109 u110 u111 u112 u113 u114 u115 u116 u117 u118 u119 u120 u121 u122 u123 u124 u125 u126 u127 u128 u129 u130 u131 u132 u133 u134 u135 u136 u137 u138 u139 u140 u141 u142 u143 u144 u145 u146 u147 u148 u149 u150 u151 u152 u153 u154 u155 u156 u157 u158 u159 u160 u161 u162 u163 u164 u165 u166 u167 u168 u169 u170 u171 u172 u173 u174 u175 u176 u177 u178 u179 u180 u181 u182 u183 u184 u185 u186 u187 u188 u189 u190 u191 u192 u193 u194 u195 u196 u197 u198 u199 u200 u201 u202 u203 u204 u205 u206 u207 u208 u209 u210 u211 u212 u213 u214 u215 u216 u217 u218 u219 u220 u221 u222 u223 u224 u225 u226 u227 u228 u229 u230 u231 u232 u233 u234 u235 u236 u237 u238 u239 u240 u241 u242 u243 u244 u245 u246 u247 u248 u249 u250 u251 u252 u253 u254 u255 u256 u257 u258 u259 u260 u261 u262 u263 u264 u265 u266 u267 u268 u269 u270 u271 u272 u273 u274 u275 u276:Value} {bT B m cap i n:Nat} {f zv:Int} {l:List Int} {rs:List (List Int×Int)} {cs:Array Value} {fs0:BLs} {w W0:World} {L:BLs} {R:List RowD} (hn:Hid (n=l.length∧n≤1000)) (him:Hid (i<m)) (hf:Hid (-10≤f∧f≤10)) (hl:Hid (∀ q,-1000≤gi l q∧gi l q≤1000)) (hr:Hid (rs[i]? = some (l,zv))) (mT:Hid ((bT,#[.int .i64 n,.slice (some ⟨B,0,none⟩) m cap],27)∈L)) (h0:Hid (Mem w ((B,cs,60) :: (fs0++L)) R W0∧SysB B cap cs fs0 rs)) {body:Code} (hbody:getLoop Tryz.f6.body 2=some body)
  (hQ:∀ (fs:BLs) (v19 v61 v62 v63 v64 v65 v66 v67 v68 v69 v70 v71 v72 v73 v74 v75 v76 v77 v78 v79 v80 v81 v82 v83 v84 v85:Value) (W':World),Hid (Mem w ((B,cs,60) :: (fs++L)) R W'∧SysB B cap cs fs (rs.set i (upK l (fun q=>gi l q*f) n,zv)))→Q (.exit 2) { tmps:=List.toArray (u0::u1::u2::u3::u4::u5::u6::u7::u8::u9::u10::u11::u12::u13::u14::u15::.pointer (some ⟨bT,0,none⟩)::.int .i64 i::.int .i64 f::v19::u20::u21::u22::u23::u24::u25::u26::u27::u28::u29::u30::u31::u32::u33::u34::u35::u36::u37::u38::u39::u40::u41::u42::u43::u44::u45::u46::u47::u48::u49::u50::u51::u52::u53::u54::u55::u56::u57::u58::u59::u60::v61::v62::v63::v64::v65::v66::v67::v68::v69::v70::v71::v72::v73::v74::v75::v76::v77::v78::v79::v80::v81::v82::v83::v84::v85::u86::u87::u88::u89::u90::u91::u92::u93::u94::u95::u96::u97::u98::u99::u100::u101::u102::u103::u104::u105::u106::u107::u108::u109::u110::u111::u112::u113::u114::u115::u116::u117::u118::u119::u120::u121::u122::u123::u124::u125::u126::u127::u128::u129::u130::u131::u132::u133::u134::u135::u136::u137::u138::u139::u140::u141::u142::u143::u144::u145::u146::u147::u148::u149::u150::u151::u152::u153::u154::u155::u156::u157::u158::u159::u160::u161::u162::u163::u164::u165::u166::u167::u168::u169::u170::u171::u172::u173::u174::u175::u176::u177::u178::u179::u180::u181::u182::u183::u184::u185::u186::u187::u188::u189::u190::u191::u192::u193::u194::u195::u196::u197::u198::u199::u200::u201::u202::u203::u204::u205::u206::u207::u208::u209::u210::u211::u212::u213::u214::u215::u216::u217::u218::u219::u220::u221::u222::u223::u224::u225::u226::u227::u228::u229::u230::u231::u232::u233::u234::u235::u236::u237::u238::u239::u240::u241::u242::u243::u244::u245::u246::u247::u248::u249::u250::u251::u252::u253::u254::u255::u256::u257::u258::u259::u260::u261::u262::u263::u264::u265::u266::u267::u268::u269::u270::u271::u272::u273::u274::u275::u276::[]),defers:=[] } W') :
  (Code.loop body).wp Tryz.prog Q { tmps:=List.toArray (u0::u1::u2::u3::u4::u5::u6::u7::u8::u9::u10::u11::u12::u13::u14::u15::.pointer (some ⟨bT,0,none⟩)::.int .i64 i::.int .i64 f::.int .i64 0::u20::u21::u22::u23::u24::u25::u26::u27::u28::u29::u30::u31::u32::u33::u34::u35::u36::u37::u38::u39::u40::u41::u42::u43::u44::u45::u46::u47::u48::u49::u50::u51::u52::u53::u54::u55::u56::u57::u58::u59::u60::u61::u62::u63::u64::u65::u66::u67::u68::u69::u70::u71::u72::u73::u74::u75::u76::u77::u78::u79::u80::u81::u82::u83::u84::u85::u86::u87::u88::u89::u90::u91::u92::u93::u94::u95::u96::u97::u98::u99::u100::u101::u102::u103::u104::u105::u106::u107::u108::u109::u110::u111::u112::u113::u114::u115::u116::u117::u118::u119::u120::u121::u122::u123::u124::u125::u126::u127::u128::u129::u130::u131::u132::u133::u134::u135::u136::u137::u138::u139::u140::u141::u142::u143::u144::u145::u146::u147::u148::u149::u150::u151::u152::u153::u154::u155::u156::u157::u158::u159::u160::u161::u162::u163::u164::u165::u166::u167::u168::u169::u170::u171::u172::u173::u174::u175::u176::u177::u178::u179::u180::u181::u182::u183::u184::u185::u186::u187::u188::u189::u190::u191::u192::u193::u194::u195::u196::u197::u198::u199::u200::u201::u202::u203::u204::u205::u206::u207::u208::u209::u210::u211::u212::u213::u214::u215::u216::u217::u218::u219::u220::u221::u222::u223::u224::u225::u226::u227::u228::u229::u230::u231::u232::u233::u234::u235::u236::u237::u238::u239::u240::u241::u242::u243::u244::u245::u246::u247::u248::u249::u250::u251::u252::u253::u254::u255::u256::u257::u258::u259::u260::u261::u262::u263::u264::u265::u266::u267::u268::u269::u270::u271::u272::u273::u274::u275::u276::[]),defers:=[] } W0:=by
 obtain rfl:=Option.some.inj (hbody.symm.trans (rfl:getLoop Tryz.f6.body 2=some _))
 clear hbody
 replace hQ:=A8 hQ
 go_loopw [19] (fun s wr=>∃ (k:Nat) (fs:BLs),s=.int .i64 k∧k≤n∧Hid (Mem w ((B,cs,60) :: (fs++L)) R wr∧SysB B cap cs fs (rs.set i (upK l (fun q=>gi l q*f) k,zv)))) (fun s _=>n-(intOf s).toNat)
 case atStart=>exact ⟨0,fs0,rfl,by omega,A8 ⟨h0.out.1,by rw [Ig,CA hr.out];exact h0.out.2⟩⟩
 case round =>
  clear h0
  obtain ⟨k,fs,rfl,hk,hM⟩:=hrel
  have y0:=(hM.out.1.cell _ _ _ (.tail _ (List.mem_append_right _ mT.out)) 0).trans (show _=some (Value.int .i64 n) from rfl)
  by_cases hkn:k<n
  case neg =>
   have hkn':¬ (k:Int)<n:=by omega
   obtain rfl:k=n:=by omega
   go_wp2_with fail
   exact hQ.out fs _ _ _ _ _ _ _ _ _ _ _ _ _ _ _ _ _ _ _ _ _ _ _ _ _ _ _ hM
  case pos =>
   have hkn':(k:Int)<n:=by omega
   have hn9:=hn.out.2
   have hi0:(0:Int)≤i:=by omega
   have hi1:(i:Int)<m:=by have:=him.out;omega
   have hk0:(0:Int)≤k:=by omega
   have hat:=A8 (show (rs.set i (upK l (fun q=>gi l q*f) k,zv))[i]? = some (upK l (fun q=>gi l q*f) k,zv) from List.getElem?_set_self (List.getElem?_eq_some_iff.1 hr.out).1)
   obtain ⟨pb,ds,cp,p1,p2,p3⟩:=hM.out.2.coef hat.out
   have p3:=p3 k (by rw [B7,←hn.out.1];exact hkn)
   rw [GJ (by rw [←hn.out.1];exact hkn),if_neg (by omega)] at p3
   rw [B7,←hn.out.1] at p2
   replace p1:=A8 p1;replace p2:=A8 p2;replace p3:=A8 p3
   have hw:IntKind.i64.wrap (gi l k*f)=gi l k*f:=IntWalk.i64_in _ (by have:=Do (hl.out k) hf.out;omega)
   go_upto_region 14 with fail
   refine eq_r14 (bT:=bT) (B:=B) (m:=m) (cap:=cap) (i:=i) (k:=k) (pb:=pb) (n:=n) (cp:=cp) (ds:=ds) (c:=n) (f:=f) (y:=gi l k) (w:=w) (L:=(B,cs,60) :: (fs.eraseIdx i++L)) (R:=R) hi0 hi1 hk0 hkn' p3.out (.tail _ (List.mem_append_right _ mT.out)) (A8 fun W hW=>(hW.cell _ _ _ (.head _) (i*2)).trans p2.out) (A8 fun W hW=>(hW.cell _ _ _ (.head _) (i*2)).trans p2.out) hw (A8 (hM.out.1.pull p1.out)) rfl rfl rfl rfl rfl (by kernel_rfl) ?_
   intro xx W5 hM5
   simp only [sets,List.foldl_cons,List.foldl_nil,A5,A6]
   have hs:=A8 (hM.out.2.setK hat.out p1.out k (gi l k*f))
   replace hM5:=A8 (hM5.out.push p1.out)
   rw [List.set_set,←Ih (h:=fun q=>gi l q*f)] at hs
   clear hM hat p1 p2 p3 y0 hw
   go_wp2_with fail
   go_roundw
   case rel=>exact ⟨k+1,_,by go_num,by omega,A8 ⟨hM5.out,hs.out⟩⟩
   case measure=>simp [intOf];omega
theorem eq_l0 {Q:Exit→Act→World→Prop} {u0 u2 u3 u4 u5 u6 u7 u8 u9 u10 u11 u12 u13 u14 u15 u18 u19 u20 u21 u22 u23 u24 u25 u26 u27 u28 u29 u30 u31 u32 u33 u34 u35 u36 u37 u38 u39 u40 u41 u42 u43 u44 u45 u46 u47 u48 u49 u50 u51 u52 u53 u54 u55 u56 u57 u58 u59 u60 u61 u62 u63 u64 u65 u66 u67 u68 u69 u70 u71 u72 u73 u74 u75 u76 u77 u78 u79 u80 u81 u82 u83 u84 u85 u86 u87 u88 u89 u90 u91 u92 u93 u94 u95 u96 u97 u98 u99 u100 u101 u102 u103 u104 u105 u106 u107 u108 u109 u110 u111 u112 u113 u114 u115 u116 u117 u118 u119 u120 u121 u122 u123 u124 u125 u126 u127 u128 u129 u130 u131 u132 u133 u134 u135 u136 u137 u138 u139 u140 u141 u142 u143 u144 u145 u146 u147 u148 u149 u150 u151 u152 u153 u154 u155 u156 u157 u158 u159 u160 u161 u162 u163 u164 u165 u166 u167 u168 u169 u170 u171 u172 u173 u174 u175 u176 u177 u178 u179 u180 u181 u182 u183 u184 u185 u186 u187 u188 u189 u190 u191 u192 u193 u194 u195 u196 u197 u198 u199 u200 u201 u202 u203 u204 u205 u206 u207 u208 u209 u210 u211 u212 u213 u214 u215 u216 u217 u218 u219 u220 u221 u222 u223 u224 u225 u226 u227 u228 u229 u230 u231 u232 u233 u234 u235 u236 u237 u238 u239 u240 u241 u242 u243 u244 u245 u246 u247 u248 u249 u250 u251 u252 u253 u254 u255 u256 u257 u258 u259 u260 u261 u262 u263 u264 u265 u266 u267 u268 u269 u270 u271 u272 u273 u274 u275 u276:Value} {bT B m cap n fn fk:Nat} {fa:Option Addr} {factors:List Int} {rows:List (List Int×Int)} {cs0:Array Value} {fs0:BLs} {w W0:World} {L:BLs} {R:List RowD} (hm:Hid (m=rows.length∧m≤1000)) (hn:Hid (n≤1000)) (hs:Hid (SmallR n 1000 1000 rows)) (hfn:Hid (fn=factors.length)) (hrow:Hid (Row0 w fa fn factors)) (hf:Hid (∀ k,Fits (gi factors k))) (mT:Hid ((bT,#[.int .i64 n,.slice (some ⟨B,0,none⟩) m cap],27)∈L)) (h0:Hid (Mem w ((B,cs0,60) :: (fs0++L)) R W0∧SysB B cap cs0 fs0 rows)) {body:Code} (hbody:getLoop Tryz.f6.body 0=some body)
  (hQ:∀ (cs:Array Value) (fs:BLs) (v17 v18 v19 v42 v43 v44 v45 v46 v47 v48 v49 v50 v51 v52 v53 v54 v55 v56 v57 v58 v59 v60 v61 v62 v63 v64 v65 v66 v67 v68 v69 v70 v71 v72 v73 v74 v75 v76 v77 v78 v79 v80 v81 v82 v83 v84 v85 v86 v87 v88 v89 v90 v91 v92 v93 v94 v95 v96 v97 v98:Value) (W':World),Hid (Mem w ((B,cs,60) :: (fs++L)) R W'∧SysB B cap cs fs (mulRows rows (mulF factors)))→Q (.exit 0) { tmps:=List.toArray (u0::.slice fa fn fk::u2::u3::u4::u5::u6::u7::u8::u9::u10::u11::u12::u13::u14::u15::.pointer (some ⟨bT,0,none⟩)::v17::v18::v19::u20::u21::u22::u23::u24::u25::u26::u27::u28::u29::u30::u31::u32::u33::u34::u35::u36::u37::u38::u39::u40::u41::v42::v43::v44::v45::v46::v47::v48::v49::v50::v51::v52::v53::v54::v55::v56::v57::v58::v59::v60::v61::v62::v63::v64::v65::v66::v67::v68::v69::v70::v71::v72::v73::v74::v75::v76::v77::v78::v79::v80::v81::v82::v83::v84::v85::v86::v87::v88::v89::v90::v91::v92::v93::v94::v95::v96::v97::v98::u99::u100::u101::u102::u103::u104::u105::u106::u107::u108::u109::u110::u111::u112::u113::u114::u115::u116::u117::u118::u119::u120::u121::u122::u123::u124::u125::u126::u127::u128::u129::u130::u131::u132::u133::u134::u135::u136::u137::u138::u139::u140::u141::u142::u143::u144::u145::u146::u147::u148::u149::u150::u151::u152::u153::u154::u155::u156::u157::u158::u159::u160::u161::u162::u163::u164::u165::u166::u167::u168::u169::u170::u171::u172::u173::u174::u175::u176::u177::u178::u179::u180::u181::u182::u183::u184::u185::u186::u187::u188::u189::u190::u191::u192::u193::u194::u195::u196::u197::u198::u199::u200::u201::u202::u203::u204::u205::u206::u207::u208::u209::u210::u211::u212::u213::u214::u215::u216::u217::u218::u219::u220::u221::u222::u223::u224::u225::u226::u227::u228::u229::u230::u231::u232::u233::u234::u235::u236::u237::u238::u239::u240::u241::u242::u243::u244::u245::u246::u247::u248::u249::u250::u251::u252::u253::u254::u255::u256::u257::u258::u259::u260::u261::u262::u263::u264::u265::u266::u267::u268::u269::u270::u271::u272::u273::u274::u275::u276::[]),defers:=[] } W') :
  (Code.loop body).wp Tryz.prog Q { tmps:=List.toArray (u0::.slice fa fn fk::u2::u3::u4::u5::u6::u7::u8::u9::u10::u11::u12::u13::u14::u15::.pointer (some ⟨bT,0,none⟩)::.int .i64 0::u18::u19::u20::u21::u22::u23::u24::u25::u26::u27::u28::u29::u30::u31::u32::u33::u34::u35::u36::u37::u38::u39::u40::u41::u42::u43::u44::u45::u46::u47::u48::u49::u50::u51::u52::u53::u54::u55::u56::u57::u58::u59::u60::u61::u62::u63::u64::u65::u66::u67::u68::u69::u70::u71::u72::u73::u74::u75::u76::u77::u78::u79::u80::u81::u82::u83::u84::u85::u86::u87::u88::u89::u90::u91::u92::u93::u94::u95::u96::u97::u98::u99::u100::u101::u102::u103::u104::u105::u106::u107::u108::u109::u110::u111::u112::u113::u114::u115::u116::u117::u118::u119::u120::u121::u122::u123::u124::u125::u126::u127::u128::u129::u130::u131::u132::u133::u134::u135::u136::u137::u138::u139::u140::u141::u142::u143::u144::u145::u146::u147::u148::u149::u150::u151::u152::u153::u154::u155::u156::u157::u158::u159::u160::u161::u162::u163::u164::u165::u166::u167::u168::u169::u170::u171::u172::u173::u174::u175::u176::u177::u178::u179::u180::u181::u182::u183::u184::u185::u186::u187::u188::u189::u190::u191::u192::u193::u194::u195::u196::u197::u198::u199::u200::u201::u202::u203::u204::u205::u206::u207::u208::u209::u210::u211::u212::u213::u214::u215::u216::u217::u218::u219::u220::u221::u222::u223::u224::u225::u226::u227::u228::u229::u230::u231::u232::u233::u234::u235::u236::u237::u238::u239::u240::u241::u242::u243::u244::u245::u246::u247::u248::u249::u250::u251::u252::u253::u254::u255::u256::u257::u258::u259::u260::u261::u262::u263::u264::u265::u266::u267::u268::u269::u270::u271::u272::u273::u274::u275::u276::[]),defers:=[] } W0:=by
 obtain rfl:=Option.some.inj (hbody.symm.trans (rfl:getLoop Tryz.f6.body 0=some _))
 clear hbody
 replace hQ:=A8 hQ
 go_loopw [17] (fun s wr=>∃ (i:Nat) (cs:Array Value) (fs:BLs),s=.int .i64 i∧i≤m∧Hid (Mem w ((B,cs,60) :: (fs++L)) R wr∧SysB B cap cs fs (upTo rows (fun i r=>mulR (mulF factors i) r) i))) (fun s _=>m-(intOf s).toNat)
 case atStart=>exact ⟨0,cs0,fs0,rfl,by omega,A8 ⟨h0.out.1,by rw [E7];exact h0.out.2⟩⟩
 case round =>
  clear h0
  obtain ⟨i,cs,fs,rfl,hi,hM⟩:=hrel
  have z1:=(hM.out.1.cell _ _ _ (.tail _ (List.mem_append_right _ mT.out)) 1).trans (show _=some (Value.slice (some ⟨B,0,none⟩) m cap) from rfl)
  by_cases him:i<m
  case neg =>
   have him':¬ (i:Int)<m:=by omega
   obtain rfl:i=m:=by omega
   go_wp2_with fail
   exact hQ.out cs fs _ _ _ _ _ _ _ _ _ _ _ _ _ _ _ _ _ _ _ _ _ _ _ _ _ _ _ _ _ _ _ _ _ _ _ _ _ _ _ _ _ _ _ _ _ _ _ _ _ _ _ _ _ _ _ _ _ _ _ _ _ (A8 ⟨hM.out.1,by have:=hM.out.2;rw [hm.out.1] at this;exact this⟩)
  case pos =>
   have him':(i:Int)<m:=by omega
   have hm9:=hm.out.2
   have hi0:(0:Int)≤i:=by omega
   have hat:=A8 (show (upTo rows (fun i r=>mulR (mulF factors i) r) i)[i]? = some ((rowOf rows i).1,(rowOf rows i).2) by rw [Ch (by rw [←hm.out.1];exact him),if_neg (by omega)])
   have hnl:=A8 (show n=(rowOf rows i).1.length∧n≤1000 from ⟨(hs.out _ (Av (by rw [←hm.out.1];exact him))).1.symm,hn.out⟩)
   have hlb:=A8 (show ∀ q,-1000≤gi (rowOf rows i).1 q∧gi (rowOf rows i).1 q≤1000 from fun q=>hs.out.gi (by rw [←hm.out.1];exact him) q (by decide))
   have hzb:=A8 (show -1000≤(rowOf rows i).2∧(rowOf rows i).2≤1000 from (hs.out _ (Av (by rw [←hm.out.1];exact him))).2.2)
   by_cases hkr:i<fn
   case pos =>
    have hkr':(i:Int)<fn:=by omega
    obtain ⟨rb,ro,rfl,hrb,hcell⟩:=hrow.out.resolve_left (by omega)
    have c0:=(hM.out.1.new (.cells #[.int .i64 (-3),.int .i64 (-2),.int .i64 (-1),.int .i64 1,.int .i64 2,.int .i64 5] 3)).old hrb (hcell i hkr)
    replace hrow:=A8 (⟨hrb,hcell⟩:_∧_)
    clear hrb hcell
    have p1:=Aw (c:=gi factors i) (m:=6) (by decide)
    have p2:=BH (c:=gi factors i) (m:=6) (by decide)
    obtain ⟨p,hp⟩:∃ p:Nat,pkv (gi factors i) 6=(p:Int):=⟨(pkv (gi factors i) 6).toNat,by omega⟩
    have hp6:p<6:=by omega
    have hp0:(0:Int)≤p:=by omega
    have hp6':(p:Int)<6:=by omega
    have PK:=A8 (fun W=>by have:=D7 (gi factors i) 6 (hf.out i) (by decide) (by decide) W;rwa [hp] at this)
    have hfe:=A8 (show mulF factors i=gi [-3,-2,-1,1,2,5] p by unfold mulF;rw [if_pos (by rw [←hfn.out];exact hkr),hp];rfl)
    have hfb:=A8 (show -10≤gi [-3,-2,-1,1,2,5] p∧gi [-3,-2,-1,1,2,5] p≤10 by have:=tab6 hp6;omega)
    have htab:=A8 (show (#[.int .i64 (-3),.int .i64 (-2),.int .i64 (-1),.int .i64 1,.int .i64 2,.int .i64 5]:Array Value)[p]? = some (.int .i64 (gi [-3,-2,-1,1,2,5] p)) by
     match p,hp6 with
     | 0,_=>rfl
     | 1,_=>rfl
     | 2,_=>rfl
     | 3,_=>rfl
     | 4,_=>rfl
     | 5,_=>rfl)
    clear p1 p2 hp hp6
    generalize gi factors i=zk at *
    generalize gi [-3,-2,-1,1,2,5] p=f at *
    go_wp2_with fail
    refine Calls.mono (PK.out _) ?_
    rintro e w1 ⟨rfl,hb⟩
    have hT:=(hM.out.1.add #[.int .i64 (-3),.int .i64 (-2),.int .i64 (-1),.int .i64 1,.int .i64 2,.int .i64 5] 3).call hb
    have c1:=(hT.cell _ _ _ (.head _) p).trans htab.out
    have hM1:=A8 hT.tail
    clear hT hb c0 z1 PK htab
    go_wp2_with fail
    refine eq_l2 (bT:=bT) (B:=B) (m:=m) (cap:=cap) (i:=i) (n:=n) (f:=f) (zv:=(rowOf rows i).2) (l:=(rowOf rows i).1) (rs:=upTo rows (fun i r=>mulR (mulF factors i) r) i) (cs:=cs) (fs0:=fs) (w:=w) (L:=L) (R:=R) hnl (A8 him) hfb hlb hat mT (A8 ⟨hM1.out,hM.out.2⟩) (by kernel_rfl) ?_
    intro fs' u19 u61 u62 u63 u64 u65 u66 u67 u68 u69 u70 u71 u72 u73 u74 u75 u76 u77 u78 u79 u80 u81 u82 u83 u84 u85 W4 hM4
    clear hM hM1 hat c1 hp0 hp6'
    have hat:=A8 (show ((upTo rows (fun i r=>mulR (mulF factors i) r) i).set i (upK (rowOf rows i).1 (fun q=>gi (rowOf rows i).1 q*f) n,(rowOf rows i).2))[i]? = some (upK (rowOf rows i).1 (fun q=>gi (rowOf rows i).1 q*f) n,(rowOf rows i).2) from List.getElem?_set_self (by rw [Bh,←hm.out.1];exact him))
    obtain ⟨_,_,_,_,hz,_⟩:=hM4.out.2.at_ hat.out
    replace hz:=A8 hz
    have hw:IntKind.i64.wrap ((rowOf rows i).2*f)=(rowOf rows i).2*f:=IntWalk.i64_in _ (by have:=Do hzb.out hfb.out;omega)
    go_upto_region 15 with fail
    refine LU (bT:=bT) (B:=B) (m:=m) (cap:=cap) (i:=i) (cs:=cs) (c:=n) (f:=f) (zv:=(rowOf rows i).2) (w:=w) (L:=fs'++L) (R:=R) hi0 him' hz.out (List.mem_append_right _ mT.out) hw (A8 hM4.out.1) rfl rfl rfl rfl (by kernel_rfl) ?_
    intro xx W5 hM5
    simp only [sets,List.foldl_cons,List.foldl_nil,A5,A6]
    have hsb:=A8 (hM4.out.2.setV hat.out ((rowOf rows i).2*f))
    rw [List.set_set] at hsb
    rw [show ((upK (rowOf rows i).1 (fun q=>gi (rowOf rows i).1 q*f) n,(rowOf rows i).2).1,(rowOf rows i).2*f)=mulR (mulF factors i) (rowOf rows i) by rw [hfe.out,hnl.out.1];rfl,←D9 (g:=fun i r=>mulR (mulF factors i) r)] at hsb
    clear hM4 hat hz hw hfe hfb hlb hzb
    go_wp2_with fail
    go_roundw
    case rel=>exact ⟨i+1,_,fs',by go_num,by omega,A8 ⟨hM5.out,hsb.out⟩⟩
    case measure=>simp [intOf];omega
   case neg =>
    have hkr':¬ (i:Int)<fn:=by omega
    have hfe:=A8 (show mulF factors i=3 by unfold mulF;rw [if_neg (by rw [←hfn.out];exact hkr)])
    have hfb:=A8 (show (-10:Int)≤3∧(3:Int)≤10 by decide)
    go_wp2_with fail
    refine eq_l2 (bT:=bT) (B:=B) (m:=m) (cap:=cap) (i:=i) (n:=n) (f:=3) (zv:=(rowOf rows i).2) (l:=(rowOf rows i).1) (rs:=upTo rows (fun i r=>mulR (mulF factors i) r) i) (cs:=cs) (fs0:=fs) (w:=w) (L:=L) (R:=R) hnl (A8 him) hfb hlb hat mT (A8 ⟨hM.out.1,hM.out.2⟩) (by kernel_rfl) ?_
    intro fs' u19 u61 u62 u63 u64 u65 u66 u67 u68 u69 u70 u71 u72 u73 u74 u75 u76 u77 u78 u79 u80 u81 u82 u83 u84 u85 W4 hM4
    clear hM hat
    have hat:=A8 (show ((upTo rows (fun i r=>mulR (mulF factors i) r) i).set i (upK (rowOf rows i).1 (fun q=>gi (rowOf rows i).1 q*3) n,(rowOf rows i).2))[i]? = some (upK (rowOf rows i).1 (fun q=>gi (rowOf rows i).1 q*3) n,(rowOf rows i).2) from List.getElem?_set_self (by rw [Bh,←hm.out.1];exact him))
    obtain ⟨_,_,_,_,hz,_⟩:=hM4.out.2.at_ hat.out
    replace hz:=A8 hz
    have hw:IntKind.i64.wrap ((rowOf rows i).2*3)=(rowOf rows i).2*3:=IntWalk.i64_in _ (by have:=Do hzb.out hfb.out;omega)
    go_upto_region 15 with fail
    refine LU (bT:=bT) (B:=B) (m:=m) (cap:=cap) (i:=i) (cs:=cs) (c:=n) (f:=3) (zv:=(rowOf rows i).2) (w:=w) (L:=fs'++L) (R:=R) hi0 him' hz.out (List.mem_append_right _ mT.out) hw (A8 hM4.out.1) rfl rfl rfl rfl (by kernel_rfl) ?_
    intro xx W5 hM5
    simp only [sets,List.foldl_cons,List.foldl_nil,A5,A6]
    have hsb:=A8 (hM4.out.2.setV hat.out ((rowOf rows i).2*3))
    rw [List.set_set] at hsb
    rw [show ((upK (rowOf rows i).1 (fun q=>gi (rowOf rows i).1 q*3) n,(rowOf rows i).2).1,(rowOf rows i).2*3)=mulR (mulF factors i) (rowOf rows i) by rw [hfe.out,hnl.out.1];rfl,←D9 (g:=fun i r=>mulR (mulF factors i) r)] at hsb
    clear hM4 hat hz hw hfe hfb hlb hzb
    go_wp2_with fail
    go_roundw
    case rel=>exact ⟨i+1,_,fs',by go_num,by omega,A8 ⟨hM5.out,hsb.out⟩⟩
    case measure=>simp [intOf];omega
def addK (i j:Nat) (rs:List (List Int×Int)) (l:List Int) (h:Nat→Int) (n:Nat) (z:Int):List (List Int×Int):=if i=j then rs else rs.set i (upK l h n,z)
theorem eq_l4 {Q:Exit→Act→World→Prop} {u0 u1 u2 u3 u4 u5 u6 u7 u8 u9 u10 u11 u12 u13 u14 u15 u17 u18 u19 u23 u24 u25 u26 u27 u28 u29 u30 u31 u32 u33 u34 u35 u36 u37 u38 u39 u40 u41 u42 u43 u44 u45 u46 u47 u48 u49 u50 u51 u52 u53 u54 u55 u56 u57 u58 u59 u60 u61 u62 u63 u64 u65 u66 u67 u68 u69 u70 u71 u72 u73 u74 u75 u76 u77 u78 u79 u80 u81 u82 u83 u84 u85 u86 u87 u88 u89 u90 u91 u92 u93 u94 u95 u96 u97 u98 u99 u100 u101 u102 u103 u104 u105 u106 u107 u108 u109 u110 u111 u112 u113 u114 u115 u116 u117 u118 u119 u120 u121 u122 u123 u124 u125 u126 u127 u128 u129 u130 u131 u132 u133 u134 u135 u136 u137 u138 u139 u140 u141 u142 u143 u144 u145 u146 u147 u148 u149 u150 u151 u152 u153 u154 u155 u156 u157 u158 u159 u160 u161 u162 u163 u164 u165 u166 u167 u168 u169 u170 u171 u172 u173 u174 u175 u176 u177 u178 u179 u180 u181 u182 u183 u184 u185 u186 u187 u188 u189 u190 u191 u192 u193 u194 u195 u196 u197 u198 u199 u200 u201 u202 u203 u204 u205 u206 u207 u208 u209 u210 u211 u212 u213 u214 u215 u216 u217 u218 u219 u220 u221 u222 u223 u224 u225 u226 u227 u228 u229 u230 u231 u232 u233 u234 u235 u236 u237 u238 u239 u240 u241 u242 u243 u244 u245 u246 u247 u248 u249 u250 u251 u252 u253 u254 u255 u256 u257 u258 u259 u260 u261 u262 u263 u264 u265 u266 u267 u268 u269 u270 u271 u272 u273 u274 u275 u276:Value} {bT B m cap i j n:Nat} {zv zw:Int} {l l2:List Int} {rs:List (List Int×Int)} {cs:Array Value} {fs0:BLs} {w W0:World} {L:BLs} {R:List RowD} (hn:Hid (n=l.length∧n=l2.length∧n≤1000)) (him:Hid (i<m∧j<m)) (hl:Hid (∀ q,(-10000≤gi l q∧gi l q≤10000)∧-10000≤gi l2 q∧gi l2 q≤10000)) (hr:Hid (rs[i]? = some (l,zv))) (hr2:Hid (rs[j]? = some (l2,zw))) (mT:Hid ((bT,#[.int .i64 n,.slice (some ⟨B,0,none⟩) m cap],27)∈L)) (h0:Hid (Mem w ((B,cs,60) :: (fs0++L)) R W0∧SysB B cap cs fs0 rs)) {body:Code} (hbody:getLoop Tryz.f6.body 4=some body)
  (hQ:∀ (fs:BLs) (v22 v109 v110 v111 v112 v113 v114 v115 v116 v117 v118 v119 v120 v121 v122 v123 v124 v125 v126 v127 v128 v129 v130 v131 v132 v133 v134 v135 v136 v137 v138 v139 v140 v141 v142 v143 v144 v145 v146:Value) (W':World),Hid (Mem w ((B,cs,60) :: (fs++L)) R W'∧SysB B cap cs fs (addK i j rs l (fun q=>gi l q+gi l2 q) n zv))→Q (.exit 4) { tmps:=List.toArray (u0::u1::u2::u3::u4::u5::u6::u7::u8::u9::u10::u11::u12::u13::u14::u15::.pointer (some ⟨bT,0,none⟩)::u17::u18::u19::.int .i64 i::.int .i64 j::v22::u23::u24::u25::u26::u27::u28::u29::u30::u31::u32::u33::u34::u35::u36::u37::u38::u39::u40::u41::u42::u43::u44::u45::u46::u47::u48::u49::u50::u51::u52::u53::u54::u55::u56::u57::u58::u59::u60::u61::u62::u63::u64::u65::u66::u67::u68::u69::u70::u71::u72::u73::u74::u75::u76::u77::u78::u79::u80::u81::u82::u83::u84::u85::u86::u87::u88::u89::u90::u91::u92::u93::u94::u95::u96::u97::u98::u99::u100::u101::u102::u103::u104::u105::u106::u107::u108::v109::v110::v111::v112::v113::v114::v115::v116::v117::v118::v119::v120::v121::v122::v123::v124::v125::v126::v127::v128::v129::v130::v131::v132::v133::v134::v135::v136::v137::v138::v139::v140::v141::v142::v143::v144::v145::v146::u147::u148::u149::u150::u151::u152::u153::u154::u155::u156::u157::u158::u159::u160::u161::u162::u163::u164::u165::u166::u167::u168::u169::u170::u171::u172::u173::u174::u175::u176::u177::u178::u179::u180::u181::u182::u183::u184::u185::u186::u187::u188::u189::u190::u191::u192::u193::u194::u195::u196::u197::u198::u199::u200::u201::u202::u203::u204::u205::u206::u207::u208::u209::u210::u211::u212::u213::u214::u215::u216::u217::u218::u219::u220::u221::u222::u223::u224::u225::u226::u227::u228::u229::u230::u231::u232::u233::u234::u235::u236::u237::u238::u239::u240::u241::u242::u243::u244::u245::u246::u247::u248::u249::u250::u251::u252::u253::u254::u255::u256::u257::u258::u259::u260::u261::u262::u263::u264::u265::u266::u267::u268::u269::u270::u271::u272::u273::u274::u275::u276::[]),defers:=[] } W') :
  (Code.loop body).wp Tryz.prog Q { tmps:=List.toArray (u0::u1::u2::u3::u4::u5::u6::u7::u8::u9::u10::u11::u12::u13::u14::u15::.pointer (some ⟨bT,0,none⟩)::u17::u18::u19::.int .i64 i::.int .i64 j::.int .i64 0::u23::u24::u25::u26::u27::u28::u29::u30::u31::u32::u33::u34::u35::u36::u37::u38::u39::u40::u41::u42::u43::u44::u45::u46::u47::u48::u49::u50::u51::u52::u53::u54::u55::u56::u57::u58::u59::u60::u61::u62::u63::u64::u65::u66::u67::u68::u69::u70::u71::u72::u73::u74::u75::u76::u77::u78::u79::u80::u81::u82::u83::u84::u85::u86::u87::u88::u89::u90::u91::u92::u93::u94::u95::u96::u97::u98::u99::u100::u101::u102::u103::u104::u105::u106::u107::u108::u109::u110::u111::u112::u113::u114::u115::u116::u117::u118::u119::u120::u121::u122::u123::u124::u125::u126::u127::u128::u129::u130::u131::u132::u133::u134::u135::u136::u137::u138::u139::u140::u141::u142::u143::u144::u145::u146::u147::u148::u149::u150::u151::u152::u153::u154::u155::u156::u157::u158::u159::u160::u161::u162::u163::u164::u165::u166::u167::u168::u169::u170::u171::u172::u173::u174::u175::u176::u177::u178::u179::u180::u181::u182::u183::u184::u185::u186::u187::u188::u189::u190::u191::u192::u193::u194::u195::u196::u197::u198::u199::u200::u201::u202::u203::u204::u205::u206::u207::u208::u209::u210::u211::u212::u213::u214::u215::u216::u217::u218::u219::u220::u221::u222::u223::u224::u225::u226::u227::u228::u229::u230::u231::u232::u233::u234::u235::u236::u237::u238::u239::u240::u241::u242::u243::u244::u245::u246::u247::u248::u249::u250::u251::u252::u253::u254::u255::u256::u257::u258::u259::u260::u261::u262::u263::u264::u265::u266::u267::u268::u269::u270::u271::u272::u273::u274::u275::u276::[]),defers:=[] } W0:=by
 obtain rfl:=Option.some.inj (hbody.symm.trans (rfl:getLoop Tryz.f6.body 4=some _))
 clear hbody
 replace hQ:=A8 hQ
 by_cases hij:i=j
 case pos =>
  subst hij
  have hnj:((i:Int) != (i:Int))=false:=by simp
  go_loopw [22] (fun s wr=>s=.int .i64 0∧Hid (Mem w ((B,cs,60) :: (fs0++L)) R wr)) (fun s _=>0)
  case atStart=>exact ⟨rfl,A8 h0.out.1⟩
  case round =>
   obtain ⟨rfl,hM⟩:=hrel
   have y0:=(hM.out.cell _ _ _ (.tail _ (List.mem_append_right _ mT.out)) 0).trans (show _=some (Value.int .i64 n) from rfl)
   by_cases hn0:(0:Int)<n
   case pos =>
    go_wp2_with fail
    exact hQ.out fs0 _ _ _ _ _ _ _ _ _ _ _ _ _ _ _ _ _ _ _ _ _ _ _ _ _ _ _ _ _ _ _ _ _ _ _ _ _ _ _ _ (A8 ⟨hM.out,by unfold addK;rw [if_pos rfl];exact h0.out.2⟩)
   case neg =>
    go_wp2_with fail
    exact hQ.out fs0 _ _ _ _ _ _ _ _ _ _ _ _ _ _ _ _ _ _ _ _ _ _ _ _ _ _ _ _ _ _ _ _ _ _ _ _ _ _ _ _ (A8 ⟨hM.out,by unfold addK;rw [if_pos rfl];exact h0.out.2⟩)
 case neg =>
  have hnj:((i:Int) != (j:Int))=true:=by simp;omega
  go_loopw [22] (fun s wr=>∃ (k:Nat) (fs:BLs),s=.int .i64 k∧k≤n∧Hid (Mem w ((B,cs,60) :: (fs++L)) R wr∧SysB B cap cs fs (rs.set i (upK l (fun q=>gi l q+gi l2 q) k,zv)))) (fun s _=>n-(intOf s).toNat)
  case atStart=>exact ⟨0,fs0,rfl,by omega,A8 ⟨h0.out.1,by rw [Ig,CA hr.out];exact h0.out.2⟩⟩
  case round =>
   clear h0
   obtain ⟨k,fs,rfl,hk,hM⟩:=hrel
   have y0:=(hM.out.1.cell _ _ _ (.tail _ (List.mem_append_right _ mT.out)) 0).trans (show _=some (Value.int .i64 n) from rfl)
   by_cases hkn:k<n
   case neg =>
    have hkn':¬ (k:Int)<n:=by omega
    obtain rfl:k=n:=by omega
    go_wp2_with fail
    exact hQ.out fs _ _ _ _ _ _ _ _ _ _ _ _ _ _ _ _ _ _ _ _ _ _ _ _ _ _ _ _ _ _ _ _ _ _ _ _ _ _ _ _ (A8 ⟨hM.out.1,by unfold addK;rw [if_neg hij];exact hM.out.2⟩)
   case pos =>
    have hkn':(k:Int)<n:=by omega
    have hn9:=hn.out.2.2
    have hi0:(0:Int)≤i:=by omega
    have hj0:(0:Int)≤j:=by omega
    have hi1:(i:Int)<m:=by have:=him.out;omega
    have hj1:(j:Int)<m:=by have:=him.out;omega
    have hk0:(0:Int)≤k:=by omega
    have hat:=A8 (show (rs.set i (upK l (fun q=>gi l q+gi l2 q) k,zv))[i]? = some (upK l (fun q=>gi l q+gi l2 q) k,zv) from List.getElem?_set_self (List.getElem?_eq_some_iff.1 hr.out).1)
    have hat2:=A8 (show (rs.set i (upK l (fun q=>gi l q+gi l2 q) k,zv))[j]? = some (l2,zw) from (List.getElem?_set_ne hij).trans hr2.out)
    obtain ⟨pb,ds,cp,p1,p2,p3⟩:=hM.out.2.coef hat.out
    have p3:=p3 k (by rw [B7,←hn.out.1];exact hkn)
    rw [GJ (by rw [←hn.out.1];exact hkn),if_neg (by omega)] at p3
    rw [B7,←hn.out.1] at p2
    obtain ⟨qb,dq,cq,q1,q2,q3⟩:=hM.out.2.coef hat2.out
    have q3:=q3 k (by show k<l2.length;rw [←hn.out.2.1];exact hkn)
    rw [show (l2,zw).1.length=n from hn.out.2.1.symm] at q2
    have q1:(qb,dq,(3:TypeId))∈fs.eraseIdx i:=KP q1 (Ne.symm hij)
    replace p1:=A8 p1;replace p2:=A8 p2;replace p3:=A8 p3;replace q1:=A8 q1;replace q2:=A8 q2;replace q3:=A8 q3
    have hw:IntKind.i64.wrap (gi l k+gi l2 k)=gi l k+gi l2 k:=IntWalk.i64_in _ (by have:=hl.out k;omega)
    go_upto_region 21 with fail
    refine eq_r21 (bT:=bT) (B:=B) (m:=m) (cap:=cap) (i:=i) (j:=j) (k:=k) (pb:=pb) (n:=n) (cp:=cp) (qb:=qb) (n2:=n) (cp2:=cq) (ds:=ds) (c:=n) (y:=gi l k) (y2:=gi l2 k) (w:=w) (L:=(B,cs,60) :: (fs.eraseIdx i++L)) (R:=R) hi0 hi1 hj0 hj1 hk0 hkn' hkn' p3.out (.tail _ (List.mem_append_right _ mT.out)) (A8 fun W hW=>(hW.cell _ _ _ (.head _) (i*2)).trans p2.out) (A8 fun W hW=>(hW.cell _ _ _ (.head _) (i*2)).trans p2.out) (A8 fun W hW=>(hW.cell _ _ _ (.head _) (j*2)).trans q2.out) (A8 fun W hW=>(hW.cell _ _ _ (.tail _ (List.mem_append_left _ q1.out)) k).trans q3.out) hw (A8 (hM.out.1.pull p1.out)) rfl rfl rfl rfl rfl (by kernel_rfl) ?_
    intro xx W5 hM5
    simp only [sets,List.foldl_cons,List.foldl_nil,A5,A6]
    have hs:=A8 (hM.out.2.setK hat.out p1.out k (gi l k+gi l2 k))
    replace hM5:=A8 (hM5.out.push p1.out)
    rw [List.set_set,←Ih (h:=fun q=>gi l q+gi l2 q)] at hs
    clear hM hat hat2 p1 p2 p3 q1 q2 q3 y0 hw
    go_wp2_with fail
    go_roundw
    case rel=>exact ⟨k+1,_,by go_num,by omega,A8 ⟨hM5.out,hs.out⟩⟩
    case measure=>simp [intOf];omega
theorem eq_l6 {Q:Exit→Act→World→Prop} {u0 u1 u2 u3 u5 u6 u7 u8 u9 u10 u11 u12 u13 u14 u16 u17 u18 u19 u20 u21 u22 u26 u27 u28 u29 u30 u31 u32 u33 u34 u35 u36 u37 u38 u39 u40 u41 u42 u43 u44 u45 u46 u47 u48 u49 u50 u51 u52 u53 u54 u55 u56 u57 u58 u59 u60 u61 u62 u63 u64 u65 u66 u67 u68 u69 u70 u71 u72 u73 u74 u75 u76 u77 u78 u79 u80 u81 u82 u83 u84 u85 u86 u87 u88 u89 u90 u91 u92 u93 u94 u95 u96 u97 u98 u99 u100 u101 u102 u103 u104 u105 u106 u107 u108 u109 u110 u111 u112 u113 u114 u115 u116 u117 u118 u119 u120 u121 u122 u123 u124 u125 u126 u127 u128 u129 u130 u131 u132 u133 u134 u135 u136 u137 u138 u139 u140 u141 u142 u143 u144 u145 u146 u147 u148 u149 u150 u151 u152 u153 u154 u155 u156 u157 u158 u159 u160 u161 u162 u163 u164 u165 u166 u167 u168 u169 u170 u171 u172 u173 u174 u175 u176 u177 u178 u179 u180 u181 u182 u183 u184 u185 u186 u187 u188 u189 u190 u191 u192 u193 u194 u195 u196 u197 u198 u199 u200 u201 u202 u203 u204 u205 u206 u207 u208 u209 u210 u211 u212 u213 u214 u215 u216 u217 u218 u219 u220 u221 u222 u223 u224 u225 u226 u227 u228 u229 u230 u231 u232 u233 u234 u235 u236 u237 u238 u239 u240 u241 u242 u243 u244 u245 u246 u247 u248 u249 u250 u251 u252 u253 u254 u255 u256 u257 u258 u259 u260 u261 u262 u263 u264 u265 u266 u267 u268 u269 u270 u271 u272 u273 u274 u275 u276:Value} {bS bT bZ B D m cap cap2 mc n:Nat} {a:Option Addr} {by_ p b:Int} {rows:List (List Int×Int)} {cs0 ds0:Array Value} {fs gs:BLs} {w W0:World} {L:BLs} {R:List RowD} (hm:Hid (m=rows.length∧m≤1000)) (hs:Hid (SmallR n 1000 1000 rows)) (hb:Hid (IntKind.i64.wrap (1+p)=b∧-1000≤b∧b≤1000)) (PK:Hid (∀ W,Calls Tryz.prog 24 #[.int .i64 by_,.int .i64 1000] W (Rets W (.int .i64 p)))) (hS:Hid (∀ W,Mem w L R W→W.cell? ⟨bS,1,none⟩=some (.slice a m mc))) (mT:Hid ((bT,#[.int .i64 n,.slice (some ⟨B,0,none⟩) m cap],27)∈L)) (mZ:Hid ((bZ,#[.int .i64 n,.slice (some ⟨D,0,none⟩) m cap2],27)∈L)) (h0:Hid (Mem w ((B,cs0,60) :: (D,ds0,60) :: L) R W0∧SysB B cap cs0 fs rows∧SysB D cap2 ds0 gs rows)) {body:Code} (hbody:getLoop Tryz.f6.body 6=some body)
  (hQ:∀ (cs ds:Array Value) (v25 v172 v173 v174 v175 v176 v177 v178 v179 v180 v181 v182 v183 v184 v185 v186 v187 v188 v189 v190 v191 v192 v193 v194 v195 v196 v197 v198:Value) (W':World),Hid (Mem w ((B,cs,60) :: (D,ds,60) :: L) R W'∧SysB B cap cs fs (valRows rows b)∧SysB D cap2 ds gs (valRows rows 0))→Q (.exit 6) { tmps:=List.toArray (u0::u1::u2::u3::.int .i64 by_::u5::u6::u7::u8::u9::u10::u11::u12::u13::u14::.pointer (some ⟨bS,0,none⟩)::u16::u17::u18::u19::u20::u21::u22::.pointer (some ⟨bT,0,none⟩)::.pointer (some ⟨bZ,0,none⟩)::v25::u26::u27::u28::u29::u30::u31::u32::u33::u34::u35::u36::u37::u38::u39::u40::u41::u42::u43::u44::u45::u46::u47::u48::u49::u50::u51::u52::u53::u54::u55::u56::u57::u58::u59::u60::u61::u62::u63::u64::u65::u66::u67::u68::u69::u70::u71::u72::u73::u74::u75::u76::u77::u78::u79::u80::u81::u82::u83::u84::u85::u86::u87::u88::u89::u90::u91::u92::u93::u94::u95::u96::u97::u98::u99::u100::u101::u102::u103::u104::u105::u106::u107::u108::u109::u110::u111::u112::u113::u114::u115::u116::u117::u118::u119::u120::u121::u122::u123::u124::u125::u126::u127::u128::u129::u130::u131::u132::u133::u134::u135::u136::u137::u138::u139::u140::u141::u142::u143::u144::u145::u146::u147::u148::u149::u150::u151::u152::u153::u154::u155::u156::u157::u158::u159::u160::u161::u162::u163::u164::u165::u166::u167::u168::u169::u170::u171::v172::v173::v174::v175::v176::v177::v178::v179::v180::v181::v182::v183::v184::v185::v186::v187::v188::v189::v190::v191::v192::v193::v194::v195::v196::v197::v198::u199::u200::u201::u202::u203::u204::u205::u206::u207::u208::u209::u210::u211::u212::u213::u214::u215::u216::u217::u218::u219::u220::u221::u222::u223::u224::u225::u226::u227::u228::u229::u230::u231::u232::u233::u234::u235::u236::u237::u238::u239::u240::u241::u242::u243::u244::u245::u246::u247::u248::u249::u250::u251::u252::u253::u254::u255::u256::u257::u258::u259::u260::u261::u262::u263::u264::u265::u266::u267::u268::u269::u270::u271::u272::u273::u274::u275::u276::[]),defers:=[] } W') :
  (Code.loop body).wp Tryz.prog Q { tmps:=List.toArray (u0::u1::u2::u3::.int .i64 by_::u5::u6::u7::u8::u9::u10::u11::u12::u13::u14::.pointer (some ⟨bS,0,none⟩)::u16::u17::u18::u19::u20::u21::u22::.pointer (some ⟨bT,0,none⟩)::.pointer (some ⟨bZ,0,none⟩)::.int .i64 0::u26::u27::u28::u29::u30::u31::u32::u33::u34::u35::u36::u37::u38::u39::u40::u41::u42::u43::u44::u45::u46::u47::u48::u49::u50::u51::u52::u53::u54::u55::u56::u57::u58::u59::u60::u61::u62::u63::u64::u65::u66::u67::u68::u69::u70::u71::u72::u73::u74::u75::u76::u77::u78::u79::u80::u81::u82::u83::u84::u85::u86::u87::u88::u89::u90::u91::u92::u93::u94::u95::u96::u97::u98::u99::u100::u101::u102::u103::u104::u105::u106::u107::u108::u109::u110::u111::u112::u113::u114::u115::u116::u117::u118::u119::u120::u121::u122::u123::u124::u125::u126::u127::u128::u129::u130::u131::u132::u133::u134::u135::u136::u137::u138::u139::u140::u141::u142::u143::u144::u145::u146::u147::u148::u149::u150::u151::u152::u153::u154::u155::u156::u157::u158::u159::u160::u161::u162::u163::u164::u165::u166::u167::u168::u169::u170::u171::u172::u173::u174::u175::u176::u177::u178::u179::u180::u181::u182::u183::u184::u185::u186::u187::u188::u189::u190::u191::u192::u193::u194::u195::u196::u197::u198::u199::u200::u201::u202::u203::u204::u205::u206::u207::u208::u209::u210::u211::u212::u213::u214::u215::u216::u217::u218::u219::u220::u221::u222::u223::u224::u225::u226::u227::u228::u229::u230::u231::u232::u233::u234::u235::u236::u237::u238::u239::u240::u241::u242::u243::u244::u245::u246::u247::u248::u249::u250::u251::u252::u253::u254::u255::u256::u257::u258::u259::u260::u261::u262::u263::u264::u265::u266::u267::u268::u269::u270::u271::u272::u273::u274::u275::u276::[]),defers:=[] } W0:=by
 obtain rfl:=Option.some.inj (hbody.symm.trans (rfl:getLoop Tryz.f6.body 6=some _))
 clear hbody
 replace hQ:=A8 hQ
 go_loopw [25] (fun s wr=>∃ (i:Nat) (cs ds:Array Value),s=.int .i64 i∧i≤m∧Hid (Mem w ((B,cs,60) :: (D,ds,60) :: L) R wr∧SysB B cap cs fs (upTo rows (fun _ r=>(r.1,r.2*b)) i)∧SysB D cap2 ds gs (upTo rows (fun _ r=>(r.1,r.2*0)) i))) (fun s _=>m-(intOf s).toNat)
 case atStart=>exact ⟨0,cs0,ds0,rfl,by omega,A8 ⟨h0.out.1,by rw [E7];exact h0.out.2.1,by rw [E7];exact h0.out.2.2⟩⟩
 case round =>
  clear h0
  obtain ⟨i,cs,ds,rfl,hi,hM⟩:=hrel
  have z1:=hS.out _ hM.out.1.tail.tail
  by_cases him:i<m
  case neg =>
   have him':¬ (i:Int)<m:=by omega
   obtain rfl:i=m:=by omega
   go_wp2_with fail
   exact hQ.out cs ds _ _ _ _ _ _ _ _ _ _ _ _ _ _ _ _ _ _ _ _ _ _ _ _ _ _ _ _ _ (A8 ⟨hM.out.1,by have:=hM.out.2.1;rw [hm.out.1] at this;exact this,by have:=hM.out.2.2;rw [hm.out.1] at this;exact this⟩)
  case pos =>
   have him':(i:Int)<m:=by omega
   have hm9:=hm.out.2
   have hi0:(0:Int)≤i:=by omega
   have hat:∀ b:Int,(upTo rows (fun _ r=>(r.1,r.2*b)) i)[i]? = some ((rowOf rows i).1,(rowOf rows i).2):=fun b=>by rw [Ch (by rw [←hm.out.1];exact him),if_neg (by omega)]
   replace hat:=A8 hat
   have hzb:=A8 (show -1000≤(rowOf rows i).2∧(rowOf rows i).2≤1000 from (hs.out _ (Av (by rw [←hm.out.1];exact him))).2.2)
   obtain ⟨_,_,_,_,c1,_⟩:=hM.out.2.1.at_ (hat.out b)
   obtain ⟨_,_,_,_,c2,_⟩:=hM.out.2.2.at_ (hat.out 0)
   replace c1:=A8 c1;replace c2:=A8 c2
   have hs1:=A8 (hM.out.2.1.setV (hat.out b) ((rowOf rows i).2*b))
   have hs2:=A8 (hM.out.2.2.setV (hat.out 0) 0)
   rw [←D9 (g:=fun _ r=>(r.1,r.2*b))] at hs1
   rw [show (((rowOf rows i).1,(rowOf rows i).2).1,(0:Int))=((rowOf rows i).1,(rowOf rows i).2*0) by rw [Int.mul_zero],←D9 (g:=fun _ r=>(r.1,r.2*0))] at hs2
   have hw:IntKind.i64.wrap ((rowOf rows i).2*b)=(rowOf rows i).2*b:=IntWalk.i64_in _ (by have:=Do hzb.out hb.out.2;omega)
   have hM1:=A8 hM.out.1
   clear hM hat hzb
   generalize (rowOf rows i).2=zv at *
   go_upto_region 29 with fail
   refine eq_r29 (bT:=bT) (B:=B) (m:=m) (cap:=cap) (i:=i) (cs:=cs) (c:=n) (by_:=by_) (zv:=zv) (w:=w) (L:=(D,ds,60) :: L) (R:=R) hi0 him' c1.out (.tail _ mT.out) (A8 fun W _=>PK.out W) hb.out.1 hw hM1 rfl rfl rfl rfl (by kernel_rfl) ?_
   intro xx W5 hM5
   simp only [sets,List.foldl_cons,List.foldl_nil,A5,A6]
   have y1:=(hM5.out.cell _ _ _ (.tail _ (.tail _ mZ.out)) 1).trans (show _=some (Value.slice (some ⟨D,0,none⟩) m cap2) from rfl)
   have y2:=(hM5.out.cell _ _ _ (.tail _ (.head _)) (i*2+1)).trans c2.out
   have y3:=hM5.out.frozen _ _ _ (.tail _ (.head _)) (i*2+1)
   have hM6:=A8 (hM5.out.put (A:=[_]) (i*2+1) (.int .i64 0))
   clear hM1 hM5 z1 c1 c2 hw
   go_wp2_with fail
   go_roundw
   case rel=>exact ⟨i+1,_,_,by go_num,by omega,A8 ⟨hM6.out,hs1.out,hs2.out⟩⟩
   case measure=>simp [intOf];omega
theorem eq_l8 {Q:Exit→Act→World→Prop} {u0 u1 u2 u3 u4 u5 u6 u7 u8 u9 u10 u11 u12 u13 u17 u18 u19 u20 u21 u22 u23 u24 u25 u26 u27 u28 u29 u30 u31 u32 u33 u34 u35 u36 u37 u38 u39 u40 u41 u42 u43 u44 u45 u46 u47 u48 u49 u50 u51 u52 u53 u54 u55 u56 u57 u58 u59 u60 u61 u62 u63 u64 u65 u66 u67 u68 u69 u70 u71 u72 u73 u74 u75 u76 u77 u78 u79 u80 u81 u82 u83 u84 u85 u86 u87 u88 u89 u90 u91 u92 u93 u94 u95 u96 u97 u98 u99 u100 u101 u102 u103 u104 u105 u106 u107 u108 u109 u110 u111 u112 u113 u114 u115 u116 u117 u118 u119 u120 u121 u122 u123 u124 u125 u126 u127 u128 u129 u130 u131 u132 u133 u134 u135 u136 u137 u138 u139 u140 u141 u142 u143 u144 u145 u146 u147 u148 u149 u150 u151 u152 u153 u154 u155 u156 u157 u158 u159 u160 u161 u162 u163 u164 u165 u166 u167 u168 u169 u170 u171 u172 u173 u174 u175 u176 u177 u178 u179 u180 u181 u182 u183 u184 u185 u186 u187 u188 u189 u190 u191 u192 u193 u194 u195 u196 u197 u198 u199 u200 u201 u202 u203 u204 u205 u206 u207 u208 u209 u210 u211 u212 u213 u214 u215 u216 u217 u218 u219 u220 u221 u222 u223 u224 u225 u226 u227 u228 u229 u230 u231 u232 u233 u234 u235 u236 u237 u238 u239 u240 u241 u242 u243 u244 u245 u246 u247 u248 u249 u250 u251 u252 u253 u254 u255 u256 u257 u258 u259 u260 u261 u262 u266 u267 u268 u269 u270 u271 u272 u273 u274 u275 u276:Value} {bS bT g c:Nat} {sv tv:Value} {rows rows2:List (List Int×Int)} {vv:Nat→Value} {ll:Nat→List ByteArray} {dd:Nat→ByteArray} {w:World} (hE:Hid (Env w)) (hb:Hid (bS<w.heap.size∧bT<w.heap.size∧g<w.heap.size)) (hq:Hid (∀ nums den,checkL c rows2 nums den=checkL c rows nums den))
  (hS:Hid (w.cell? ⟨bS,0,none⟩=some (.int .i64 c)∧w.cell? ⟨bS,1,none⟩=some sv)) (hT:Hid (w.cell? ⟨bT,0,none⟩=some (.int .i64 c)∧w.cell? ⟨bT,1,none⟩=some tv)) (hR:Hid (SlE w sv rows∧SlE w tv rows2))
  (hA:Hid (∀ j,j<4→w.cell? ⟨g,j*2,none⟩=some (vv j)∧w.cell? ⟨g,j*2+1,none⟩=some (.string (dd j))∧SlS w (vv j) (ll j))) {body:Code} (hbody:getLoop Tryz.f6.body 8=some body)
  (hQ:∀ (v14 v35 v265 v266 v267 v268 v269 v270 v271 v272 v273 v274 v275 v276:Value) (W':World),Hid (Below w.heap.size w W')→Q (.exit 8) { tmps:=List.toArray (u0::u1::u2::u3::u4::u5::u6::u7::u8::u9::u10::u11::u12::u13::v14::.pointer (some ⟨bS,0,none⟩)::.pointer (some ⟨bT,0,none⟩)::u17::u18::u19::u20::u21::u22::u23::u24::u25::u26::u27::u28::u29::u30::u31::u32::u33::u34::v35::u36::u37::u38::u39::u40::u41::u42::u43::u44::u45::u46::u47::u48::u49::u50::u51::u52::u53::u54::u55::u56::u57::u58::u59::u60::u61::u62::u63::u64::u65::u66::u67::u68::u69::u70::u71::u72::u73::u74::u75::u76::u77::u78::u79::u80::u81::u82::u83::u84::u85::u86::u87::u88::u89::u90::u91::u92::u93::u94::u95::u96::u97::u98::u99::u100::u101::u102::u103::u104::u105::u106::u107::u108::u109::u110::u111::u112::u113::u114::u115::u116::u117::u118::u119::u120::u121::u122::u123::u124::u125::u126::u127::u128::u129::u130::u131::u132::u133::u134::u135::u136::u137::u138::u139::u140::u141::u142::u143::u144::u145::u146::u147::u148::u149::u150::u151::u152::u153::u154::u155::u156::u157::u158::u159::u160::u161::u162::u163::u164::u165::u166::u167::u168::u169::u170::u171::u172::u173::u174::u175::u176::u177::u178::u179::u180::u181::u182::u183::u184::u185::u186::u187::u188::u189::u190::u191::u192::u193::u194::u195::u196::u197::u198::u199::u200::u201::u202::u203::u204::u205::u206::u207::u208::u209::u210::u211::u212::u213::u214::u215::u216::u217::u218::u219::u220::u221::u222::u223::u224::u225::u226::u227::u228::u229::u230::u231::u232::u233::u234::u235::u236::u237::u238::u239::u240::u241::u242::u243::u244::u245::u246::u247::u248::u249::u250::u251::u252::u253::u254::u255::u256::u257::u258::u259::u260::u261::u262::.slice (some ⟨g,0,none⟩) 4 4::.int .i64 4::v265::v266::v267::v268::v269::v270::v271::v272::v273::v274::v275::v276::[]),defers:=[] } W') :
  (Code.loop body).wp Tryz.prog Q { tmps:=List.toArray (u0::u1::u2::u3::u4::u5::u6::u7::u8::u9::u10::u11::u12::u13::.bool false::.pointer (some ⟨bS,0,none⟩)::.pointer (some ⟨bT,0,none⟩)::u17::u18::u19::u20::u21::u22::u23::u24::u25::u26::u27::u28::u29::u30::u31::u32::u33::u34::u35::u36::u37::u38::u39::u40::u41::u42::u43::u44::u45::u46::u47::u48::u49::u50::u51::u52::u53::u54::u55::u56::u57::u58::u59::u60::u61::u62::u63::u64::u65::u66::u67::u68::u69::u70::u71::u72::u73::u74::u75::u76::u77::u78::u79::u80::u81::u82::u83::u84::u85::u86::u87::u88::u89::u90::u91::u92::u93::u94::u95::u96::u97::u98::u99::u100::u101::u102::u103::u104::u105::u106::u107::u108::u109::u110::u111::u112::u113::u114::u115::u116::u117::u118::u119::u120::u121::u122::u123::u124::u125::u126::u127::u128::u129::u130::u131::u132::u133::u134::u135::u136::u137::u138::u139::u140::u141::u142::u143::u144::u145::u146::u147::u148::u149::u150::u151::u152::u153::u154::u155::u156::u157::u158::u159::u160::u161::u162::u163::u164::u165::u166::u167::u168::u169::u170::u171::u172::u173::u174::u175::u176::u177::u178::u179::u180::u181::u182::u183::u184::u185::u186::u187::u188::u189::u190::u191::u192::u193::u194::u195::u196::u197::u198::u199::u200::u201::u202::u203::u204::u205::u206::u207::u208::u209::u210::u211::u212::u213::u214::u215::u216::u217::u218::u219::u220::u221::u222::u223::u224::u225::u226::u227::u228::u229::u230::u231::u232::u233::u234::u235::u236::u237::u238::u239::u240::u241::u242::u243::u244::u245::u246::u247::u248::u249::u250::u251::u252::u253::u254::u255::u256::u257::u258::u259::u260::u261::u262::.slice (some ⟨g,0,none⟩) 4 4::.int .i64 4::.int .i64 0::u266::u267::u268::u269::u270::u271::u272::u273::u274::u275::u276::[]),defers:=[] } w:=by
 obtain rfl:=Option.some.inj (hbody.symm.trans (rfl:getLoop Tryz.f6.body 8=some _))
 clear hbody
 replace hQ:=A8 hQ
 go_loopw [265] (fun s wr=>∃ (j:Nat),s=.int .i64 j∧j≤4∧Hid (Mem w [] [] wr)) (fun s _=>4-(intOf s).toNat)
 case atStart=>exact ⟨0,rfl,by omega,A8 (Mem.start w)⟩
 case round =>
  obtain ⟨j,rfl,hj,hM⟩:=hrel
  by_cases hj4:j<4
  case neg =>
   have hj4':¬ (j:Int)<4:=by omega
   go_wp2_with fail
   exact hQ.out _ _ _ _ _ _ _ _ _ _ _ _ _ _ _ (A8 hM.out.below)
  case pos =>
   have hj4':(j:Int)<4:=by omega
   have hj0:(0:Int)≤j:=by omega
   obtain ⟨a1,a2,a3⟩:=hA.out j hj4
   obtain ⟨d,hd⟩:∃ d,d=dd j:=⟨_,rfl⟩
   obtain ⟨l,hl⟩:∃ l,l=ll j:=⟨_,rfl⟩
   rw [←hd] at a2
   rw [←hl] at a3
   obtain ⟨na,nc,hv⟩:=a3.shape
   rw [hv] at a1 a3
   clear hd hl hv
   obtain ⟨nv,hv⟩:∃ v,v=Value.slice na l.length nc:=⟨_,rfl⟩
   obtain ⟨n,hn⟩:∃ n,n=l.length:=⟨_,rfl⟩
   rw [←hn] at a1 a3 hv
   clear hn
   have x0:=hM.out.old hb.out.2.2 a1
   have x1:=hM.out.old hb.out.2.2 a2
   have a3:=A8 a3
   obtain ⟨V1,bV,e1,eB,S1⟩:=hM.out.addB #[.slice na n nc,.string d] 30
   have hM1:=A8 S1
   clear S1 a1 a2
   go_upto_region 40 with fail
   rw [←e1,←eB]
   clear e1 eB x0 x1 hM
   rw [←hv] at a3 hM1
   obtain ⟨ok,hok⟩:∃ ok,ok=checkL c rows l d:=⟨_,rfl⟩
   have CH:=A8 (show ∀ W,Below w.heap.size w W→∀ {rv:Value} {rs:List (List Int×Int)},SlE w rv rs→checkL c rs l d=ok→Calls Tryz.prog 19 #[.agg #[.int .i64 c,rv],.agg #[nv,.string d]] W (Rets W (.bool ok)) from fun W hW rv rs h1 h2=>by have:=DY c rv nv rs l d W (hE.out.below hW (Aa _)) (h1.below hW) (a3.out.below hW);rwa [h2] at this)
   refine eq_r40 (bS:=bS) (bT:=bT) (bV:=bV) (sv:=sv) (tv:=tv) (nv:=nv) (d:=d) (c:=c) (ok:=ok) (L:=[]) (R:=[]) (A8 fun W hW=>(hM1.out.call hW.below).old hb.out.1 hS.out.1) (A8 fun W hW=>(hM1.out.call hW.below).old hb.out.1 hS.out.2) (A8 fun W hW=>(hM1.out.call hW.below).cell _ _ _ (.head _) 0) (A8 fun W hW=>(hM1.out.call hW.below).cell _ _ _ (.head _) 1) (A8 fun W hW=>CH.out W (hM1.out.call hW.below).below hR.out.1 hok.symm) (A8 fun W hW=>(hM1.out.call hW.below).old hb.out.2.1 hT.out.1) (A8 fun W hW=>(hM1.out.call hW.below).old hb.out.2.1 hT.out.2) (A8 fun W hW=>(hM1.out.call hW.below).cell _ _ _ (.head _) 0) (A8 fun W hW=>(hM1.out.call hW.below).cell _ _ _ (.head _) 1) (A8 fun W hW=>CH.out W (hM1.out.call hW.below).below hR.out.2 ((hq.out l d).trans hok.symm)) (A8 (Mem.start V1)) rfl rfl rfl rfl (by kernel_rfl) ?_
   intro xx W5 hx275 hM5
   simp only [sets,List.foldl_cons,List.foldl_nil,A5,A6,hx275]
   replace hM1:=A8 (hM1.out.call hM5.out.below)
   clear hM5 hx275 CH hok
   go_wp2_with fail
   go_roundw
   case rel=>exact ⟨j+1,by go_num,by omega,A8 hM1.out.tail⟩
   case measure=>simp [intOf];omega
theorem NumL.made_bd (x:NumL):SmallR x.c 9 400 x.made:=fun r hr=>by
 unfold NumL.made at hr
 obtain ⟨i,_,rfl⟩:=List.mem_map.1 hr
 refine ⟨by unfold NumL.row;simp,fun y hy=>?_,x.val_bd i⟩
 unfold NumL.row at hy
 obtain ⟨j,_,rfl⟩:=List.mem_map.1 hy
 exact x.coef_bd i j
theorem SmallR.mono {n:Nat} {K V K2 V2:Int} {rows:List (List Int×Int)} (h:SmallR n K V rows) (hK:K≤K2) (hV:V≤V2):SmallR n K2 V2 rows:=fun r hr=>by
 obtain ⟨h1,h2,h3⟩:=h r hr
 exact ⟨h1,fun x hx=>by have:=h2 x hx;omega,by omega⟩
def addIf (i j:Nat) (rs:List (List Int×Int)):List (List Int×Int):=if i=j then rs else rs.set i (addR (rowOf rs i) (rowOf rs j))
theorem KZ {i j:Nat} {rs:List (List Int×Int)}:(addIf i j rs).length=rs.length:=by
 unfold addIf;split <;> simp
theorem Il {n i j:Nat} {K V:Int} {rs:List (List Int×Int)} (h:SmallR n K V rs) (hK:0≤K) (hV:0≤V) (hi:i<rs.length) (hj:j<rs.length):SmallR n (2*K) (2*V) (addIf i j rs):=by
 unfold addIf
 split
 ·exact h.mono (by omega) (by omega)
 ·exact KO h hK hi hj
theorem Jl {n i j:Nat} {rs:List (List Int×Int)} {x:Nat→Int} {d:Int} (hi:i<rs.length) (hj:j<rs.length) (hl:(rowOf rs i).1.length=(rowOf rs j).1.length):SolZ (addIf i j rs) n x d↔SolZ rs n x d:=by
 unfold addIf
 split
 ·exact Iff.rfl
 ·exact LZ ‹_› hi hj hl
theorem Fw (x:NumL) (vc vh fv:Value) (fl:List Int) (one two by_:Int) (lv:Value) (l:List Int) (den:Int) (w:World) (hN:NumOk w x vc vh) (hf:Sl w fv fl) (hff:∀ z∈fl,Fits z) (hone:Fits one) (htwo:Fits two) (hby:Fits by_) (hl:Sl w lv l) (hlf:∀ z∈l,Fits z) (hden:Fits den) (hE0:EnvQ w) :
  Calls Tryz.prog 6 #[.agg #[.int .i64 x.cols,.int .i64 x.rows,vc,vh,.int .i64 x.miss],fv,.int .i64 one,.int .i64 two,.int .i64 by_,lv,.int .i64 den] w (Rets w (.bool true)):=by
 have VC:=A8 (fun W (c:Nat) (hc:c≤1000) (hW:Below w.heap.size w W)=>KY c l den lv W (by omega) (hl.below hW) hlf hden)
 clear hl hlf
 have hE:=A8 hE0.env
 clear hE0
 obtain ⟨ac,cc,rfl⟩:=hN.c.shape
 obtain ⟨ah,ch,rfl⟩:=hN.h.shape
 have MD:=A8 (fun W (hW:NumOk W x (.slice ac x.coefs.length cc) (.slice ah x.hidden.length ch))=>made_ok hW)
 have HD:=A8 (fun W (hW:NumOk W x (.slice ac x.coefs.length cc) (.slice ah x.hidden.length ch))=>KX hW)
 replace hN:=A8 hN
 generalize x.coefs.length=nc at *
 generalize x.hidden.length=nh at *
 obtain ⟨fa,fk,rfl,hf0⟩:=hf.row0
 have hgf:Hid (∀ k,Fits (gi fl k)):=A8 (gi_fits hff)
 obtain ⟨fn,hfn⟩:∃ n,n=fl.length:=⟨_,rfl⟩
 rw [←hfn] at hf0 ⊢
 replace hfn:=A8 hfn
 replace hf0:=A8 hf0
 clear hf hff
 obtain ⟨V1,bN,e1,b1,S1⟩:=(MS.start w).add' #[.int .i64 x.cols,.int .i64 x.rows,.slice ac nc cc,.slice ah nh ch,.int .i64 x.miss] 24
 have hS:=A8 S1
 clear S1
 go_enter Tryz.func6,Tryz.ntmps6
 go_upto_region 1 with fail
 rw [←e1,←b1]
 clear e1 b1
 go_wp2_with fail
 refine Calls.mono (KT _ (hS.out.env hE.out)) ?_
 rintro e w1 ⟨rfl,hb⟩
 replace hS:=A8 (hS.out.call hb)
 clear hb
 go_upto_region 3 with fail
 have z0:=(hS.out.cell bN _ _ (.head _) 0).trans (show _=some (Value.int .i64 x.cols:Value) from rfl)
 have z1:=(hS.out.cell bN _ _ (.head _) 1).trans (show _=some (Value.int .i64 x.rows:Value) from rfl)
 have z2:=(hS.out.cell bN _ _ (.head _) 2).trans (show _=some (Value.slice ac nc cc:Value) from rfl)
 have z3:=(hS.out.cell bN _ _ (.head _) 3).trans (show _=some (Value.slice ah nh ch:Value) from rfl)
 have z4:=(hS.out.cell bN _ _ (.head _) 4).trans (show _=some (Value.int .i64 x.miss:Value) from rfl)
 go_wp2_with fail
 refine Calls.mono (MD.out _ (hN.out.below hS.out.mem.below)) ?_
 rintro e w2 ⟨a,cp,rfl,hs,hb⟩
 replace hS:=A8 (hS.out.call hb)
 clear hb z0 z1 z2 z3 z4
 have hce:=x.c_eq
 have hre:=x.r_eq
 have hvl:=A8 x.made_valid
 have hml:=A8 x.made_len
 have hms:=A8 (Jh x)
 have hsm:=A8 x.made_bd
 obtain ⟨rows,hrows⟩:∃ rows,rows=x.made:=⟨_,rfl⟩
 rw [←hrows] at hs hvl hml hms hsm
 replace hrows:=A8 hrows
 obtain ⟨r,hr⟩:∃ r,r=x.r:=⟨_,rfl⟩
 obtain ⟨c,hc⟩:∃ c,c=x.c:=⟨_,rfl⟩
 rw [←hr] at hs hre hml ⊢
 rw [←hc] at hce hvl ⊢ hsm
 replace hr:=A8 hr
 replace hc:=A8 hc
 have hc0':=A8 (show 0<c∧c≤8 from by omega)
 have hr0':=A8 (show 0<r∧r≤5 from by omega)
 clear hce hre
 have hlen:=A8 (show ∀ q∈rows,q.1.length=c from fun q hq=>by have:=(B6 hvl.out).2.2.2 q hq;omega)
 obtain ⟨W1,bS,e1,b1,S1⟩:=hS.out.add' #[.int .i64 c,.slice a r cp] 27
 have hR:=A8 (show SlE W1 (.slice a r cp) rows from by rw [e1];exact hs.below ((Below.refl _ _).alloc (Aa _) _))
 replace hS:=A8 S1
 clear S1 hs
 go_upto_region 4 with fail
 rw [←e1,←b1]
 clear e1 b1
 have hSc:=A8 (⟨(hS.out.mem.blks _ (.head _)).lt,hS.out.cell _ _ _ (.head _) 0,hS.out.cell _ _ _ (.head _) 1⟩:bS<W1.heap.size∧W1.cell? ⟨bS,0,none⟩=some (.int .i64 c)∧W1.cell? ⟨bS,1,none⟩=some (.slice a r cp))
 have hB1:=A8 hS.out.mem.below
 have hE1:=A8 (hS.out.env hE.out)
 have hN1:=A8 (hN.out.below hB1.out)
 have hNc:=A8 (⟨(hS.out.mem.blks _ (.tail _ (.head _))).lt,hS.out.cell bN _ _ (.tail _ (.head _)) 0,hS.out.cell bN _ _ (.tail _ (.head _)) 1,hS.out.cell bN _ _ (.tail _ (.head _)) 2,hS.out.cell bN _ _ (.tail _ (.head _)) 3,hS.out.cell bN _ _ (.tail _ (.head _)) 4⟩:bN<W1.heap.size∧W1.cell? ⟨bN,0,none⟩=some (.int .i64 x.cols)∧W1.cell? ⟨bN,1,none⟩=some (.int .i64 x.rows)∧W1.cell? ⟨bN,2,none⟩=some (.slice ac nc cc)∧W1.cell? ⟨bN,3,none⟩=some (.slice ah nh ch)∧W1.cell? ⟨bN,4,none⟩=some (.int .i64 x.miss))
 clear hS hE MD hN hrows hr hc
 replace hf0:=A8 (hf0.out.below hB1.out)
 have CP:=A8 (fun W (hW:Below W1.heap.size W1 W)=>by have:=M0 c _ rows W (hR.out.below hW) (by rw [hml.out];exact hr0'.out.1) (by rw [hml.out];have:=hr0'.out;omega) (fun q hq=>by rw [hlen.out q hq];have:=hc0'.out;omega);unfold CopyP at this;rw [hml.out] at this;exact this)
 have z0:=hSc.out.2.1
 have z1:=hSc.out.2.2
 go_wp2_with fail
 refine Calls.mono (CP.out _ (Below.refl _ _)) ?_
 rintro e w3 ⟨B,cap,cs,fs,rfl,hb,hM⟩
 replace hb:=A8 hb
 replace hM:=A8 hM
 clear z0 z1
 obtain ⟨Wn,bT,e1,b1,S1⟩:=hM.out.addB #[.int .i64 c,.slice (some ⟨B,0,none⟩) r cap] 27
 replace hM:=A8 S1
 clear S1
 go_upto_region 5 with fail
 rw [←e1,←b1]
 clear e1 b1
 go_wp2_with fail
 refine eq_l0 (bT:=bT) (B:=B) (m:=r) (cap:=cap) (n:=c) (fn:=fn) (fk:=fk) (fa:=fa) (factors:=fl) (rows:=rows) (cs0:=cs) (fs0:=fs) (w:=W1) (L:=[(bT,#[.int .i64 c,.slice (some ⟨B,0,none⟩) r cap],27)]) (R:=[]) (A8 ⟨hml.out.symm,by have:=hr0'.out;omega⟩) (A8 (by have:=hc0'.out;omega)) (A8 (hsm.out.mono (by decide) (by decide))) hfn hf0 hgf (A8 (.head _)) (A8 ⟨hM.out.rot,hb.out⟩) (by kernel_rfl) ?_
 intro cs1 fs1 _ _ _ _ _ _ _ _ _ _ _ _ _ _ _ _ _ _ _ _ _ _ _ _ _ _ _ _ _ _ _ _ _ _ _ _ _ _ _ _ _ _ _ _ _ _ _ _ _ _ _ _ _ _ _ _ _ _ _ _ W4 hM4
 clear hM hb hf0 hgf hfn
 have hmu:=A8 (KN (F:=5) hsm.out (by decide) (fun i=>(JO fl i).2))
 have hmq:=A8 (fun (x:Nat→Int) (d:Int)=>LY (rows:=rows) (n:=c) (x:=x) (d:=d) (fun i=>(JO fl i).1))
 have hmlen:=A8 (show (mulRows rows (mulF fl)).length=r from Bh.trans hml.out)
 generalize mulRows rows (mulF fl)=mR at *
 obtain ⟨i,hie⟩:∃ q:Nat,pkv one r=(q:Int):=⟨(pkv one r).toNat,by have:=Aw (c:=one) (m:=(r:Int)) (by have:=hr0'.out;omega);omega⟩
 have hir:=A8 (show i<r from by have:=BH (c:=one) (m:=(r:Int)) (by have:=hr0'.out;omega);omega)
 have Pi:=A8 (fun W=>by have:=D7 one r hone (by have:=hr0'.out;omega) (by have:=hr0'.out;omega) W;rw [hie] at this;exact this)
 clear hie hone
 obtain ⟨j,hje⟩:∃ q:Nat,pkv two r=(q:Int):=⟨(pkv two r).toNat,by have:=Aw (c:=two) (m:=(r:Int)) (by have:=hr0'.out;omega);omega⟩
 have hjr:=A8 (show j<r from by have:=BH (c:=two) (m:=(r:Int)) (by have:=hr0'.out;omega);omega)
 have Pj:=A8 (fun W=>by have:=D7 two r htwo (by have:=hr0'.out;omega) (by have:=hr0'.out;omega) W;rw [hje] at this;exact this)
 clear hje htwo
 have z1:=(hM4.out.1.cell _ _ _ (.tail _ (List.mem_append_right _ (.head _))) 1).trans (show _=some (Value.slice (some ⟨B,0,none⟩) r cap) from rfl)
 go_wp2_with fail
 refine Calls.mono (Pi.out _) ?_
 rintro e w4 ⟨rfl,hb⟩
 replace hM4:=A8 (⟨hM4.out.1.call hb,hM4.out.2⟩:_∧_)
 clear hb z1 Pi
 have z1:=(hM4.out.1.cell _ _ _ (.tail _ (List.mem_append_right _ (.head _))) 1).trans (show _=some (Value.slice (some ⟨B,0,none⟩) r cap) from rfl)
 go_wp2_with fail
 refine Calls.mono (Pj.out _) ?_
 rintro e w5 ⟨rfl,hb⟩
 replace hM4:=A8 (⟨hM4.out.1.call hb,hM4.out.2⟩:_∧_)
 clear hb z1 Pj
 have hati:=A8 (show mR[i]? = some ((rowOf mR i).1,(rowOf mR i).2) from Cv (by rw [hmlen.out];exact hir.out))
 have hli:=A8 (hmu.out _ (Av (rows:=mR) (i:=i) (by rw [hmlen.out];exact hir.out))).1
 have hatj:=A8 (show mR[j]? = some ((rowOf mR j).1,(rowOf mR j).2) from Cv (by rw [hmlen.out];exact hjr.out))
 have hlj:=A8 (hmu.out _ (Av (rows:=mR) (i:=j) (by rw [hmlen.out];exact hjr.out))).1
 go_wp2_with fail
 refine eq_l4 (bT:=bT) (B:=B) (m:=r) (cap:=cap) (i:=i) (j:=j) (n:=c) (zv:=(rowOf mR i).2) (zw:=(rowOf mR j).2) (l:=(rowOf mR i).1) (l2:=(rowOf mR j).1) (rs:=mR) (cs:=cs1) (fs0:=fs1) (w:=W1) (L:=[(bT,#[.int .i64 c,.slice (some ⟨B,0,none⟩) r cap],27)]) (R:=[]) (A8 ⟨hli.out.symm,hlj.out.symm,by have:=hc0'.out;omega⟩) (A8 ⟨hir.out,hjr.out⟩) (A8 fun q=>⟨by have:=hmu.out.gi (by rw [hmlen.out];exact hir.out) q (by decide);omega,by have:=hmu.out.gi (by rw [hmlen.out];exact hjr.out) q (by decide);omega⟩) hati hatj (A8 (.head _)) hM4 (by kernel_rfl) ?_
 intro fs2 _ _ _ _ _ _ _ _ _ _ _ _ _ _ _ _ _ _ _ _ _ _ _ _ _ _ _ _ _ _ _ _ _ _ _ _ _ _ _ W5 hM5
 clear hM4
 go_upto_if 149 with fail
 go_cut [] (fun wx=>∃ (cs:Array Value) (fs:BLs),Mem W1 ((B,cs,60) :: (fs++[(bT,#[.int .i64 c,.slice (some ⟨B,0,none⟩) r cap],27)])) [] wx∧SysB B cap cs fs (addIf i j mR))
 case first =>
  by_cases hij:i=j
  case pos =>
   subst hij
   have hnj:((i:Int) != (i:Int))=false:=by simp
   have hs:=hM5.out.2
   unfold addK at hs
   rw [if_pos rfl] at hs
   go_wp2_with fail
   go_meet
   exact ⟨cs1,fs2,hM5.out.1,by unfold addIf;rw [if_pos rfl];exact hs⟩
  case neg =>
   have hnj:((i:Int) != (j:Int))=true:=by simp;omega
   have hs:=hM5.out.2
   unfold addK at hs
   rw [if_neg hij] at hs
   have hat:=A8 (show (mR.set i (upK (rowOf mR i).1 (fun q=>gi (rowOf mR i).1 q+gi (rowOf mR j).1 q) c,(rowOf mR i).2))[i]? = some (upK (rowOf mR i).1 (fun q=>gi (rowOf mR i).1 q+gi (rowOf mR j).1 q) c,(rowOf mR i).2) from List.getElem?_set_self (by rw [hmlen.out];exact hir.out))
   have hat2:=A8 (show (mR.set i (upK (rowOf mR i).1 (fun q=>gi (rowOf mR i).1 q+gi (rowOf mR j).1 q) c,(rowOf mR i).2))[j]? = some ((rowOf mR j).1,(rowOf mR j).2) from (List.getElem?_set_ne hij).trans hatj.out)
   obtain ⟨_,_,_,_,c1,_⟩:=hs.at_ hat.out
   obtain ⟨_,_,_,_,c2,_⟩:=hs.at_ hat2.out
   replace c1:=A8 c1
   replace c2:=A8 c2
   have hs2:=A8 (hs.setV hat.out ((rowOf mR i).2+(rowOf mR j).2))
   rw [List.set_set] at hs2
   clear hs
   have hw:IntKind.i64.wrap ((rowOf mR i).2+(rowOf mR j).2)=(rowOf mR i).2+(rowOf mR j).2:=IntWalk.i64_in _ (by have h1:=(hmu.out _ (Av (rows:=mR) (i:=i) (by rw [hmlen.out];exact hir.out))).2.2;have h2:=(hmu.out _ (Av (rows:=mR) (i:=j) (by rw [hmlen.out];exact hjr.out))).2.2;omega)
   have hi0:(0:Int)≤i:=by omega
   have hj0:(0:Int)≤j:=by omega
   have hi1:(i:Int)<r:=by have:=hir.out;omega
   have hj1:(j:Int)<r:=by have:=hjr.out;omega
   go_upto_region 23 with fail
   refine eq_r23 (bT:=bT) (B:=B) (m:=r) (cap:=cap) (i:=i) (j:=j) (cs:=cs1) (c:=c) (zv:=(rowOf mR i).2) (zw:=(rowOf mR j).2) (w:=W1) (L:=fs2++[(bT,#[.int .i64 c,.slice (some ⟨B,0,none⟩) r cap],27)]) (R:=[]) hi0 hi1 hj0 hj1 c1.out c2.out (List.mem_append_right _ (.head _)) hw (A8 hM5.out.1) rfl rfl rfl rfl (by kernel_rfl) ?_
   intro xx W6 hM6
   simp only [sets,List.foldl_cons,List.foldl_nil,A5,A6]
   go_wp2_with fail
   go_meet
   exact ⟨_,fs2,hM6.out,by unfold addIf;rw [if_neg hij];have:=hs2.out;rw [←hli.out] at this;exact this⟩
 case rest =>
  obtain ⟨cs3,fs3,hM6,hs6⟩:=hcut
  clear hM5
  have htl:=A8 (KZ (i:=i) (j:=j) (rs:=mR))
  have htq:=A8 (fun (x:Nat→Int) (d:Int)=>(Jl (n:=c) (x:=x) (d:=d) (by rw [hmlen.out];exact hir.out) (by rw [hmlen.out];exact hjr.out) (hli.out.trans hlj.out.symm)).trans (hmq.out x d))
  have hvt:=A8 ((Il (i:=i) (j:=j) hmu.out (by decide) (by decide) (by rw [hmlen.out];exact hir.out) (by rw [hmlen.out];exact hjr.out)).valid (by have:=hc0'.out;omega) (by rw [htl.out,hmlen.out];have:=hr0'.out;omega) (by decide) (by decide))
  rw [hmlen.out] at htl
  generalize addIf i j mR=tR at *
  clear hati hatj hli hlj hir hjr hmq hmu hmlen
  have hT:=A8 (show SlE wc (.slice (some ⟨B,0,none⟩) r cap) tR from by have:=hs6.slE hM6 (fun p hp=>List.mem_append_left _ hp);rwa [htl.out] at this)
  have hTc:=A8 (⟨hM6.lt _ (.tail _ (List.mem_append_right _ (.head _))),hM6.cell _ _ _ (.tail _ (List.mem_append_right _ (.head _))) 0,hM6.cell _ _ _ (.tail _ (List.mem_append_right _ (.head _))) 1⟩:bT<wc.heap.size∧wc.cell? ⟨bT,0,none⟩=some (.int .i64 c)∧wc.cell? ⟨bT,1,none⟩=some (.slice (some ⟨B,0,none⟩) r cap))
  have hB2:=A8 hM6.below
  clear hM6 hs6
  replace hSc:=A8 (⟨A9 hSc.out.1 hB2.out.size,(hB2.out.cell (p:=⟨bS,0,none⟩) hSc.out.1).trans hSc.out.2.1,(hB2.out.cell (p:=⟨bS,1,none⟩) hSc.out.1).trans hSc.out.2.2⟩:bS<wc.heap.size∧wc.cell? ⟨bS,0,none⟩=some (.int .i64 c)∧wc.cell? ⟨bS,1,none⟩=some (.slice a r cp))
  replace hR:=A8 (hR.out.below hB2.out)
  have hE6:=A8 (hE1.out.below hB2.out (Aa _))
  have hN6:=A8 (hN1.out.below hB2.out)
  have hB6:=A8 (hB1.out.trans (hB2.out.mono hB1.out.size))
  have hNc6:=A8 (⟨A9 hNc.out.1 hB2.out.size,(hB2.out.cell (p:=⟨bN,0,none⟩) hNc.out.1).trans hNc.out.2.1,(hB2.out.cell (p:=⟨bN,1,none⟩) hNc.out.1).trans hNc.out.2.2.1,(hB2.out.cell (p:=⟨bN,2,none⟩) hNc.out.1).trans hNc.out.2.2.2.1,(hB2.out.cell (p:=⟨bN,3,none⟩) hNc.out.1).trans hNc.out.2.2.2.2.1,(hB2.out.cell (p:=⟨bN,4,none⟩) hNc.out.1).trans hNc.out.2.2.2.2.2⟩:bN<wc.heap.size∧wc.cell? ⟨bN,0,none⟩=some (.int .i64 x.cols)∧wc.cell? ⟨bN,1,none⟩=some (.int .i64 x.rows)∧wc.cell? ⟨bN,2,none⟩=some (.slice ac nc cc)∧wc.cell? ⟨bN,3,none⟩=some (.slice ah nh ch)∧wc.cell? ⟨bN,4,none⟩=some (.int .i64 x.miss))
  replace CP:=A8 (fun W (hW:Below wc.heap.size wc W)=>CP.out W (hB2.out.trans (hW.mono hB2.out.size)))
  clear hE1 hN1 hB1 hB2 hNc
  have z0:=hSc.out.2.1
  have z1:=hSc.out.2.2
  go_wp2_with fail
  refine Calls.mono (CP.out _ (Below.refl _ _)) ?_
  rintro e w6 ⟨B2,cap2,cs2,fs2,rfl,hb,hM⟩
  replace hb:=A8 hb
  replace hM:=A8 hM
  clear z0 z1
  obtain ⟨Wn,bL,e1,b1,S1⟩:=hM.out.addB #[.int .i64 c,.slice (some ⟨B2,0,none⟩) r cap2] 27
  replace hM:=A8 S1
  clear S1
  go_upto_region 25 with fail
  rw [←e1,←b1]
  clear e1 b1
  have z0:=hM.out.old hSc.out.1 hSc.out.2.1
  have z1:=hM.out.old hSc.out.1 hSc.out.2.2
  go_wp2_with fail
  refine Calls.mono (CP.out _ hM.out.below) ?_
  rintro e w7 ⟨B3,cap3,cs4,fs4,rfl,hb2,hM2⟩
  replace hb2:=A8 hb2
  replace hM:=A8 (hM.out.within hM2)
  clear z0 z1 hM2
  obtain ⟨Wn,bZ,e1,b1,S1⟩:=hM.out.addB #[.int .i64 c,.slice (some ⟨B3,0,none⟩) r cap3] 27
  replace hM:=A8 S1
  clear S1
  go_upto_region 26 with fail
  rw [←e1,←b1]
  clear e1 b1
  have hMa:=A8 hM.out.arr6
  clear hM
  obtain ⟨pb,hpb⟩:∃ q,q=pkv by_ 1000:=⟨_,rfl⟩
  have hpb2:0≤pb∧pb<1000:=by rw [hpb];exact ⟨Aw (by decide),BH (by decide)⟩
  have PB:=A8 (fun W=>by have:=D7 by_ 1000 hby (by decide) (by decide) W;rw [←hpb] at this;exact this)
  clear hpb hby
  obtain ⟨b,hbe⟩:∃ b,b=1+pb:=⟨_,rfl⟩
  have hbb:=A8 (show IntKind.i64.wrap (1+pb)=b∧-1000≤b∧b≤1000 from ⟨by rw [hbe];exact IntWalk.i64_in _ (by omega),by omega,by omega⟩)
  have hb0:=A8 (show 0<b by omega)
  clear hbe hpb2
  go_wp2_with fail
  refine eq_l6 (bS:=bS) (bT:=bL) (bZ:=bZ) (B:=B2) (D:=B3) (m:=r) (cap:=cap2) (cap2:=cap3) (mc:=cp) (n:=c) (a:=a) (by_:=by_) (p:=pb) (b:=b) (rows:=rows) (cs0:=cs2) (ds0:=cs4) (fs:=fs2) (gs:=fs4) (w:=wc) (R:=[]) (A8 ⟨hml.out.symm,by have:=hr0'.out;omega⟩) (A8 (hsm.out.mono (by decide) (by decide))) hbb PB (A8 fun W hW=>hW.old hSc.out.1 hSc.out.2.2) (A8 (.tail _ (List.mem_append_right _ (.head _)))) (A8 (.head _)) (A8 ⟨hMa.out,hb.out,hb2.out⟩) (by kernel_rfl) ?_
  intro cs5 cs6 _ _ _ _ _ _ _ _ _ _ _ _ _ _ _ _ _ _ _ _ _ _ _ _ _ _ _ _ W9 hM9
  clear hMa hb hb2 PB CP
  have hL:=A8 (show SlE W9 (.slice (some ⟨B2,0,none⟩) r cap2) (valRows rows b) from by have:=hM9.out.2.1.slE hM9.out.1 (fun p hp=>.tail _ (.tail _ (List.mem_append_right _ (.tail _ hp))));rwa [BY,hml.out] at this)
  have hZ:=A8 (show SlE W9 (.slice (some ⟨B3,0,none⟩) r cap3) (valRows rows 0) from by have:=hM9.out.2.2.slE (hM9.out.1.perm (List.Perm.swap _ _ _)) (fun p hp=>.tail _ (.tail _ (List.mem_append_left _ hp)));rwa [BY,hml.out] at this)
  have hLc:=A8 (⟨hM9.out.1.lt _ (.tail _ (.tail _ (.tail _ (List.mem_append_right _ (.head _))))),hM9.out.1.cell _ _ _ (.tail _ (.tail _ (.tail _ (List.mem_append_right _ (.head _))))) 0,hM9.out.1.cell _ _ _ (.tail _ (.tail _ (.tail _ (List.mem_append_right _ (.head _))))) 1⟩:bL<W9.heap.size∧W9.cell? ⟨bL,0,none⟩=some (.int .i64 c)∧W9.cell? ⟨bL,1,none⟩=some (.slice (some ⟨B2,0,none⟩) r cap2))
  have hZc:=A8 (⟨hM9.out.1.lt _ (.tail _ (.tail _ (.head _))),hM9.out.1.cell _ _ _ (.tail _ (.tail _ (.head _))) 0,hM9.out.1.cell _ _ _ (.tail _ (.tail _ (.head _))) 1⟩:bZ<W9.heap.size∧W9.cell? ⟨bZ,0,none⟩=some (.int .i64 c)∧W9.cell? ⟨bZ,1,none⟩=some (.slice (some ⟨B3,0,none⟩) r cap3))
  have hB9:=A8 hM9.out.1.below
  clear hM9
  replace hSc:=A8 (⟨A9 hSc.out.1 hB9.out.size,(hB9.out.cell (p:=⟨bS,0,none⟩) hSc.out.1).trans hSc.out.2.1,(hB9.out.cell (p:=⟨bS,1,none⟩) hSc.out.1).trans hSc.out.2.2⟩:bS<W9.heap.size∧W9.cell? ⟨bS,0,none⟩=some (.int .i64 c)∧W9.cell? ⟨bS,1,none⟩=some (.slice a r cp))
  replace hTc:=A8 (⟨A9 hTc.out.1 hB9.out.size,(hB9.out.cell (p:=⟨bT,0,none⟩) hTc.out.1).trans hTc.out.2.1,(hB9.out.cell (p:=⟨bT,1,none⟩) hTc.out.1).trans hTc.out.2.2⟩:bT<W9.heap.size∧W9.cell? ⟨bT,0,none⟩=some (.int .i64 c)∧W9.cell? ⟨bT,1,none⟩=some (.slice (some ⟨B,0,none⟩) r cap))
  replace hR:=A8 (hR.out.below hB9.out)
  replace hT:=A8 (hT.out.below hB9.out)
  have hE:=A8 (hE6.out.below hB9.out (Aa _))
  have hN:=A8 (hN6.out.below hB9.out)
  have hB:=A8 (hB6.out.trans (hB9.out.mono hB6.out.size))
  have hNc:=A8 (⟨A9 hNc6.out.1 hB9.out.size,(hB9.out.cell (p:=⟨bN,0,none⟩) hNc6.out.1).trans hNc6.out.2.1,(hB9.out.cell (p:=⟨bN,1,none⟩) hNc6.out.1).trans hNc6.out.2.2.1,(hB9.out.cell (p:=⟨bN,2,none⟩) hNc6.out.1).trans hNc6.out.2.2.2.1,(hB9.out.cell (p:=⟨bN,3,none⟩) hNc6.out.1).trans hNc6.out.2.2.2.2.1,(hB9.out.cell (p:=⟨bN,4,none⟩) hNc6.out.1).trans hNc6.out.2.2.2.2.2⟩:bN<W9.heap.size∧W9.cell? ⟨bN,0,none⟩=some (.int .i64 x.cols)∧W9.cell? ⟨bN,1,none⟩=some (.int .i64 x.rows)∧W9.cell? ⟨bN,2,none⟩=some (.slice ac nc cc)∧W9.cell? ⟨bN,3,none⟩=some (.slice ah nh ch)∧W9.cell? ⟨bN,4,none⟩=some (.int .i64 x.miss))
  clear hE6 hN6 hB6 hB9 hNc6
  have hvL:=A8 ((G6 (F:=1000) hsm.out hbb.out.2).valid (by have:=hc0'.out;omega) (by rw [BY,hml.out];have:=hr0'.out;omega) (by decide) (by decide))
  have hvZ:=A8 ((G6 (b:=0) (F:=1000) hsm.out (by decide)).valid (by have:=hc0'.out;omega) (by rw [BY,hml.out];have:=hr0'.out;omega) (by decide) (by decide))
  have h8:=A8 (⟨by rw [htl.out];have:=hr0'.out;omega,by rw [BY,hml.out];have:=hr0'.out;omega,by rw [BY,hml.out];have:=hr0'.out;omega⟩:tR.length≤8∧(valRows rows b).length≤8∧(valRows rows 0).length≤8)
  clear hbb hsm hlen
  have hS2:=A8 (MS.start W9)
  have z0:=hS2.out.mem.old hSc.out.1 hSc.out.2.1
  have z1:=hS2.out.mem.old hSc.out.1 hSc.out.2.2
  go_wp2_with fail
  refine Calls.mono (E6 c _ rows _ (hS2.out.env hE.out) (hR.out.below hS2.out.mem.below) (hvl.out) (hms.out)) ?_
  rintro e w8 ⟨hb,⟨nv1,nums1,d1,rfl,hs1,hck1⟩ | ⟨wv1,ws1,rfl,hs1,hrf1⟩⟩
  ·obtain ⟨a1,k1,rfl⟩:=hs1.shape
   replace hck1:=A8 hck1
   have hsz:=A8 (show SolZ rows c (fun k=>zS (sAt nums1 k)) (zS d1) from by have h1:=(C5 hck1.out).2.2;have:=CQ hck1.out;rwa [show nums1.length=c by omega] at this)
   replace hS2:=A8 (hS2.out.call hb)
   replace hS2:=A8 (hS2.out.slice hs1)
   clear hb hs1 z0 z1
   obtain ⟨n1,hn1⟩:∃ n,n=nums1.length:=⟨_,rfl⟩
   rw [←hn1] at hS2 ⊢
   replace hn1:=A8 hn1
   obtain ⟨Wn,bA,e1,b1,S1⟩:=hS2.out.add' #[.bool true,.slice a1 n1 k1,.string d1,.slice none 0 0] 38
   replace hS2:=A8 S1
   clear S1
   go_upto_region 32 with fail
   rw [←e1,←b1]
   clear e1 b1
   have z0:=hS2.out.mem.old hTc.out.1 hTc.out.2.1
   have z1:=hS2.out.mem.old hTc.out.1 hTc.out.2.2
   go_wp2_with fail
   refine Calls.mono (Bt c _ tR _ (hS2.out.env hE.out) (hT.out.below hS2.out.mem.below) (hvt.out) (h8.out.1) ((htq.out _ _).2 hsz.out)) ?_
   rintro e w9 ⟨nv2,nums2,d2,rfl,hs2,hck2,hb⟩
   obtain ⟨a2,k2,rfl⟩:=hs2.shape
   replace hck2:=A8 hck2
   replace hS2:=A8 (hS2.out.call hb)
   replace hS2:=A8 (hS2.out.slice hs2)
   clear hb hs2 z0 z1
   obtain ⟨n2,hn2⟩:∃ n,n=nums2.length:=⟨_,rfl⟩
   rw [←hn2] at hS2 ⊢
   replace hn2:=A8 hn2
   obtain ⟨Wn,bB,e1,b1,S1⟩:=hS2.out.add' #[.bool true,.slice a2 n2 k2,.string d2,.slice none 0 0] 38
   replace hS2:=A8 S1
   clear S1
   go_upto_region 33 with fail
   rw [←e1,←b1]
   clear e1 b1
   have z0:=hS2.out.mem.old hLc.out.1 hLc.out.2.1
   have z1:=hS2.out.mem.old hLc.out.1 hLc.out.2.2
   go_wp2_with fail
   refine Calls.mono (Bt c _ (valRows rows b) _ (hS2.out.env hE.out) (hL.out.below hS2.out.mem.below) (hvL.out) (h8.out.2.1) (Jf hb0.out hsz.out)) ?_
   rintro e w10 ⟨nv3,nums3,d3,rfl,hs3,hck3,hb⟩
   obtain ⟨a3,k3,rfl⟩:=hs3.shape
   replace hck3:=A8 hck3
   replace hS2:=A8 (hS2.out.call hb)
   replace hS2:=A8 (hS2.out.slice hs3)
   clear hb hs3 z0 z1
   obtain ⟨n3,hn3⟩:∃ n,n=nums3.length:=⟨_,rfl⟩
   rw [←hn3] at hS2 ⊢
   replace hn3:=A8 hn3
   obtain ⟨Wn,bC,e1,b1,S1⟩:=hS2.out.add' #[.bool true,.slice a3 n3 k3,.string d3,.slice none 0 0] 38
   replace hS2:=A8 S1
   clear S1
   go_upto_region 34 with fail
   rw [←e1,←b1]
   clear e1 b1
   have z0:=hS2.out.mem.old hZc.out.1 hZc.out.2.1
   have z1:=hS2.out.mem.old hZc.out.1 hZc.out.2.2
   go_wp2_with fail
   refine Calls.mono (Bt c _ (valRows rows 0) _ (hS2.out.env hE.out) (hZ.out.below hS2.out.mem.below) (hvZ.out) (h8.out.2.2) (G7 rows c)) ?_
   rintro e w11 ⟨nv4,nums4,d4,rfl,hs4,hck4,hb⟩
   obtain ⟨a4,k4,rfl⟩:=hs4.shape
   replace hck4:=A8 hck4
   replace hS2:=A8 (hS2.out.call hb)
   replace hS2:=A8 (hS2.out.slice hs4)
   clear hb hs4 z0 z1
   obtain ⟨n4,hn4⟩:∃ n,n=nums4.length:=⟨_,rfl⟩
   rw [←hn4] at hS2 ⊢
   replace hn4:=A8 hn4
   obtain ⟨Wn,bD,e1,b1,S1⟩:=hS2.out.add' #[.bool true,.slice a4 n4 k4,.string d4,.slice none 0 0] 38
   replace hS2:=A8 S1
   clear S1
   go_upto_region 35 with fail
   rw [←e1,←b1]
   clear e1 b1
   have y0:=(hS2.out.cell bA _ _ (.tail _ (.tail _ (.tail _ (.head _)))) 0).trans (show _=some (Value.bool true) from rfl)
   have y1:=(hS2.out.cell bB _ _ (.tail _ (.tail _ (.head _))) 0).trans (show _=some (Value.bool true) from rfl)
   have y2:=(hS2.out.cell bC _ _ (.tail _ (.head _)) 0).trans (show _=some (Value.bool true) from rfl)
   have y3:=(hS2.out.cell bD _ _ (.head _) 0).trans (show _=some (Value.bool true) from rfl)
   go_upto_region 37 with fail
   clear y0 y1 y2 y3
   refine LW (bN:=bN) (bS:=bS) (bA:=bA) (bB:=bB) (lc:=nc) (kc:=cc) (lh:=nh) (kh:=ch) (n1:=n1) (k1:=k1) (n2:=n2) (k2:=k2) (ac:=ac) (ah:=ah) (a1:=a1) (a2:=a2) (lv:=lv) (d1:=d1) (d2:=d2) (dv:=I (1+pkv den 9)) (nc:=x.cols) (nr:=x.rows) (ms:=x.miss) (den:=den) (c:=c) (hl:=x.hidN) (vl:=vecL c l) (L:=[]) (R:=[]) (A8 fun W hW=>(hS2.out.call hW.below).cell bA _ _ (.tail _ (.tail _ (.tail _ (.head _)))) 1) (A8 fun W hW=>(hS2.out.call hW.below).cell bA _ _ (.tail _ (.tail _ (.tail _ (.head _)))) 2) (A8 fun W hW=>(hS2.out.call hW.below).cell bB _ _ (.tail _ (.tail _ (.head _))) 1) (A8 fun W hW=>(hS2.out.call hW.below).cell bB _ _ (.tail _ (.tail _ (.head _))) 2) (A8 fun W hW=>(hS2.out.call hW.below).mem.old hNc.out.1 hNc.out.2.1) (A8 fun W hW=>(hS2.out.call hW.below).mem.old hNc.out.1 hNc.out.2.2.1) (A8 fun W hW=>(hS2.out.call hW.below).mem.old hNc.out.1 hNc.out.2.2.2.1) (A8 fun W hW=>(hS2.out.call hW.below).mem.old hNc.out.1 hNc.out.2.2.2.2.1) (A8 fun W hW=>(hS2.out.call hW.below).mem.old hNc.out.1 hNc.out.2.2.2.2.2) (A8 fun W hW=>HD.out W (hN.out.below (hS2.out.call hW.below).mem.below)) (A8 fun W hW=>(hS2.out.call hW.below).mem.old hSc.out.1 hSc.out.2.1) (A8 fun W hW=>VC.out W c (by have:=hc0'.out;omega) (hB.out.trans ((hS2.out.call hW.below).mem.below.mono hB.out.size))) (A8 (Mem.start _)) rfl rfl rfl rfl rfl rfl rfl (by kernel_rfl) ?_
   intro xx g ag lg kg ax lx kx W11 hx263 hx264 hx265 hblk hM11
   simp only [sets,List.foldl_cons,List.foldl_nil,A5,A6,hx263,hx264,hx265]
   replace hS2:=A8 (hS2.out.call hM11.out.below)
   clear hM11 HD VC
   go_wp2_with fail
   refine eq_l8 (bS:=bS) (bT:=bT) (g:=g) (c:=c) (sv:=.slice a r cp) (tv:=.slice (some ⟨B,0,none⟩) r cap) (rows:=rows) (rows2:=tR) (vv:=(fun j=>match j with | 0=>(.slice a1 n1 k1:Value) | 1=>.slice a2 n2 k2 | 2=>.slice ag lg kg | _=>.slice ax lx kx)) (ll:=(fun j=>match j with | 0=>(nums1:List ByteArray) | 1=>nums2 | 2=>x.hidN | _=>vecL c l)) (dd:=(fun j=>match j with | 0=>(d1:ByteArray) | 1=>d2 | 2=>⟨#[49]⟩ | _=>I (1+pkv den 9))) (w:=W11) (A8 (hS2.out.env hE.out)) (A8 ⟨A9 hSc.out.1 hS2.out.mem.size,A9 hTc.out.1 hS2.out.mem.size,hblk.out.1.lt⟩) (A8 fun nums den=>G8 hvl.out hvt.out htq.out) (A8 ⟨hS2.out.mem.old hSc.out.1 hSc.out.2.1,hS2.out.mem.old hSc.out.1 hSc.out.2.2⟩) (A8 ⟨hS2.out.mem.old hTc.out.1 hTc.out.2.1,hS2.out.mem.old hTc.out.1 hTc.out.2.2⟩) (A8 ⟨hR.out.below hS2.out.mem.below,hT.out.below hS2.out.mem.below⟩) (A8 fun j hj=>match j,hj with | 0,_=>⟨hblk.out.1.cell (0*2),hblk.out.1.cell (0*2+1),(hS2.out.ss _ (.tail _ (.tail _ (.tail _ (.head _)))))⟩ | 1,_=>⟨hblk.out.1.cell (1*2),hblk.out.1.cell (1*2+1),(hS2.out.ss _ (.tail _ (.tail _ (.head _))))⟩ | 2,_=>⟨hblk.out.1.cell (2*2),hblk.out.1.cell (2*2+1),hblk.out.2.1⟩ | 3,_=>⟨hblk.out.1.cell (3*2),hblk.out.1.cell (3*2+1),hblk.out.2.2⟩) (by kernel_rfl) ?_
   intro _ _ _ _ _ _ _ _ _ _ _ _ _ _ W12 hB12
   have hfin:=A8 (hB.out.trans ((hS2.out.mem.below.trans (hB12.out.mono hS2.out.mem.size)).mono hB.out.size))
   clear hB12 hblk hS2 hN hB hE hT hR hL hZ hTc hSc hLc hZc hNc
   go_wp2
   go_ret
   exact ⟨rfl,hfin.out⟩
  ·obtain ⟨a1,k1,rfl⟩:=hs1.shape
   replace hrf1:=A8 hrf1
   have hno:=A8 (show ∀ y d,¬ SolZ rows c y d from fun y d h=>G5 h (DG hrf1.out))
   replace hS2:=A8 (hS2.out.call hb)
   replace hS2:=A8 (hS2.out.slice hs1)
   clear hb hs1 z0 z1
   obtain ⟨n1,hn1⟩:∃ n,n=ws1.length:=⟨_,rfl⟩
   rw [←hn1] at hS2 ⊢
   replace hn1:=A8 hn1
   obtain ⟨Wn,bA,e1,b1,S1⟩:=hS2.out.add' #[.bool false,.slice none 0 0,.string ⟨#[]⟩,.slice a1 n1 k1] 38
   replace hS2:=A8 S1
   clear S1
   go_upto_region 32 with fail
   rw [←e1,←b1]
   clear e1 b1
   have z0:=hS2.out.mem.old hTc.out.1 hTc.out.2.1
   have z1:=hS2.out.mem.old hTc.out.1 hTc.out.2.2
   go_wp2_with fail
   refine Calls.mono (CT c _ tR _ (hS2.out.env hE.out) (hT.out.below hS2.out.mem.below) (hvt.out) (h8.out.1) (fun y d h=>hno.out _ _ ((htq.out _ _).1 h))) ?_
   rintro e w12 ⟨wv2,ws2,rfl,hs2,hrf2,hb⟩
   obtain ⟨a2,k2,rfl⟩:=hs2.shape
   replace hrf2:=A8 hrf2
   replace hS2:=A8 (hS2.out.call hb)
   replace hS2:=A8 (hS2.out.slice hs2)
   clear hb hs2 z0 z1
   obtain ⟨n2,hn2⟩:∃ n,n=ws2.length:=⟨_,rfl⟩
   rw [←hn2] at hS2 ⊢
   replace hn2:=A8 hn2
   obtain ⟨Wn,bB,e1,b1,S1⟩:=hS2.out.add' #[.bool false,.slice none 0 0,.string ⟨#[]⟩,.slice a2 n2 k2] 38
   replace hS2:=A8 S1
   clear S1
   go_upto_region 33 with fail
   rw [←e1,←b1]
   clear e1 b1
   have z0:=hS2.out.mem.old hLc.out.1 hLc.out.2.1
   have z1:=hS2.out.mem.old hLc.out.1 hLc.out.2.2
   go_wp2_with fail
   refine Calls.mono (CT c _ (valRows rows b) _ (hS2.out.env hE.out) (hL.out.below hS2.out.mem.below) (hvL.out) (h8.out.2.1) (fun y d h=>hno.out _ _ (Jg hb0.out h))) ?_
   rintro e w13 ⟨wv3,ws3,rfl,hs3,hrf3,hb⟩
   obtain ⟨a3,k3,rfl⟩:=hs3.shape
   replace hrf3:=A8 hrf3
   replace hS2:=A8 (hS2.out.call hb)
   replace hS2:=A8 (hS2.out.slice hs3)
   clear hb hs3 z0 z1
   obtain ⟨n3,hn3⟩:∃ n,n=ws3.length:=⟨_,rfl⟩
   rw [←hn3] at hS2 ⊢
   replace hn3:=A8 hn3
   obtain ⟨Wn,bC,e1,b1,S1⟩:=hS2.out.add' #[.bool false,.slice none 0 0,.string ⟨#[]⟩,.slice a3 n3 k3] 38
   replace hS2:=A8 S1
   clear S1
   go_upto_region 34 with fail
   rw [←e1,←b1]
   clear e1 b1
   have z0:=hS2.out.mem.old hZc.out.1 hZc.out.2.1
   have z1:=hS2.out.mem.old hZc.out.1 hZc.out.2.2
   go_wp2_with fail
   refine Calls.mono (Bt c _ (valRows rows 0) _ (hS2.out.env hE.out) (hZ.out.below hS2.out.mem.below) (hvZ.out) (h8.out.2.2) (G7 rows c)) ?_
   rintro e w14 ⟨nv4,nums4,d4,rfl,hs4,hck4,hb⟩
   obtain ⟨a4,k4,rfl⟩:=hs4.shape
   replace hck4:=A8 hck4
   replace hS2:=A8 (hS2.out.call hb)
   replace hS2:=A8 (hS2.out.slice hs4)
   clear hb hs4 z0 z1
   obtain ⟨n4,hn4⟩:∃ n,n=nums4.length:=⟨_,rfl⟩
   rw [←hn4] at hS2 ⊢
   replace hn4:=A8 hn4
   obtain ⟨Wn,bD,e1,b1,S1⟩:=hS2.out.add' #[.bool true,.slice a4 n4 k4,.string d4,.slice none 0 0] 38
   replace hS2:=A8 S1
   clear S1
   go_upto_region 35 with fail
   rw [←e1,←b1]
   clear e1 b1
   have y0:=(hS2.out.cell bA _ _ (.tail _ (.tail _ (.tail _ (.head _)))) 0).trans (show _=some (Value.bool false) from rfl)
   have y1:=(hS2.out.cell bB _ _ (.tail _ (.tail _ (.head _))) 0).trans (show _=some (Value.bool false) from rfl)
   have y2:=(hS2.out.cell bC _ _ (.tail _ (.head _)) 0).trans (show _=some (Value.bool false) from rfl)
   have y3:=(hS2.out.cell bD _ _ (.head _) 0).trans (show _=some (Value.bool true) from rfl)
   go_upto_region 37 with fail
   clear y0 y1 y2 y3
   refine LW (bN:=bN) (bS:=bS) (bA:=bA) (bB:=bB) (lc:=nc) (kc:=cc) (lh:=nh) (kh:=ch) (n1:=0) (k1:=0) (n2:=0) (k2:=0) (ac:=ac) (ah:=ah) (a1:=none) (a2:=none) (lv:=lv) (d1:=⟨#[]⟩) (d2:=⟨#[]⟩) (dv:=I (1+pkv den 9)) (nc:=x.cols) (nr:=x.rows) (ms:=x.miss) (den:=den) (c:=c) (hl:=x.hidN) (vl:=vecL c l) (L:=[]) (R:=[]) (A8 fun W hW=>(hS2.out.call hW.below).cell bA _ _ (.tail _ (.tail _ (.tail _ (.head _)))) 1) (A8 fun W hW=>(hS2.out.call hW.below).cell bA _ _ (.tail _ (.tail _ (.tail _ (.head _)))) 2) (A8 fun W hW=>(hS2.out.call hW.below).cell bB _ _ (.tail _ (.tail _ (.head _))) 1) (A8 fun W hW=>(hS2.out.call hW.below).cell bB _ _ (.tail _ (.tail _ (.head _))) 2) (A8 fun W hW=>(hS2.out.call hW.below).mem.old hNc.out.1 hNc.out.2.1) (A8 fun W hW=>(hS2.out.call hW.below).mem.old hNc.out.1 hNc.out.2.2.1) (A8 fun W hW=>(hS2.out.call hW.below).mem.old hNc.out.1 hNc.out.2.2.2.1) (A8 fun W hW=>(hS2.out.call hW.below).mem.old hNc.out.1 hNc.out.2.2.2.2.1) (A8 fun W hW=>(hS2.out.call hW.below).mem.old hNc.out.1 hNc.out.2.2.2.2.2) (A8 fun W hW=>HD.out W (hN.out.below (hS2.out.call hW.below).mem.below)) (A8 fun W hW=>(hS2.out.call hW.below).mem.old hSc.out.1 hSc.out.2.1) (A8 fun W hW=>VC.out W c (by have:=hc0'.out;omega) (hB.out.trans ((hS2.out.call hW.below).mem.below.mono hB.out.size))) (A8 (Mem.start _)) rfl rfl rfl rfl rfl rfl rfl (by kernel_rfl) ?_
   intro xx g ag lg kg ax lx kx W11 hx263 hx264 hx265 hblk hM11
   simp only [sets,List.foldl_cons,List.foldl_nil,A5,A6,hx263,hx264,hx265]
   replace hS2:=A8 (hS2.out.call hM11.out.below)
   clear hM11 HD VC
   go_wp2_with fail
   refine eq_l8 (bS:=bS) (bT:=bT) (g:=g) (c:=c) (sv:=.slice a r cp) (tv:=.slice (some ⟨B,0,none⟩) r cap) (rows:=rows) (rows2:=tR) (vv:=(fun j=>match j with | 0=>(.slice none 0 0:Value) | 1=>.slice none 0 0 | 2=>.slice ag lg kg | _=>.slice ax lx kx)) (ll:=(fun j=>match j with | 0=>([]:List ByteArray) | 1=>[] | 2=>x.hidN | _=>vecL c l)) (dd:=(fun j=>match j with | 0=>(⟨#[]⟩:ByteArray) | 1=>⟨#[]⟩ | 2=>⟨#[49]⟩ | _=>I (1+pkv den 9))) (w:=W11) (A8 (hS2.out.env hE.out)) (A8 ⟨A9 hSc.out.1 hS2.out.mem.size,A9 hTc.out.1 hS2.out.mem.size,hblk.out.1.lt⟩) (A8 fun nums den=>G8 hvl.out hvt.out htq.out) (A8 ⟨hS2.out.mem.old hSc.out.1 hSc.out.2.1,hS2.out.mem.old hSc.out.1 hSc.out.2.2⟩) (A8 ⟨hS2.out.mem.old hTc.out.1 hTc.out.2.1,hS2.out.mem.old hTc.out.1 hTc.out.2.2⟩) (A8 ⟨hR.out.below hS2.out.mem.below,hT.out.below hS2.out.mem.below⟩) (A8 fun j hj=>match j,hj with | 0,_=>⟨hblk.out.1.cell (0*2),hblk.out.1.cell (0*2+1),(SlG.nil _)⟩ | 1,_=>⟨hblk.out.1.cell (1*2),hblk.out.1.cell (1*2+1),(SlG.nil _)⟩ | 2,_=>⟨hblk.out.1.cell (2*2),hblk.out.1.cell (2*2+1),hblk.out.2.1⟩ | 3,_=>⟨hblk.out.1.cell (3*2),hblk.out.1.cell (3*2+1),hblk.out.2.2⟩) (by kernel_rfl) ?_
   intro _ _ _ _ _ _ _ _ _ _ _ _ _ _ W12 hB12
   have hfin:=A8 (hB.out.trans ((hS2.out.mem.below.trans (hB12.out.mono hS2.out.mem.size)).mono hB.out.size))
   clear hB12 hblk hS2 hN hB hE hT hR hL hZ hTc hSc hLc hZc hNc
   go_wp2
   go_ret
   exact ⟨rfl,hfin.out⟩
end
end Go.Proofs.YtcmomjnailihpaaGreatDoor
