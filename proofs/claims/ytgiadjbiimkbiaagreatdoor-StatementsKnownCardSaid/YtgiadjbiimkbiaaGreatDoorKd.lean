/-
  Texts of this proof, joined: SoQ, SoR, SoS, SpA, SpB, SpC, SpD, SpE, SrA, SqA, SqC, SqD, BmG, SqE, SrB, SrC, SsA, SsB, SqB, SqF, SqG, SpF, SpG, SrD, SrE, SsC, SsD, SsE.
  Conditions: none.
-/
import Derived.Test.YtgiadjbiimkbiaaGreatDoorKc
import Derived.Test.YtgiadjbiimkbiaaGreatDoorKb
import Derived.Lib.Space
import Derived.Lib.AtoiErrMem
set_option linter.unusedSimpArgs false
set_option linter.unnecessarySimpa false
set_option linter.unusedVariables false
open Bool renaming and_true->J6,and_eq_true->Ky,true_and->VN,false_or->VS,false_and->VO,and_false->VQ,or_eq_true->JH,not_eq_true'->Jh,and_assoc->Vo
open Go.AM.PMap renaming le_trans->JP
open List renaming range'->Js,mem_singleton->V4,mem_cons->KW,mem_cons_self->Je,map_cons->Ke,flatten_cons->Vp,mem_cons_of_mem->Jf,take_succ_cons->Ki,take_zero->Bh,length_map->Jn,map_append->JI,length_append->Jb,mem_append->JV,set_cons_succ->Kj,set_cons_zero->VE,getD_cons_zero->VX,getD_cons_succ->Kn,map_eq_nil_iff->Vz,drop_eq_getElem_cons->Vb,getD->Ko,mem_map_of_mem->BK,getElem?_eq_getElem->JB,getElem_mem->Vw,drop_length->Va,drop_of_length_le->Bl,take_add_one->Bn,length_take->K4,take_length->Jo,length_cons->KX,length_nil->JD,drop_zero->Vn,append_nil->JE,nil_append->Jd,cons_append->Kh,dropWhile_cons->Eg,length_reverse->Eh,length_pos_iff->Bu,drop_succ_cons->Vr,range->KP,all_eq_true->Jz,mem_range->JA,getElem?_drop->Kq,drop_drop->Em,getElem?_eq_some_iff->Jw,length_singleton->JF,append_assoc->K9,getElem?_cons_zero->Kz,filterMap_cons->Vx,filterMap_nil->Eo,getElem?_cons_succ->KM,prefix_refl->Ep,prefix_append->Er,all_append->Es,foldl_cons->Et,eq_nil_of_length_eq_zero->Kg,contains_cons->VF,contains_nil->VG,take_of_length_le->JZ,mem_reverse->Ez
open Go.AM.Sub renaming refl->Vi,none->Be,trans->Br,set->Vj,set_both->Eu
open Go.AM.Slots renaming get->VZ,keep->Ev
open Nat renaming zero_le->Jq,add_zero->K6,lt_or_ge->KT,zero_add->Jp,le_of_ble_eq_true->VY,add_sub_cancel->Ec,add_assoc->Kw,le_trans->Ve,mul_one->Bi,le_refl->KL,lt_of_not_le->J4,eq_or_lt_of_le->Jy,sub_zero->En
open Go.AM.Sep renaming fold->BX,lay->Eb,emp->El
open Go.Stm.ParseR renaming sent->BZ
open Go.AM.Awp renaming keep->JR
open Int renaming toNat_natCast->VD,ofNat_le->Ej,tmod->Ew,tmod_eq_emod_of_nonneg->Ex,natCast_emod->Ey
open Go.Proofs.YtgiadjbiimkbiaaGreatDoor.StsV renaming mono->Ea
open Go.AM.AVal renaming cells->BL
open Go.AM.AHeap renaming set_none->Bd,set_ne->Vg,set_set->Bg,ne_some->Bf,set_same->Vh
open Go.AM.IsL renaming own->Bz
open Go.Stm.StC renaming verb->Ed,phrases->Ee,bodies->Ef
open UInt8 renaming le_iff_toNat_le->Ei
open Array renaming getD->JC,replicate->Ju
namespace Go.AM
section
variable {P:Program} {w0:World} {s:Slots} {h:AHeap}
theorem qrr{n:FrameK}{ops:List Oper}{i:Nat}{dst:Option Tmp}{fo:Operand}{args:Array Operand}{ts:Array TypeId}{ty:TypeId}{pos:String}{af:Array Edge}{fi:PMap}{a:Act}{w:World}{Q:Exit->Act->World->Prop}{K:Act->World->Prop}{R Rp:AVal->AHeap->Prop}{f:FuncId}{cap:List AVal}
 (hd:(match dst with|some d=>decide (d<n.sz)|none=>true)=true) (ho:ops[i]?=some ⟨dst, .call ⟨.value fo,args,ts⟩,ty,pos,af,none⟩) (hf:ev s fo= .func f cap) (hcall:ACallE P w0 f (evs s args.toList++cap) h R Rp) (hr:HRel w0 fi h w) (hs:SRel fi n s a)
 (hk:∀(Ps:PMap) (x:AVal) (h':AHeap) (a':Act) (w':World),fi.le Ps->HRel w0 Ps h' w'->SRel Ps n (putD s dst x) a'->R x h'->K a' w')
 (hq:∀(Ps:PMap) (v:Value) (x:AVal) (h':AHeap) (w':World),fi.le Ps->HRel w0 Ps h' w'->VR Ps x v->Rp x h'->Q (.panic [{v,recovered:=false}]) a w'):wpOp P ops.toArray Q i K a w:=by
 have hv:=hs.evs args.toList;have hfv:=hs.ev fo;rw[hf]at hfv;simp only[VR]at hfv;obtain⟨vs,hfe,hcap⟩:=hfv;obtain⟨fn,g1,g2,g3,g4⟩:=hcall fi (args.toList.map a.eval++vs) w hr (qah hv hcap);have hx:(execOp a.eval ⟨dst, .call ⟨.value fo,args,ts⟩,ty,pos,af,none⟩).run P w= .ok (.enter f (args.toList.map a.eval++vs).toArray) w:=by
  have hb:¬fn.body=none:=fun e=>by rw[e]at g3;cases g3
  have hn':¬fn.name= "runtime.NumGoroutine":=by simpa using g2
  have ea:args.map a.eval=(args.toList.map a.eval).toArray:=map_toArray _ _;simp only[execOp,resolve,hfe,Deferred.ofValue,Sem.run_bind,Sem.run_pure,Result.andThen_ok,invoke];rw[ea];simp[callFunc,g1,hn',hb]
 have ho':ops.toArray[i]?=some ⟨dst, .call ⟨.value fo,args,ts⟩,ty,pos,af,none⟩:=by simpa using ho
 unfold wpOp;simp only[ho'];rw[if_pos (by simp[Region.wanted])];refine .inl ?_;unfold Oper.wp;rw[hx,Oper.upon_enter];refine g4.mono fun e w' q=>?_;rcases q with⟨v,rfl,Ps,x,h'',q1,q2,q3,q4⟩|⟨v,rfl,Ps,x,h'',q1,q2,q3,q4⟩
 ·exact hk Ps x h'' _ w' q1 q2 ((hs.mono q1).putD hd q3) q4
 ·exact hq Ps v x h'' w' q1 q2 q3 q4
theorem qtf{k:Nat}{ds:List Deferred}{s₀:Slots}{R Rp:AVal->AHeap->Prop}{id:Nat}{l:List Oper}{o0 o1 o3 o4:Oper}{dst:Option Tmp}{fo:Operand}{args:Array Operand}{ts:Array TypeId}{ty:TypeId}{pos:String}{af:Array Edge}{Q:Exit->Slots->AHeap->Prop}{v0 v1:AVal}
 (hm:P.follows .mixedOrders=true) (hl:l=[o0,o1,⟨dst, .call ⟨.value fo,args,ts⟩,ty,pos,af,none⟩,o3,o4]) (hg0:o0.guard=none) (hg1:o1.guard=none) (hd:Qo k l=true)
 (hr0:Region.ready .any l.toArray #[false,false,false,false,false]=[0,1]) (hr1:Region.ready .any l.toArray #[true,false,false,false,false]=[1]) (hr2:Region.ready .any l.toArray #[false,true,false,false,false]=[0,2]) (hr3:Region.ready .any l.toArray #[true,true,false,false,false]=[2])
 (hr4:Region.ready .any l.toArray #[true,true,true,false,false]=[3]) (hr5:Region.ready .any l.toArray #[false,true,true,false,false]=[0]) (hr6:Region.ready .any l.toArray #[true,true,true,true,false]=[4]) (hr7:Region.ready .any l.toArray #[true,true,true,true,true]=[])
 (hp0:∀s' h',(h'=h\/∃x,R x h')->(s'=s\/s'=putD s o1.dst v1\/∃x,s'=putD (putD s o1.dst v1) dst x)->(pop P w0 h' s' o0.op).pre/\(pop P w0 h' s' o0.op).val=v0)
 (hp1:∀s',(s'=s\/s'=putD s o0.dst v0)->(pop P w0 h s' o1.op).pre/\(pop P w0 h s' o1.op).val=v1)
 (hA:∀s',s'=putD s o1.dst v1\/s'=putD (putD s o0.dst v0) o1.dst v1\/s'=putD (putD s o1.dst v1) o0.dst v0->
   (∃f cap,ev s' fo= .func f cap/\ACallE P w0 f (evs s' args.toList++cap) h R Rp)/\∀i,s₀.get i=s'.get i\/s₀.get i= .dead)
 (hK:∀s' x h',R x h'->s'=putD (putD (putD s o0.dst v0) o1.dst v1) dst x\/s'=putD (putD (putD s o1.dst v1) o0.dst v0) dst x\/s'=putD (putD (putD s o1.dst v1) dst x) o0.dst v0->Ql P w0 l [o3,o4] s' h' (fun s'' h''=>Q .normal s'' h'')):
 Awp P w0 ⟨k,ds,GP w0 k ds s₀ Rp⟩ (.region id l.toArray true) Q s h:=by
 intro fi a w hr hs;refine wp_region_any hm ?_;have hlen:l.length=5:=by rw[hl];rfl
 have ho0:l[0]?=some o0:=by rw[hl];rfl
 have ho1:l[1]?=some o1:=by rw[hl];rfl
 have ho2:l[2]?=some ⟨dst, .call ⟨.value fo,args,ts⟩,ty,pos,af,none⟩:=by rw[hl];rfl
 have hsz:l.toArray.size=5:=by simpa using hlen
 have hds:=hd;rw[hl]at hds;simp only[J6,Ky,Qo]at hds;obtain⟨hd0,hd1,hd2,hd34⟩:=hds;rw[hsz];have hw:HRel w0 fi h {w with drawn:=w.drawn+1}:=hr.drew;have tail:∀(Ps:PMap) (s':Slots) (h':AHeap) (a':Act) (w':World),fi.le Ps->HRel w0 Ps h' w'->SRel Ps ⟨k,ds,GP w0 k ds s₀ Rp⟩ s' a'->Ql P w0 l [o3,o4] s' h' (fun s'' h''=>Q .normal s'' h'')->
  wpAny P .any l.toArray (AQ w0 ⟨k,ds,GP w0 k ds s₀ Rp⟩ fi Q) 2 #[true,true,true,false,false] a' w':=by
  intro Ps s' h' a' w' hle hr' hs' hk;have:=qdS (P:=P) (w0:=w0) l ⟨k,ds,GP w0 k ds s₀ Rp⟩ [] hd [o3,o4] 3 Ps s' h' a' w' _ (AQ w0 ⟨k,ds,GP w0 k ds s₀ Rp⟩ fi Q) (fun j hj=>by
   rw[hl];match j,hj with
   |0,_=>rfl
   |1,_=>rfl) (by simp only[J6,Ky,Qo];exact hd34) hk hr' hs' (fun χ s'' h'' a'' w'' e1 e2 e3 e4=> .inl ⟨χ,s'',h'',JP hle e1,e2,e3,e4⟩)
  rw[show Js 3 [o3,o4].length++[]=[3,4]from rfl,wpOps_cons]at this;refine⟨fun e=>(by rw[hr4]at e;cases e),fun i hi=>?_⟩;rw[hr4]at hi;rw[V4.1 hi];refine wpOp_mono (fun a2 w2 q=>?_) this;rw[wpOps_cons]at q;show wpAny P .any l.toArray _ 1 #[true,true,true,true,false] a2 w2
  refine⟨fun e=>(by rw[hr6]at e;cases e),fun i hi=>?_⟩;rw[hr6]at hi;rw[V4.1 hi];refine wpOp_mono (fun a3 w3 q=>?_) q;exact⟨hr7,q⟩
 have call:∀(s':Slots) (a':Act) (K:Act->World->Prop),SRel fi ⟨k,ds,GP w0 k ds s₀ Rp⟩ s' a'->((∃f cap,ev s' fo= .func f cap/\ACallE P w0 f (evs s' args.toList++cap) h R Rp)/\∀i,s₀.get i=s'.get i\/s₀.get i= .dead)->
  (∀(Ps:PMap) (x:AVal) (h':AHeap) (a2:Act) (w':World),fi.le Ps->HRel w0 Ps h' w'->SRel Ps ⟨k,ds,GP w0 k ds s₀ Rp⟩ (putD s' dst x) a2->R x h'->K a2 w')->
  wpOp P l.toArray (AQ w0 ⟨k,ds,GP w0 k ds s₀ Rp⟩ fi Q) 2 K a' {w with drawn:=w.drawn+1}:=by
  intro s' a' K hs' ⟨⟨f,cap,hf,hcall⟩,hs0⟩ hk;refine qrr hd2 ho2 hf hcall hw hs' hk fun Ps v x h' w' q1 q2 q3 q4=> .inr ⟨trivial,Ps,q1,v,rfl,Ps,x,h',Ps.le_refl,q2,q3,q4,⟨hs'.size,hs'.defers,fun i=>?_⟩⟩;rcases hs0 i with e|e
  ·rw[e];exact Ww q1 _ _ (hs'.val i)
  ·rw[e];simp[VR]
 show wpAny P .any l.toArray _ 5 #[false,false,false,false,false] a _
 refine⟨fun e=>(by rw[hr0]at e;cases e),fun i hi=>?_⟩;rw[hr0]at hi;rcases KW.1 hi with rfl|hi
 ·obtain⟨p0,e0⟩:=hp0 s h (.inl rfl) (.inl rfl)
  refine qdu ho0 hg0 hd0 p0 hw hs fun a1 hs1=>?_;rw[e0]at hs1;show wpAny P .any l.toArray _ 4 #[true,false,false,false,false] a1 _
  refine⟨fun e=>(by rw[hr1]at e;cases e),fun i hi=>?_⟩;rw[hr1]at hi;rw[V4.1 hi];obtain⟨p1,e1⟩:=hp1 _ (.inr rfl);refine qdu ho1 hg1 hd1 p1 hw hs1 fun a2 hs2=>?_;rw[e1]at hs2;show wpAny P .any l.toArray _ 3 #[true,true,false,false,false] a2 _
  refine⟨fun e=>(by rw[hr3]at e;cases e),fun i hi=>?_⟩;rw[hr3]at hi;rw[V4.1 hi];refine call _ _ _ hs2 (hA _ (.inr (.inl rfl))) fun Ps x h' a3 w' q1 q2 q3 q4=>?_;exact tail Ps _ h' a3 w' q1 q2 q3 (hK _ x h' q4 (.inl rfl))
 ·rw[V4.1 hi]
  obtain⟨p1,e1⟩:=hp1 _ (.inl rfl);refine qdu ho1 hg1 hd1 p1 hw hs fun a1 hs1=>?_;rw[e1]at hs1;show wpAny P .any l.toArray _ 4 #[false,true,false,false,false] a1 _
  refine⟨fun e=>(by rw[hr2]at e;cases e),fun i hi=>?_⟩;rw[hr2]at hi;rcases KW.1 hi with rfl|hi
  ·obtain⟨p0,e0⟩:=hp0 _ h (.inl rfl) (.inr (.inl rfl))
   refine qdu ho0 hg0 hd0 p0 hw hs1 fun a2 hs2=>?_;rw[e0]at hs2;show wpAny P .any l.toArray _ 3 #[true,true,false,false,false] a2 _
   refine⟨fun e=>(by rw[hr3]at e;cases e),fun i hi=>?_⟩;rw[hr3]at hi;rw[V4.1 hi];refine call _ _ _ hs2 (hA _ (.inr (.inr rfl))) fun Ps x h' a3 w' q1 q2 q3 q4=>?_;exact tail Ps _ h' a3 w' q1 q2 q3 (hK _ x h' q4 (.inr (.inl rfl)))
  ·rw[V4.1 hi]
   refine call _ _ _ hs1 (hA _ (.inl rfl)) fun Ps x h' a3 w' q1 q2 q3 q4=>?_;show wpAny P .any l.toArray _ 3 #[false,true,true,false,false] a3 w'
   refine⟨fun e=>(by rw[hr5]at e;cases e),fun i hi=>?_⟩;rw[hr5]at hi;rw[V4.1 hi];obtain⟨p0,e0⟩:=hp0 _ h' (.inr ⟨x,q4⟩) (.inr (.inr ⟨x,rfl⟩));refine qdu ho0 hg0 hd0 p0 q2 q3 fun a4 hs4=>?_;rw[e0]at hs4;exact tail Ps _ h' a4 w' q1 q2 hs4 (hK _ x h' q4 (.inr (.inr rfl)))
end
end Go.AM
namespace Go.Proofs.YtgiadjbiimkbiaaGreatDoor
open Go.AM
open Go.Proofs
open Go.Col (Str FaultC okF)
open Go.Tok (TokC)
open Go.Stm
open Go.RowKit (Below)
set_option maxRecDepth 100000
def ParseOk(w0:World)(l:List TokC)(h:AHeap):AVal->AHeap->Prop:=fun r h'=>Sub h h'/\∃L j rv E,ParseR qZ l Qg (.ok L j)/\r= .tuple [rv,faultV okF]/\Sep [h,E] h'/\StsV w0 32 E rv L
def qtt(l:List TokC)(h:AHeap)(k2 k3:Nat):AVal->AHeap->Prop:=fun x h'=>Sub h h'/\∃f,ParseR qZ l Qg (.bad f)/\x= .iface 48 (faultV f)/\(∃b,h' k2=some ⟨[b],0⟩)/\∃y1 y2 y3,h' k3=some ⟨[y1,y2,y3],0⟩
structure PaG where
 i:Nat
 ov:AVal
 op:AHeap
 qs:List (StC×AVal×AVal)
 rv:AVal
 rp:AHeap
 E:AHeap
 H:AHeap
structure PaI(w0:World)(l:List TokC)(h:AHeap)(k2 k3 kp:Nat)(v:AVal)(g:PaG):Prop where
 sep:Sep [h,one k2 ⟨[g.rv],0⟩,one k3 ⟨[.int .i64 0, .int .i64 0, .int .i64 0],0⟩,one kp (parB3 v g.i g.ov),g.op,g.rp,g.E] g.H
 par:ParS w0 l h v g.ov g.op [] g.i
 row:GrowV 5 g.rv g.rp (g.qs.map qcy)
 isG:isG g.rv=true
 els:∀q∈g.qs,PhV w0 g.E q.2.1 q.1.phrases/\BdV w0 (StsV w0 31 g.E) g.E q.2.2 q.1.bodies
 few:g.qs.length<=g.i
 go:∀r,SentR qZ l Qg g.i (g.qs.map (·.1)) r->SentR qZ l Qg 0 [] r
theorem qkb{qs:List (StC×AVal×AVal)}(h:∀q∈qs,q.2.1.scal=true/\q.2.2.scal=true):Qt (qs.map qcy).flatten=true:=by
 induction qs with
 |nil=>rfl
 |cons q qs ih=>
  obtain⟨a,b⟩:=h q Je;rw[Ke,Vp];show(true && (true && (true && (q.2.1.scal && (q.2.2.scal && Qt (qs.map qcy).flatten)))))=true
  rw[a,b,ih fun x hx=>h x (Jf _ hx)];rfl
set_option maxHeartbeats 16000000 in
theorem l_parse(w0:World)(hm:MaxL w0)(ha:Asp w0)(l:List TokC)(hl:l.length<=1000000)(hsh:Short l)(h H:AHeap)(k2 k3:Nat)(v:AVal)(d:Deferred)(hv:IsL w0 h 5 v (l.map Xg))(hS:Sep [h,one k2 ⟨[.nilSlice],0⟩,one k3 ⟨[.int .i64 0, .int .i64 0, .int .i64 0],0⟩] H):
 Awp Tryz.prog w0 ⟨59,[d],GP w0 59 [d] [(2, .ptr (.own k2) 0),(3, .ptr (.own k3) 0)] (qtt l h k2 k3)⟩ (Wv 2 (qbV Tryz.f12)) (retQ fun sX hX=>qcU Tryz.prog w0 [.cell 2 45, .cell 3 48] (ParseOk w0 l h) .ret sX hX) [(0,v),(2, .ptr (.own k2) 0),(3, .ptr (.own k3) 0)] (H):=by
 have eb_2:H k2=some _:=hS.at_ (i:=1) rfl;have eb_3:H k3=some _:=hS.at_ (i:=2) rfl;have ne_2_3:k2≠k3:=hS.ne (i:=1) (j:=2) rfl rfl (by decide);have hs_H:Sub h H:=hS.in_ (i:=0) rfl;have hlv:=hv.live;have nv:=ZN hv;have hbu:YH Tryz.prog 96 [(0,v)]=⟨True, .agg [v, .int .i64 0, .nilSlice]⟩:=by generalize l.map Xg=X at hv;cases hv<;>kernel_rfl
 change Awp _ _ _ (Code.seq _ _) _ _ _;refine awp_rseq [0,2,3,4] (by rfl) fun K hK=>?_;simp+decide only[Qe,QW,Zo,↓qc,↓XO,↓QN,hbu];refine UU (v:= .agg [v, .int .i64 0, .nilSlice]) (cs:=[v, .int .i64 0, .nilSlice]) (by rfl) (by simp+decide only[J6,allLive,qdk,qem,Wt]) (by rfl) fun k2q2 hk2q2=>?_;simp+decide only[qP,↓qa];apply hK;clear hK K;refine qi ?_;obtain⟨H3,hH3⟩:∃H3,H3=H.set k2q2 ⟨[v, .int .i64 0, .nilSlice],0⟩:=⟨_,rfl⟩
 refine Awp.forget (h':=H3) (by rw[hH3];exact Vi _) ?_;have hS3:=hS.lay hk2q2 ⟨[v, .int .i64 0, .nilSlice],0⟩;rw[<-hH3]at hS3;simp only[Xf]at hS3;have eb_2:H3 k2=some _:=hS3.at_ (i:=1) rfl;have eb_3:H3 k3=some _:=hS3.at_ (i:=2) rfl;have eb_2q2:H3 k2q2=some _:=hS3.at_ (i:=3) rfl;have ne_2_2q2:k2≠k2q2:=hS3.ne (i:=1) (j:=3) rfl rfl (by decide);have ne_3_2q2:k3≠k2q2:=hS3.ne (i:=2) (j:=3) rfl rfl (by decide);have hs_H3:Sub h H3:=hS3.in_ (i:=0) rfl;refine awp_rseq [0,2,3,4,11] (by rfl) fun K hK=>?_;simp+decide only[QK,qK,Qh,YG,↓qc,↓Qi,↓qd,nv];apply hK;clear hK K;refine qz (b:=_) rfl (fun hb1=>?_) (fun hb1=>?_)
 ·try simp only[qG]at hb1
  refine YE 1 (by rfl) (by rfl) ?_;simp only[Ki,Bh];simp+decide only[Qe,↓qc];refine⟨⟨_,_,by rfl,?_⟩,fun i=>match i with|0=> .inr rfl|1=> .inr rfl|2=> .inl rfl|3=> .inl rfl|i+4=> .inr (by simp[VZ])⟩;exact(qev w0 _ h k2q2 v .nilSlice l 0 3 65536 eb_2q2 hs_H3 hv hl (by omega)).mono (fun _ _ q=>q) fun x h' ⟨q1,q2⟩=>⟨hs_H3.trans q2,_,ParseR.long (by omega),q1,⟨_,q2 _ _ eb_2⟩,_,_,_,q2 _ _ eb_3⟩
 ·try simp only[qG]at hb1
  have hl5:l.length<=65536:=by omega
  refine qF ?_;change Awp _ _ _ _ _ _ _;refine qi ?_;refine qI ?_;refine Qj [0,2,3,4] (fun g:PaG=>[(0,v),(2, .ptr (.own k2) 0),(3, .ptr (.own k3) 0),(4, .ptr (.own k2q2) 0)]) (fun g:PaG=>g.H) (fun g:PaG=>PaI w0 l h k2 k3 k2q2 v g) (fun g:PaG=>l.length-g.i) ⟨0, .nilSlice,emp,[], .nilSlice,emp,emp,H3⟩ (by rfl) (Vi _) ⟨hS3.emp.emp.emp,⟨hv, .nil,rfl,Jq _⟩, .nil,rfl,(fun q hq=>by cases hq),Jq _,fun r hr=>hr⟩ ?_;rintro⟨i,ov,op,qs,rv,rp,E,H⟩ ⟨hS,hP,hrow,hG,hels,hfew,hgo⟩;simp only at hS hP hrow hG hels hfew hgo|-
  have eb_2:H k2=some _:=hS.at_ (i:=1) rfl;have eb_3:H k3=some _:=hS.at_ (i:=2) rfl;have eb_2q2:H k2q2=some _:=hS.at_ (i:=3) rfl;have hs_H:Sub h H:=hS.in_ (i:=0) rfl;have hrl:=hrow.live;refine qi ?_;refine awp_rseq [0,2,3,4,20] (by rfl) fun K hK=>?_;simp+decide only[QK,QU,qj,Qh,QY,Xh,Wd,↓qc,↓Qf,↓qh,↓qo,qf ag3,↓Qi,↓qd,Qm eb_2q2,nv];apply hK;clear hK K;refine qz (b:=_) rfl (fun hb2=>?_) (fun hb2=>?_)
  ·try simp only[qG]at hb2
   have hil:i<l.length:=by omega
   have hdj:[h,one k2 ⟨[rv],0⟩,one k3 ⟨[.int .i64 0, .int .i64 0, .int .i64 0],0⟩,rp,E].Pairwise disj:=(hS.pick [0,1,2,5,6] (by decide) (by simp)).2;have hu:=Xy hdj;obtain⟨BB,hBB⟩:∃BB,BB=Wl [h,one k2 ⟨[rv],0⟩,one k3 ⟨[.int .i64 0, .int .i64 0, .int .i64 0],0⟩,rp,E]:=⟨_,rfl⟩
   rw[<-hBB]at hu;have hcall:=(c_list w0 hm ha l (by omega) hsh H BB k2q2 v ov op [] i (by rw[hBB];exact BX (ps:=[h,one k2 ⟨[rv],0⟩,one k3 ⟨[.int .i64 0, .int .i64 0, .int .i64 0],0⟩,rp,E]) (hS.pick [0,1,2,5,6,3,4] (by decide) (by simp))) ⟨hv.mono (hu h (by simp)),hP.open_,hP.isG,hP.at_⟩ (fun f hf=>by cases hf) rfl).mono (R':=qjO w0 l BB k2q2 v [] 1 i) (Rp':=qtt l h k2 k3) (fun _ _ q=>q) fun x h' ⟨f,q1,q2,q3⟩=>⟨(hu h (by simp)).trans q3,f,BZ (by omega) (hgo _ (SentR.bad hil q1)),q2,⟨rv,q3 _ _ (hu _ (by simp) _ _ (one_at _ _))⟩,_,_,_,q3 _ _ (hu (one k3 ⟨[.int .i64 0, .int .i64 0, .int .i64 0],0⟩) (by simp) _ _ (one_at _ _))⟩
   refine qF ?_;change Awp _ _ _ _ _ _ _;refine qI ?_;refine qi ?_;have hR2:∀x h',qjO w0 l BB k2q2 v [] 1 i x h'->h' k2=some ⟨[rv],0⟩:=fun x h' ⟨L,j,ov2,op2,E2,q1,q2,q3,q4,q5,q6⟩=>q6.in_ (i:=0) rfl _ _ (hu _ (by simp) _ _ (one_at _ _));refine qtf (v0:=rv) (v1:= .ptr (.own k2q2) 0) (R:=qjO w0 l BB k2q2 v [] 1 i) mixed (by rfl) rfl rfl (by rfl) (by kernel_rfl) (by kernel_rfl) (by kernel_rfl) (by kernel_rfl) (by kernel_rfl) (by kernel_rfl) (by kernel_rfl) (by kernel_rfl) (fun s' h' hh hs=>?_) (fun s' hs=>?_) (fun s' hs=>?_) (fun s' x h' hx hs=>?_)
   ·have e2:h' k2=some ⟨[rv],0⟩:=by
     rcases hh with rfl|⟨x,hx⟩
     ·exact eb_2
     ·exact hR2 x h' hx
    have es:VZ s' 2= .ptr (.own k2) 0:=by rcases hs with rfl|rfl|⟨x,rfl⟩<;>rfl
    show(Yt Tryz.prog w0 h' 45 (s'.get 2)).pre/\(Yt Tryz.prog w0 h' 45 (s'.get 2)).val=rv
    rw[es,qf qiH,Yc w0 e2];exact⟨hrl,rfl⟩
   ·have es:VZ s' 4= .ptr (.own k2q2) 0:=by rcases hs with rfl|rfl<;>rfl
    exact⟨trivial,es⟩
   ·refine⟨⟨30,[],rfl,?_⟩,?_⟩
    ·have es:evs s' [Operand.tmp 22, .const (.int .i64 1)]=[.ptr (.own k2q2) 0, .int .i64 1]:=by rcases hs with rfl|rfl|rfl<;>rfl
     show ACallE _ _ _ (evs s' [Operand.tmp 22, .const (.int .i64 1)]++[]) _ _ _
     rw[es];exact hcall
    ·intro i
     match i with
     |0=>exact .inr rfl
     |1=>exact .inr rfl
     |2=>rcases hs with rfl|rfl|rfl<;>exact .inl rfl
     |3=>rcases hs with rfl|rfl|rfl<;>exact .inl rfl
     |i+4=>exact .inr (by simp[VZ])
   obtain⟨L,j,ov2,op2,E2,hR,hij,hLn,hsts,hP2,hS2⟩:=hx;rw[hBB]at hS2;have hS2:=hS2.unfold hdj;have hse:s'=[(0,v),(2, .ptr (.own k2) 0),(3, .ptr (.own k3) 0),(4, .ptr (.own k2q2) 0),(20, .bool (decide ((i:Int)<(l.length:Int)))),(21,rv),(22, .ptr (.own k2q2) 0),(23,x)]:=by rcases hs with rfl|rfl|rfl<;>rfl
   subst hse;obtain⟨qL,hqL,hrL,hels2⟩:=(show StsV w0 (31+1) E2 x L from hsts)
   have hjl:=hP2.at_;have hqn:qL.length=L.length:=by rw[hqL,Jn]
   refine Zu (es:=5) (v:=rv) (p:=rp) (xs:=qs.map qcy) (ys:=qL.map qcy) (i:=3) (by rfl) (by rfl) Tryz.underlying45 Tryz.underlying45 (fun k e=>by cases e) WF by82 qjs (by rfl) (by decide) (by rfl) hrow hG rfl hS2 (by rfl) (hrL.mono (hS2.in_ (i:=7) rfl)) (qkb fun q hq=>⟨(hels2 q hq).1.scal,(hels2 q hq).2.scal⟩) (by simp only[Jn];omega) (by simp only[Jn];omega) fun rv2 rp2 h6 hrow2 hG2 hS6=>?_;refine qN (v:=rv2) (by rfl) (by rfl) (hS6.at_ (i:=1) rfl) sz45 hrow2.live (by rw[hrow2.cells];rfl) (by simp only[QF];omega) (Jq _) (by rw[hrow2.cells];simp[Qt,hrow2.scal]) ?_;simp only[Xo,WB,hrow2.cells];rw[QB];show Awp _ _ _ _ _ _ _
   obtain⟨H7,hH7⟩:∃H7,H7=h6.set k2 ⟨[rv2],0⟩:=⟨_,rfl⟩
   refine Awp.forget (h':=H7) (by rw[hH7];exact Vi _) ?_;have hS7:=hS6.put (i:=1) rfl ⟨[rv2],0⟩;rw[<-hH7]at hS7;simp only[Xo,Xf]at hS7;have eb_2:H7 k2=some _:=hS7.at_ (i:=1) rfl;have eb_3:H7 k3=some _:=hS7.at_ (i:=2) rfl;have eb_2q2:H7 k2q2=some _:=hS7.at_ (i:=5) rfl;have hs_H7:Sub h H7:=hS7.in_ (i:=0) rfl;have hlo2:=hP2.open_.live;refine JR [0,2,3,4] ?_;refine qi ?_;have mcase:(∃(lc:AM.Loc) (o:Nat) (cc:Cap),v= .slice lc o l.length cc/\j<l.length/\decide ((j:Int)=(l.length:Int))=false/\rd w0 H7 lc (o+j*5)= .int .u8 (l.getD j noT).kind.toNat/\decide (((l.getD j noT).kind.toNat:Int)=6)=decide ((l.getD j noT).kind=6)/\decide (j=l.length\/(l.getD j noT).kind≠6)= !decide ((l.getD j noT).kind=6))\/
    (∃(lc:AM.Loc) (o:Nat) (cc:Cap),v=v/\¬j<l.length/\decide ((j:Int)=(l.length:Int))=true/\True/\True/\decide (j=l.length\/(l.getD j noT).kind≠6)=true):=by
    by_cases hlt:j<l.length
    ·obtain⟨lc,o,cc,hve⟩:=Ye hv (by omega)
     have hv2:=hv.mono hs_H7;rw[hve]at hv2;refine .inl ⟨lc,o,cc,hve,hlt,by rw[decide_eq_false_iff_not];omega,(WU hv2 hlt).1,Yg _ 6,?_⟩;by_cases q:(l.getD j noT).kind=6
     ·rw[decide_eq_true q,decide_eq_false]
      ·rfl
      ·rintro(z|z)
       ·omega
       ·exact z q
     ·rw[decide_eq_false q,decide_eq_true (.inr q)];rfl
    ·exact .inr ⟨.base 0,0, .exact 0,rfl,hlt,by rw[decide_eq_true_eq];omega,trivial,trivial,decide_eq_true (.inl (by omega))⟩
   refine awp_rseq [0,2,3,4,42] (by rfl) fun K hK=>?_;suffices hM:∀b:Bool,b=decide (j=l.length\/(l.getD j noT).kind≠6)->K [(0,v),(2, .ptr (.own k2) 0),(3, .ptr (.own k3) 0),(4, .ptr (.own k2q2) 0),(42, .bool b)] (H7) by
    rcases mcase with⟨lc,o,cc,hve,hkl,hkd,e0,hk6,hfin⟩|⟨lc,o,cc,hve,hkl,hkd,e0,hk6,hfin⟩<;>(
     simp+decide only[Xk,XI,VD,qj,K6,ZH,Yl,QS,Xh,XA,Ze,Zt,ZF,Wd,WY,Um,↓qc,↓Qf,↓qh,↓qo,qf ag3,↓Qi,QV Tryz.underlying39,↓qd,↓Qy,↓qdg,↓QM,↓Xv,↓Zb,qg Tryz.underlying39 Yo,qf qjA,↓Qn,↓Qd,Qm eb_2q2,nv,hve,hkd,e0,hk6];repeat (with_reducible refine zqP ?_)
     first|exact hM _ hfin.symm|(rw[hve]at hM;exact hM _ hfin.symm))
   intro b hb_7;apply hK;clear hK K;refine qz (b:=_) rfl (fun hb3=>?_) (fun hb3=>?_)
   ·skip
    have hend:j=l.length\/(l.getD j noT).kind≠6:=of_decide_eq_true (by rw[<-hb_7];exact hb3);refine YE 5 (by rfl) (by rfl) ?_;simp only[Ki,Bh];simp+decide only[Qe,QU,Xh,Wd,↓qc,↓Qf,↓qh,↓qo,qf ag3,Qm eb_2q2];refine⟨⟨_,_,by rfl,?_⟩,fun i=>match i with|0=> .inr rfl|1=> .inr rfl|2=> .inl rfl|3=> .inl rfl|i+4=> .inr (by simp[VZ])⟩;exact(qev w0 _ h k2q2 v ov2 l j 4 j eb_2q2 hs_H7 hv hl (by omega)).mono (fun _ _ q=>q) fun x h' ⟨q1,q2⟩=>⟨hs_H7.trans q2,_,BZ (by omega) (hgo _ (SentR.open hil hR hend)),q1,⟨_,q2 _ _ eb_2⟩,_,_,_,q2 _ _ eb_3⟩
   ·skip
    have hend:¬(j=l.length\/(l.getD j noT).kind≠6):=of_decide_eq_false (by rw[<-hb_7];exact hb3);have hjl2:j<l.length:=by
     rcases KT j l.length with z|z
     ·exact z
     ·exact absurd (.inl (by omega)) hend
    have hwj:IntKind.i64.wrap ((j:Int)+1)=((j+1:Nat):Int):=by rw[wrap_i64 (by omega) (by omega)];omega
    refine qF ?_;change Awp _ _ _ _ _ _ _;refine Qv [0,2,3,4] (by rfl) ?_;simp+decide only[QK,XI,XJ,Xh,Wd,↓qc,↓Qf,↓qh,↓qo,qf ag3,↓qd,Qm eb_2q2,hwj];refine qN (by rfl) (by rfl) zqA sz3 (by rfl) (by rfl) zqD (Jq _) (by rfl) ?_;simp only[QT];simp+decide only[qV];try simp only[QL]
    have hS8:=(BX (ps:=[E,E2]) ((hS7.put (i:=5) rfl (parB3 v (j+1) ov2)).pick [4,7,0,1,2,5,6,3] (by decide) (by simp))).pick [1,2,3,4,5,6,0] (by decide) (by simp);have hue:=Xy (ps:=[E,E2]) (hS7.pick [4,7] (by decide) (by simp)).2;refine⟨⟨j+1,ov2,op2,qs++qL,rv2,rp2,Wl [E,E2],H7.set k2q2 (parB3 v (j+1) ov2)⟩,rfl,Vi _,⟨hS8,⟨hv,hP2.open_,hP2.isG,hjl2⟩,by simp only;rw[JI];exact hrow2,hG2,fun q hq=>?_,by simp only[Jb];omega,fun r hr=>?_⟩,by simp only;omega⟩
    ·rcases JV.1 hq with z|z
     ·exact⟨(hels q z).1.mono (hue E (by simp)),(hels q z).2.mono (hue E (by simp)) fun _ _=>Ea (hue E (by simp))⟩
     ·exact⟨(hels2 q z).1.mono (hue E2 (by simp)),(hels2 q z).2.mono (hue E2 (by simp)) fun _ _=>Ea (hue E2 (by simp))⟩
    ·refine hgo r (SentR.next hil hR hend ?_)
     simp only[JI]at hr;rw[hqL];exact hr
  ·try simp only[qG]at hb2
   have hin:i=l.length:=by have:=hP.at_;omega
   have hRes:ParseR qZ l Qg (.ok (qs.map (·.1)) i):=BZ (by omega) (hgo _ (SentR.stop (by omega)));have hu2:=Xy (ps:=[rp,E]) (hS.pick [5,6] (by decide) (by simp)).2;have hrow3:=hrow.isL (w0:=w0) (hS.in_ (i:=5) rfl);have hck:=hrow3.clip;have hckl:=hck.live;refine Qk ?_;change Awp _ _ _ _ _ _ _;refine awp_rseq [2,3] (by rfl) fun K hK=>?_;simp+decide only[qV,QJ,↓qo,qf qiH,Qm eb_2,hrl];refine QC (V:=ZP rv) (by rfl) (by rfl) (qpU w0 _ rv _ (hrow3.mono zqB)) ?_;simp+decide only[qV,QW,Zo,↓XO,↓QN,qof];refine qN (v:=ZP rv) (by rfl) (by rfl) eb_2 sz45 hckl (by rw[hck.cells];rfl) (by simp only[QF];omega) (Jq _) (by rw[hck.cells];simp[Qt,hck.scal]) ?_;simp only[Xo,WB,hck.cells];refine qN (by rfl) (by rfl) zqA qaZ (by rfl) (by rfl) zqD (Jq _) (by rfl) ?_;simp only[QT];simp+decide only[qV,Nat.reduceAdd];apply hK;clear hK K;refine qW ?_;refine Qb (?_) ?_
   ·simp+decide only[Kj,VE,Ka,BL,Jp,setAt,VZ,ev,J6,and_true,Yv,true_and,QB,cellsAt,VX,allLive,Kn,qdk,qem,Wt,qfc,qel,qek,qcK,qgy,qaf,Ul,qbk,qbj,qgw,qcJ,qcI,qgs,qgr,VN,qaj,WV,qf qiH,Qa qjy qaZ,qgp,Nat.reduceAdd,ne_2_3,Nat.reduceAdd,hckl]
   simp+decide only[Zi,qaj,qkp,qf qiH,Qa qjy qaZ,qgp,Nat.reduceAdd,ne_2_3,Nat.reduceAdd,hckl];have hS8:=(hS.put (i:=1) rfl ⟨[ZP rv],0⟩).put (i:=2) rfl ⟨[.int .i64 0, .int .i64 0, .int .i64 0],0⟩;have hS9:=(BX (ps:=[rp,E]) (hS8.pick [5,6,0] (by decide) (by simp))).pick [1,0] (by decide) (by simp);have hu8:=Xy (ps:=[rp,E]) (hS8.pick [5,6] (by decide) (by simp)).2;exact⟨_,Vi _,hS8.in_ (i:=0) rfl,_,_,_,_,hRes,rfl,hS9,qs,rfl,(hrow.isL (w0:=w0) (hu8 rp (by simp))).clip,fun q hq=>⟨(hels q hq).1.mono (hu8 E (by simp)),(hels q hq).2.mono (hu8 E (by simp)) fun _ _=>Ea (hu8 E (by simp))⟩⟩
def ParseOutE(w0:World)(l:List TokC)(h:AHeap):AVal->AHeap->Prop:=fun r h'=>Sub h h'/\((∃f,ParseR qZ l Qg (.bad f)/\r= .tuple [.nilSlice,faultV f])\/∃L j rv E,ParseR qZ l Qg (.ok L j)/\r= .tuple [rv,faultV okF]/\Sep [h,E] h'/\StsV w0 32 E rv L)
def qhM(w0:World)(l:List TokC)(h:AHeap):AVal->AHeap->Prop:=fun r h'=>Sub h h'/\((∃f,ParseR qZ l Qg (.bad f)/\r= .tuple [.nilSlice,faultV f])\/∃L j rv,ParseR qZ l Qg (.ok L j)/\r= .tuple [rv,faultV okF]/\StsV w0 32 h' rv L)
theorem qpm(p2 p3:Value)(w:World):(invoke (.fn (.func 28) #[p2,p3]) #[]).run Tryz.prog w= .ok (.enter 28 #[p2,p3]) w:=by
 simp[go_sem]
set_option maxHeartbeats 4000000 in
theorem c_ParseE(w0:World)(hm:MaxL w0)(ha:Asp w0)(l:List TokC)(hl:l.length<=1000000)(hsh:Short l)(h:AHeap)(v:AVal)(hv:IsL w0 h 5 v (l.map Xg)):ACall Tryz.prog w0 12 [v] h (ParseOutE w0 l h):=by
 refine qtk (k:=59) (rs:=[.cell 2 45, .cell 3 48]) Tryz.func12 rfl rfl rfl rfl (VY rfl) ?_;simp only[qU];refine awp_rseq [0,2,3] (by rfl) fun K hK=>?_;refine Qp ze45 (cs:=[.nilSlice]) (by rfl) fun k0q0 hk0q0=>?_;try have hf_0q0:h k0q0=none:=by first|assumption|(simp only[Bd]at hk0q0;simp only[hk0q0])
 refine Qp qgl (cs:=[.int .i64 0, .int .i64 0, .int .i64 0]) (by rfl) fun k0q1 hk0q1=>?_;have ne_0q1_0q0:k0q1≠k0q0:=by simp only[Bd]at hk0q1;simp only[Yv,hk0q1]
 try have hf_0q1:h k0q1=none:=by first|assumption|(simp only[Bd]at hk0q1;simp only[hk0q1])
 simp+decide only[qV];apply hK;clear hK K;have hS:=(Eb (Eb (ps:=[h]) ⟨fun p hp=>by rw[V4.1 hp];exact Vi _,by simp⟩ hk0q0 ⟨[.nilSlice],0⟩) hk0q1 ⟨[.int .i64 0, .int .i64 0, .int .i64 0],0⟩)
 simp only[Xf]at hS;refine qtc (pre:=[_]) (P1:=fun s h'=>qcU Tryz.prog w0 [.cell 2 45, .cell 3 48] (ParseOk w0 l h) .ret s h') (s₀:=[(2, .ptr (.own k0q0) 0),(3, .ptr (.own k0q1) 0)]) (Rp:=qtt l h k0q0 k0q1) (f:=28) (cap:=[.ptr (.own k0q0) 0, .ptr (.own k0q1) 0]) (by rfl) (by rfl) ?_ ?_ ?_
 ·simp+decide only[QI,Zr,UL,true_and,QB,QW,evs,↓qrd,qnp]
  intro d;refine JR [0,2,3] ?_;exact l_parse w0 hm ha l hl hsh h _ k0q0 k0q1 v d hv hS
 ·intro Ps vs s' h' a w G hcap hr hs hq
  simp only[VRs,VR]at hcap;obtain⟨_,_,rfl,⟨a2,-,rfl⟩,_,_,rfl,⟨a3,-,rfl⟩,rfl⟩:=hcap;obtain⟨hp,h'',hsub,hR⟩:=hq;obtain⟨vr,g1,g2⟩:=qec hr hs Tryz.f12 hp;refine leaves_cons (f:=28) (args:= #[.pointer (some a2), .pointer (some a3)]) (by simp) (qpm _ _ w) ((qsR a2 a3 w).mono ?_);rintro e u' w' ⟨rfl,rfl,rfl⟩;exact⟨vr,g1,vr,rfl,Ps,_,h'',Ps.le_refl,hr.forget hsub,g2,hR.1, .inr hR.2⟩
 ·intro Ps vs vf y h' a w G hcap hr hvf hRp hs
  simp only[VRs]at hcap;obtain⟨p2,_,rfl,h2,p3,_,rfl,h3,rfl⟩:=hcap;obtain⟨hsh',f,q1,rfl,⟨b,e2⟩,y1,y2,y3,e3⟩:=hRp;have ne:k0q0≠k0q1:=hS.ne (i:=1) (j:=2) rfl rfl (by decide);have hn1:h k0q1=none:=(Vg _ _ ne.symm).symm.trans hk0q1;refine leaves_cons (f:=28) (args:= #[p2,p3]) (by simp) (qpm _ _ w) ((catch_bad w0 Ps w h' h k0q0 k0q1 hsh' hk0q0 hn1 b b y1 y2 y3 f p2 p3 vf e2 e3 ne hr h2 h3 hvf).mono ?_);rintro e u' w' ⟨r,rfl,rfl,χ,h2',hle,hr2,g2,g3,g4⟩;have hs2:SRel χ ⟨59,[dOf 28 [p2,p3]],G⟩ [(2, .ptr (.own k0q0) 0),(3, .ptr (.own k0q1) 0)] a:=hs.mono hle;have hpr:WV Tryz.prog w0 [(2, .ptr (.own k0q0) 0),(3, .ptr (.own k0q1) 0)] h2' Tryz.f12.results.toList:=by
   show WV Tryz.prog w0 _ _ [.cell 2 45, .cell 3 48]
   simp+decide only[QI,Jp,VZ,ev,J6,and_true,true_and,cellsAt,VX,allLive,Kn,qdk,Wt,qaj,WV,qf qiH,Qa qjy qaZ,Yc w0 g2,Yc w0 g3,Nat.reduceAdd]
  have hro:qbY Tryz.prog w0 [(2, .ptr (.own k0q0) 0),(3, .ptr (.own k0q1) 0)] h2' Tryz.f12.results.toList= .tuple [.nilSlice,faultV f]:=by
   show qbY Tryz.prog w0 _ _ [.cell 2 45, .cell 3 48]=_
   simp+decide only[QI,Jp,VZ,ev,cellsAt,VX,Kn,qaj,qkp,qf qiH,Qa qjy qaZ,Yc w0 g2,Yc w0 g3,Nat.reduceAdd]
  obtain⟨vr,r1,r2⟩:=qec hr2 hs2 Tryz.f12 hpr;rw[hro]at r2;exact⟨vr,r1,vr,rfl,χ,_,h2',hle,hr2,r2,g4, .inl ⟨f,q1,rfl⟩⟩
theorem UC(w0:World)(hm:MaxL w0)(ha:Asp w0)(l:List TokC)(hl:l.length<=1000000)(hsh:Short l)(h:AHeap)(v:AVal)(hv:IsL w0 h 5 v (l.map Xg)):ACall Tryz.prog w0 12 [v] h (qhM w0 l h):=
 (c_ParseE w0 hm ha l hl hsh h v hv).mono fun r h' q=>⟨q.1,q.2.imp id fun⟨L,j,rv,E,a,b,c,d⟩=>⟨L,j,rv,a,b,d.mono (c.in_ (i:=1) rfl)⟩⟩
end Go.Proofs.YtgiadjbiimkbiaaGreatDoor
namespace Go.Stm
open Go.Col (Str)
open Go.Tok
def YL:Nat->List StC->Bool
 |0,l=>decide (0<l.length)
 |m+1,l=>l.any fun s=>s.bodies.any fun b=>YL m b.2.2
def Zm:Nat->List StC->Nat
 |0,l=>l.length
 |m+1,l=>l.length+(l.map fun s=>(s.bodies.map fun b=>Zm m b.2.2).sum).sum
def YO(a b:List TokC):Bool:=decide (a.map (fun t=>(t.kind,t.text))=b.map (fun t=>(t.kind,t.text)))
def SmallS:Nat->List StC->Prop
 |0,l=>l.length<=1000000
 |m+1,l=>l.length<=1000000/\∀s∈l,s.bodies.length<=1000000/\s.phrases.length<=1000000/\(∀p∈s.phrases,p.toks.length<=1000000)/\∀b∈s.bodies,b.2.1.length<=1000000/\SmallS m b.2.2
theorem SmallS.len{m:Nat}{l:List StC}(h:SmallS m l):l.length<=1000000:=by cases m<;>first|exact h|exact h.1
end Go.Stm
namespace Go.Proofs.YtgiadjbiimkbiaaGreatDoor
open Go.AM
open Go.Proofs
open Go.Col (Str FaultC okF)
open Go.Tok (TokC)
open Go.Stm
open Go.RowKit (Below)
set_option maxRecDepth 100000
def qei:StC×AVal×AVal:=(.mk [] 0 0 [] [], .nilSlice, .nilSlice)
theorem qeI{w0:World}{h:AHeap}{lc:AM.Loc}{o:Nat}{c:Cap}{qs:List (StC×AVal×AVal)}(ht:IsL w0 h 5 (.slice lc o qs.length c) (qs.map qcy)){i:Nat}(hi:i<qs.length):
 rd w0 h lc (o+i*5)= .str (qs.getD i qei).1.verb/\rd w0 h lc (o+i*5+1)= .int .i64 (qs.getD i qei).1.line/\rd w0 h lc (o+i*5+2)= .int .i64 (qs.getD i qei).1.col/\rd w0 h lc (o+i*5+3)=(qs.getD i qei).2.1/\rd w0 h lc (o+i*5+4)=(qs.getD i qei).2.2:=by
 have he:=ht.elem (i:=i) (by rw[Jn];exact hi);rw[getD_map qei hi]at he;simp only[and_true,cellsAt,List.cons.injEq,qcy]at he;exact he
theorem qea{w0:World}{h:AHeap}{v:AVal}{qs:List (StC×AVal×AVal)}(ht:IsL w0 h 5 v (qs.map qcy))(hn:0<qs.length):∃lc o c,v= .slice lc o qs.length c:=by
 obtain⟨lc,o,c,e⟩:=ht.open (fun e=>by rw[Vz]at e;subst e;simp at hn);rw[Jn]at e;exact⟨lc,o,c,e⟩
theorem qhS{w0:World}{h:AHeap}{v:AVal}{qs:List (StC×AVal×AVal)}(ht:IsL w0 h 5 v (qs.map qcy)):∀H:AHeap,Zl Tryz.prog H 45 v=⟨True, .int .i64 qs.length⟩:=by
 intro H;have:=ht.len Tryz.underlying45 H
 rwa [Jn]at this
structure D1G where
 j:Nat
 H:AHeap
structure D2G where
 j:Nat
 H:AHeap
theorem qlm{α β:Type}{qs:List (α×β)}{p:α->Bool}{j:Nat}{d:α×β}(hj:j<qs.length):((qs.drop j).map (·.1)).any p=(p (qs.getD j d).1||((qs.drop (j+1)).map (·.1)).any p):=by
 rw[Vb hj,Ke,List.any_cons];congr 1;simp[Ko,hj]
theorem qfy{w0:World}{d:Nat}{h:AHeap}{v:AVal}{l:List StC}(hs:StsV w0 d h v l)(hsm:SmallS d l):∃qs:List (StC×AVal×AVal),l=qs.map (·.1)/\IsL w0 h 5 v (qs.map qcy)/\∀q∈qs,PhV w0 h q.2.1 q.1.phrases/\BdV w0 (StsV w0 (d-1) h) h q.2.2 q.1.bodies/\q.1.bodies.length<=1000000/\q.1.phrases.length<=1000000/\(∀p∈q.1.phrases,p.toks.length<=1000000)/\∀b∈q.1.bodies,b.2.1.length<=1000000/\SmallS (d-1) b.2.2:=by
 cases d with
 |zero=>exact⟨[],hs.1,hs.2,fun q hq=>by cases hq⟩
 |succ d=>
  obtain⟨qs,e,a,b⟩:=hs;exact⟨qs,e,a,fun q hq=>⟨(b q hq).1,(b q hq).2,hsm.2 q.1 (by rw[e];exact BK (f:=(·.1)) hq)⟩⟩
theorem c_deep0(w0:World)(d:Nat)(h:AHeap)(v:AVal)(l:List StC)(hs:StsV w0 d h v l):ACall Tryz.prog w0 38 [v, .int .i64 0] h (fun r h'=>r= .bool (YL 0 l)/\Sub h h'):=by
 have nL:=UW hs;have hlv:=hs.shape.1;have hR:YL 0 l=decide (0<l.length):=rfl;rw[hR];refine qR (n:=34) (rs:=[.tmp 4]) Tryz.func38 rfl rfl rfl rfl (VY rfl) ?_;simp only[qU];refine awp_rseq [0,1] (by rfl) fun K hK=>?_;simp+decide only[qP,↓qa];apply hK;clear hK K;refine qi ?_;refine awp_rseq [0,1,10] (by rfl) fun K hK=>?_;simp+decide only[QK,qK,XA,↓qc,↓qd];apply hK;clear hK K;refine qz (b:=_) rfl (fun hb1=>?_) (fun hb1=>?_)
 ·try simp only[qG]at hb1
  refine awp_rseq [4] (by rfl) fun K hK=>?_;simp+decide only[XD,qK,Qh,YG,↓qc,↓Qi,↓qd,↓qa,nL];apply hK;clear hK K;refine qW ?_;try simp only[XB]
  refine QG h zqC (qA (qC)) ?_;simp+decide only[QE];exact⟨by congr 1;rw[Bool.eq_iff_iff];simp only[decide_eq_true_eq];omega,Vi _⟩
 ·cases hb1
set_option maxHeartbeats 8000000 in
theorem c_deepS(w0:World)(m d:Nat)(h:AHeap)(v:AVal)(l:List StC)(hm:m<=1000)(hs:StsV w0 d h v l)(hsm:SmallS d l)
 (ih:∀(h':AHeap) (v:AVal) (l:List StC),StsV w0 (d-1) h' v l->SmallS (d-1) l->ACall Tryz.prog w0 38 [v, .int .i64 m] h' (fun r h''=>r= .bool (YL m l)/\Sub h' h'')):
 ACall Tryz.prog w0 38 [v, .int .i64 ((m+1:Nat):Int)] h (fun r h'=>r= .bool (YL (m+1) l)/\Sub h h'):=by
 obtain⟨qs,hqe,hqL,hels⟩:=qfy hs hsm;have nL:=qhS hqL;have hlv:=hqL.live;have hln:qs.length<=1000000:=by have:=hsm.len;rw[hqe,Jn]at this;exact this
 have hR:YL (m+1) l=(qs.map (·.1)).any fun s=>s.bodies.any fun b=>YL m b.2.2:=by rw[<-hqe];rfl
 obtain⟨R,hRR⟩:∃R,R=YL (m+1) l:=⟨_,rfl⟩
 rw[<-hRR]at hR|-
 refine qR (n:=34) (rs:=[.tmp 4]) Tryz.func38 rfl rfl rfl rfl (VY rfl) ?_;simp only[qU];refine awp_rseq [0,1] (by rfl) fun K hK=>?_;simp+decide only[qP,↓qa];apply hK;clear hK K;refine qi ?_;refine awp_rseq [0,1,10] (by rfl) fun K hK=>?_;simp+decide only[QK,qK,XA,↓qc,↓qd];apply hK;clear hK K;refine qz (b:=_) rfl (fun hb1=>?_) (fun hb1=>?_)
 ·have:=of_decide_eq_true hb1;omega
 ·try simp only[qG]at hb1
  refine qF ?_;change Awp _ _ _ _ _ _ _;refine qi ?_;refine awp_rseq [1,14,15,16] (by rfl) fun K hK=>?_;simp+decide only[Qe,Qh,↓qc,↓Qi,nL];apply hK;clear hK K;refine qI ?_;refine Qj [1,14,15,16] (fun g:D1G=>[(1, .int .i64 ((m+1:Nat):Int)),(14,v),(15, .int .i64 qs.length),(16, .int .i64 g.j)]) (fun g:D1G=>g.H) (fun g:D1G=>Sub h g.H/\g.j<=qs.length/\R=((qs.drop g.j).map (·.1)).any fun s=>s.bodies.any fun b=>YL m b.2.2) (fun g:D1G=>qs.length-g.j) ⟨0,h⟩ (by rfl) (Vi _) ⟨Vi _,Jq _,hR⟩ ?_;rintro⟨j,H⟩ ⟨hs_H,hj,hg⟩;simp only at hs_H hj hg|-
  refine awp_rseq [1,14,15,16,17] (by rfl) fun K hK=>?_;simp+decide only[XP,QH,qj,QY,↓qd];apply hK;clear hK K;refine qi (qz (b:=_) rfl (fun hb2=>?_) (fun hb2=>?_))
  ·try simp only[qG]at hb2
   have hj':j<qs.length:=by omega
   obtain⟨q,hqj⟩:∃q,q=qs.getD j qei:=⟨_,rfl⟩
   have hqm:q∈qs:=by rw[hqj,Ko,JB hj'];exact Vw hj'
   obtain⟨lc,o,cc,hpe⟩:=qea hqL (by omega);have hq2:=hqL.mono hs_H;rw[hpe]at hq2;obtain⟨e0,e1,e2,e3,e4⟩:=qeI hq2 hj';rw[<-hqj]at e0 e1 e2 e3 e4;obtain⟨hph,hbd,hbn,hpn,hpt,hbb⟩:=hels q hqm;have hst:=qlm (p:=fun s:StC=>s.bodies.any fun b=>YL m b.2.2) (d:=qei) hj';rw[<-hg,<-hqj]at hst;have hl1:=hph.live;have hs1:=hph.scal;have hl2:=hbd.live;have hs2:=hbd.scal;have hs3:=hs1;have hs4:=hs2;obtain⟨ql,hql,hqb,hqq⟩:=id hbd;have nb:=qey hqb;have hbn2:ql.length<=1000000:=by rw[hql,Jn]at hbn;exact hbn
   obtain⟨qs1,qp,qb⟩:=q;simp only at e0 e1 e2 e3 e4 hl1 hs1 hl2 hs2 hs3 hs4 hst nb hqb hql hbb;rw[hql]at hst;obtain⟨X,hX⟩:∃X,X=((qs.drop (j+1)).map (·.1)).any fun s=>s.bodies.any fun b=>YL m b.2.2:=⟨_,rfl⟩
   rw[<-hX]at hst;have hwj:IntKind.i64.wrap ((j:Int)+1)=((j+1:Nat):Int):=by rw[wrap_i64 (by omega) (by omega)];omega
   refine qF ?_;change Awp _ _ _ _ _ _ _;refine qi ?_;refine qI ?_;refine awp_rseq [1,6,14,15,16] (by rfl) fun K hK=>?_;simp+decide only[Zi,QJ,Xc,↓qJ,qg Tryz.underlying45 WF,↓qo,Qa qgH WF,hpe,e0,e1,e2,e3,e4,hl1,hl2];repeat (with_reducible refine zqP ?_)
   refine Qp qjs (cs:=[.str [], .int .i64 0, .int .i64 0, .nilSlice, .nilSlice]) (by rfl) fun k5q2 hk5q2=>?_;have hn_5q2:H k5q2=none:=by first|assumption|(simp only[Bd]at hk5q2;simp only[hk5q2])
   have hf_5q2:h k5q2=none:=Be hs_H hn_5q2;refine qN (by rfl) (by rfl) zqA WF (by rfl) (by rfl) zqD (Jq _) (by first|rfl|(simp+decide only[QI,BL,Yk,VN,YW,qaA,Qt,hs1,hs2])) ?_;simp only[QT,Bg];simp+decide only[Zi,Xc,Nat.reduceAdd];apply hK;clear hK K;refine awp_rseq [1,14,15,16,21,22,23] (by rfl) fun K hK=>?_;simp+decide only[Qe,QU,Qh,YR,↓qh,↓qo,qf qdp,↓Qi,↓qc,nb,hl2];apply hK;clear hK K;refine qI ?_;refine Qj [1,14,15,16,21,22,23] (fun g:D2G=>[(1, .int .i64 ((m+1:Nat):Int)),(14,v),(15, .int .i64 qs.length),(16, .int .i64 j),(21,qb),(22, .int .i64 ql.length),(23, .int .i64 g.j)]) (fun g:D2G=>g.H) (fun g:D2G=>Sub h g.H/\g.j<=ql.length/\R=((((ql.drop g.j).map (·.1)).any fun b=>YL m b.2.2)||X)) (fun g:D2G=>ql.length-g.j) ⟨0,_⟩ (by rw[hpe];rfl) (Vi _) ⟨zqB,Jq _,hst⟩ ?_;rintro⟨a,H2⟩ ⟨hs_H2,ha,hga⟩;simp only at hs_H2 ha hga|-
   refine awp_rseq [1,14,15,16,21,22,23,24] (by rfl) fun K hK=>?_;simp+decide only[XP,QH,qj,QY,↓qd];apply hK;clear hK K;refine qi (qz (b:=_) rfl (fun hb3=>?_) (fun hb3=>?_))
   ·try simp only[qG]at hb3
    have ha':a<ql.length:=by omega
    obtain⟨b,hbe⟩:∃b,b=ql.getD a qdE:=⟨_,rfl⟩
    have hbm:b∈ql:=by rw[hbe,Ko,JB ha'];exact Vw ha'
    obtain⟨lb,ob,cb,hbp⟩:=qck hqb (by omega);have hb2:=hqb.mono hs_H2;rw[hbp]at hb2;obtain⟨f0,f1,f2⟩:=qfp hb2 ha';rw[<-hbe]at f0 f1 f2;obtain⟨hbt,hbs⟩:=hqq b hbm;have hsb:SmallS (d-1) b.1.2.2:=(hbb b.1 (by rw[hql];exact BK (f:=(·.1)) hbm)).2;have hst2:=qlm (p:=fun b:BodC=>YL m b.2.2) (d:=qdE) ha';rw[<-hbe]at hst2;rw[hst2]at hga;have hl3:=hbt.live;have hs3:=hbt.scal;obtain⟨hl4,hs4,hc4⟩:=hbs.shape;obtain⟨⟨bw,bt,bL⟩,btv,blv⟩:=b;simp only at f0 f1 f2 hbs hsb hga hl3 hs3 hl4 hs4;have hwa:IntKind.i64.wrap ((a:Int)+1)=((a+1:Nat):Int):=by rw[wrap_i64 (by omega) (by omega)];omega
    have hwm:IntKind.i64.wrap (((m+1:Nat):Int)-1)=(m:Int):=by rw[wrap_i64 (by omega) (by omega)];omega
    refine qF ?_;change Awp _ _ _ _ _ _ _;refine qi ?_;refine qI ?_;refine awp_rseq [1,8,14,15,16,21,22,23] (by rfl) fun K hK=>?_;simp+decide only[Zi,QJ,Xc,↓qJ,qg Tryz.underlying80 qav,↓qo,Qa qrf qav,hbp,f0,f1,f2,hl3,hl4];repeat (with_reducible refine zqP ?_)
    refine Qp qlH (cs:=[.str [], .nilSlice, .nilSlice]) (by rfl) fun k8q2 hk8q2=>?_;have hn_8q2:H2 k8q2=none:=by first|assumption|(simp only[Bd]at hk8q2;simp only[hk8q2])
    have hf_8q2:h k8q2=none:=Be hs_H2 hn_8q2;refine qN (by rfl) (by rfl) zqA qav (by rfl) (by rfl) zqD (Jq _) (by first|rfl|(simp+decide only[QI,BL,Yk,VN,YW,Qt,hs3,hs4])) ?_;simp only[QT,Bg];simp+decide only[Zi,Xc,Nat.reduceAdd];apply hK;clear hK K;refine awp_rseq [1,14,15,16,21,22,23,31] (by rfl) fun K hK=>?_;simp+decide only[QK,XI,WW,qep,↓qh,↓qo,qf qiH,↓qc,↓qd,hl4,hwm];refine qE (by rfl) (by rfl) (ih _ blv bL (hbs.mono zqB) hsb) fun x9q4 h9q4 hx9q4=>?_;obtain⟨rfl,hs9⟩:=hx9q4;have hs_h9q4:Sub h h9q4:=Br zqC hs9;have hr_h9q4:Sub H2 h9q4:=Br zqC hs9;have eb_8q2:=hs9 k8q2 _ zqA;simp+decide only[qV];apply hK;clear hK K;refine qz (b:=_) rfl (fun hb4=>?_) (fun hb4=>?_)
    ·skip
     refine awp_rseq [4] (by rfl) fun K hK=>?_;simp+decide only[qP,↓qa];apply hK;clear hK K;refine qW ?_;try simp only[XB]
     refine Qb (qA (qC)) ?_;simp+decide only[QE];rw[hga,hb4];exact⟨h,by assumption,rfl,Vi _⟩
    ·skip
     rw[hb4,VS]at hga;refine qF ?_;change Awp _ _ _ _ _ _ _;refine Qv [1,14,15,16,21,22,23] (by rfl) ?_;simp+decide only[QK,Xi,↓qd,↓qc,hwa];try simp only[QL]
     exact⟨⟨a+1,h9q4⟩,by rw[hbp];rfl,Vi _,⟨by assumption,ha',hga⟩,by simp only;omega⟩
   ·try simp only[qG]at hb3
    have haq:a=ql.length:=by omega
    rw[haq,Va]at hga;have hgX:R=X:=by rw[hga];rfl
    refine Qk ?_;change Awp _ _ _ _ _ _ _;refine Qv [1,14,15,16] (by rfl) ?_;simp+decide only[QK,Xi,↓qd,↓qc,hwj];try simp only[QL]
    exact⟨⟨j+1,H2⟩,rfl,Vi _,⟨hs_H2,hj',by rw[hgX,hX]⟩,by simp only;omega⟩
  ·try simp only[qG]at hb2
   have hjq:j=qs.length:=by omega
   rw[hjq,Va]at hg;refine Qk ?_;change Awp _ _ _ _ _ _ _;refine awp_rseq [4] (by rfl) fun K hK=>?_;simp+decide only[qP,↓qa];apply hK;clear hK K;refine qW ?_;refine Qb (qA (qC)) ?_;simp+decide only[QE];rw[hg];exact⟨H,Vi _,rfl,hs_H⟩
theorem qla(w0:World):∀(m d:Nat) (h:AHeap) (v:AVal) (l:List StC),m<=1000->StsV w0 d h v l->SmallS d l->ACall Tryz.prog w0 38 [v, .int .i64 m] h (fun r h'=>r= .bool (YL m l)/\Sub h h')
 |0,d,h,v,l,_,hs,hsm=>c_deep0 w0 d h v l hs
 |m+1,d,h,v,l,hm,hs,hsm=>c_deepS w0 m d h v l (by omega) hs hsm fun h' v l hs hsm=>qla w0 m (d-1) h' v l (by omega) hs hsm
structure C1G where
 j:Nat
 n:Nat
 H:AHeap
theorem qoA{α β:Type}{qs:List (α×β)}{f:α->Nat}{j:Nat}{d:α×β}(hj:j<qs.length):(((qs.drop j).map (·.1)).map f).sum=f (qs.getD j d).1+(((qs.drop (j+1)).map (·.1)).map f).sum:=by
 rw[Vb hj,Ke,Ke,List.sum_cons];congr 2;simp[Ko,hj]
theorem sts0{w0:World}{h:AHeap}{v:AVal}{l:List StC}(hs:StsV w0 0 h v l):l=[]/\IsL w0 h 5 v []:=hs
theorem c_cnt0(w0:World)(h:AHeap)(v:AVal)(hv:IsL w0 h 5 v []):ACall Tryz.prog w0 49 [v] h (fun r h'=>r= .int .i64 0/\Sub h h'):=by
 have nL:∀H:AHeap,Zl Tryz.prog H 45 v=⟨True, .int .i64 0⟩:=fun H=>hv.len Tryz.underlying45 H;have hlv:=hv.live;refine qR (n:=31) (rs:=[.tmp 2]) Tryz.func49 rfl rfl rfl rfl (VY rfl) ?_;simp only[qU];refine awp_rseq [0] (by rfl) fun K hK=>?_;simp+decide only[qP,↓qa];apply hK;clear hK K;refine awp_rseq [0,3] (by rfl) fun K hK=>?_;simp+decide only[Xp,Qh,↓qc,↓Qi,↓qa,nL];apply hK;clear hK K;refine qi ?_;refine awp_rseq [3,10,11,12] (by rfl) fun K hK=>?_;simp+decide only[Qe,Qh,↓qc,↓Qi,nL];apply hK;clear hK K;refine qI ?_;refine Qj [3,10,11,12] (fun z:Unit=>[(3, .int .i64 0),(10,v),(11, .int .i64 0),(12, .int .i64 0)]) (fun z:Unit=>h) (fun z:Unit=>True) (fun z:Unit=>0) () (by rfl) (Vi _) trivial ?_;intro z _;refine awp_rseq [3,10,11,12,13] (by rfl) fun K hK=>?_;simp+decide only[XP,QH,qj,QY,↓qd];apply hK;clear hK K;refine qi (qz (b:=_) rfl (fun hb1=>?_) (fun hb1=>?_))
 ·cases hb1
 ·try simp only[qG]at hb1
  refine Qk ?_;change Awp _ _ _ _ _ _ _;refine awp_rseq [2] (by rfl) fun K hK=>?_;simp+decide only[Xp,↓qc,↓qa];apply hK;clear hK K;refine qW ?_;refine QG h zqC (qA (qC)) ?_;simp+decide only[QE];exact Vi _
set_option maxHeartbeats 8000000 in
theorem c_cntS(w0:World)(d:Nat)(h:AHeap)(v:AVal)(l:List StC)(hs:StsV w0 (d+1) h v l)(hsm:SmallS (d+1) l)(hT:Zm (d+1) l<=1000000000000)
 (ih:∀(h':AHeap) (v:AVal) (l:List StC),StsV w0 d h' v l->SmallS d l->Zm d l<=1000000000000->ACall Tryz.prog w0 49 [v] h' (fun r h''=>r= .int .i64 (Zm d l)/\Sub h' h'')):
 ACall Tryz.prog w0 49 [v] h (fun r h'=>r= .int .i64 (Zm (d+1) l)/\Sub h h'):=by
 obtain⟨qs,hqe,hqL,hels⟩:=qfy hs hsm;rw[Ec]at hels;have nL:=qhS hqL;have hlv:=hqL.live;have hln:qs.length<=1000000:=by have:=hsm.len;rw[hqe,Jn]at this;exact this
 have hR:Zm (d+1) l=qs.length+((qs.map (·.1)).map fun s=>(s.bodies.map fun b=>Zm d b.2.2).sum).sum:=by
  rw[<-hqe];show l.length+_=qs.length+_
  rw[hqe,Jn]
 obtain⟨R,hRR⟩:∃R,R=Zm (d+1) l:=⟨_,rfl⟩
 rw[<-hRR]at hR hT|-
 refine qR (n:=31) (rs:=[.tmp 2]) Tryz.func49 rfl rfl rfl rfl (VY rfl) ?_;simp only[qU];refine awp_rseq [0] (by rfl) fun K hK=>?_;simp+decide only[qP,↓qa];apply hK;clear hK K;refine awp_rseq [0,3] (by rfl) fun K hK=>?_;simp+decide only[Xp,Qh,↓qc,↓Qi,↓qa,nL];apply hK;clear hK K;refine qi ?_;refine awp_rseq [3,10,11,12] (by rfl) fun K hK=>?_;simp+decide only[Qe,Qh,↓qc,↓Qi,nL];apply hK;clear hK K;refine qI ?_;refine Qj [3,10,11,12] (fun g:C1G=>[(3, .int .i64 g.n),(10,v),(11, .int .i64 qs.length),(12, .int .i64 g.j)]) (fun g:C1G=>g.H) (fun g:C1G=>Sub h g.H/\g.j<=qs.length/\R=g.n+(((qs.drop g.j).map (·.1)).map fun s=>(s.bodies.map fun b=>Zm d b.2.2).sum).sum) (fun g:C1G=>qs.length-g.j) ⟨0,qs.length,h⟩ (by rfl) (Vi _) ⟨Vi _,Jq _,hR⟩ ?_;rintro⟨j,n,H⟩ ⟨hs_H,hj,hg⟩;simp only at hs_H hj hg|-
 refine awp_rseq [3,10,11,12,13] (by rfl) fun K hK=>?_;simp+decide only[XP,QH,qj,QY,↓qd];apply hK;clear hK K;refine qi (qz (b:=_) rfl (fun hb1=>?_) (fun hb1=>?_))
 ·try simp only[qG]at hb1
  have hj':j<qs.length:=by omega
  obtain⟨q,hqj⟩:∃q,q=qs.getD j qei:=⟨_,rfl⟩
  have hqm:q∈qs:=by rw[hqj,Ko,JB hj'];exact Vw hj'
  obtain⟨lc,o,cc,hpe⟩:=qea hqL (by omega);have hq2:=hqL.mono hs_H;rw[hpe]at hq2;obtain⟨e0,e1,e2,e3,e4⟩:=qeI hq2 hj';rw[<-hqj]at e0 e1 e2 e3 e4;obtain⟨hph,hbd,hbn,hpn,hpt,hbb⟩:=hels q hqm;have hst:=qoA (f:=fun s:StC=>(s.bodies.map fun b=>Zm d b.2.2).sum) (d:=qei) hj';rw[<-hqj]at hst;rw[hst,<-Kw]at hg;have hl1:=hph.live;have hs1:=hph.scal;have hl2:=hbd.live;have hs2:=hbd.scal;have hs3:=hs1;have hs4:=hs2;obtain⟨ql,hql,hqb,hqq⟩:=id hbd;have nb:=qey hqb;have hbn2:ql.length<=1000000:=by rw[hql,Jn]at hbn;exact hbn
  obtain⟨qs1,qp,qb⟩:=q;simp only at e0 e1 e2 e3 e4 hl1 hs1 hl2 hs2 hs3 hs4 hg nb hqb hql hbb;rw[hql]at hg;obtain⟨X,hX⟩:∃X,X=(((qs.drop (j+1)).map (·.1)).map fun s=>(s.bodies.map fun b=>Zm d b.2.2).sum).sum:=⟨_,rfl⟩
  rw[<-hX]at hg;have hwj:IntKind.i64.wrap ((j:Int)+1)=((j+1:Nat):Int):=by rw[wrap_i64 (by omega) (by omega)];omega
  refine qF ?_;change Awp _ _ _ _ _ _ _;refine qi ?_;refine qI ?_;refine awp_rseq [3,5,10,11,12] (by rfl) fun K hK=>?_;simp+decide only[Zi,QJ,Xc,↓qJ,qg Tryz.underlying45 WF,↓qo,Qa qgH WF,hpe,e0,e1,e2,e3,e4,hl1,hl2];repeat (with_reducible refine zqP ?_)
  refine Qp qjs (cs:=[.str [], .int .i64 0, .int .i64 0, .nilSlice, .nilSlice]) (by rfl) fun k4q2 hk4q2=>?_;have hn_4q2:H k4q2=none:=by first|assumption|(simp only[Bd]at hk4q2;simp only[hk4q2])
  have hf_4q2:h k4q2=none:=Be hs_H hn_4q2;refine qN (by rfl) (by rfl) zqA WF (by rfl) (by rfl) zqD (Jq _) (by first|rfl|(simp+decide only[QI,BL,Yk,VN,YW,qaA,Qt,hs1,hs2])) ?_;simp only[QT,Bg];simp+decide only[Zi,Xc,Nat.reduceAdd];apply hK;clear hK K;refine awp_rseq [3,10,11,12,17,18,19] (by rfl) fun K hK=>?_;simp+decide only[Qe,QU,Qh,YR,↓qh,↓qo,qf qdp,↓Qi,↓qc,nb,hl2];apply hK;clear hK K;refine qI ?_;refine Qj [3,10,11,12,17,18,19] (fun g:C1G=>[(3, .int .i64 g.n),(10,v),(11, .int .i64 qs.length),(12, .int .i64 j),(17,qb),(18, .int .i64 ql.length),(19, .int .i64 g.j)]) (fun g:C1G=>g.H) (fun g:C1G=>Sub h g.H/\g.j<=ql.length/\R=g.n+(((ql.drop g.j).map (·.1)).map fun b=>Zm d b.2.2).sum+X) (fun g:C1G=>ql.length-g.j) ⟨0,n,_⟩ (by rw[hpe];rfl) (Vi _) ⟨zqB,Jq _,hg⟩ ?_;rintro⟨a,n2,H2⟩ ⟨hs_H2,ha,hga⟩;simp only at hs_H2 ha hga|-
  refine awp_rseq [3,10,11,12,17,18,19,20] (by rfl) fun K hK=>?_;simp+decide only[XP,QH,qj,QY,↓qd];apply hK;clear hK K;refine qi (qz (b:=_) rfl (fun hb2=>?_) (fun hb2=>?_))
  ·try simp only[qG]at hb2
   have ha':a<ql.length:=by omega
   obtain⟨b,hbe⟩:∃b,b=ql.getD a qdE:=⟨_,rfl⟩
   have hbm:b∈ql:=by rw[hbe,Ko,JB ha'];exact Vw ha'
   obtain⟨lb,ob,cb,hbp⟩:=qck hqb (by omega);have hb2:=hqb.mono hs_H2;rw[hbp]at hb2;obtain⟨f0,f1,f2⟩:=qfp hb2 ha';rw[<-hbe]at f0 f1 f2;obtain⟨hbt,hbs⟩:=hqq b hbm;have hsb:SmallS d b.1.2.2:=(hbb b.1 (by rw[hql];exact BK (f:=(·.1)) hbm)).2;have hst2:=qoA (f:=fun b:BodC=>Zm d b.2.2) (d:=qdE) ha';rw[<-hbe]at hst2;rw[hst2,<-Kw]at hga;have hl3:=hbt.live;have hs3:=hbt.scal;obtain⟨hl4,hs4,hc4⟩:=hbs.shape;obtain⟨⟨bw,bt,bL⟩,btv,blv⟩:=b;simp only at f0 f1 f2 hbs hsb hga hl3 hs3 hl4 hs4;have hwa:IntKind.i64.wrap ((a:Int)+1)=((a+1:Nat):Int):=by rw[wrap_i64 (by omega) (by omega)];omega
   have hwm:IntKind.i64.wrap ((n2:Int)+(Zm d bL:Int))=((n2+Zm d bL:Nat):Int):=by rw[wrap_i64 (by omega) (by omega)];omega
   refine qF ?_;change Awp _ _ _ _ _ _ _;refine qi ?_;refine qI ?_;refine awp_rseq [3,7,10,11,12,17,18,19] (by rfl) fun K hK=>?_;simp+decide only[Zi,QJ,Xc,↓qJ,qg Tryz.underlying80 qav,↓qo,Qa qrf qav,hbp,f0,f1,f2,hl3,hl4];repeat (with_reducible refine zqP ?_)
   refine Qp qlH (cs:=[.str [], .nilSlice, .nilSlice]) (by rfl) fun k7q2 hk7q2=>?_;have hn_7q2:H2 k7q2=none:=by first|assumption|(simp only[Bd]at hk7q2;simp only[hk7q2])
   have hf_7q2:h k7q2=none:=Be hs_H2 hn_7q2;refine qN (by rfl) (by rfl) zqA qav (by rfl) (by rfl) zqD (Jq _) (by first|rfl|(simp+decide only[QI,BL,Yk,VN,YW,Qt,hs3,hs4])) ?_;simp only[QT,Bg];simp+decide only[Zi,Xc,Nat.reduceAdd];apply hK;clear hK K;refine Qv [3,10,11,12,17,18,19] (by rfl) ?_;simp+decide only[Qe,QU,qep,↓qc,↓qh,↓qo,qf qiH,hl4];refine qE (by rfl) (by rfl) (ih _ blv bL (hbs.mono zqB) hsb (by omega)) fun x8q3 h8q3 hx8q3=>?_;obtain⟨rfl,hs8⟩:=hx8q3;have hs_h8q3:Sub h h8q3:=Br zqC hs8;have hr_h8q3:Sub H2 h8q3:=Br zqC hs8;have eb_7q2:=hs8 k7q2 _ zqA;simp+decide only[XK,QO,Za,QH,qj,XJ,↓qd,↓qa,hwm];change Awp _ _ _ _ _ _ _;refine Qv [3,10,11,12,17,18,19] (by rfl) ?_;simp+decide only[QK,Xi,↓qd,↓qc,hwa];try simp only[QL]
   exact⟨⟨a+1,n2+Zm d bL,h8q3⟩,by rw[hbp];rfl,Vi _,⟨by assumption,ha',hga⟩,by simp only;omega⟩
  ·try simp only[qG]at hb2
   have haq:a=ql.length:=by omega
   rw[haq,Va]at hga;refine Qk ?_;change Awp _ _ _ _ _ _ _;refine Qv [3,10,11,12] (by rfl) ?_;simp+decide only[QK,Xi,↓qd,↓qc,hwj];try simp only[QL]
   exact⟨⟨j+1,n2,H2⟩,rfl,Vi _,⟨hs_H2,hj',by simp only;rw[hga,hX];simp⟩,by simp only;omega⟩
 ·try simp only[qG]at hb1
  have hjq:j=qs.length:=by omega
  rw[hjq,Va]at hg;refine Qk ?_;change Awp _ _ _ _ _ _ _;refine awp_rseq [2] (by rfl) fun K hK=>?_;simp+decide only[Xp,↓qc,↓qa];apply hK;clear hK K;refine qW ?_;refine Qb (qA (qC)) ?_;simp+decide only[QE];refine⟨H,Vi _,?_,hs_H⟩;rw[hg];simp
theorem c_cnt(w0:World):∀(d:Nat) (h:AHeap) (v:AVal) (l:List StC),StsV w0 d h v l->SmallS d l->Zm d l<=1000000000000->ACall Tryz.prog w0 49 [v] h (fun r h'=>r= .int .i64 (Zm d l)/\Sub h h')
 |0,h,v,l,hs,hsm,hT=>by
  obtain⟨rfl,hv⟩:=sts0 hs;exact c_cnt0 w0 h v hv
 |d+1,h,v,l,hs,hsm,hT=>c_cntS w0 d h v l hs hsm hT fun h' v l hs hsm hT=>c_cnt w0 d h' v l hs hsm hT
def qbt(d:Nat)(l:List StC):Nat:=if YL 32 l=true then 0 else Zm d l
theorem qhB(w0:World)(d:Nat)(h:AHeap)(v:AVal)(l:List StC)(hs:StsV w0 d h v l)(hsm:SmallS d l)(hT:Zm d l<=1000000000000):ACall Tryz.prog w0 26 [v] h (fun r h'=>r= .int .i64 (qbt d l)/\Sub h h'):=by
 have hlv:=hs.shape.1;refine qR (n:=7) (rs:=[.tmp 2]) Tryz.func26 rfl rfl rfl rfl (VY rfl) ?_;simp only[qU];refine awp_rseq [0] (by rfl) fun K hK=>?_;simp+decide only[qP,↓qa];apply hK;clear hK K;refine qi ?_;refine awp_rseq [0,4] (by rfl) fun K hK=>?_;simp+decide only[Qe,↓qc];refine qE (by rfl) (by rfl) (qla w0 32 d _ v l (by decide) hs hsm) fun x1q1 h1q1 hx1q1=>?_;obtain⟨rfl,hs1⟩:=hx1q1;have hs_h1q1:Sub h h1q1:=Br zqC hs1;have hr_h1q1:=hs_h1q1;simp+decide only[qV];apply hK;clear hK K;refine qz (b:=_) rfl (fun hb1=>?_) (fun hb1=>?_)
 ·skip
  refine awp_rseq [2] (by rfl) fun K hK=>?_;simp+decide only[qP,↓qa];apply hK;clear hK K;refine qW ?_;try simp only[XB]
  refine Qb (qA (qC)) ?_;simp+decide only[QE];exact⟨h,by assumption,by unfold qbt;rw[if_pos hb1];rfl,Vi _⟩
 ·skip
  refine qF ?_;change Awp _ _ _ _ _ _ _;refine awp_rseq [2] (by rfl) fun K hK=>?_;simp+decide only[Qe,↓qc];refine qE (by rfl) (by rfl) (c_cnt w0 d _ v l (hs.mono zqB) hsm hT) fun x3q1 h3q1 hx3q1=>?_;obtain⟨rfl,hs3⟩:=hx3q1;have hs_h3q1:Sub h h3q1:=Br zqC hs3;have hr_h3q1:Sub h1q1 h3q1:=Br zqC hs3;simp+decide only[qP,↓qa];apply hK;clear hK K;refine qW ?_;refine Qb (qA (qC)) ?_;simp+decide only[QE];exact⟨h,by assumption,by unfold qbt;rw[if_neg (by rw[hb1];decide)],Vi _⟩
theorem tk_step{a b:List TokC}{j:Nat}(ha:j<a.length)(hb:j<b.length):YO (a.drop j) (b.drop j)=(decide ((a.getD j noT).kind=(b.getD j noT).kind) && (decide ((a.getD j noT).text=(b.getD j noT).text) && YO (a.drop (j+1)) (b.drop (j+1)))):=by
 unfold YO;rw[Vb ha,Vb hb];simp only[Ke,List.cons.injEq,Prod.mk.injEq,Ko,JB ha,JB hb,Option.getD_some];by_cases h1:a[j].kind=b[j].kind<;>by_cases h2:a[j].text=b[j].text<;>simp[h1,h2]
set_option maxHeartbeats 4000000 in
theorem qpO(w0:World)(h:AHeap)(v w:AVal)(a b:List TokC)(hv:IsL w0 h 5 v (a.map Xg))(hw:IsL w0 h 5 w (b.map Xg))(ha:a.length<=1000000):
 ACall Tryz.prog w0 65 [v,w] h (fun r h'=>r= .bool (YO a b)/\h'=h):=by
 have hlv:=hv.live;have hlw:=hw.live;have nv:=ZN hv;have nw:=ZN hw;refine qR (n:=41) (rs:=[.tmp 4]) Tryz.func65 rfl rfl rfl rfl (VY rfl) ?_;simp only[qU];refine awp_rseq [0,1] (by rfl) fun K hK=>?_;simp+decide only[qP,↓qa];apply hK;clear hK K;refine qi ?_;refine awp_rseq [0,1,10] (by rfl) fun K hK=>?_;simp+decide only[QK,qj,Qh,WY,↓qc,↓Qi,↓qd,nv,nw];apply hK;clear hK K;refine qz (b:=_) rfl (fun hb1=>?_) (fun hb1=>?_)
 ·try simp only[qG]at hb1
  have hne:a.length≠b.length:=by omega
  refine awp_rseq [4] (by rfl) fun K hK=>?_;simp+decide only[qP,↓qa];apply hK;clear hK K;refine qW ?_;try simp only[XB]
  refine QG h zqC (qA (qC)) ?_;simp+decide only[QE];have:YO a b=false:=by
   unfold YO;rw[decide_eq_false];intro e;have:=congrArg List.length e;rw[Jn,Jn]at this;exact hne this
  rw[this]
 ·try simp only[qG]at hb1
  have heq:a.length=b.length:=by omega
  refine qF ?_;change Awp _ _ _ _ _ _ _;refine qi ?_;refine awp_rseq [0,1,12,13] (by rfl) fun K hK=>?_;simp+decide only[Qe,Qh,↓qc,↓Qi,nv];apply hK;clear hK K;refine qI ?_;refine Qj [0,1,12,13] (fun j:Nat=>[(0,v),(1,w),(12, .int .i64 a.length),(13, .int .i64 j)]) (fun j:Nat=>h) (fun j:Nat=>j<=a.length/\YO a b=YO (a.drop j) (b.drop j)) (fun j:Nat=>a.length-j) 0 (by rfl) (Vi _) ⟨Jq _,rfl⟩ ?_;rintro j ⟨hj,hg⟩;refine awp_rseq [0,1,12,13,14] (by rfl) fun K hK=>?_;simp+decide only[XP,QH,qj,QY,↓qd];apply hK;clear hK K;refine qi (qz (b:=_) rfl (fun hb2=>?_) (fun hb2=>?_))
  ·try simp only[qG]at hb2
   have hj1:j<a.length:=by omega
   have hj2:j<b.length:=by omega
   obtain⟨lc,o,c,hve⟩:=Ye hv (by omega);obtain⟨lw,ow,cw,hwe⟩:=Ye hw (by omega);have hv2:=hv;have hw2:=hw;rw[hve]at hv2;rw[hwe]at hw2;obtain⟨e0,e1,-⟩:=WU hv2 hj1;obtain⟨f0,f1,-⟩:=WU hw2 hj2;have hst:=tk_step hj1 hj2;obtain⟨t,ht⟩:∃t,t=a.getD j noT:=⟨_,rfl⟩
   obtain⟨u,hu⟩:∃u,u=b.getD j noT:=⟨_,rfl⟩
   rw[<-ht]at e0 e1 hst;rw[<-hu]at f0 f1 hst;have hk:=Yg t.kind u.kind;have hjb:((j:Int)<(b.length:Int))=True:=eq_true (by omega);have hja:((j:Int)<(a.length:Int))=True:=eq_true (by omega);have hwj:IntKind.i64.wrap ((j:Int)+1)=((j+1:Nat):Int):=by rw[wrap_i64 (by omega) (by omega)];omega
   refine qF ?_;change Awp _ _ _ _ _ _ _;refine qi ?_;refine qI ?_;refine awp_rseq [0,1,5,12,13] (by rfl) fun K hK=>?_;simp+decide only[Xp,↓qc,↓qa];apply hK;clear hK K;refine UD [0,1,12,13,39] mixed (by kernel_rfl) (by rfl) (by rfl) fun K hK=>?_;simp+decide only[Xk,QU,VD,qj,K6,XL,Qs,QS,Ze,Zt,ZF,WY,Um,qac,qbU,↓qc,↓qJ,qg Tryz.underlying39 Yo,↓qh,↓qo,qf qjA,↓qd,↓Qy,↓Zb,agL_il5,agL_ir5,↓QM,↓Xv,qf ag9,↓Qn,↓Qd,hve,hwe,e0,e1,f0,f1,hk,hjb,hja];repeat (with_reducible refine zqP ?_)
   apply hK;clear hK K;refine qz (b:=_) rfl (fun hb3=>?_) (fun hb3=>?_)
   ·try simp only[qG]at hb3
    refine awp_rseq [4] (by rfl) fun K hK=>?_;simp+decide only[qP,↓qa];apply hK;clear hK K;refine qW ?_;try simp only[XB]
    refine QG h zqC (qA (qC)) ?_;simp+decide only[QE];rw[hg,hst];rcases hb3 with z|z
    ·rw[decide_eq_false z];rfl
    ·rw[decide_eq_false z,VO,VQ]
   ·try simp only[qG]at hb3
    refine qF ?_;change Awp _ _ _ _ _ _ _;refine Qv [0,1,12,13] (by rfl) ?_;simp+decide only[QK,Xi,↓qd,↓qc,hwj];try simp only[QL]
    refine⟨j+1,by rw[hve,hwe];rfl,Vi _,⟨hj1,?_⟩,by omega⟩;obtain⟨z1,z2⟩:=hb3;rw[hg,hst,decide_eq_true z1,decide_eq_true z2,VN,VN]
  ·try simp only[qG]at hb2
   refine Qk ?_;change Awp _ _ _ _ _ _ _;refine awp_rseq [4] (by rfl) fun K hK=>?_;simp+decide only[qP,↓qa];apply hK;clear hK K;refine qW ?_;refine QG h zqC (qA (qC)) ?_;simp+decide only[QE];rw[hg,Bl (by omega),Bl (by omega)];rfl
def spT(w:Str):TokC:=⟨if w=[61]then 5 else 1,w,0,0,false⟩
def UJ(s:Str):List TokC:=(Lib.fields s).map spT
structure SlG where
 i:Nat
 rv:AVal
 rp:AHeap
 H:AHeap
set_option maxHeartbeats 4000000 in
theorem qnY(w0:World)(ha:Asp w0)(h:AHeap)(s:Str)(hl:s.length<=1000000)(has:asciiB s=true):
 ACall Tryz.prog w0 68 [.str s] h (fun r h'=>IsL w0 h' 5 r ((UJ s).map Xg)/\Sub h h'):=by
 obtain⟨ws,hws⟩:∃ws,ws=Lib.fields s:=⟨_,rfl⟩
 have hwl:ws.length<=1000001:=by rw[hws];exact Ve (fields_few s) (by omega)
 have hR:UJ s=ws.map spT:=by rw[hws];rfl
 rw[hR];refine qR (n:=25) (rs:=[.tmp 2]) Tryz.func68 rfl rfl rfl rfl (VY rfl) ?_;simp only[qU];refine awp_rseq [0] (by rfl) fun K hK=>?_;simp+decide only[qP,↓qa];apply hK;clear hK K;refine awp_rseq [0,3] (by rfl) fun K hK=>?_;simp+decide only[qP,↓qa];apply hK;clear hK K;refine qi ?_;refine awp_rseq [3,8,9,10] (by rfl) fun K hK=>?_;simp+decide only[Qe,↓qc];refine qE (by rfl) (by rfl) (qbG w0 ha _ s (by omega) has) fun x2q1 h2q1 hx2q1=>?_;obtain⟨kw,hkw,rfl,e2⟩:=hx2q1;rw[<-hws]at e2|-
 have hS0:=Eb (ps:=[h]) ⟨fun p hp=>by rw[V4.1 hp];exact Vi _,by simp⟩ hkw ⟨ws.map AVal.str,0⟩;rw[<-e2]at hS0;simp only[Xf]at hS0;have lw:=WC (Uv (w0:=w0) (hS0.at_ (i:=1) rfl));simp+decide only[Qe,Qh,↓Qi,QV Tryz.underlying22,↓qc];apply hK;clear hK K;refine qI ?_;refine Qj [3,8,9,10] (fun g:SlG=>[(3,g.rv),(8, .slice (.own kw) 0 ws.length (.exact ws.length)),(9, .int .i64 ws.length),(10, .int .i64 g.i)]) (fun g:SlG=>g.H) (fun g:SlG=>g.i<=ws.length/\Sep [h,one kw ⟨ws.map AVal.str,0⟩,g.rp] g.H/\GrowV 5 g.rv g.rp (((ws.take g.i).map spT).map Xg)) (fun g:SlG=>ws.length-g.i) ⟨0, .nilSlice,emp,h2q1⟩ (by rfl) (Vi _) ⟨Jq _,hS0.emp, .nil⟩ ?_;rintro⟨i,rv,rp,H⟩ ⟨hi,hS,hrow⟩;simp only at hi hS hrow|-
 have eb_w:H kw=some _:=hS.at_ (i:=1) rfl;have hs_H:Sub h H:=hS.in_ (i:=0) rfl;have hrl:=hrow.live;refine awp_rseq [3,8,9,10,11] (by rfl) fun K hK=>?_;simp+decide only[XP,QH,qj,QY,↓qd];apply hK;clear hK K;refine qi (qz (b:=_) rfl (fun hb1=>?_) (fun hb1=>?_))
 ·try simp only[qG]at hb1
  have hi':i<ws.length:=by omega
  obtain⟨w,hw⟩:∃w,w=ws.getD i []:=⟨_,rfl⟩
  have ew:=qaw (w0:=w0) eb_w hi';rw[<-hw,Yc w0 eb_w]at ew;have htk:ws.take (i+1)=ws.take i++[w]:=by rw[Bn,JB hi',hw];simp[Ko,hi']
  have hwi:IntKind.i64.wrap ((i:Int)+1)=((i+1:Nat):Int):=by rw[wrap_i64 (by omega) (by omega)];omega
  refine qF ?_;change Awp _ _ _ _ _ _ _;refine qi ?_;refine qI ?_;refine awp_rseq [3,5,8,9,10] (by rfl) fun K hK=>?_;simp+decide only[qP,QJ,VD,Bi,↓qJ,qg Tryz.underlying22 sz9,↓qo,qf ag9,↓qa,Qm eb_w,ew];repeat (with_reducible refine zqP ?_)
  apply hK;clear hK K;refine awp_rseq [3,5,6,8,9,10] (by rfl) fun K hK=>?_;simp+decide only[Qe,QW,Zo,↓qc,↓XO,↓QN,qiF];refine Qp qdU (cs:=[.int .u8 0, .str [], .int .i64 0, .int .i64 0, .bool false]) (by rfl) fun k5q2 hk5q2=>?_;have hn_5q2:H k5q2=none:=by first|assumption|(simp only[Bd]at hk5q2;simp only[hk5q2])
  have hf_5q2:h k5q2=none:=Be hs_H hn_5q2;have ne_5q2_w:k5q2≠kw:=Bf hn_5q2 eb_w;refine qN (by rfl) (by rfl) zqA Yo (by rfl) (by rfl) zqD (Jq _) (by rfl) ?_;simp only[QT,Bg];simp+decide only[qV,Nat.reduceAdd];apply hK;clear hK K;refine qi ?_;refine awp_rseq [3,6,8,9,10,17] (by rfl) fun K hK=>?_;simp+decide only[Xj,ZE,Zd,↓qc,↓qd];apply hK;clear hK K;refine qz (b:=_) rfl (fun hb2=>?_) (fun hb2=>?_)
  ·try simp only[qG]at hb2
   have hcs:[AVal.int .u8 5, .str w, .int .i64 0, .int .i64 0, .bool false]=Xg (spT w):=by unfold spT;rw[if_pos hb2];rfl
   refine Qv [3,6,8,9,10] (by rfl) ?_;simp+decide only[qV,qY,Um,↓qh];refine qN (by rfl) (by rfl) zqA sz40 (by rfl) (by rfl) zqD (Jq _) (by rfl) ?_;simp only[QT,Bg];simp+decide only[qV];change Awp _ _ _ _ _ _ _;refine Qv [3,8,9,10] (by rfl) ?_;simp+decide only[Qe,QJ,↓qc,↓qo,Qa qjz Yo,Nat.reduceAdd]
   (refine qO (cs:=[.int .u8 5, .str w, .int .i64 0, .int .i64 0, .bool false]) (by rfl) fun k8q2 hk8q2=>?_)
   rw[hcs]at hk8q2|-
   refine ZM (es:=5) (v:=rv) (p:=rp) (xs:=((ws.take i).map spT).map Xg) (ys:=[Xg (spT w)]) (i:=2) (by rfl) (by rfl) Tryz.underlying39 Tryz.underlying39 (fun k e=>by cases e) Yo qfY qdU (by rfl) (by decide) (by rfl) hrow rfl (hS.forget ((Vj hn_5q2).trans (Vj hk8q2))) (by rfl) (Bz (Vh _ _ _) (fun x hx=>by rw[V4.1 hx];rfl) (by simp) (by rfl) (.exact 1) (KL _)) (by rfl) (by simp) (by simp only[Zn,K4];omega) (by simp only[Zn,K4];omega) fun rv2 rp2 h8 hrow2 _ hS2=>?_;simp+decide only[qP,↓qa];change Awp _ _ _ _ _ _ _;refine Qv [3,8,9,10] (by rfl) ?_;simp+decide only[QK,Xi,↓qd,↓qc,hwi];try simp only[QL]
   exact⟨⟨i+1,rv2,rp2,h8⟩,rfl,Vi _,⟨hi',hS2,by simp only;rw[htk,JI,JI];exact hrow2⟩,by simp only;omega⟩
  ·try simp only[qG]at hb2
   have hcs:[AVal.int .u8 1, .str w, .int .i64 0, .int .i64 0, .bool false]=Xg (spT w):=by unfold spT;rw[if_neg hb2];rfl
   refine qF ?_;change Awp _ _ _ _ _ _ _;refine Qv [3,8,9,10] (by rfl) ?_;simp+decide only[Qe,QJ,↓qc,↓qo,Qa qjz Yo,Nat.reduceAdd]
   (refine qO (cs:=[.int .u8 1, .str w, .int .i64 0, .int .i64 0, .bool false]) (by rfl) fun k8q2 hk8q2=>?_)
   rw[hcs]at hk8q2|-
   refine ZM (es:=5) (v:=rv) (p:=rp) (xs:=((ws.take i).map spT).map Xg) (ys:=[Xg (spT w)]) (i:=2) (by rfl) (by rfl) Tryz.underlying39 Tryz.underlying39 (fun k e=>by cases e) Yo qfY qdU (by rfl) (by decide) (by rfl) hrow rfl (hS.forget ((Vj hn_5q2).trans (Vj hk8q2))) (by rfl) (Bz (Vh _ _ _) (fun x hx=>by rw[V4.1 hx];rfl) (by simp) (by rfl) (.exact 1) (KL _)) (by rfl) (by simp) (by simp only[Zn,K4];omega) (by simp only[Zn,K4];omega) fun rv2 rp2 h8 hrow2 _ hS2=>?_;simp+decide only[qP,↓qa];change Awp _ _ _ _ _ _ _;refine Qv [3,8,9,10] (by rfl) ?_;simp+decide only[QK,Xi,↓qd,↓qc,hwi];try simp only[QL]
   exact⟨⟨i+1,rv2,rp2,h8⟩,rfl,Vi _,⟨hi',hS2,by simp only;rw[htk,JI,JI];exact hrow2⟩,by simp only;omega⟩
 ·try simp only[qG]at hb1
  have hin:i=ws.length:=by omega
  rw[hin,Jo]at hrow;refine Qk ?_;change Awp _ _ _ _ _ _ _;refine awp_rseq [2] (by rfl) fun K hK=>?_;simp+decide only[Xp,↓qc,↓qa];apply hK;clear hK K;refine qW ?_;refine Qb (qA (qC)) ?_;simp+decide only[QE];exact⟨H,Vi _,hrow.isL (hS.in_ (i:=2) rfl),hs_H⟩
end Go.Proofs.YtgiadjbiimkbiaaGreatDoor
namespace Go.Stm
open Go.Col (Str)
open Go.Tok
def qcC(a b:PhrC):Bool:=decide (a.words=b.words) && YO a.toks b.toks
def rowE{α:Type}(f:α->α->Bool):List α->List α->Bool
 |[],[]=>true
 |x::a,y::b=>f x y && rowE f a b
 |_,_=>false
def qaB:Nat->List StC->List StC->Bool
 |0,a,b=>decide (a.length=b.length)
 |m+1,a,b=>rowE (fun s t=>decide (s.verb=t.verb) && (rowE qcC s.phrases t.phrases && rowE (fun x y=>decide (x.1=y.1) && (YO x.2.1 y.2.1 && qaB m x.2.2 y.2.2)) s.bodies t.bodies)) a b
def qbL(d:Nat)(a b:List StC):Bool:= !YL 32 a && (!YL 32 b && qaB d a b)
theorem qoG{α:Type}{f:α->α->Bool}:∀{a b:List α},rowE f a b=true->a.length=b.length
 |[],[],_=>rfl
 |x::a,y::b,h=>by
  rw[rowE,Ky]at h;rw[KX,KX,qoG h.2]
 |[],y::b,h=>by cases h
 |x::a,[],h=>by cases h
theorem qhZ{α β γ:Type}{f:α->α->Bool}{qs:List (α×β)}{ts:List (α×γ)}{j:Nat}{d:α×β}{e:α×γ}(hq:j<qs.length)(ht:j<ts.length):
 rowE f ((qs.drop j).map (·.1)) ((ts.drop j).map (·.1))=(f (qs.getD j d).1 (ts.getD j e).1 && rowE f ((qs.drop (j+1)).map (·.1)) ((ts.drop (j+1)).map (·.1))):=by
 rw[Vb hq,Vb ht,Ke,Ke,rowE];simp[Ko,hq,ht]
theorem qnk{α:Type}{f:α->α->Bool}{a b:List α}(h:a.length≠b.length):rowE f a b=false:=by
 cases e:rowE f a b with
 |false=>rfl
 |true=>exact absurd (qoG e) h
def qgP(m:Nat)(x y:BodC):Bool:=decide (x.1=y.1) && (YO x.2.1 y.2.1 && qaB m x.2.2 y.2.2)
def qml(m:Nat)(s t:StC):Bool:=decide (s.verb=t.verb) && (rowE qcC s.phrases t.phrases && rowE (qgP m) s.bodies t.bodies)
theorem sameE_eq(m:Nat)(a b:List StC):qaB (m+1) a b=rowE (qml m) a b:=rfl
end Go.Stm
namespace Go.Proofs.YtgiadjbiimkbiaaGreatDoor
open Go.AM
open Go.Proofs
open Go.Col (Str FaultC okF)
open Go.Tok (TokC)
open Go.Stm
open Go.RowKit (Below)
set_option maxRecDepth 100000
structure SaG where
 j:Nat
 H:AHeap
theorem c_same0(w0:World)(d:Nat)(h:AHeap)(v w:AVal)(b:List StC)(hv:IsL w0 h 5 v [])(hw:StsV w0 d h w b):ACall Tryz.prog w0 39 [v,w] h (fun r h'=>r= .bool (qaB 0 [] b)/\Sub h h'):=by
 have nL:∀H:AHeap,Zl Tryz.prog H 45 v=⟨True, .int .i64 0⟩:=fun H=>hv.len Tryz.underlying45 H;have nW:=UW hw;have hlv:=hv.live;have hlw:=hw.shape.1;have hR:qaB 0 [] b=decide ([].length=b.length):=rfl;rw[hR];refine qR (n:=118) (rs:=[.tmp 4]) Tryz.func39 rfl rfl rfl rfl (VY rfl) ?_;simp only[qU];refine awp_rseq [0,1] (by rfl) fun K hK=>?_;simp+decide only[qP,↓qa];apply hK;clear hK K;refine qi ?_;refine awp_rseq [0,1,17] (by rfl) fun K hK=>?_;simp+decide only[QK,qj,Qh,WY,↓qc,↓Qi,↓qd,nL,nW];apply hK;clear hK K;refine qz (b:=_) rfl (fun hb1=>?_) (fun hb1=>?_)
 ·try simp only[qG]at hb1
  refine awp_rseq [4] (by rfl) fun K hK=>?_;simp+decide only[qP,↓qa];apply hK;clear hK K;refine qW ?_;try simp only[XB]
  refine QG h zqC (qA (qC)) ?_;simp+decide only[QE];refine⟨?_,Vi _⟩
  (rw[decide_eq_false (by simp only[JD];omega)];done)
 ·try simp only[qG]at hb1
  have hb0:b.length=0:=by omega
  refine qF ?_;change Awp _ _ _ _ _ _ _;refine qi ?_;refine awp_rseq [1,18,19,20] (by rfl) fun K hK=>?_;simp+decide only[Qe,Qh,↓qc,↓Qi,nL];apply hK;clear hK K;refine qI ?_;refine Qj [1,18,19,20] (fun z:Unit=>[(1,w),(18,v),(19, .int .i64 0),(20, .int .i64 0)]) (fun z:Unit=>h) (fun z:Unit=>True) (fun z:Unit=>0) () (by rfl) (Vi _) trivial ?_;intro z _;refine awp_rseq [1,18,19,20,21] (by rfl) fun K hK=>?_;simp+decide only[XP,QH,qj,QY,↓qd];apply hK;clear hK K;refine qi (qz (b:=_) rfl (fun hb2=>?_) (fun hb2=>?_))
  ·cases hb2
  ·try simp only[qG]at hb2
   refine Qk ?_;change Awp _ _ _ _ _ _ _;refine awp_rseq [4] (by rfl) fun K hK=>?_;simp+decide only[qP,↓qa];apply hK;clear hK K;refine qW ?_;refine QG h zqC (qA (qC)) ?_;simp+decide only[QE];refine⟨?_,Vi _⟩
   (rw[hb0];rfl)
set_option maxHeartbeats 16000000 in
theorem c_sameS(w0:World)(m d:Nat)(h:AHeap)(v w:AVal)(a b:List StC)(hs:StsV w0 (m+1) h v a)(hw:StsV w0 d h w b)(hsm:SmallS (m+1) a)(hsw:SmallS d b)
 (ih:∀(h':AHeap) (v w:AVal) (a b:List StC),StsV w0 m h' v a->StsV w0 (d-1) h' w b->SmallS m a->SmallS (d-1) b->ACall Tryz.prog w0 39 [v,w] h' (fun r h''=>r= .bool (qaB m a b)/\Sub h' h'')):
 ACall Tryz.prog w0 39 [v,w] h (fun r h'=>r= .bool (qaB (m+1) a b)/\Sub h h'):=by
 obtain⟨qs,hqe,hqL,hels⟩:=qfy hs hsm;obtain⟨ts,hte,htL,htls⟩:=qfy hw hsw;rw[Ec]at hels;have nL:=qhS hqL;have nW:=qhS htL;have hlv:=hqL.live;have hlw:=htL.live;have hln:qs.length<=1000000:=by have:=hsm.len;rw[hqe,Jn]at this;exact this
 have hR:qaB (m+1) a b=rowE (qml m) ((qs.drop 0).map (·.1)) ((ts.drop 0).map (·.1)):=by rw[sameE_eq,hqe,hte];rfl
 obtain⟨R,hRR⟩:∃R,R=qaB (m+1) a b:=⟨_,rfl⟩
 rw[<-hRR]at hR|-
 refine qR (n:=118) (rs:=[.tmp 4]) Tryz.func39 rfl rfl rfl rfl (VY rfl) ?_;simp only[qU];refine awp_rseq [0,1] (by rfl) fun K hK=>?_;simp+decide only[qP,↓qa];apply hK;clear hK K;refine qi ?_;refine awp_rseq [0,1,17] (by rfl) fun K hK=>?_;simp+decide only[QK,qj,Qh,WY,↓qc,↓Qi,↓qd,nL,nW];apply hK;clear hK K;refine qz (b:=_) rfl (fun hb1=>?_) (fun hb1=>?_)
 ·try simp only[qG]at hb1
  refine awp_rseq [4] (by rfl) fun K hK=>?_;simp+decide only[qP,↓qa];apply hK;clear hK K;refine qW ?_;try simp only[XB]
  refine QG h zqC (qA (qC)) ?_;simp+decide only[QE];refine⟨?_,Vi _⟩;rw[hR,qnk (by simp only[Jn,Vn];omega)]
 ·try simp only[qG]at hb1
  have heq:ts.length=qs.length:=by omega
  refine qF ?_;change Awp _ _ _ _ _ _ _;refine qi ?_;refine awp_rseq [1,18,19,20] (by rfl) fun K hK=>?_;simp+decide only[Qe,Qh,↓qc,↓Qi,nL];apply hK;clear hK K;refine qI ?_;refine Qj [1,18,19,20] (fun g:SaG=>[(1,w),(18,v),(19, .int .i64 qs.length),(20, .int .i64 g.j)]) (fun g:SaG=>g.H) (fun g:SaG=>Sub h g.H/\g.j<=qs.length/\R=rowE (qml m) ((qs.drop g.j).map (·.1)) ((ts.drop g.j).map (·.1))) (fun g:SaG=>qs.length-g.j) ⟨0,h⟩ (by rfl) (Vi _) ⟨Vi _,Jq _,hR⟩ ?_;rintro⟨j,H⟩ ⟨hs_H,hj,hg⟩;simp only at hs_H hj hg|-
  refine awp_rseq [1,18,19,20,21] (by rfl) fun K hK=>?_;simp+decide only[XP,QH,qj,QY,↓qd];apply hK;clear hK K;refine qi (qz (b:=_) rfl (fun hb2=>?_) (fun hb2=>?_))
  ·try simp only[qG]at hb2
   have hj1:j<qs.length:=by omega
   have hj2:j<ts.length:=by omega
   obtain⟨q,hqj⟩:∃q,q=qs.getD j qei:=⟨_,rfl⟩
   obtain⟨t,htj⟩:∃t,t=ts.getD j qei:=⟨_,rfl⟩
   have hqm:q∈qs:=by rw[hqj,Ko,JB hj1];exact Vw hj1
   have htm:t∈ts:=by rw[htj,Ko,JB hj2];exact Vw hj2
   obtain⟨lc,o,cc,hpe⟩:=qea hqL (by omega);obtain⟨lw,ow,cw,hwe⟩:=qea htL (by omega);have hq2:=hqL.mono hs_H;rw[hpe]at hq2;obtain⟨e0,e1,e2,e3,e4⟩:=qeI hq2 hj1;rw[<-hqj]at e0 e1 e2 e3 e4;have gq:∀(k:Nat) (X:Blk),H k=none->rd w0 (H.set k X) lw (ow+j*5)= .str t.1.verb/\rd w0 (H.set k X) lw (ow+j*5+1)= .int .i64 t.1.line/\rd w0 (H.set k X) lw (ow+j*5+2)= .int .i64 t.1.col/\rd w0 (H.set k X) lw (ow+j*5+3)=t.2.1/\rd w0 (H.set k X) lw (ow+j*5+4)=t.2.2:=fun k X hk=>by
    have ht2:=htL.mono (hs_H.trans (Vj (b:=X) hk));rw[hwe]at ht2;rw[htj];exact qeI ht2 hj2
   obtain⟨hph,hbd,hbn,hpn,hpt,hbb⟩:=hels q hqm;obtain⟨hphT,hbdT,hbnT,hpnT,hptT,hbbT⟩:=htls t htm;have hst:=qhZ (f:=qml m) (d:=qei) (e:=qei) hj1 hj2;rw[<-hqj,<-htj]at hst;rw[hst]at hg;have hl1:=hph.live;have hs1:=hph.scal;have hl2:=hbd.live;have hs2:=hbd.scal;have hl3:=hphT.live;have hs5:=hs1;have hs6:=hs1;have hs7:=hs1;have hs8:=hs1;have hs3:=hphT.scal;have hl4:=hbdT.live;have hs4:=hbdT.scal;obtain⟨pl,hpl,hpq,hpr⟩:=id hph;obtain⟨ul,hul,huq,hur⟩:=id hphT;obtain⟨ql,hql,hqb,hqq⟩:=id hbd;obtain⟨tl,htl,htb,htq⟩:=id hbdT;have np:=qie hpq;have nu:=qie huq;have nb:=qey hqb;have nt:=qey htb;have hbn2:ql.length<=1000000:=by rw[hql,Jn]at hbn;exact hbn
   have hpn2:pl.length<=1000000:=by rw[hpl,Jn]at hpn;exact hpn
   obtain⟨⟨qv,qln,qcl,qps,qbs⟩,qp,qb⟩:=q;obtain⟨⟨tv,tln,tcl,tps,tbs⟩,tp,tb⟩:=t;simp only[Ed,StC.line,StC.col,Ee,Ef]at e0 e1 e2 e3 e4 gq hl1 hs1 hl2 hs2 hl3 hs3 hl4 hs4 hs5 hs6 hs7 hs8 np nu nb nt hpq huq hqb htb hpl hul hql htl hbb hbbT hpt hptT hpr hur hqq htq hg;obtain⟨X,hX⟩:∃X,X=rowE (qml m) ((qs.drop (j+1)).map (·.1)) ((ts.drop (j+1)).map (·.1)):=⟨_,rfl⟩
   rw[<-hX]at hg;have hwj:IntKind.i64.wrap ((j:Int)+1)=((j+1:Nat):Int):=by rw[wrap_i64 (by omega) (by omega)];omega
   have hgS:R=((decide (qv=tv) && (rowE qcC ((pl.drop 0).map (·.1)) ((ul.drop 0).map (·.1)) && rowE (qgP m) ((ql.drop 0).map (·.1)) ((tl.drop 0).map (·.1)))) && X):=by rw[hg,qml];simp only[Ed,Ee,Ef];rw[hpl,hul,hql,htl];rfl
   refine qF ?_;change Awp _ _ _ _ _ _ _;refine qi ?_;refine qI ?_;refine awp_rseq [1,5,6,18,19,20] (by rfl) fun K hK=>?_;simp+decide only[Qe,VN,QJ,Xc,↓qc,↓qJ,qg Tryz.underlying45 WF,↓qo,Qa qgH WF,hpe,e0,e1,e2,e3,e4,hl1,hl2];repeat (with_reducible refine zqP ?_)
   refine Qp qjs (cs:=[.str [], .int .i64 0, .int .i64 0, .nilSlice, .nilSlice]) (by rfl) fun k5q3 hk5q3=>?_;have hn_5q3:H k5q3=none:=by first|assumption|(simp only[Bd]at hk5q3;simp only[hk5q3])
   have hf_5q3:h k5q3=none:=Be hs_H hn_5q3;simp+decide only[qP,VN,Xc,↓qa];refine qN (by rfl) (by rfl) zqA WF (by rfl) (by rfl) zqD (Jq _) (by first|rfl|(simp+decide only[QI,BL,Yk,VN,YW,qaA,Qt,hs1,hs2])) ?_;simp only[QT,Bg];simp+decide only[Zi,Xc,Nat.reduceAdd];apply hK;clear hK K;refine awp_rseq [1,6,7,18,19,20] (by rfl) fun K hK=>?_;simp+decide only[Qe,VN,QJ,Xc,↓qc,↓qJ,qg Tryz.underlying45 WF,↓qo,Qa qgH WF,hwe,(gq k5q3 _ hk5q3).1,(gq k5q3 _ hk5q3).2.1,(gq k5q3 _ hk5q3).2.2.1,(gq k5q3 _ hk5q3).2.2.2.1,(gq k5q3 _ hk5q3).2.2.2.2,hl3,hl4];repeat (with_reducible refine zqP ?_)
   refine Qp qjs (cs:=[.str [], .int .i64 0, .int .i64 0, .nilSlice, .nilSlice]) (by rfl) fun k6q4 hk6q4=>?_;have ne_6q4_5q3:k6q4≠k5q3:=by simp only[Bd]at hk6q4;simp only[Yv,hk6q4]
   have hn_6q4:H k6q4=none:=by first|assumption|(simp only[Bd]at hk6q4;simp only[hk6q4])
   have hf_6q4:h k6q4=none:=Be hs_H hn_6q4;refine qN (by rfl) (by rfl) zqA WF (by rfl) (by rfl) zqD (Jq _) (by first|rfl|(simp+decide only[QI,BL,Yk,VN,YW,qaA,Qt,hs3,hs4])) ?_;simp only[QT,Bg];simp+decide only[Zi,Xc,Nat.reduceAdd];apply hK;clear hK K;refine qi ?_;refine awp_rseq [1,6,7,18,19,20,51] (by rfl) fun K hK=>?_;simp+decide only[Xk,QU,qj,ZH,Yl,Qs,QS,Ze,Zt,ZF,YI,YR,WY,qag,qac,qfm,qfl,↓qh,↓qo,qf ag9,↓qd,↓qc,↓QM,↓Xv,qf qdr,↓qbW,↓Qn,↓Qd,qf qdp,ne_6q4_5q3.symm,np,nu,nb,nt,hl1,hl2,hl3,hl4];apply hK;clear hK K;refine qz (b:=_) rfl (fun hb3=>?_) (fun hb3=>?_)
   ·try simp only[qG]at hb3
    refine awp_rseq [4] (by rfl) fun K hK=>?_;simp+decide only[qP,↓qa];apply hK;clear hK K;refine qW ?_;try simp only[XB]
    refine Qb (qA (qC)) ?_;simp+decide only[QE];refine⟨h,zqB,?_,Vi _⟩;rw[hgS];by_cases z1:qv=tv
    ·by_cases z2:pl.length=ul.length
     ·have z3:ql.length≠tl.length:=fun z3=>by simp[z1,z2,z3]at hb3
      rw[qnk (f:=qgP m) (by simpa using z3),VQ,VQ,VO]
     ·rw[qnk (f:=qcC) (by simpa using z2),VO,VQ,VO]
    ·rw[decide_eq_false z1,VO,VO]
   ·try simp only[qG]at hb3
    obtain⟨⟨z1,z2⟩,z3⟩:=hb3;have z2:pl.length=ul.length:=by omega
    have z3:ql.length=tl.length:=by omega
    rw[decide_eq_true z1,VN]at hgS;refine qF ?_;change Awp _ _ _ _ _ _ _;refine qi ?_;refine awp_rseq [1,6,7,18,19,20,53,54,55] (by rfl) fun K hK=>?_;simp+decide only[Qe,QU,Qh,YI,↓qh,↓qo,qf qdr,↓Qi,↓qc,ne_6q4_5q3.symm,np,hl1];apply hK;clear hK K;refine qI ?_;refine Qj [1,6,7,18,19,20,53,54,55] (fun g:SaG=>[(1,w),(6, .ptr (.own k5q3) 0),(7, .ptr (.own k6q4) 0),(18,v),(19, .int .i64 qs.length),(20, .int .i64 j),(53,qp),(54, .int .i64 pl.length),(55, .int .i64 g.j)]) (fun g:SaG=>g.H) (fun g:SaG=>Sub h g.H/\g.H k5q3=some ⟨[.str qv, .int .i64 qln, .int .i64 qcl,qp,qb],0⟩/\g.H k6q4=some ⟨[.str tv, .int .i64 tln, .int .i64 tcl,tp,tb],0⟩/\g.j<=pl.length/\R=((rowE qcC ((pl.drop g.j).map (·.1)) ((ul.drop g.j).map (·.1)) && rowE (qgP m) ((ql.drop 0).map (·.1)) ((tl.drop 0).map (·.1))) && X)) (fun g:SaG=>pl.length-g.j) ⟨0,_⟩ (by first|rfl|(rw[hpe,hwe];rfl)) (Vi _) ⟨zqB,zqA,zqA,Jq _,hgS⟩ ?_;rintro⟨a,H2⟩ ⟨hs_H2,eb_5q3,eb_6q4,ha,hga⟩;simp only at hs_H2 eb_5q3 eb_6q4 ha hga|-
    refine awp_rseq [1,6,7,18,19,20,53,54,55,56] (by rfl) fun K hK=>?_;simp+decide only[XP,QH,qj,QY,↓qd];apply hK;clear hK K;refine qi (qz (b:=_) rfl (fun hb4=>?_) (fun hb4=>?_))
    ·try simp only[qG]at hb4
     have ha1:a<pl.length:=by omega
     have ha2:a<ul.length:=by omega
     obtain⟨p,hpj⟩:∃p,p=pl.getD a qej:=⟨_,rfl⟩
     obtain⟨u,huj⟩:∃u,u=ul.getD a qej:=⟨_,rfl⟩
     have hpm:p∈pl:=by rw[hpj,Ko,JB ha1];exact Vw ha1
     have hum:u∈ul:=by rw[huj,Ko,JB ha2];exact Vw ha2
     obtain⟨lp,op,cp,hpp⟩:=qcc hpq (by omega);obtain⟨lu,ou,cu,hup⟩:=qcc huq (by omega);have hp2:=hpq.mono hs_H2;rw[hpp]at hp2;obtain⟨f0,f1⟩:=qeJ hp2 ha1;rw[<-hpj]at f0 f1;have gu:∀(k:Nat) (X:Blk),H2 k=none->rd w0 (H2.set k X) lu (ou+a*2)= .str u.1.words/\rd w0 (H2.set k X) lu (ou+a*2+1)=u.2:=fun k X hk=>by
      have ht2:=huq.mono (hs_H2.trans (Vj (b:=X) hk));rw[hup]at ht2;rw[huj];exact qeJ ht2 ha2
     have hpk:=hpr p hpm;have huk:=hur u hum;have hpkl:p.1.toks.length<=1000000:=hpt _ (by rw[hpl];exact BK (f:=(·.1)) hpm);have hst2:=qhZ (f:=qcC) (d:=qej) (e:=qej) ha1 ha2;rw[<-hpj,<-huj]at hst2;rw[hst2]at hga;have hl5:=hpk.live;have hs5:=hpk.scal;have hl6:=huk.live;obtain⟨⟨pw,pt⟩,pv⟩:=p;obtain⟨⟨uw,ut⟩,uv⟩:=u;simp only[qcC]at f0 f1 gu hpk huk hpkl hl5 hs5 hl6 hga;have hwa:IntKind.i64.wrap ((a:Int)+1)=((a+1:Nat):Int):=by rw[wrap_i64 (by omega) (by omega)];omega
     refine qF ?_;change Awp _ _ _ _ _ _ _;refine qi ?_;refine qI ?_;refine awp_rseq [1,6,7,8,9,18,19,20,53,54,55] (by rfl) fun K hK=>?_;simp+decide only[Qe,VN,QJ,Xc,↓qc,↓qJ,qg Tryz.underlying79 qbA,↓qo,Qa ag84 qbA,hpp,f0,f1,hl5];repeat (with_reducible refine zqP ?_)
     refine Qp ze84 (cs:=[.str [], .nilSlice]) (by rfl) fun k11q3 hk11q3=>?_;have hn_11q3:H2 k11q3=none:=by first|assumption|(simp only[Bd]at hk11q3;simp only[hk11q3])
     have hf_11q3:h k11q3=none:=Be hs_H2 hn_11q3;have ne_11q3_5q3:k11q3≠k5q3:=Bf hn_11q3 eb_5q3;have ne_11q3_6q4:k11q3≠k6q4:=Bf hn_11q3 eb_6q4;simp+decide only[qP,VN,Xc,↓qa];refine qN (by rfl) (by rfl) zqA qbA (by rfl) (by rfl) zqD (Jq _) (by first|rfl|(simp+decide only[QI,BL,Yk,VN,YW,Qt,hs5])) ?_;simp only[QT,Bg];simp+decide only[Zi,Xc];apply hK;clear hK K;refine qez [1,6,7,18,19,20,53,54,55,80] mixed (by kernel_rfl) (by rfl) fun K hK=>?_;simp+decide only[Xj,XF,qY,VD,qj,K6,Xt,YJ,Qs,Ze,ZF,YI,ZJ,qac,qbm,XZ,↓ZU,qkS,↓qcW,qf ag9,qf qdr,↓qjC,↓qdZ,qg Tryz.underlying79 qbA,↓qjT,↓qgK,vgP,qjU,↓qtB,qf qbK,↓qtA,↓qgJ,cv_iaddrl,cv_iaddrr,cp_iaddrl,cp_iaddrr,ne_11q3_6q4.symm,Qm eb_6q4,hup,(gu k11q3 _ hk11q3).1,(gu k11q3 _ hk11q3).2,hl5,hl6];repeat (with_reducible refine zqP ?_)
     refine qgm (V:= .bool (YO pt ut)) (f:=_) (cap:=_) (xs:=_) (by first|rfl|(simp+decide only[QI,VZ,gv,nthDst,Zy,Zw])) (fun hg=>⟨rfl,?_⟩) (fun hg=>qpO w0 _ pv uv pt ut (hpk.mono zqB) (huk.mono zqB) hpkl) ?_
     ·try simp+decide only[QI,qaT,Xt,Bool.not_not]at hg
      simp+decide only[QI,Zr,absS,absV,XH,QW,evs,JE,hg]
     simp+decide only[qV,XF,Xc,Xt,qew,YF,Zf,qjk,qjj,↓vg_unOp,vgP,qjU,↓qtz];apply hK;clear hK K;refine qz (b:=_) rfl (fun hb5=>?_) (fun hb5=>?_)
     ·try simp only[qG]at hb5
      refine awp_rseq [4] (by rfl) fun K hK=>?_;simp+decide only[qP,↓qa];apply hK;clear hK K;refine qW ?_;try simp only[XB]
      refine Qb (qA (qC)) ?_;simp+decide only[QE];refine⟨h,zqB,?_,Vi _⟩;rw[hga];by_cases y1:pw=uw
      ·have y2:YO pt ut=false:=by simpa[y1]using hb5
       rw[y2,VQ,VO,VO,VO]
      ·rw[decide_eq_false y1,VO,VO,VO,VO]
     ·try simp only[qG]at hb5
      obtain⟨y1,y2⟩:pw=uw/\YO pt ut=true:=by
       refine⟨Classical.byContradiction fun z=>by simp[z]at hb5,?_⟩;cases z:YO pt ut with
       |true=>rfl
       |false=>simp[z]at hb5
      rw[decide_eq_true y1,y2,VN,VN]at hga;refine qF ?_;change Awp _ _ _ _ _ _ _;refine Qv [1,6,7,18,19,20,53,54,55] (by rfl) ?_;simp+decide only[QK,Xi,↓qd,↓qc,hwa];try simp only[QL]
      exact⟨⟨a+1,_⟩,by first|rfl|(rw[hpe,hwe,hpp];rfl),Vi _,⟨zqB,zqA,zqA,ha1,hga⟩,by simp only;omega⟩
    ·try simp only[qG]at hb4
     have haq:a=pl.length:=by omega
     rw[haq,Va,Bl (by omega)]at hga;have hgB:R=(rowE (qgP m) ((ql.drop 0).map (·.1)) ((tl.drop 0).map (·.1)) && X):=hga;refine Qk ?_;change Awp _ _ _ _ _ _ _;refine awp_rseq [1,7,18,19,20,83,84,85] (by rfl) fun K hK=>?_;simp+decide only[Qe,QU,Qh,YR,↓qh,↓qo,qf qdp,↓Qi,↓qc,Qm eb_5q3,nb,hl2];apply hK;clear hK K;refine qI ?_;refine Qj [1,7,18,19,20,83,84,85] (fun g:SaG=>[(1,w),(7, .ptr (.own k6q4) 0),(18,v),(19, .int .i64 qs.length),(20, .int .i64 j),(83,qb),(84, .int .i64 ql.length),(85, .int .i64 g.j)]) (fun g:SaG=>g.H) (fun g:SaG=>Sub h g.H/\g.H k6q4=some ⟨[.str tv, .int .i64 tln, .int .i64 tcl,tp,tb],0⟩/\g.j<=ql.length/\R=(rowE (qgP m) ((ql.drop g.j).map (·.1)) ((tl.drop g.j).map (·.1)) && X)) (fun g:SaG=>ql.length-g.j) ⟨0,_⟩ (by first|rfl|(rw[hpe,hwe];rfl)) (Vi _) ⟨zqB,zqA,Jq _,hgB⟩ ?_;rintro⟨a,H3⟩ ⟨hs_H3,eb_6q4,ha,hga⟩;simp only at hs_H3 eb_6q4 ha hga|-
     refine awp_rseq [1,7,18,19,20,83,84,85,86] (by rfl) fun K hK=>?_;simp+decide only[XP,QH,qj,QY,↓qd];apply hK;clear hK K;refine qi (qz (b:=_) rfl (fun hb6=>?_) (fun hb6=>?_))
     ·try simp only[qG]at hb6
      have ha1:a<ql.length:=by omega
      have ha2:a<tl.length:=by omega
      obtain⟨p,hpj⟩:∃p,p=ql.getD a qdE:=⟨_,rfl⟩
      obtain⟨u,huj⟩:∃u,u=tl.getD a qdE:=⟨_,rfl⟩
      have hpm:p∈ql:=by rw[hpj,Ko,JB ha1];exact Vw ha1
      have hum:u∈tl:=by rw[huj,Ko,JB ha2];exact Vw ha2
      obtain⟨lp,op,cp,hpp⟩:=qck hqb (by omega);obtain⟨lu,ou,cu,hup⟩:=qck htb (by omega);have hp2:=hqb.mono hs_H3;rw[hpp]at hp2;obtain⟨f0,f1,f2⟩:=qfp hp2 ha1;rw[<-hpj]at f0 f1 f2;have gu:∀(k:Nat) (X:Blk),H3 k=none->rd w0 (H3.set k X) lu (ou+a*3)= .str u.1.1/\rd w0 (H3.set k X) lu (ou+a*3+1)=u.2.1/\rd w0 (H3.set k X) lu (ou+a*3+2)=u.2.2:=fun k X hk=>by
       have ht2:=htb.mono (hs_H3.trans (Vj (b:=X) hk));rw[hup]at ht2;rw[huj];exact qfp ht2 ha2
      obtain⟨hpk,hps⟩:=hqq p hpm;obtain⟨huk,hus⟩:=htq u hum;obtain⟨hpkl,hpsm⟩:=hbb p.1 (by rw[hql];exact BK (f:=(·.1)) hpm);obtain⟨hukl,husm⟩:=hbbT u.1 (by rw[htl];exact BK (f:=(·.1)) hum);have hst2:=qhZ (f:=qgP m) (d:=qdE) (e:=qdE) ha1 ha2;rw[<-hpj,<-huj]at hst2;rw[hst2]at hga;have hl5:=hpk.live;have hs5:=hpk.scal;have hl6:=huk.live;have hs6:=huk.scal;obtain⟨hl7,hs7,-⟩:=hps.shape;obtain⟨hl8,hs8,-⟩:=hus.shape;obtain⟨⟨pw,pt,pL⟩,pv,pLv⟩:=p;obtain⟨⟨uw,ut,uL⟩,uv,uLv⟩:=u;simp only[qgP]at f0 f1 f2 gu hpk huk hps hus hpkl hpsm husm hl5 hs5 hl6 hs6 hl7 hs7 hl8 hs8 hga;have hwa:IntKind.i64.wrap ((a:Int)+1)=((a+1:Nat):Int):=by rw[wrap_i64 (by omega) (by omega)];omega
      refine qF ?_;change Awp _ _ _ _ _ _ _;refine qi ?_;refine qI ?_;refine awp_rseq [1,7,10,11,18,19,20,83,84,85] (by rfl) fun K hK=>?_;simp+decide only[Qe,VN,QJ,Xc,↓qc,↓qJ,qg Tryz.underlying80 qav,↓qo,Qa qrf qav,hpp,f0,f1,f2,hl5,hl7];repeat (with_reducible refine zqP ?_)
      refine Qp qlH (cs:=[.str [], .nilSlice, .nilSlice]) (by rfl) fun k17q3 hk17q3=>?_;have hn_17q3:H3 k17q3=none:=by first|assumption|(simp only[Bd]at hk17q3;simp only[hk17q3])
      have hf_17q3:h k17q3=none:=Be hs_H3 hn_17q3;have ne_17q3_6q4:k17q3≠k6q4:=Bf hn_17q3 eb_6q4;simp+decide only[qP,VN,Xc,↓qa];refine qN (by rfl) (by rfl) zqA qav (by rfl) (by rfl) zqD (Jq _) (by first|rfl|(simp+decide only[QI,BL,Yk,VN,YW,Qt,hs5,hs7])) ?_;simp only[QT,Bg];simp+decide only[Zi,Xc,Nat.reduceAdd];apply hK;clear hK K;refine awp_rseq [1,7,11,12,18,19,20,83,84,85] (by rfl) fun K hK=>?_;simp+decide only[Qe,VN,QU,Xc,YR,↓qh,↓qo,qf qdp,↓qc,↓qJ,qg Tryz.underlying80 qav,Qa qrf qav,ne_17q3_6q4.symm,Qm eb_6q4,hup,(gu k17q3 _ hk17q3).1,(gu k17q3 _ hk17q3).2.1,(gu k17q3 _ hk17q3).2.2,hl6,hl8];repeat (with_reducible refine zqP ?_)
      refine Qp qlH (cs:=[.str [], .nilSlice, .nilSlice]) (by rfl) fun k18q5 hk18q5=>?_;have ne_18q5_17q3:k18q5≠k17q3:=by simp only[Bd]at hk18q5;simp only[Yv,hk18q5]
      have hn_18q5:H3 k18q5=none:=by first|assumption|(simp only[Bd]at hk18q5;simp only[hk18q5])
      have hf_18q5:h k18q5=none:=Be hs_H3 hn_18q5;have ne_18q5_6q4:k18q5≠k6q4:=Bf hn_18q5 eb_6q4;refine qN (by rfl) (by rfl) zqA qav (by rfl) (by rfl) zqD (Jq _) (by first|rfl|(simp+decide only[QI,BL,Yk,VN,YW,Qt,hs6,hs8])) ?_;simp only[QT,Bg];simp+decide only[Zi,Xc,Nat.reduceAdd];apply hK;clear hK K;have hss:=fun X Y=>ih ((H3.set k17q3 X).set k18q5 Y) pLv uLv pL uL (hps.mono zqB) (hus.mono zqB) hpsm husm;have y0:(pw=uw/\YO pt ut=true)\/(pw=uw/\YO pt ut=false)\/((¬pw=uw)/\∀z:Bool,(z && true)=z):=by
       by_cases y1:pw=uw
       ·cases y2:YO pt ut with
        |true=>exact .inl ⟨y1,rfl⟩
        |false=>exact .inr (.inl ⟨y1,rfl⟩)
       ·exact .inr (.inr ⟨y1,J6⟩)
      rcases y0 with⟨y1,y2⟩|⟨y1,y2⟩|⟨y1,y2⟩
      all_goals
       refine awp_rseq [1,7,18,19,20,83,84,85,115] (by rfl) fun K hK=>?_;simp+decide only[Xj,XF,QU,qj,Xt,YJ,Yy,Qs,Ze,Zt,ZF,qac,qer,↓qh,qiy,↓qo,qf ag9,↓qd,↓qc,↓QM,↓Xv,qf qbK,ne_18q5_17q3.symm,y1,hl5,hl6];first
       |(refine Xl (by rfl) ?_;refine QC (V:= .bool (YO pt ut)) (by rfl) (by rfl) (qpO w0 _ pv uv pt ut (hpk.mono zqB) (huk.mono zqB) hpkl) ?_)
       |(refine qcm (by rfl) (by rfl) ?_)
       simp+decide only[Qe,XF,QU,XL,Ze,Zt,ZF,YF,Zf,qep,↓Uc,↓Qd,↓qc,↓QM,↓Xv,qf qiH,ne_18q5_17q3.symm,y2,hl7,hl8];first
       |(refine qcm (by rfl) (by rfl) ?_)
       |(refine Xl (by rfl) ?_
         refine qE (by rfl) (by rfl) (hss _ _) fun x19q18 h19q18 hx19q18=>?_;obtain⟨rfl,hs19⟩:=hx19q18;have hs19':Sub h h19q18:=Br zqB hs19;have eb19:h19q18 k6q4=some ⟨[.str tv, .int .i64 tln, .int .i64 tcl,tp,tb],0⟩:=hs19 _ _ zqA)
       simp+decide only[qV,XF,XL,YF,Zf,↓Uc,↓Qd];apply hK;clear hK K;refine qz (b:=_) rfl (fun hb7=>?_) (fun hb7=>?_)
       ·try simp only[qG]at hb7
        refine awp_rseq [4] (by rfl) fun K hK=>?_;simp+decide only[qP,↓qa];apply hK;clear hK K;refine qW ?_;try simp only[XB]
        refine Qb (qA (qC)) ?_;simp+decide only[QE];refine⟨h,by first|exact hs19'|exact zqB,?_,Vi _⟩;congr 1;first
        |(have z:qaB m pL uL=false:=by simpa using hb7
          rw[hga,y2,z];simp;done)
        |(rw[hga,y2];simp;done)
        |(rw[hga,decide_eq_false y1];simp;done)
       ·try (cases hb7;done)
        all_goals have z7:qaB m pL uL=true:=by simpa using hb7
        all_goals have hgN:R=(rowE (qgP m) ((ql.drop (a+1)).map (·.1)) ((tl.drop (a+1)).map (·.1)) && X):=by rw[hga,decide_eq_true y1,y2,z7];rfl
        all_goals
         try simp only[qG]at hb7
         refine qF ?_;change Awp _ _ _ _ _ _ _;refine Qv [1,7,18,19,20,83,84,85] (by rfl) ?_;simp+decide only[QK,Xi,↓qd,↓qc,hwa];try simp only[QL]
         exact⟨⟨a+1,h19q18⟩,by first|rfl|(rw[hpe,hwe,hpp];rfl),Vi _,⟨hs19',eb19,ha1,hgN⟩,by simp only;omega⟩
     ·try simp only[qG]at hb6
      have haq:a=ql.length:=by omega
      rw[haq,Va,Bl (by omega)]at hga;have hgX:R=X:=hga;refine Qk ?_;change Awp _ _ _ _ _ _ _;refine Qv [1,18,19,20] (by rfl) ?_;simp+decide only[QK,Xi,↓qd,↓qc,hwj];try simp only[QL]
      exact⟨⟨j+1,H3⟩,by first|rfl|(rw[hpe,hwe];rfl),Vi _,⟨hs_H3,hj1,by rw[hgX,hX]⟩,by simp only;omega⟩
  ·try simp only[qG]at hb2
   have hjq:j=qs.length:=by omega
   rw[hjq,Va,Bl (by omega)]at hg;refine Qk ?_;change Awp _ _ _ _ _ _ _;refine awp_rseq [4] (by rfl) fun K hK=>?_;simp+decide only[qP,↓qa];apply hK;clear hK K;refine qW ?_;refine Qb (qA (qC)) ?_;simp+decide only[QE];refine⟨h,hs_H,?_,Vi _⟩;rw[hg];rfl
theorem c_same(w0:World):∀(m d:Nat) (h:AHeap) (v w:AVal) (a b:List StC),StsV w0 m h v a->StsV w0 d h w b->SmallS m a->SmallS d b->ACall Tryz.prog w0 39 [v,w] h (fun r h'=>r= .bool (qaB m a b)/\Sub h h')
 |0,d,h,v,w,a,b,hs,hw,_,_=>by
  obtain⟨rfl,hv⟩:=sts0 hs;exact c_same0 w0 d h v w b hv hw
 |m+1,d,h,v,w,a,b,hs,hw,hsm,hsw=>c_sameS w0 m d h v w a b hs hw hsm hsw fun h' v w a b hs hw hsm hsw=>c_same w0 m (d-1) h' v w a b hs hw hsm hsw
theorem qlc(w0:World)(m d:Nat)(h:AHeap)(v w:AVal)(a b:List StC)(hs:StsV w0 m h v a)(hw:StsV w0 d h w b)(hsm:SmallS m a)(hsw:SmallS d b):ACall Tryz.prog w0 18 [v,w] h (fun r h'=>r= .bool (qbL m a b)/\Sub h h'):=by
 have hlv:=hs.shape.1;have hlw:=hw.shape.1;have hR:qbL m a b=(!YL 32 a && (!YL 32 b && qaB m a b)):=rfl;rw[hR];refine qR (n:=18) (rs:=[.tmp 4]) Tryz.func18 rfl rfl rfl rfl (VY rfl) ?_;simp only[qU];refine awp_rseq [0,1] (by rfl) fun K hK=>?_;simp+decide only[qP,↓qa];apply hK;clear hK K;cases z1:YL 32 a<;>cases z2:YL 32 b;all_goals
  refine awp_rseq [4] (by rfl) fun K hK=>?_;simp+decide only[Qe,↓qc];refine qE (by rfl) (by rfl) (qla w0 32 m _ v a (by decide) hs hsm) fun x1q1 h1q1 hx1q1=>?_;obtain⟨rfl,hs1⟩:=hx1q1;have hs_h1q1:Sub h h1q1:=Br zqC hs1;have hr_h1q1:=hs_h1q1;simp+decide only[Qe,XF,Xt,YJ,Yy,YF,Zf,↓qdf,↓qc,↓Qy,z1];first
  |(refine qcm (by rfl) (by rfl) ?_)
  |(refine Xl (by rfl) ?_
    refine qE (by rfl) (by rfl) (qla w0 32 d _ w b (by decide) (hw.mono hs_h1q1) hsw) fun x1q5 h1q5 hx1q5=>?_;obtain⟨rfl,hs5⟩:=hx1q5;have hs5':Sub h h1q5:=hs_h1q1.trans hs5)
  simp+decide only[Qe,XF,XL,YF,Zf,↓Uc,↓Qd,↓qc,↓Qy,z2];first
  |(refine qcm (by rfl) (by rfl) ?_)
  |(refine Xl (by rfl) ?_
    refine qE (by rfl) (by rfl) (c_same w0 m d _ v w a b (hs.mono hs5') (hw.mono hs5') hsm hsw) fun x1q11 h1q11 hx1q11=>?_;obtain⟨rfl,hs11⟩:=hx1q11;have hs11':Sub h h1q11:=hs5'.trans hs11)
  simp+decide only[qP,Xt,YS,↓Qd,↓qa];apply hK;clear hK K;refine qW ?_;refine Qb (qA (qC)) ?_;simp+decide only[QE];refine⟨h,by assumption,?_,Vi _⟩;first|rfl|(simp[z1,z2];done)
end Go.Proofs.YtgiadjbiimkbiaaGreatDoor
namespace Go.Stm
open Go.Col (Str FaultC okF)
open Go.Tok
set_option maxRecDepth 100000
def qrJ:Str:=[40,32,41,32,58,32,61,32,60,32,62,32,43,32,45,32,42,32,47,32,42,42,32,60,61,32,62,61,32,60,62]
def Ue(i:Nat)(w:Str):TokC:=
 if w.getD 0 0=34 then⟨3,Lib.trimB w 34,(i+1:Nat),8,false⟩
 else if 48<=w.getD 0 0/\w.getD 0 0<=57 then⟨2,w,(i+1:Nat),8,false⟩
 else if w=[46]then⟨6,w,(i+1:Nat),8,false⟩
 else if Lib.contains qrJ w=true then⟨5,w,(i+1:Nat),8,false⟩
 else⟨1,w,(i+1:Nat),8,false⟩
def qaK:Nat->List Str->List TokC
 |_,[]=>[]
 |i,w::ws=>Ue i w::qaK (i+1) ws
def Qz(s:Str):List TokC:=qaK 0 (Lib.fields s)
def qau(t:TokC):Str:=(48+t.kind)::t.text
def Zp:Nat->List StC->List Str
 |0,_=>[]
 |m+1,l=>(l.map fun s=>(123::s.verb)::((s.phrases.map fun p=>(60::(p.words++[62]))::p.toks.map qau).flatten++(s.bodies.map fun b=>(91::(b.1++[93]))::(b.2.1.map qau++Zp m b.2.2)).flatten)++[[125]]).flatten
end Go.Stm
namespace Go.Stm
open Go.Col (Str FaultC okF)
open Go.Tok
theorem qmC:∀(a b:List Str) (i:Nat),qaK i (a++b)=qaK i a++qaK (i+a.length) b
 |[],b,i=>by rw[Jd,JD,K6];rfl
 |w::a,b,i=>by
  rw[Kh,qaK,qaK,qmC a b (i+1),KX,Kh,show i+1+a.length=i+(a.length+1) by omega]
theorem qfI:∀(a:List Str) (i:Nat),(qaK i a).length=a.length
 |[],_=>rfl
 |w::a,i=>by rw[qaK,KX,KX,qfI a]
theorem qsm{ws:List Str}{i:Nat}(hi:i<ws.length):qaK 0 (ws.take (i+1))=qaK 0 (ws.take i)++[Ue i (ws.getD i [])]:=by
 rw[Bn,JB hi,Option.toList,qmC,K4,Nat.min_eq_left (by omega),Jp];simp[qaK,Ko,hi]
theorem qfe(s:Str):(Qz s).length=(Lib.fields s).length:=qfI _ _
end Go.Stm
namespace Go.Proofs.YtgiadjbiimkbiaaGreatDoor
open Go.AM
open Go.Proofs
open Go.Col (Str FaultC okF)
open Go.Tok (TokC)
open Go.Stm
open Go.RowKit (Below)
set_option maxRecDepth 100000
structure LtG where
 i:Nat
 rv:AVal
 rp:AHeap
 H:AHeap
theorem trimB_le(s:Str)(c:UInt8):(Lib.trimB s c).length<=s.length:=by
 have hd:∀(p:UInt8->Bool) (s:Str),(s.dropWhile p).length<=s.length:=by
  intro p s;induction s with
  |nil=>exact KL _
  |cons b s ih=>
   rw[Eg];split
   ·rw[KX];omega
   ·exact KL _
 unfold Lib.trimB
 (unfold Lib.trimLeftB Lib.trimRightB;have h1:=hd (· ==c) s.reverse;have h2:=hd (· ==c) (List.dropWhile (· ==c) s.reverse).reverse;rw[Eh]at h1 h2;omega)
theorem qsl{s:Str}{n:Nat}(h:s.length<=n)(i:Nat):(Ue i s).text.length<=n:=by
 unfold Ue;repeat' split
 all_goals first|exact Ve (trimB_le _ _) h|exact h
theorem qiW{n:Nat}:∀(l:List Str) (i:Nat),(∀w∈l,w.length<=n)->∀t∈qaK i l,t.text.length<=n
 |[],_,_,t,ht=>by cases ht
 |w::l,i,h,t,ht=>by
  rcases KW.1 ht with rfl|ht
  ·exact qsl (h w Je) _
  ·exact qiW l _ (fun w hw=>h w (Jf _ hw)) t ht
theorem ZT{s:Str}(hl:s.length<=1000000):Short (Qz s):=qiW _ _ fun w hw=>Ve (fields_small w hw) hl
theorem YU{s:Str}(hl:s.length<=999999):(Qz s).length<=1000000:=by rw[qfe];exact Ve (fields_few s) (by omega)
set_option maxHeartbeats 8000000 in
theorem qdO(w0:World)(hm:MaxL w0)(ha:Asp w0)(h:AHeap)(s:Str)(hl:s.length<=999999)(has:asciiB s=true):
 ACall Tryz.prog w0 16 [.str s] h (fun r h'=>∃p,GrowV 5 r p ((Qz s).map Xg)/\isG r=true/\Sep [h,p] h'):=by
 obtain⟨ws,hws⟩:∃ws,ws=Lib.fields s:=⟨_,rfl⟩
 have hwl:ws.length<=1000000:=by rw[hws];exact Ve (fields_few s) (by omega)
 have hwa:∀w∈ws,w.length<=1000000/\w≠[]:=fun w hw=>by
  rw[hws]at hw;exact⟨Ve (fields_small w hw) (by omega),qgB w hw⟩
 have hR:Qz s=qaK 0 ws:=by rw[hws];rfl
 rw[hR];refine qR (n:=66) (rs:=[.tmp 2]) Tryz.func16 rfl rfl rfl rfl (VY rfl) ?_;simp only[qU];refine awp_rseq [0] (by rfl) fun K hK=>?_;simp+decide only[qP,↓qa];apply hK;clear hK K;refine awp_rseq [0,3] (by rfl) fun K hK=>?_;simp+decide only[qP,↓qa];apply hK;clear hK K;refine awp_rseq [3,4] (by rfl) fun K hK=>?_;simp+decide only[Qe,↓qc];refine qE (by rfl) (by rfl) (qbG w0 ha _ s (by omega) has) fun x2q1 h2q1 hx2q1=>?_;obtain⟨kw,hkw,rfl,e2⟩:=hx2q1;rw[<-hws]at e2|-
 have hS0:=Eb (ps:=[h]) ⟨fun p hp=>by rw[V4.1 hp];exact Vi _,by simp⟩ hkw ⟨ws.map AVal.str,0⟩;rw[<-e2]at hS0;simp only[Xf]at hS0;have lw:=WC (Uv (w0:=w0) (hS0.at_ (i:=1) rfl));simp+decide only[qP,↓qa];apply hK;clear hK K;refine qi ?_;refine awp_rseq [3,4,5] (by rfl) fun K hK=>?_;simp+decide only[qP,↓qa];apply hK;clear hK K;refine qI ?_;refine Qj [3,4,5] (fun g:LtG=>[(3,g.rv),(4, .slice (.own kw) 0 ws.length (.exact ws.length)),(5, .int .i64 g.i)]) (fun g:LtG=>g.H) (fun g:LtG=>g.i<=ws.length/\Sep [h,one kw ⟨ws.map AVal.str,0⟩,g.rp] g.H/\GrowV 5 g.rv g.rp ((qaK 0 (ws.take g.i)).map Xg)/\isG g.rv=true) (fun g:LtG=>ws.length-g.i) ⟨0, .nilSlice,emp,h2q1⟩ (by rfl) (Vi _) ⟨Jq _,hS0.emp, .nil,rfl⟩ ?_;rintro⟨i,rv,rp,H⟩ ⟨hi,hS,hrow,hG⟩;simp only at hi hS hrow hG|-
 have eb_w:H kw=some _:=hS.at_ (i:=1) rfl;have hs_H:Sub h H:=hS.in_ (i:=0) rfl;have hrl:=hrow.live;refine qi ?_;refine awp_rseq [3,4,5,13] (by rfl) fun K hK=>?_;simp+decide only[QK,qj,Qh,QY,↓qc,↓Qi,QV Tryz.underlying22,↓qd];apply hK;clear hK K;refine qz (b:=_) rfl (fun hb1=>?_) (fun hb1=>?_)
 ·try simp only[qG]at hb1
  have hi':i<ws.length:=by omega
  obtain⟨w,hw⟩:∃w,w=ws.getD i []:=⟨_,rfl⟩
  have ew:=qaw (w0:=w0) eb_w hi';rw[<-hw,Yc w0 eb_w]at ew;have hst:=qsm hi';rw[<-hw]at hst;obtain⟨hwn,hwp⟩:=hwa w (by rw[hw,Ko,JB hi'];exact Vw hi');have hwi:IntKind.i64.wrap ((i:Int)+1)=((i+1:Nat):Int):=by rw[wrap_i64 (by omega) (by omega)];omega
  have hw0:((0:Int)<w.length)=True:=eq_true (by have:=Bu.2 hwp;omega);have h34:∀c:UInt8,decide ((c.toNat:Int)=34)=decide (c=34):=fun c=>Yg c 34;have h48:∀c:UInt8,decide ((c.toNat:Int) >= 48)=decide (48<=c):=fun c=>by rw[decide_eq_decide,Ei];exact Ej
  have h57:∀c:UInt8,decide ((c.toNat:Int)<=57)=decide (c<=57):=fun c=>by rw[decide_eq_decide,Ei];exact Ej
  refine qF ?_;change Awp _ _ _ _ _ _ _;refine qi ?_;refine qI ?_;refine awp_rseq [3,4,5,6] (by rfl) fun K hK=>?_;simp+decide only[QK,QJ,qK,VD,XJ,QW,Zo,Bi,↓qc,↓qJ,qg Tryz.underlying22 sz9,↓qo,qf ag9,↓qd,↓XO,↓QN,qdP,qjp,Qm eb_w,ew,hwi];repeat (with_reducible refine zqP ?_)
  refine Qp qdU (cs:=[.int .u8 0, .str [], .int .i64 0, .int .i64 0, .bool false]) (by rfl) fun k6q8 hk6q8=>?_;have hn_6q8:H k6q8=none:=by first|assumption|(simp only[Bd]at hk6q8;simp only[hk6q8])
  have hf_6q8:h k6q8=none:=Be hs_H hn_6q8;have ne_6q8_w:k6q8≠kw:=Bf hn_6q8 eb_w;refine qN (by rfl) (by rfl) zqA Yo (by rfl) (by rfl) zqD (Jq _) (by rfl) ?_;simp only[QT,Bg];simp+decide only[qV,VD,Nat.reduceAdd];apply hK;clear hK K;refine qi ?_;refine awp_rseq [3,4,5,6,7] (by rfl) fun K hK=>?_;simp+decide only[Xp,QJ,VD,Bi,↓qc,↓qJ,qg Tryz.underlying22 sz9,↓qo,qf ag9,↓qhI,qfE,qeh Tryz.underlying9,↓qa,ne_6q8_w.symm,Qm eb_w,ew,hw0];repeat (with_reducible refine zqP ?_)
  apply hK;clear hK K;refine Wo [3,4,5,6] (fun t:TokC=>[(3,rv),(4, .slice (.own kw) 0 ws.length (.exact ws.length)),(5, .int .i64 i),(6, .ptr (.own k6q8) 0)]) (fun t:TokC=>H.set k6q8 ⟨Xg t,0⟩) (fun t:TokC=>t=Ue i w) ?_ ?_
  ·refine qI ?_
   refine awp_rseq [3,4,5,6,7,29] (by rfl) fun K hK=>?_;simp+decide only[XD,qK,XA,↓qc,↓qd,↓qa,h34];apply hK;clear hK K;refine qz (b:=_) rfl (fun hb2=>?_) (fun hb2=>?_)
   ·try simp only[qG]at hb2
    have hT:Ue i w=⟨3,Lib.trimB w 34,(i+1:Nat),8,false⟩:=by unfold Ue;exact if_pos hb2
    refine awp_rseq [3,4,5,6] (by rfl) fun K hK=>?_;simp+decide only[qV,qY,Um,↓qh];refine qN (by rfl) (by rfl) zqA sz40 (by rfl) (by rfl) zqD (Jq _) (by rfl) ?_;simp only[QT,Bg];simp+decide only[qV];apply hK;clear hK K;refine Qv [3,4,5,6] (by rfl) ?_;simp+decide only[Qe,QJ,VD,Bi,↓qc,↓qJ,qg Tryz.underlying22 sz9,↓qo,qf ag9,ne_6q8_w.symm,Qm eb_w,ew];repeat (with_reducible refine zqP ?_)
    refine QC (V:= .str (Lib.trimB w 34)) (by rfl) (by rfl) (c_trim1 w0 _ w 34 (by omega) (by decide)) ?_;simp+decide only[qV,qY,VD,qbU,↓qh];refine qN (by rfl) (by rfl) zqA sz9 (by rfl) (by rfl) zqD (Jq _) (by rfl) ?_;simp only[QT,Bg];simp+decide only[qV,VD];try simp only[if_true,QL]
    exact⟨Ue i w,rfl,by rw[hT];exact Vi _,rfl⟩
   ·try simp only[qG]at hb2
    refine awp_rseq [3,4,5,6,39] (by rfl) fun K hK=>?_;simp+decide only[ZR,Yw,qK,XL,QS,↓qc,↓qd,qrY,↓Qy,↓Qn,qrW,↓Qd,↓qa,h48,h57];apply hK;clear hK K;refine qz (b:=_) rfl (fun hb3=>?_) (fun hb3=>?_)
    ·try simp only[qG]at hb3
     have hT:Ue i w=⟨2,w,(i+1:Nat),8,false⟩:=by unfold Ue;exact(if_neg hb2).trans (if_pos hb3)
     refine Qv [3,4,5,6] (by rfl) ?_;simp+decide only[qV,qY,Um,↓qh];refine qN (by rfl) (by rfl) zqA sz40 (by rfl) (by rfl) zqD (Jq _) (by rfl) ?_;simp only[QT,Bg];simp+decide only[qV];try simp only[if_true,QL]
     exact⟨Ue i w,rfl,by rw[hT];exact Vi _,rfl⟩
    ·try simp only[qG]at hb3
     have hn3:¬(48<=w.getD 0 0/\w.getD 0 0<=57):=fun hh=>by rcases hb3 with z|z;exact z hh.1;exact z hh.2
     refine awp_rseq [3,4,5,6,47] (by rfl) fun K hK=>?_;simp+decide only[ZR,QJ,VD,ZE,Zd,Bi,↓qc,↓qJ,qg Tryz.underlying22 sz9,↓qo,qf ag9,↓qd,↓qa,ne_6q8_w.symm,Qm eb_w,ew];repeat (with_reducible refine zqP ?_)
     apply hK;clear hK K;refine qz (b:=_) rfl (fun hb4=>?_) (fun hb4=>?_)
     ·try simp only[qG]at hb4
      have hT:Ue i w=⟨6,w,(i+1:Nat),8,false⟩:=by unfold Ue;exact(if_neg hb2).trans ((if_neg hn3).trans (if_pos hb4))
      refine Qv [3,4,5,6] (by rfl) ?_;simp+decide only[qV,qY,Um,↓qh];refine qN (by rfl) (by rfl) zqA sz40 (by rfl) (by rfl) zqD (Jq _) (by rfl) ?_;simp only[QT,Bg];simp+decide only[qV];try simp only[if_true,QL]
      exact⟨Ue i w,rfl,by rw[hT];exact Vi _,rfl⟩
     ·try simp only[qG]at hb4
      refine awp_rseq [3,4,5,6,54] (by rfl) fun K hK=>?_;simp+decide only[Qe,QJ,VD,Bi,↓qc,↓qJ,qg Tryz.underlying22 sz9,↓qo,qf ag9,ne_6q8_w.symm,Qm eb_w,ew];repeat (with_reducible refine zqP ?_)
      refine QC (V:= .bool (Lib.contains qrJ w)) (by rfl) (by rfl) (WA w0 hm _ qrJ w (by decide)) ?_;simp+decide only[qP,VD,↓qa];apply hK;clear hK K;refine qz (b:=_) rfl (fun hb5=>?_) (fun hb5=>?_)
      ·skip
       have hT:Ue i w=⟨5,w,(i+1:Nat),8,false⟩:=by unfold Ue;exact(if_neg hb2).trans ((if_neg hn3).trans ((if_neg hb4).trans (if_pos hb5)))
       refine Qv [3,4,5,6] (by rfl) ?_;simp+decide only[qV,qY,Um,↓qh];refine qN (by rfl) (by rfl) zqA sz40 (by rfl) (by rfl) zqD (Jq _) (by rfl) ?_;simp only[QT,Bg];simp+decide only[qV];try simp only[if_true,QL]
       exact⟨Ue i w,rfl,by rw[hT];exact Vi _,rfl⟩
      ·skip
       have hT:Ue i w=⟨1,w,(i+1:Nat),8,false⟩:=by unfold Ue;exact(if_neg hb2).trans ((if_neg hn3).trans ((if_neg hb4).trans (if_neg (by rw[hb5];decide))))
       refine qF ?_;try simp only[if_true,QL]
       exact⟨Ue i w,rfl,by rw[hT];exact Vi _,rfl⟩
  ·rintro t rfl
   refine Qv [3,4,5] (by rfl) ?_;simp+decide only[Qe,QJ,↓qc,↓qo,Qa qjz Yo,Nat.reduceAdd,Xg];refine qO (cs:=Xg (Ue i w)) (by rfl) fun k17q2 hk17q2=>?_;have ne_17q2_6q8:k17q2≠k6q8:=by simp only[Bd]at hk17q2;simp only[Yv,hk17q2]
   have hn_17q2:H k17q2=none:=by first|assumption|(simp only[Bd]at hk17q2;simp only[hk17q2])
   have hf_17q2:h k17q2=none:=Be hs_H hn_17q2;have ne_17q2_w:k17q2≠kw:=Bf hn_17q2 eb_w;refine ZM (es:=5) (v:=rv) (p:=rp) (xs:=(qaK 0 (ws.take i)).map Xg) (ys:=[Xg (Ue i w)]) (i:=2) (by rfl) (by rfl) Tryz.underlying39 Tryz.underlying39 (fun k e=>by cases e) Yo qfY qdU (by rfl) (by decide) (by rfl) hrow rfl (hS.forget ((Vj hn_6q8).trans (Vj hk17q2))) (by rfl) (Bz (Vh _ _ _) (fun x hx=>by rw[V4.1 hx];rfl) (by simp) (by rfl) (.exact 1) (KL _)) (by rfl) (by simp) (by simp only[Zn,K4,qfI];omega) (by simp only[Zn,K4,qfI];omega) fun rv2 rp2 h8 hrow2 hG2 hS2=>?_;simp+decide only[qP,↓qa];change Awp _ _ _ _ _ _ _;refine Qv [3,4,5] (by rfl) ?_;simp+decide only[XD,Xi,↓qc,↓qd,↓qa,hwi];try simp only[QL]
   exact⟨⟨i+1,rv2,rp2,h8⟩,rfl,Vi _,⟨hi',hS2,by simp only;rw[hst,JI];exact hrow2,hG2⟩,by simp only;omega⟩
 ·try simp only[qG]at hb1
  have hin:i=ws.length:=by omega
  rw[hin,Jo]at hrow;refine Qk ?_;change Awp _ _ _ _ _ _ _;refine awp_rseq [2] (by rfl) fun K hK=>?_;simp+decide only[Xp,↓qc,↓qa];apply hK;clear hK K;refine qW ?_;refine Qb (qA (qC)) ?_;simp+decide only[QE];exact⟨H,Vi _,rp,hrow,hG,hS.sub (by simp)⟩
theorem conv_kind(w0:World)(H:AHeap)(k:Nat)(b:UInt8):qdC Tryz.prog w0 (H.set k ⟨byteCells [b],0⟩) 32 9 (.slice (.own k) 0 1 (.exact 1))=⟨True, .str [b]⟩:=by
 rw[qoW Tryz.underlying32 Tryz.underlying9 Tryz.underlying5,qjm (Vh _ _ _) 0 1 (by simp[byteCells])];have h1:=qle [b];have h2:=qld [b];have h3:((byteCells [b]).drop 0).take 1=byteCells [b]:=rfl;simp only[h3,h1,h2]
theorem wrap_kind(k:UInt8):IntKind.u8.wrap (48+(k.toNat:Int))=((48+k:UInt8).toNat:Int):=by
 unfold IntKind.wrap;rw[UInt8.toNat_add];simp[IntKind.bits,IntKind.signed]
theorem qhR(l:List Str):Qt (l.map strC).flatten=true:=by
 induction l with
 |nil=>rfl
 |cons s l ih=>rw[Ke,Vp];exact ih
set_option maxHeartbeats 4000000 in
theorem c_texts(w0:World)(h:AHeap)(v:AVal)(l:List TokC)(hv:IsL w0 h 5 v (l.map Xg))(hl:l.length<=1000000)(hsh:Short l):
 ACall Tryz.prog w0 43 [v] h (fun r h'=>∃p,GrowV 1 r p ((l.map qau).map strC)/\isG r=true/\Sep [h,p] h'):=by
 have hlv:=hv.live;have nv:=ZN hv;have hS0:Sep [h,emp] h:=El (ps:=[h]) ⟨fun p hp=>by rw[V4.1 hp];exact Vi _,by simp⟩;refine qR (n:=29) (rs:=[.tmp 2]) Tryz.func43 rfl rfl rfl rfl (VY rfl) ?_;simp only[qU];refine awp_rseq [0] (by rfl) fun K hK=>?_;simp+decide only[qP,↓qa];apply hK;clear hK K;refine awp_rseq [0,3] (by rfl) fun K hK=>?_;simp+decide only[qP,↓qa];apply hK;clear hK K;refine qi ?_;refine awp_rseq [0,3,4] (by rfl) fun K hK=>?_;simp+decide only[qP,↓qa];apply hK;clear hK K;refine qI ?_;refine Qj [0,3,4] (fun g:LtG=>[(0,v),(3,g.rv),(4, .int .i64 g.i)]) (fun g:LtG=>g.H) (fun g:LtG=>g.i<=l.length/\Sep [h,g.rp] g.H/\GrowV 1 g.rv g.rp (((l.take g.i).map qau).map strC)/\isG g.rv=true) (fun g:LtG=>l.length-g.i) ⟨0, .nilSlice,emp,h⟩ (by rfl) (Vi _) ⟨Jq _,hS0, .nil,rfl⟩ ?_;rintro⟨i,rv,rp,H⟩ ⟨hi,hS,hrow,hG⟩;simp only at hi hS hrow hG|-
 have hs_H:Sub h H:=hS.in_ (i:=0) rfl;have hrl:=hrow.live;refine qi ?_;refine awp_rseq [0,3,4,8] (by rfl) fun K hK=>?_;simp+decide only[QK,qj,Qh,QY,↓qc,↓Qi,↓qd,nv];apply hK;clear hK K;refine qz (b:=_) rfl (fun hb1=>?_) (fun hb1=>?_)
 ·try simp only[qG]at hb1
  have hi':i<l.length:=by omega
  obtain⟨lc,o,c,hve⟩:=Ye hv (by omega);obtain⟨t,ht⟩:∃t,t=l.getD i noT:=⟨_,rfl⟩
  have hv2:=hv.mono hs_H;rw[hve]at hv2;obtain⟨e0,e1,-⟩:=WU hv2 hi';rw[<-ht]at e0 e1;have e2:∀(k:Nat) (b:Blk),H k=none->rd w0 (H.set k b) lc (o+i*5+1)= .str t.text:=fun k b hk=>by
   obtain⟨-,q,-⟩:=WU (hv2.mono (Vj hk)) hi';rw[q,<-ht]
  have htk:l.take (i+1)=l.take i++[t]:=by rw[Bn,JB hi',ht];simp[Ko,hi']
  have hwi:IntKind.i64.wrap ((i:Int)+1)=((i+1:Nat):Int):=by rw[wrap_i64 (by omega) (by omega)];omega
  have hwk:=wrap_kind t.kind;have hts:t.text.length<=1000000:=by rw[ht];exact hsh.at hi'
  refine qF ?_;change Awp _ _ _ _ _ _ _;refine qi ?_;refine qI ?_;refine qeA 16 [] mixed (by kernel_rfl) (by rfl) ?_;simp only[Ki,Bh,Vr,Vn];simp+decide only[QK,qY,VD,qj,JD,K6,KX,XJ,ZJ,Um,XZ,↓qaN,↓WO,qg Tryz.underlying39 Yo,↓YP,↓qaO,qf qjA,↓qfg,hve,e0,hwk];repeat (with_reducible refine zqP ?_)
  refine UO (by rfl) ?_;refine qO (cs:=byteCells [48+t.kind]) (by kernel_rfl) fun k5q7 hk5q7=>?_;have hn_5q7:H k5q7=none:=by first|assumption|(simp only[Bd]at hk5q7;simp only[hk5q7])
  have hf_5q7:h k5q7=none:=Be hs_H hn_5q7;rw[QB];simp+decide only[Xj,qY,VD,qj,JD,K6,KX,Qs,ZO,ZJ,XM,XZ,qbU,↓qkL _ _ _ (es_str Tryz.underlying32 Tryz.underlying9),↓qaN,↓WO,qg Tryz.underlying39 Yo,↓YP,↓qaO,qf ag9,↓qfg,conv_kind,e2 _ _ hk5q7];repeat (with_reducible refine zqP ?_)
  refine UO (by rfl) ?_;refine qO (cs:=[.str (qau t)]) (by kernel_rfl) fun k5q15 hk5q15=>?_;have ne_5q15_5q7:k5q15≠k5q7:=by simp only[Bd]at hk5q15;simp only[Yv,hk5q15]
  have hn_5q15:H k5q15=none:=by first|assumption|(simp only[Bd]at hk5q15;simp only[hk5q15])
  have hf_5q15:h k5q15=none:=Be hs_H hn_5q15;rw[QB];try simp only[Un,Uf]
  refine ZM (es:=1) (v:=rv) (p:=rp) (xs:=((l.take i).map qau).map strC) (ys:=[strC (qau t)]) (i:=1) (by rfl) (by rfl) Tryz.underlying22 Tryz.underlying22 (fun k e=>by cases e) sz9 by9 ze9 (by rfl) (by decide) (by rfl) hrow rfl (hS.forget ((Vj hk5q7).trans (Vj hk5q15))) (by rfl) (Bz (Vh _ _ _) (fun x hx=>by rw[V4.1 hx];rfl) (by rfl) (by rfl) (.exact 1) (KL _)) (by rfl) (by simp) (by simp only[Zn,K4];omega) (by simp only[Zn,K4];omega) fun rv2 rp2 h8 hrow2 hG2 hS2=>?_;simp+decide only[qP,VD,JD,K6,KX,↓qa];change Awp _ _ _ _ _ _ _;refine Qv [0,3,4] (by rfl) ?_;simp+decide only[XD,Xi,↓qc,↓qd,↓qa,hwi];try simp only[QL]
  exact⟨⟨i+1,rv2,rp2,h8⟩,by first|rfl|(rw[hve];rfl),Vi _,⟨hi',hS2,by simp only;rw[htk,JI,JI];exact hrow2,hG2⟩,by simp only;omega⟩
 ·try simp only[qG]at hb1
  have hin:i=l.length:=by omega
  rw[hin,Jo]at hrow;refine Qk ?_;change Awp _ _ _ _ _ _ _;refine awp_rseq [2] (by rfl) fun K hK=>?_;simp+decide only[Xp,↓qc,↓qa];apply hK;clear hK K;refine qW ?_;refine Qb (qA (qC)) ?_;simp+decide only[QE];exact⟨H,Vi _,rp,hrow,hG,hS⟩
end Go.Proofs.YtgiadjbiimkbiaaGreatDoor
namespace Go.AM
open Go.RowKit (Below)
section
variable {P:Program} {w0:World} {n:FrameK} {g₀:AHeap}
def qba(P:Program)(w0:World)(l:List Oper)(g₀:AHeap):List Oper->Nat->List Nat->Slots->AHeap->(Slots->AHeap->Prop)->Prop
 |[],_,_,s,h,K=>K s h
 |o::r,0,_,s,h,K=>Ql P w0 l [o] s h fun s' h'=>Sub g₀ h'/\qba P w0 l g₀ r 0 [] s' h' K
 |o::r,m+1,1::bs,s,h,K=>∃V,(∀g,Sub h g->Ql P w0 l [o] s g fun s' h'=>s'=putD s o.dst V/\h'=g)/\qba P w0 l g₀ r m bs (putD s o.dst V) h K
 |o::r,m+1,2::bs,s,h,K=>Ql P w0 l [o] s g₀ fun s' _=>qba P w0 l g₀ r m bs s' h K
 |o::r,m+1,bs,s,h,K=>Ql P w0 l [o] s h fun s' h'=>Sub h h'/\qba P w0 l g₀ r m (bs.drop 1) s' h' K
theorem UN{l:List Oper}{m:Nat}{bs:List Nat}{s:Slots}{h:AHeap}{K:Slots->AHeap->Prop}:qba P w0 l g₀ [] m bs s h K=K s h:=by cases m<;>rfl
theorem qao{l:List Oper}{m:Nat}{bs:List Nat}{o:Oper}{r:List Oper}{s:Slots}{h:AHeap}{K:Slots->AHeap->Prop}:qba P w0 l g₀ (o::r) (m+1) (0::bs) s h K=Ql P w0 l [o] s h fun s' h'=>Sub h h'/\qba P w0 l g₀ r m bs s' h' K:=rfl
theorem Uy{l:List Oper}{bs:List Nat}{o:Oper}{r:List Oper}{s:Slots}{h:AHeap}{K:Slots->AHeap->Prop}:qba P w0 l g₀ (o::r) 0 bs s h K=Ql P w0 l [o] s h fun s' h'=>Sub g₀ h'/\qba P w0 l g₀ r 0 [] s' h' K:=rfl
theorem qan{l:List Oper}{m:Nat}{bs:List Nat}{o:Oper}{r:List Oper}{s:Slots}{h:AHeap}{K:Slots->AHeap->Prop}:qba P w0 l g₀ (o::r) (m+1) (2::bs) s h K=Ql P w0 l [o] s g₀ fun s' _=>qba P w0 l g₀ r m bs s' h K:=rfl
theorem qmD{l:List Oper}{m:Nat}{bs:List Nat}(h1:bs.getD 0 0≠1)(h2:bs.getD 0 0≠2){o:Oper}{r:List Oper}{s:Slots}{h:AHeap}{K:Slots->AHeap->Prop}(hj:qba P w0 l g₀ (o::r) (m+1) bs s h K):Ql P w0 l [o] s h fun s' h'=>Sub h h'/\qba P w0 l g₀ r m (bs.drop 1) s' h' K:=by
 match bs,h1,h2,hj with
 |[],_,_,hj=>exact hj
 |0::bs,_,_,hj=>exact hj
 |1::bs,h1,_,_=>exact absurd rfl h1
 |2::bs,_,h2,_=>exact absurd rfl h2
 |(k+3)::bs,_,_,hj=>exact hj
theorem qsp{l:List Oper}{m:Nat}{bs:List Nat}(hb:bs.getD 0 0=1){o:Oper}{r:List Oper}{s:Slots}{h:AHeap}{K:Slots->AHeap->Prop}(hj:qba P w0 l g₀ (o::r) (m+1) bs s h K):∃V,(∀g,Sub h g->Ql P w0 l [o] s g fun s' h'=>s'=putD s o.dst V/\h'=g)/\qba P w0 l g₀ r m (bs.drop 1) (putD s o.dst V) h K:=by
 match bs,hb,hj with
 |[],hb,_=>simp at hb
 |1::bs,_,hj=>exact hj
 |0::bs,hb,_=>simp at hb
 |(k+2)::bs,hb,_=>simp at hb
theorem qso{l:List Oper}{m:Nat}{bs:List Nat}(hb:bs.getD 0 0=2){o:Oper}{r:List Oper}{s:Slots}{h:AHeap}{K:Slots->AHeap->Prop}(hj:qba P w0 l g₀ (o::r) (m+1) bs s h K):Ql P w0 l [o] s g₀ fun s' _=>qba P w0 l g₀ r m (bs.drop 1) s' h K:=by
 match bs,hb,hj with
 |[],hb,_=>simp at hb
 |2::bs,_,hj=>exact hj
 |0::bs,hb,_=>simp at hb
 |1::bs,hb,_=>simp at hb
 |(k+3)::bs,hb,_=>simp at hb
theorem qsn{l:List Oper}{bs bs':List Nat}{r:List Oper}{s:Slots}{h:AHeap}{K:Slots->AHeap->Prop}:qba P w0 l g₀ r 0 bs s h K=qba P w0 l g₀ r 0 bs' s h K:=by cases r<;>rfl
theorem qbl{l:List Oper}{K K':Slots->AHeap->Prop}(hk:∀s h,K s h->K' s h):∀{r:List Oper} {m:Nat} {bs:List Nat} {s:Slots} {h:AHeap},qba P w0 l g₀ r m bs s h K->qba P w0 l g₀ r m bs s h K'
 |[],m,bs,s,h,ha=>by rw[UN]at ha|-;exact hk _ _ ha
 |o::r,0,bs,s,h,ha=>qbr (fun s' h' hx=>⟨hx.1,qbl hk hx.2⟩) ha
 |o::r,m+1,1::bs,s,h,ha=>by
  obtain⟨V,h1,h2⟩:=ha;exact⟨V,h1,qbl hk h2⟩
 |o::r,m+1,2::bs,s,h,ha=>qbr (fun s' h' hx=>qbl hk hx) ha
 |o::r,m+1,[],s,h,ha=>qbr (fun s' h' hx=>⟨hx.1,qbl hk hx.2⟩) ha
 |o::r,m+1,0::bs,s,h,ha=>qbr (fun s' h' hx=>⟨hx.1,qbl hk hx.2⟩) ha
 |o::r,m+1,(k+3)::bs,s,h,ha=>qbr (fun s' h' hx=>⟨hx.1,qbl hk hx.2⟩) ha
def isL(P:Program)(l:List Oper)(π:List Nat)(fl:List Nat)(m q:Nat):Bool:=decide (q<m) && (fl.getD q 0==1||isF P l (π.getD q 0))
def qnH(P:Program)(l:List Oper)(π:List Nat)(fl:List Nat)(ws:List (Option Nat))(m:Nat):Bool:=
 qae l && ((KP m).all fun q=> !(fl.getD q 0==2)||isF P l (π.getD q 0)) && (π.all fun i=>decide (i<l.length)) && ((KP l.length).all fun i=>π.contains i) &&
 ((KP π.length).all fun q=>(KP π.length).all fun r=>decide (q=r)|| !(π.getD q 0==π.getD r 0)) &&
 ((KP π.length).all fun q=>match ws.getD q none with
   |none=>(KP q).all fun c=>isL P l π fl m c
   |some r=>decide (r<q) && Region.waitsFor .any l.toArray (π.getD q 0) (π.getD r 0) && (KP q).all fun c=>decide (c<=r)||isL P l π fl m c) &&
 ((KP π.length).all fun q=>match l[π.getD q 0]? with
   |none=>true
   |some o=>(KP π.length).all fun r=>match l[π.getD r 0]? with
    |none=>true
    |some oj=>(match oj.dst with
     |none=>true
     |some t=> !(Qu l o).contains t||(decide (q<r) && decide (m<=r) && !(fl.getD q 0==2))||(decide (r<q) && Region.waitsFor .any l.toArray (π.getD q 0) (π.getD r 0)))) &&
 decide (m<=π.length) && ((KP π.length).all fun q=>decide (q<m)|| !isL P l π fl m q) &&
 (decide (m=π.length)||(KP m).all fun q=>(fl.getD q 0==2)||(KP (m+1)).any fun r=>decide (q<r) && (decide (r=m)|| !(fl.getD r 0==2)) && Region.waitsFor .any l.toArray (π.getD r 0) (π.getD q 0))
structure FloatL(P:Program)(l:List Oper)(π:List Nat)(fl:List Nat)(m:Nat):Prop where
 order:qae l=true
 lateF:∀q,q<m->fl.getD q 0=2->isF P l (π.getD q 0)=true
 inr:∀q,q<π.length->π.getD q 0<l.length
 onto:∀i,i<l.length->∃q,q<π.length/\π.getD q 0=i
 inj:∀q r,q<π.length->r<π.length->π.getD q 0=π.getD r 0->q=r
 wait:∀q c,q<π.length->c<q->isL P l π fl m c=false->∃r,c<=r/\r<q/\Region.waitsFor .any l.toArray (π.getD q 0) (π.getD r 0)=true
 data:∀q r o oj t,q<π.length->r<π.length->l[π.getD q 0]?=some o->l[π.getD r 0]?=some oj->oj.dst=some t->t∈Qu l o->(q<r/\m<=r/\fl.getD q 0≠2)\/(r<q/\Region.waitsFor .any l.toArray (π.getD q 0) (π.getD r 0)=true)
 mle:m<=π.length
 tail:∀q,m<=q->q<π.length->isL P l π fl m q=false
 sink:m<π.length->∀q,q<m->fl.getD q 0≠2->∃r,q<r/\r<=m/\(r=m\/fl.getD r 0≠2)/\Region.waitsFor .any l.toArray (π.getD r 0) (π.getD q 0)=true
theorem qpr{l:List Oper}{π:List Nat}{fl:List Nat}{ws:List (Option Nat)}{m:Nat}(h:qnH P l π fl ws m=true):FloatL P l π fl m:=by
 unfold qnH at h;simp only[Ky]at h;obtain⟨⟨⟨⟨⟨⟨⟨⟨⟨h1,hL⟩,h2⟩,h3⟩,h4⟩,h5⟩,h6⟩,h7⟩,h8⟩,h9⟩:=h;simp only[Jz,JA]at hL h2 h3 h4 h5 h6 h8;refine⟨h1,fun q hq e=>by
  have z:=hL q hq;rw[JH]at z;rcases z with z|z
  ·rw[e]at z;simp at z
  ·exact z,fun q hq=>?_,fun i hi=>?_,fun q r hq hr e=>?_,fun q c hq hc hf=>?_,fun q r o oj t hq hr ho hoj hd ht=>?_,by simpa using h7,fun q hm hq=>?_,fun hm q hq hq2=>?_⟩
 ·have:=h2 (π.getD q 0) (by rw[Ko,JB hq];exact Vw hq)
  simpa using this
 ·have:=h3 i hi
  rw[List.contains_iff_mem]at this;obtain⟨q,hq,e⟩:=List.getElem_of_mem this;exact⟨q,hq,by rw[Ko,JB hq];exact e⟩
 ·have:=h4 q hq r hr
  rw[JH,decide_eq_true_eq]at this;rcases this with e'|e'
  ·exact e'
  ·rw[e]at e';simp at e'
 ·have:=h5 q hq
  split at this
  ·rw[Jz]at this
   rw[this c (JA.2 hc)]at hf;cases hf
  ·rename_i r _
   simp only[Us,JH,Jz,JA]at this;obtain⟨⟨t1,t2⟩,t3⟩:=this;rcases t3 c hc with e|e
   ·exact⟨r,e,t1,t2⟩
   ·rw[e]at hf;cases hf
 ·have:=h6 q hq
  rw[ho]at this;simp only[Jz,JA]at this;have:=this r hr;rw[hoj]at this;simp only[Ky,decide_eq_true_eq,Jh,JH,hd]at this;rcases this with(e|e)|e
  ·have hm:(Qu l o).contains t=true:=by simpa using ht
   rw[hm]at e;cases e
  ·exact .inl ⟨e.1.1,e.1.2,by simpa using e.2⟩
  ·exact .inr e
 ·have:=h8 q hq
  simp only[decide_eq_true_eq,Jh,JH]at this;rcases this with e|e
  ·omega
  ·exact e
 ·rw[JH,decide_eq_true_eq]at h9
  rcases h9 with e|e
  ·omega
  ·rw[Jz]at e
   have:=e q (JA.2 hq);rw[JH]at this;rcases this with this|this
   ·exact absurd (by simpa using this) hq2
   rw[List.any_eq_true]at this;obtain⟨r,hr,hw⟩:=this;rw[JA]at hr;simp only[Us,JH]at hw;exact⟨r,hw.1.1,by omega,hw.1.2.imp id (fun z=>by simpa using z),hw.2⟩
theorem qrg{l:List Oper}(hall:Qo n l=true){π:List Nat}{fl:List Nat}{m:Nat}(F:FloatL P l π fl m){K:Slots->AHeap->Prop}{g:AHeap}(hg₀:Sub g₀ g):∀(d p:Nat) (S:Slots),π.length-p=d->p<=π.length->qba P w0 l g₀ ((YB l π).drop p) (m-p) (fl.drop p) S g K->
 ∃p' S',p<=p'/\p'<=π.length/\(p'<π.length->isL P l π fl m p'=false)/\(∀q,p<=q->q<p'->isL P l π fl m q=true)/\qba P w0 l g₀ ((YB l π).drop p') (m-p') (fl.drop p') S' g K/\
  (∀q o,p<=q->q<p'->l[π.getD q 0]?=some o->∃V,(∀t,o.dst=some t->S'.get t=V)/\FactC P w0 n l g S' o V/\(fl.getD q 0=2->FactC P w0 n l g₀ S' o V))/\
  (∀t,(∀q o,p<=q->q<p'->l[π.getD q 0]?=some o->o.dst≠some t)->S'.get t=S.get t):=by
 intro d;induction d with
 |zero=>
  intro p S hd hp ha;exact⟨p,S,KL _,hp,fun h=>by omega,fun q h1 h2=>by omega,ha,fun q o h1 h2=>by omega,fun t _=>rfl⟩
 |succ d ih=>
  intro p S hd hp ha;have hpl:p<π.length:=by omega
  cases hf:isL P l π fl m p with
  |false=>exact⟨p,S,KL _,hp,fun _=>hf,fun q h1 h2=>by omega,ha,fun q o h1 h2=>by omega,fun t _=>rfl⟩
  |true=>
   have hpm:p<m:=by
    refine J4 fun h=>?_;rw[F.tail p h hpl]at hf;cases hf
   obtain⟨o,ho⟩:∃o,l[π.getD p 0]?=some o:=⟨_,JB (F.inr p hpl)⟩
   rw[qeg F.inr hpl ho,show m-p=(m-(p+1))+1 by omega]at ha;have hfl:(fl.drop p).getD 0 0=fl.getD p 0:=by simp[Ko,Kq]
   have hfd:(fl.drop p).drop 1=fl.drop (p+1):=by rw[Em]
   obtain⟨V,hv,hfact,hfact₀⟩:∃V,qba P w0 l g₀ ((YB l π).drop (p+1)) (m-(p+1)) (fl.drop (p+1)) (putD S o.dst V) g K/\FactC P w0 n l g S o V/\(fl.getD p 0=2->FactC P w0 n l g₀ S o V):=by
    by_cases hb2:fl.getD p 0=2
    ·have ha:=qso (by rw[hfl,hb2]) ha
     rw[hfd]at ha;have hk2:Wu P o.op=2:=by
      have:=F.lateF p hpm hb2;unfold isF at this;rw[ho]at this;simpa using this
     obtain⟨V,hv,hfact⟩:=qnJ hall hk2 ha;exact⟨V,hv,hfact.toC.sub hg₀,fun _=>hfact.toC⟩
    ·by_cases hb1:fl.getD p 0=1
     ·obtain⟨V,h1,h2⟩:=qsp (by rw[hfl,hb1]) ha
      rw[hfd]at h2;exact⟨V,h2,fact_free hall h1,fun e=>absurd e hb2⟩
     ·have hk2:Wu P o.op=2:=by
       unfold isL isF at hf;rw[ho]at hf;simp only[Ky,JH,beq_iff_eq,hb1,false_or]at hf;simpa using hf.2
      have ha:=qmD (by rw[hfl];exact hb1) (by rw[hfl];exact hb2) ha;rw[hfd]at ha;obtain⟨V,⟨_,hv⟩,hfact⟩:=qnJ hall hk2 ha;exact⟨V,hv,hfact.toC,fun e=>absurd e hb2⟩
   obtain⟨p',S',a1,a2,a3,a4,a5,a6,a7⟩:=ih (p+1) (putD S o.dst V) (by omega) (by omega) hv;have notlook:∀q oq t,p<=q->q<p'->l[π.getD q 0]?=some oq->oq.dst=some t->t∉Qu l o:=fun q oq t h1 h2 h3 h4 ht=>by
    rcases F.data p q o oq t hpl (by omega) ho h3 h4 ht with⟨c1,c2,_⟩|⟨c1,_⟩
    ·have:=a4 q (by omega) h2
     rw[F.tail q c2 (by omega)]at this;cases this
    ·omega
   have uniq:∀q oq t,p<q->q<π.length->l[π.getD q 0]?=some oq->oq.dst=some t->o.dst≠some t:=fun q oq t h1 h2 h3 h4 e=>by
    have:=((XR F.order ho).2 _ oq t h3 h4).1 e;have:=F.inj p q hpl h2 this;omega
   refine⟨p',S',by omega,a2,a3,fun q h1 h2=>?_,a5,fun q oq h1 h2 hq=>?_,fun t ht=>?_⟩
   ·rcases Jy h1 with e|e
    ·rw[<-e];exact hf
    ·exact a4 q e h2
   ·rcases Jy h1 with e|e
    ·subst e
     rw[ho]at hq;obtain rfl:=Option.some.inj hq;have hsl:∀t∈Qu l o,S'.get t=S.get t:=fun t ht=>by
      rw[a7 t fun q oq h3 h4 h5 h6=>notlook q oq t (by omega) (by omega) h5 h6 ht,YA,if_neg fun e=>notlook p o t (KL _) (by omega) ho e ht]
     refine⟨V,fun t ht=>?_,hfact.slots hsl,fun e=>(hfact₀ e).slots hsl⟩;rw[a7 t fun q oq h3 h4 h5 h6=>uniq q oq t h3 (by omega) h5 h6 ht,YA,if_pos ht]
    ·exact a6 q oq e h2 hq
   ·rw[a7 t fun q oq h3 h4 h5=>ht q oq (by omega) h4 h5,YA,if_neg (ht p o (KL _) (by omega) ho)]
def PhaseL(P:Program)(w0:World)(n:FrameK)(g₀:AHeap)(l:List Oper)(π:List Nat)(fl:List Nat)(m:Nat)(K:Slots->AHeap->Prop)(listed:Array Bool)(Ps:PMap)(a:Act)(w:World):Prop:=
 listed.size=l.length/\(∀j oj,l[j]?=some oj->listed.getD j false=true->∀e∈oj.after,Region.binds .any e=true->listed.getD e.on false=true)/\a.tmps.size=n/\a.defers=n.dfr/\
 ∃p S g,p<=π.length/\(p<π.length->isL P l π fl m p=false)/\(∀q,p<=q->q<π.length->listed.getD (π.getD q 0) false=false)/\(∀q,q<p->isL P l π fl m q=false->listed.getD (π.getD q 0) false=true)/\
  (m<p->∀q,q<p->fl.getD q 0≠2->listed.getD (π.getD q 0) false=true)/\Sub g₀ g/\HRel w0 Ps g w/\qba P w0 l g₀ ((YB l π).drop p) (m-p) (fl.drop p) S g K/\
  (∀q o,q<p->l[π.getD q 0]?=some o->listed.getD (π.getD q 0) false=false->∃V,(∀t,o.dst=some t->S.get t=V)/\FactC P w0 n l g S o V/\(fl.getD q 0=2->FactC P w0 n l g₀ S o V))/\
  ∀t,(∃q o,q<p/\l[π.getD q 0]?=some o/\o.dst=some t/\listed.getD (π.getD q 0) false=false)\/VR Ps (S.get t) (a.tmps.getD t undef)
theorem any_okL{l:List Oper}(hall:Qo n l=true){π:List Nat}{fl:List Nat}{m:Nat}(F:FloatL P l π fl m){K:Slots->AHeap->Prop}{fi:PMap}{Q:Exit->Act->World->Prop}
 (hq:∀Ps S g a w,fi.le Ps->HRel w0 Ps g w->SRel Ps n S a->K S g->Q .normal a w):∀(fuel:Nat) (listed:Array Bool) (a:Act) (w:World) (Ps:PMap),fi.le Ps->PhaseL P w0 n g₀ l π fl m K listed Ps a w->
 (listed.toList.filter (!·)).length<=fuel->wpAny P .any l.toArray Q fuel listed a w:=by
 have hB:=F.order;have fin:∀(listed:Array Bool) (a:Act) (w:World) (Ps:PMap),fi.le Ps->PhaseL P w0 n g₀ l π fl m K listed Ps a w->Region.ready .any l.toArray listed=[]->Q .normal a w:=by
  rintro listed a w Ps hle ⟨i1,i2,i3,i4,p,S,g,p1,p2,p3,p4,p5,pg,p6,p7,p8,p9⟩ hrd;have hal:=qeC hB i1 hrd;have hp:p=π.length:=by
   rcases Jy p1 with e|e
   ·exact e
   ·have:=p3 p (KL _) e
    rw[hal _ (F.inr p e)]at this;cases this
  subst hp;rw[show(YB l π).drop π.length=[] by rw[<-qef F.inr];simp,UN]at p7;refine hq Ps S g a w hle p6 ⟨i3,i4,fun t=>?_⟩ p7;rcases p9 t with⟨q,o,c1,c2,c3,c4⟩|c
  ·rw[hal _ (F.inr q c1)]at c4;cases c4
  ·exact c
 intro fuel;induction fuel with
 |zero=>
  intro listed a w Ps hle inv hc;have hrd:Region.ready .any l.toArray listed=[]:=by
   cases hrd:Region.ready .any l.toArray listed with
   |nil=>rfl
   |cons i r=>
    exfalso;have hm:i∈Region.ready .any l.toArray listed:=by rw[hrd];exact Je
    obtain⟨h1,o,ho,_⟩:=mem_ready.1 hm;have hi:i<listed.size:=by
     have:l[i]?=some o:=by simpa using ho
     rw[inv.1];exact(Jw.1 this).1
    have h2:listed.toList[i]?=some false:=by
     simp[JC,hi]at h1;simp[hi,h1]
    have:=List.mem_of_getElem? h2;have hmem:false∈listed.toList.filter (!·):=by simp[List.mem_filter,this]
    have:=List.length_pos_of_mem hmem;omega
  exact⟨hrd,fin listed a w Ps hle inv hrd⟩
 |succ fuel ih=>
  intro listed a w Ps hle inv hc;refine⟨fun hrd=>fin listed a w Ps hle inv hrd,fun i hi=>?_⟩;obtain⟨i1,i2,i3,i4,p,S,g,p1,p2,p3,p4,p5,pg,p6,p7,p8,p9⟩:=inv;obtain⟨h1,o,ho,hedges⟩:=mem_ready.1 hi;have hol:l[i]?=some o:=by simpa using ho
  have hilt:i<l.length:=(Jw.1 hol).1;have hisz:i<listed.size:=by rw[i1];exact hilt
  have hif:listed.getD i false=false:=by simp[JC,hisz]at h1|-;exact h1
  have hcount:((listed.setIfInBounds i true).toList.filter (!·)).length<=fuel:=by
   have h2:listed.toList[i]?=some false:=by
    simp[JC,hisz]at h1;simp[hisz,h1]
   have:=qcr listed.toList i h2;have e:(listed.setIfInBounds i true).toList=listed.toList.set i true:=by simp
   rw[e];omega
  have hdn:∀d,o.dst=some d->d<n:=fun d hd=>qdj l i d hall (by rw[Yi,hol];exact hd);obtain⟨q,hql,hqi⟩:=F.onto i hilt;have hoq:l[π.getD q 0]?=some o:=by rw[hqi];exact hol
  have looks:LookOk Ps n l o S a:=⟨i3,i4,fun t ht=>by
   rcases p9 t with⟨r,oj,c1,c2,c3,c4⟩|c
   ·exfalso
    rcases F.data q r o oj t hql (by omega) hoq c2 c3 ht with⟨d1,d2,d3⟩|⟨_,this⟩
    ·have:=p5 (by omega) q (by omega) d3
     rw[hqi,hif]at this;cases this
    ·rw[hqi]at this
     rw[qbu hol hedges this]at c4;cases c4
   ·exact c⟩
  have closed':∀j oj,l[j]?=some oj->(listed.setIfInBounds i true).getD j false=true->∀e∈oj.after,Region.binds .any e=true->(listed.setIfInBounds i true).getD e.on false=true:=fun j oj hj hl e he hb=>by
   by_cases e1:e.on=i
   ·rw[e1];exact set_self hisz
   ·rw[Xz e1]
    by_cases e2:j=i
    ·subst e2
     rw[hol]at hj;obtain rfl:=Option.some.inj hj;exact hedges e he hb
    ·rw[Xz e2]at hl
     exact i2 j oj hj hl e he hb
  have other:∀r,r<π.length->r≠q->(listed.setIfInBounds i true).getD (π.getD r 0) false=listed.getD (π.getD r 0) false:=fun r hr hne=>Xz fun e=>hne (F.inj r q hr hql (by rw[e,hqi]));have nobehind:p<q->False:=fun hpq=>by
   obtain⟨r,r1,r2,r3⟩:=F.wait q p hql hpq (p2 (by omega));rw[hqi]at r3;have:=qbu hol hedges r3;rw[p3 r r1 (by omega)]at this;cases this
  have goal:(if Region.wanted o (yielded l.toArray a.tmps)=true then o.wp P a w (wpAny P .any l.toArray Q fuel (listed.setIfInBounds i true)) Q else wpAny P .any l.toArray Q fuel (listed.setIfInBounds i true) (a.put o.dst undef) w):=by
   rcases KT q p with hqp|hqp
   ·
    obtain⟨V,v1,v2,-⟩:=p8 q o hqp hoq (by rw[hqi];exact hif);refine v2 Ps w a g _ Q (Vi g) p6 looks fun ψ₂ v wx hle₂ hr₂ hv=>?_;refine ih _ _ _ ψ₂ (JP hle hle₂) ⟨by simp[i1],closed',by rw[qeW];exact i3,by rw[put_defers];exact i4,p,S,g,p1,p2,fun r r1 r2=>?_,fun r r1 r2=>?_,fun hm r r1 r2=>?_,pg,hr₂,p7,fun r oj r1 r2 r3=>?_,fun t=>?_⟩ hcount
    ·rw[other r r2 (by omega)];exact p3 r r1 r2
    ·by_cases e:r=q
     ·rw[e,hqi];exact set_self hisz
     ·rw[other r (by omega) e];exact p4 r r1 r2
    ·by_cases e:r=q
     ·rw[e,hqi];exact set_self hisz
     ·rw[other r (by omega) e];exact p5 hm r r1 r2
    ·by_cases e:r=q
     ·rw[e,hqi,set_self hisz]at r3;cases r3
     ·rw[other r (by omega) e]at r3
      exact p8 r oj r1 r2 r3
    ·by_cases hod:o.dst=some t
     ·right
      rw[v1 t hod,qab a hod (by rw[i3];exact hdn t hod)];exact hv t hod
     ·rcases p9 t with⟨r,oj,c1,c2,c3,c4⟩|c
      ·refine .inl ⟨r,oj,c1,c2,c3,?_⟩
       rw[other r (by omega) fun e=>by subst e;rw[hoq]at c2;obtain rfl:=Option.some.inj c2;exact hod c3];exact c4
      ·right
       rw[Ui a hod];exact Ww hle₂ _ _ c
   ·have hqe:q=p:=by
     rcases Jy hqp with e|e
     ·exact e.symm
     ·exact(nobehind e).elim
    subst hqe;have all_m:m<=q->∀r,r<q->fl.getD r 0≠2->listed.getD (π.getD r 0) false=true:=fun hm r hr hr2=>by
     rcases Jy hm with e|e
     ·subst e
      have key:∀d r,r+d=m->r<m->fl.getD r 0≠2->listed.getD (π.getD r 0) false=true:=by
       intro d;induction d using Nat.strongRecOn with
       |ind d ihd=>
        intro r hd hr hr2;obtain⟨r',s1,s2,s4,s3⟩:=F.sink hql r hr hr2;rcases Jy s2 with e|e
        ·subst e
         rw[hqi]at s3;exact qbu hol hedges s3
        ·have hl:=ihd (m-r') (by omega) r' (by omega) e (s4.resolve_left (by omega))
         obtain⟨oj,hoj⟩:∃oj,l[π.getD r' 0]?=some oj:=⟨_,JB (F.inr r' (by omega))⟩
         exact qbu hoj (i2 _ oj hoj hl) s3
      exact key (m-r) r (by omega) hr hr2
     ·exact p5 e r hr hr2
    obtain⟨K',ha,hnext⟩:∃K':Slots->AHeap->Prop,Ql P w0 l [o] S g K'/\∀s' h',K' s' h'->(q<m->Sub g h')/\Sub g₀ h'/\qba P w0 l g₀ ((YB l π).drop (q+1)) (m-(q+1)) (fl.drop (q+1)) s' h' K:=by
     rw[qeg F.inr hql hoq]at p7;have hfl:(fl.drop q).getD 0 0=fl.getD q 0:=by simp[Ko,Kq]
     have hfd:(fl.drop q).drop 1=fl.drop (q+1):=by rw[Em]
     by_cases c:q<m
     ·have hfb:fl.getD q 0≠1/\fl.getD q 0≠2:=by
       have:=p2 hql;unfold isL at this;rw[decide_eq_true c,VN,Bool.or_eq_false_iff]at this;refine⟨by simpa using this.1,fun e=>?_⟩;rw[F.lateF q c e]at this;cases this.2
      rw[show m-q=(m-(q+1))+1 by omega]at p7;have p7:=qmD (by rw[hfl];exact hfb.1) (by rw[hfl];exact hfb.2) p7;rw[hfd]at p7;exact⟨_,p7,fun s' h' hx=>⟨fun _=>hx.1,pg.trans hx.1,hx.2⟩⟩
     ·rw[show m-q=0 by omega,Uy]at p7
      refine⟨_,p7,fun s' h' hx=>⟨fun hc=>absurd hc c,hx.1,?_⟩⟩;rw[show m-(q+1)=0 by omega,qsn (bs':=[])];exact hx.2
    refine qsc hall ha p6 looks fun ψ' x h' v w' e1 e2 e3 hk=>?_;obtain⟨k1,kg,k2⟩:=hnext _ _ hk;obtain⟨p',S',a1,a2,a3,a4,a5,a6,a7⟩:=qrg hall F kg (π.length-(q+1)) (q+1) (putD S o.dst x) rfl (by omega) k2;have keep:∀r or t,r<q->l[π.getD r 0]?=some or->listed.getD (π.getD r 0) false=false->(or.dst=some t\/t∈Qu l or)->S'.get t=S.get t:=fun r or t hr hor hun ht=>by
     have nd:∀u ou,q<=u->u<max p' (q+1)->u<π.length->l[π.getD u 0]?=some ou->ou.dst≠some t:=fun u ou h1 hup h2 h3 h4=>by
      rcases ht with ht|ht
      ·have:=((XR hB hor).2 _ ou t h3 h4).1 ht
       have:=F.inj r u (by omega) h2 this;omega
      ·rcases F.data r u or ou t (by omega) h2 hor h3 h4 ht with⟨c1,c2,c3⟩|⟨c1,_⟩
       ·rcases Jy h1 with e|e
        ·subst e
         rw[all_m c2 r hr c3]at hun;cases hun
        ·have:=a4 u e (by omega)
         rw[F.tail u c2 h2]at this;cases this
       ·omega
     rw[a7 t fun u ou h1 h2 h3=>nd u ou (by omega) (by omega) (by omega) h3,YA,if_neg (nd q o (KL _) (by omega) hql hoq)]
    refine ih _ _ _ ψ' (JP hle e1) ⟨by simp[i1],closed',by rw[qeW];exact i3,by rw[put_defers];exact i4,p',S',h',a2,a3,fun r r1 r2=>?_,fun r r1 r2=>?_,fun hm r r1 rl=>?_,kg,e2,a5,fun r oj r1 r2 r3=>?_,fun t=>?_⟩ hcount
    ·rw[other r r2 (by omega)];exact p3 r (by omega) r2
    ·by_cases e:r=q
     ·rw[e,hqi];exact set_self hisz
     ·rw[other r (by omega) e]
      rcases KT r q with c|c
      ·exact p4 r c r2
      ·rw[a4 r (by omega) r1]at r2;cases r2
    ·have hmq:m<=q:=by
      refine Nat.le_of_not_lt fun hc=>?_;have hmp:m<π.length:=by omega
      have:=a4 m (by omega) hm;rw[F.tail m (KL _) hmp]at this;cases this
     by_cases e:r=q
     ·rw[e,hqi];exact set_self hisz
     ·rw[other r (by omega) e]
      rcases KT r q with c|c
      ·exact all_m hmq r c rl
      ·have:=a4 r (by omega) r1
       rw[F.tail r (by omega) (by omega)]at this;cases this
    ·by_cases e:r=q
     ·rw[e,hqi,set_self hisz]at r3;cases r3
     ·rw[other r (by omega) e]at r3
      rcases KT r q with c|c
      ·obtain⟨V,v1,v2,v3⟩:=p8 r oj c r2 r3
       have hsl:∀t∈Qu l oj,S'.get t=S.get t:=fun t ht=>keep r oj t c r2 r3 (.inr ht);refine⟨V,fun t ht=>(keep r oj t c r2 r3 (.inl ht)).trans (v1 t ht),?_,fun e=>(v3 e).slots hsl⟩;by_cases e2:fl.getD r 0=2
       ·exact((v3 e2).sub kg).slots hsl
       ·have hqm:q<m:=by
         refine J4 fun hm=>?_;rw[all_m hm r c e2]at r3;cases r3
        exact(v2.sub (k1 hqm)).slots hsl
      ·exact a6 r oj (by omega) r1 r2
    ·by_cases hod:o.dst=some t
     ·right
      rw[a7 t fun u ou h1 h2 h3 h4=>by
       have:=((XR hB hoq).2 _ ou t h3 h4).1 hod;have:=F.inj q u hql (by omega) this;omega,YA,if_pos hod,qab a hod (by rw[i3];exact hdn t hod)]
      exact e3
     ·by_cases hw:∃r or,q+1<=r/\r<p'/\l[π.getD r 0]?=some or/\or.dst=some t
      ·obtain⟨r,or,w1,w2,w3,w4⟩:=hw
       exact .inl ⟨r,or,w2,w3,w4,by rw[other r (by omega) (by omega)];exact p3 r (by omega) (by omega)⟩
      ·have hS:S'.get t=S.get t:=by
        rw[a7 t fun u ou h1 h2 h3 h4=>hw ⟨u,ou,h1,h2,h3,h4⟩,YA,if_neg hod]
       rcases p9 t with⟨r,oj,c1,c2,c3,c4⟩|c
       ·exact .inl ⟨r,oj,by omega,c2,c3,by rw[other r (by omega) (by omega)];exact c4⟩
       ·right
        rw[hS,Ui a hod];exact Ww e1 _ _ c
  simp only[wpOp,ho];split
  ·rename_i hw
   rw[if_pos hw]at goal;exact .inl goal
  ·rename_i hw
   rw[if_neg hw]at goal;exact goal
theorem qbo{Q:Exit->Slots->AHeap->Prop}{s:Slots}{h:AHeap}{id:Nat}{l:List Oper}(π:List Nat)(fl:List Nat)(ws:List (Option Nat))(m:Nat)(g₀:AHeap)(hm:P.follows .mixedOrders=true)(hB:qnH P l π fl ws m=true)(hd:Qo n l=true)(hg₀:Sub g₀ h)
 (hc:qba P w0 l g₀ (YB l π) m fl s h fun s' h'=>Q .normal s' h'):Awp P w0 n (.region id l.toArray true) Q s h:=by
 refine Awp.of0 ?_;intro fi a w hr hs;have F:=qpr hB;refine wp_region_any hm ?_;have hf:∀j,(Ju l.toArray.size false).getD j false=false:=fun j=>by simp[JC]
 obtain⟨p',S',a1,a2,a3,a4,a5,a6,a7⟩:=qrg hd F hg₀ π.length 0 s rfl (Jq _) (by rw[En,Vn];exact hc);refine any_okL (fi:=fi) hd F (K:=fun s' h'=>Q .normal s' h') (fun Ps S g a' w' hle h1 h2 h3=>⟨Ps,S,g,hle,h1,h2,h3⟩) _ _ _ _ fi fi.le_refl
  ⟨by simp,fun j oj _ hl=>(by rw[hf]at hl;cases hl),hs.size,hs.defers,p',S',h,a2,a3,fun r _ _=>hf _,fun r r1 r2=>?_,fun hm' r r1 _=>?_,hg₀,hr.drew,a5,fun r oj r1 r2 _=>a6 r oj (Jq _) r1 r2,fun t=>?_⟩ ?_
 ·rw[a4 r (Jq _) r1]at r2;cases r2
 ·have:=a4 m (Jq _) hm'
  rw[F.tail m (KL _) (by omega)]at this;cases this
 ·by_cases hw:∃r or,r<p'/\l[π.getD r 0]?=some or/\or.dst=some t
  ·obtain⟨r,or,w2,w3,w4⟩:=hw
   exact .inl ⟨r,or,w2,w3,w4,hf _⟩
  ·right
   rw[a7 t fun u ou _ h2 h3 h4=>hw ⟨u,ou,h2,h3,h4⟩];exact hs.val t
 ·have:=List.length_filter_le (!·) (Ju l.toArray.size false).toList
  simpa using this
theorem qgG{Q:Exit->Slots->AHeap->Prop}{s:Slots}{h:AHeap}{id:Nat}{l:List Oper}{y:Code}(π:List Nat)(fl:List Nat)(ws:List (Option Nat))(m:Nat)(g₀:AHeap)(L:List Nat)(hm:P.follows .mixedOrders=true)(hB:qnH P l π fl ws m=true)(hd:Qo n l=true)(hg₀:Sub g₀ h)
 (hc:∀K:Slots->AHeap->Prop,(∀s h,Awp P w0 n y Q s h->K s h)->qba P w0 l g₀ (YB l π) m fl s h fun s' h'=>K (s'.keep L) h'):Awp P w0 n (.seq (.region id l.toArray true) y) Q s h:=
 qi (qbo π fl ws m g₀ hm hB hd hg₀ (qbl (fun _ _ hk=>JR L hk) (hc (fun s h=>Awp P w0 n y Q s h) (fun _ _ hk=>hk))))
end
end Go.AM
namespace Go.AM
theorem Sep.nest{ps qs:List AHeap}{H h:AHeap}(h1:Sep ps H)(h2:Sep (H::qs) h):Sep (ps++qs) h:=by
 obtain⟨d1,d2⟩:=List.pairwise_cons.1 h2.2;refine⟨fun p hp=>?_,List.pairwise_append.2 ⟨h1.2,d2,fun p hp q hq k=>?_⟩⟩
 ·rcases JV.1 hp with hp|hp
  ·exact(h1.1 p hp).trans (h2.1 _ Je)
  ·exact h2.1 p (Jf _ hp)
 ·rcases d1 q hq k with z|z
  ·exact .inl ((h1.1 p hp).none z)
  ·exact .inr z
end Go.AM
namespace Go.Stm
open Go.Col (Str)
open Go.Tok
def spP(p:PhrC):List Str:=(60::(p.words++[62]))::p.toks.map qau
def spB(m:Nat)(b:BodC):List Str:=(91::(b.1++[93]))::(b.2.1.map qau++Zp m b.2.2)
def spS(m:Nat)(s:StC):List Str:=(123::s.verb)::((s.phrases.map spP).flatten++(s.bodies.map (spB m)).flatten)++[[125]]
end Go.Stm
namespace Go.Proofs.YtgiadjbiimkbiaaGreatDoor
open Go.AM
open Go.Proofs
open Go.Col (Str FaultC okF)
open Go.Tok (TokC)
open Go.Stm
open Go.RowKit (Below)
set_option maxRecDepth 100000
structure SpG where
 i:Nat
 A:List Str
 rv:AVal
 rp:AHeap
 H:AHeap
def TxS:Nat->List StC->Prop
 |0,_=>True
 |m+1,l=>∀s∈l,s.verb.length<=1000000/\(∀p∈s.phrases,p.words.length<=1000000/\Short p.toks)/\∀b∈s.bodies,b.1.length<=1000000/\Short b.2.1/\TxS m b.2.2
theorem qit{α β γ:Type}{qs:List (α×β)}{f:α->List γ}{j:Nat}{d:α×β}(hj:j<qs.length):(((qs.drop j).map (·.1)).map f).flatten=f (qs.getD j d).1++(((qs.drop (j+1)).map (·.1)).map f).flatten:=by
 rw[Vb hj,Ke,Ke,Vp];congr 2;simp[Ko,hj]
theorem qnB{R A B:List Str}(h:R=A++B)(hR:R.length<=1000000000000):A.length+B.length<=1000000000000:=by rw[h,Jb]at hR;exact hR
def qlA(w0:World)(m:Nat)(h:AHeap)(l:List StC):AVal->AHeap->Prop:=fun r h'=>∃p,GrowV 1 r p ((Zp m l).map strC)/\isG r=true/\Sep [h,p] h'
theorem qsV(w0:World)(h:AHeap)(v:AVal)(hv:IsL w0 h 5 v []):ACall Tryz.prog w0 20 [v] h (qlA w0 0 h []):=by
 have nL:∀H:AHeap,Zl Tryz.prog H 45 v=⟨True, .int .i64 0⟩:=fun H=>hv.len Tryz.underlying45 H;have hlv:=hv.live;refine qR (n:=109) (rs:=[.tmp 2]) Tryz.func20 rfl rfl rfl rfl (VY rfl) ?_;simp only[qU];refine awp_rseq [0] (by rfl) fun K hK=>?_;simp+decide only[qP,↓qa];apply hK;clear hK K;refine awp_rseq [0,3] (by rfl) fun K hK=>?_;simp+decide only[qP,↓qa];apply hK;clear hK K;refine qi ?_;refine awp_rseq [0,3,4] (by rfl) fun K hK=>?_;simp+decide only[qP,↓qa];apply hK;clear hK K;refine qI ?_;refine Qj [0,3,4] (fun z:Unit=>[(0,v),(3, .nilSlice),(4, .int .i64 0)]) (fun z:Unit=>h) (fun z:Unit=>True) (fun z:Unit=>0) () (by rfl) (Vi _) trivial ?_;intro z _;refine qi ?_;refine awp_rseq [0,3,4,10] (by rfl) fun K hK=>?_;simp+decide only[QK,qj,Qh,QY,↓qc,↓Qi,↓qd,nL];apply hK;clear hK K;refine qz (b:=_) rfl (fun hb1=>?_) (fun hb1=>?_)
 ·cases hb1
 ·try simp only[qG]at hb1
  refine Qk ?_;change Awp _ _ _ _ _ _ _;refine awp_rseq [2] (by rfl) fun K hK=>?_;simp+decide only[Xp,↓qc,↓qa];apply hK;clear hK K;refine qW ?_;refine QG h zqC (qA (qC)) ?_;simp+decide only[QE];exact⟨emp, .nil,rfl,El (ps:=[h]) ⟨fun p hp=>by rw[V4.1 hp];exact Vi _,by simp⟩⟩
set_option maxHeartbeats 16000000 in
theorem qsU(w0:World)(d:Nat)(h:AHeap)(v:AVal)(l:List StC)(hs:StsV w0 (d+1) h v l)(hsm:SmallS (d+1) l)(htx:TxS (d+1) l)(hT:(Zp (d+1) l).length<=1000000000000)
 (ih:∀(h':AHeap) (v:AVal) (l:List StC),StsV w0 d h' v l->SmallS d l->TxS d l->(Zp d l).length<=1000000000000->ACall Tryz.prog w0 20 [v] h' (qlA w0 d h' l)):
 ACall Tryz.prog w0 20 [v] h (qlA w0 (d+1) h l):=by
 obtain⟨qs,hqe,hqL,hels⟩:=qfy hs hsm;rw[Ec]at hels;have nL:=qhS hqL;have hlv:=hqL.live;have hln:qs.length<=1000000:=by have:=hsm.len;rw[hqe,Jn]at this;exact this
 have hR:Zp (d+1) l=((qs.map (·.1)).map (spS d)).flatten:=by rw[<-hqe];rfl
 unfold qlA;obtain⟨R,hRR⟩:∃R,R=Zp (d+1) l:=⟨_,rfl⟩
 rw[<-hRR]at hR hT|-
 have hS0:Sep [h,emp] h:=El (ps:=[h]) ⟨fun p hp=>by rw[V4.1 hp];exact Vi _,by simp⟩;refine qR (n:=109) (rs:=[.tmp 2]) Tryz.func20 rfl rfl rfl rfl (VY rfl) ?_;simp only[qU];refine awp_rseq [0] (by rfl) fun K hK=>?_;simp+decide only[qP,↓qa];apply hK;clear hK K;refine awp_rseq [0,3] (by rfl) fun K hK=>?_;simp+decide only[qP,↓qa];apply hK;clear hK K;refine qi ?_;refine awp_rseq [0,3,4] (by rfl) fun K hK=>?_;simp+decide only[qP,↓qa];apply hK;clear hK K;refine qI ?_;refine Qj [0,3,4] (fun g:SpG=>[(0,v),(3,g.rv),(4, .int .i64 g.i)]) (fun g:SpG=>g.H) (fun g:SpG=>g.i<=qs.length/\Sep [h,g.rp] g.H/\GrowV 1 g.rv g.rp (g.A.map strC)/\isG g.rv=true/\R=g.A++(((qs.drop g.i).map (·.1)).map (spS d)).flatten) (fun g:SpG=>qs.length-g.i) ⟨0,[], .nilSlice,emp,h⟩ (by rfl) (Vi _) ⟨Jq _,hS0, .nil,rfl,hR⟩ ?_;rintro⟨i,A,rv,rp,H⟩ ⟨hi,hS,hrow,hG,hg⟩;simp only at hi hS hrow hG hg|-
 have hs_H:Sub h H:=hS.in_ (i:=0) rfl;have hrl:=hrow.live;refine qi ?_;refine awp_rseq [0,3,4,10] (by rfl) fun K hK=>?_;simp+decide only[QK,qj,Qh,QY,↓qc,↓Qi,↓qd,nL];apply hK;clear hK K;refine qz (b:=_) rfl (fun hb1=>?_) (fun hb1=>?_)
 ·try simp only[qG]at hb1
  have hi':i<qs.length:=by omega
  obtain⟨q,hqj⟩:∃q,q=qs.getD i qei:=⟨_,rfl⟩
  have hqm:q∈qs:=by rw[hqj,Ko,JB hi'];exact Vw hi'
  obtain⟨lc,o,cc,hpe⟩:=qea hqL (by omega);have hq2:=hqL.mono hs_H;rw[hpe]at hq2;obtain⟨e0,e1,e2,e3,e4⟩:=qeI hq2 hi';rw[<-hqj]at e0 e1 e2 e3 e4;obtain⟨hph,hbd,hbn,hpn,hpt,hbb⟩:=hels q hqm;obtain⟨hx1,hx2,hx3⟩:=htx q.1 (by rw[hqe];exact BK (f:=(·.1)) hqm);have hst:=qit (f:=spS d) (d:=qei) hi';rw[<-hqj]at hst;rw[hst]at hg;have hpl:=hph.live;have hbl:=hbd.live;obtain⟨pl,hplq,hpq,hpt2⟩:=id hph;obtain⟨ql,hql,hqb,hqq⟩:=id hbd;have np:=qie hpq;have nb:=qey hqb;have hbn2:ql.length<=1000000:=by rw[hql,Jn]at hbn;exact hbn
  have hpn2:pl.length<=1000000:=by rw[hplq,Jn]at hpn;exact hpn
  obtain⟨qs1,qp,qb⟩:=q;obtain⟨vb,sln,scl,sph,sbd⟩:=qs1;simp only[Ee,Ef,Ed]at e0 e1 e2 e3 e4 hpl hbl hg np nb hpq hqb hql hplq hbb hpt hpt2 hqq hx1 hx2 hx3;obtain⟨X,hX⟩:∃X,X=(((qs.drop (i+1)).map (·.1)).map (spS d)).flatten:=⟨_,rfl⟩
  rw[<-hX]at hg;have hg5:R=(A++[123::vb])++((sph.map spP).flatten++((sbd.map (spB d)).flatten++([125]::X))):=by rw[hg];simp[spS,Ed,Ee,Ef]
  have hA5:=qnB hg5 hT;rw[Jb,JF]at hA5;have hwi:IntKind.i64.wrap ((i:Int)+1)=((i+1:Nat):Int):=by rw[wrap_i64 (by omega) (by omega)];omega
  refine qF ?_;change Awp _ _ _ _ _ _ _;refine qi ?_;refine qI ?_;refine awp_rseq [0,3,4] (by rfl) fun K hK=>?_;simp+decide only[Xj,QU,VD,qj,JD,K6,KX,Jb,Qs,Xf,ZO,qag,↓qc,↓qJ,qg Tryz.underlying45 WF,↓qh,↓qo,qf ag9,↓qd,hpe,e0];repeat (with_reducible refine zqP ?_)
  refine qO (cs:=[.str (List.cons 123 vb)]) (by kernel_rfl) fun k5q7 hk5q7=>?_;have hn_5q7:H k5q7=none:=by first|assumption|(simp only[Bd]at hk5q7;simp only[hk5q7])
  have hf_5q7:h k5q7=none:=Be hs_H hn_5q7;refine Zu (es:=1) (v:=rv) (p:=rp) (xs:=A.map strC) (ys:=[strC (123::vb)]) (i:=1) (by rfl) (by rfl) Tryz.underlying22 Tryz.underlying22 (fun k e=>by cases e) sz9 by9 ze9 (by rfl) (by decide) (by rfl) hrow hG rfl (hS.forget (Vj hk5q7)) (by rfl) (Bz (Vh _ _ _) (fun x hx=>by rw[V4.1 hx];rfl) (by rfl) (by rfl) (.exact 1) (KL _)) (by rfl) (by simp only[Zn];omega) (by simp only[Zn];omega) fun rv5 rp5 h5 hrow5 hG5 hS5=>?_;have hrow5:GrowV 1 rv5 rp5 ((A++[123::vb]).map strC):=by rw[JI];exact hrow5
  simp+decide only[qP,VD,JD,K6,KX,Jb,Xf,↓qa];apply hK;clear hK K;refine qi ?_;refine awp_rseq [0,3,4,5] (by rfl) fun K hK=>?_;simp+decide only[qP,↓qa];apply hK;clear hK K;refine qI ?_;refine Qj [0,3,4,5] (fun g:SpG=>[(0,v),(3,g.rv),(4, .int .i64 i),(5, .int .i64 g.i)]) (fun g:SpG=>g.H) (fun g:SpG=>g.i<=pl.length/\Sep [h,g.rp] g.H/\GrowV 1 g.rv g.rp (g.A.map strC)/\isG g.rv=true/\R=g.A++((((pl.drop g.i).map (·.1)).map spP).flatten++((sbd.map (spB d)).flatten++([125]::X)))) (fun g:SpG=>pl.length-g.i) ⟨0,A++[123::vb],rv5,rp5,h5⟩ (by first|rfl|(rw[hpe];rfl)) (Vi _) ⟨Jq _,hS5,hrow5,hG5,by rw[hg5,hplq];rfl⟩ ?_;rintro⟨a,A2,rv,rp,H⟩ ⟨ha,hS,hrow,hG,hg⟩;simp only at ha hS hrow hG hg|-
  have hs_H:Sub h H:=hS.in_ (i:=0) rfl;have hrl:=hrow.live;have hq2:=hqL.mono hs_H;rw[hpe]at hq2;obtain⟨e0,e1,e2,e3,e4⟩:=qeI hq2 hi';rw[<-hqj]at e0 e1 e2 e3 e4;simp only[Ed]at e0 e1 e2 e3 e4;refine qi ?_;refine awp_rseq [0,3,4,5,29] (by rfl) fun K hK=>?_;simp+decide only[QK,QU,VD,qj,K6,Qh,QY,YI,↓qc,↓qJ,qg Tryz.underlying45 WF,↓qh,↓qo,qf qdr,↓Qi,↓qd,hpe,e3,np,hpl];repeat (with_reducible refine zqP ?_)
  apply hK;clear hK K;refine qz (b:=_) rfl (fun hb2=>?_) (fun hb2=>?_)
  ·try simp only[qG]at hb2
   have ha':a<pl.length:=by omega
   obtain⟨p,hpj⟩:∃p,p=pl.getD a qej:=⟨_,rfl⟩
   have hpm:p∈pl:=by rw[hpj,Ko,JB ha'];exact Vw ha'
   obtain⟨lb,ob,cb,hpb⟩:=qcc hpq (by omega);have hp2:=hpq.mono hs_H;rw[hpb]at hp2;obtain⟨f0,f1⟩:=qeJ hp2 ha';rw[<-hpj]at f0 f1;have htk:=hpt2 p hpm;have htl:=htk.live;obtain⟨hy1,hy2⟩:=hx2 p.1 (by rw[hplq];exact BK (f:=(·.1)) hpm);have htn:p.1.toks.length<=1000000:=hpt _ (by rw[hplq];exact BK (f:=(·.1)) hpm);have hst2:=qit (f:=spP) (d:=qej) ha';rw[<-hpj]at hst2;rw[hst2]at hg;obtain⟨⟨pw,pt⟩,pv⟩:=p;simp only[spP]at f0 f1 htk htl htn hg hy1 hy2;have hg9:R=(A2++[60::(pw++[62])])++(pt.map qau++((((pl.drop (a+1)).map (·.1)).map spP).flatten++((sbd.map (spB d)).flatten++([125]::X)))):=by rw[hg];simp
   have hA9:=qnB hg9 hT;rw[Jb,JF,Jb,Jn]at hA9;have hwa:IntKind.i64.wrap ((a:Int)+1)=((a+1:Nat):Int):=by rw[wrap_i64 (by omega) (by omega)];omega
   refine qF ?_;change Awp _ _ _ _ _ _ _;refine qi ?_;refine qI ?_;refine awp_rseq [0,3,4,5] (by rfl) fun K hK=>?_;simp+decide only[Xj,QU,VD,qj,JD,K6,KX,Jb,Qs,Xf,Xn,ZO,YI,↓qc,↓qJ,qg Tryz.underlying45 WF,↓qh,↓qo,qf qdr,qg Tryz.underlying79 qbA,qkS,qf ag9,↓qd,e3,hpb,f0];repeat (with_reducible refine zqP ?_)
   refine qO (cs:=[.str (List.cons 60 (pw++[62]))]) (by kernel_rfl) fun k9q12 hk9q12=>?_;have hn_9q12:H k9q12=none:=by first|assumption|(simp only[Bd]at hk9q12;simp only[hk9q12])
   have hf_9q12:h k9q12=none:=Be hs_H hn_9q12;refine Zu (es:=1) (v:=rv) (p:=rp) (xs:=A2.map strC) (ys:=[strC (60::(pw++[62]))]) (i:=1) (by rfl) (by rfl) Tryz.underlying22 Tryz.underlying22 (fun k e=>by cases e) sz9 by9 ze9 (by rfl) (by decide) (by rfl) hrow hG rfl (hS.forget (Vj hk9q12)) (by rfl) (Bz (Vh _ _ _) (fun x hx=>by rw[V4.1 hx];rfl) (by rfl) (by rfl) (.exact 1) (KL _)) (by rfl) (by simp only[Zn];omega) (by simp only[Zn];omega) fun rv9 rp9 h9 hrow9 hG9 hS9=>?_;have hrow9:GrowV 1 rv9 rp9 ((A2++[60::(pw++[62])]).map strC):=by rw[JI];exact hrow9
   simp+decide only[qP,VD,JD,K6,KX,Jb,Xf,↓qa];apply hK;clear hK K;have hrl9:=hrow9.live;have hs_h9:Sub h h9:=hS9.in_ (i:=0) rfl;have hq9:=hqL.mono hs_h9;rw[hpe]at hq9;have e3':=(qeI hq9 hi').2.2.2.1;rw[<-hqj]at e3';have hp9:=hpq.mono hs_h9;rw[hpb]at hp9;have f1':=(qeJ hp9 ha').2;rw[<-hpj]at f1';simp only at e3' f1';refine Qv [0,3,4,5] (by rfl) ?_;simp+decide only[Qe,QU,Xc,YI,qbm,↓qc,↓qJ,qg Tryz.underlying45 WF,↓qh,↓qo,qf qdr,qg Tryz.underlying79 qbA,qf qbK,hpe,e3',hpb,f1',htl];repeat (with_reducible refine zqP ?_)
   refine qE (by rfl) (by rfl) (c_texts w0 _ pv pt (htk.mono hs_h9) htn hy2) fun x10q10 h10q10 hx10q10=>?_;obtain⟨pp,hrowP,hGP,hSP⟩:=hx10q10;have hSA:=Sep.nest hS9 hSP;try simp only[Xo,Xf]at hSA
   refine Zu (es:=1) (v:=rv9) (p:=rp9) (xs:=(A2++[60::(pw++[62])]).map strC) (ys:=(pt.map qau).map strC) (i:=1) (by rfl) (by rfl) Tryz.underlying22 Tryz.underlying22 (fun k e=>by cases e) sz9 by9 ze9 (by rfl) (by decide) (by rfl) hrow9 hG9 rfl hSA (by rfl) (hrowP.isL (hSA.in_ (i:=2) rfl)) (qhR _) (by simp only[Jn,Jb,JF];omega) (by simp only[Jn,Jb,JF];omega) fun rv10 rp10 h10 hrow10 hG10 hS10=>?_;rw[<-JI]at hrow10;simp+decide only[qP,Xc,↓qa];change Awp _ _ _ _ _ _ _;refine Qv [0,3,4,5] (by rfl) ?_;simp+decide only[XD,Xi,↓qc,↓qd,↓qa,hwa];try simp only[QL]
   exact⟨⟨a+1,A2++[60::(pw++[62])]++pt.map qau,rv10,rp10,h10⟩,by first|rfl|(rw[hpe];rfl),Vi _,⟨ha',hS10.sub (by simp),hrow10,hG10,by simp only;rw[hg9,K9,K9];simp⟩,by simp only;omega⟩
  ·try simp only[qG]at hb2
   have haq:a=pl.length:=by omega
   rw[haq,Va]at hg;have hg11:R=A2++((((ql.drop 0).map (·.1)).map (spB d)).flatten++([125]::X)):=by rw[hg,hql];rfl
   refine Qk ?_;change Awp _ _ _ _ _ _ _;refine qi ?_;refine awp_rseq [0,3,4,6] (by rfl) fun K hK=>?_;simp+decide only[qP,↓qa];apply hK;clear hK K;refine qI ?_;refine Qj [0,3,4,6] (fun g:SpG=>[(0,v),(3,g.rv),(4, .int .i64 i),(6, .int .i64 g.i)]) (fun g:SpG=>g.H) (fun g:SpG=>g.i<=ql.length/\Sep [h,g.rp] g.H/\GrowV 1 g.rv g.rp (g.A.map strC)/\isG g.rv=true/\R=g.A++((((ql.drop g.i).map (·.1)).map (spB d)).flatten++([125]::X))) (fun g:SpG=>ql.length-g.i) ⟨0,A2,rv,rp,H⟩ (by first|rfl|(rw[hpe];rfl)) (Vi _) ⟨Jq _,hS,hrow,hG,hg11⟩ ?_;rintro⟨a,A3,rv,rp,H⟩ ⟨ha,hS,hrow,hG,hg⟩;simp only at ha hS hrow hG hg|-
   have hs_H:Sub h H:=hS.in_ (i:=0) rfl;have hrl:=hrow.live;have hq2:=hqL.mono hs_H;rw[hpe]at hq2;obtain⟨e0,e1,e2,e3,e4⟩:=qeI hq2 hi';rw[<-hqj]at e0 e1 e2 e3 e4;simp only[Ed]at e0 e1 e2 e3 e4;refine qi ?_;refine awp_rseq [0,3,4,6,65] (by rfl) fun K hK=>?_;simp+decide only[QK,QU,VD,qj,K6,Qh,QY,YR,↓qc,↓qJ,qg Tryz.underlying45 WF,↓qh,↓qo,qf qdp,↓Qi,↓qd,hpe,e4,nb,hbl];repeat (with_reducible refine zqP ?_)
   apply hK;clear hK K;refine qz (b:=_) rfl (fun hb3=>?_) (fun hb3=>?_)
   ·try simp only[qG]at hb3
    have ha':a<ql.length:=by omega
    obtain⟨b,hbj⟩:∃b,b=ql.getD a qdE:=⟨_,rfl⟩
    have hbm:b∈ql:=by rw[hbj,Ko,JB ha'];exact Vw ha'
    obtain⟨lb,ob,cb,hpb⟩:=qck hqb (by omega);have hb2:=hqb.mono hs_H;rw[hpb]at hb2;obtain⟨f0,f1,f2⟩:=qfp hb2 ha';rw[<-hbj]at f0 f1 f2;obtain⟨hbt,hbs⟩:=hqq b hbm;obtain⟨hbtn,hsb⟩:=hbb b.1 (by rw[hql];exact BK (f:=(·.1)) hbm);obtain⟨hy1,hy2,hy3⟩:=hx3 b.1 (by rw[hql];exact BK (f:=(·.1)) hbm);have htl:=hbt.live;obtain⟨hll,hls,hlc⟩:=hbs.shape;have hst2:=qit (f:=spB d) (d:=qdE) ha';rw[<-hbj]at hst2;rw[hst2]at hg;obtain⟨⟨bw,bt,bL⟩,btv,blv⟩:=b;simp only[spB]at f0 f1 f2 hbt hbs hsb hbtn htl hll hg hy1 hy2 hy3;obtain⟨Y,hY⟩:∃Y,Y=(((ql.drop (a+1)).map (·.1)).map (spB d)).flatten:=⟨_,rfl⟩
    rw[<-hY]at hg;have hg14:R=(A3++[91::(bw++[93])])++(bt.map qau++(Zp d bL++(Y++([125]::X)))):=by rw[hg];simp
    have hA14:=qnB hg14 hT;rw[Jb,JF,Jb,Jn,Jb]at hA14;have hwa:IntKind.i64.wrap ((a:Int)+1)=((a+1:Nat):Int):=by rw[wrap_i64 (by omega) (by omega)];omega
    refine qF ?_;change Awp _ _ _ _ _ _ _;refine qi ?_;refine qI ?_;refine awp_rseq [0,3,4,6] (by rfl) fun K hK=>?_;simp+decide only[Xj,QU,VD,qj,JD,K6,KX,Jb,Qs,Xf,Xn,ZO,YR,↓qc,↓qJ,qg Tryz.underlying45 WF,↓qh,↓qo,qf qdp,qg Tryz.underlying80 qav,qiy,qf ag9,↓qd,e4,hpb,f0];repeat (with_reducible refine zqP ?_)
    refine qO (cs:=[.str (List.cons 91 (bw++[93]))]) (by kernel_rfl) fun k14q12 hk14q12=>?_;have hn_14q12:H k14q12=none:=by first|assumption|(simp only[Bd]at hk14q12;simp only[hk14q12])
    have hf_14q12:h k14q12=none:=Be hs_H hn_14q12;refine Zu (es:=1) (v:=rv) (p:=rp) (xs:=A3.map strC) (ys:=[strC (91::(bw++[93]))]) (i:=1) (by rfl) (by rfl) Tryz.underlying22 Tryz.underlying22 (fun k e=>by cases e) sz9 by9 ze9 (by rfl) (by decide) (by rfl) hrow hG rfl (hS.forget (Vj hk14q12)) (by rfl) (Bz (Vh _ _ _) (fun x hx=>by rw[V4.1 hx];rfl) (by rfl) (by rfl) (.exact 1) (KL _)) (by rfl) (by simp only[Zn];omega) (by simp only[Zn];omega) fun rv9 rp9 h9 hrow9 hG9 hS9=>?_;have hrow9:GrowV 1 rv9 rp9 ((A3++[91::(bw++[93])]).map strC):=by rw[JI];exact hrow9
    simp+decide only[qP,VD,JD,K6,KX,Jb,Xf,↓qa];apply hK;clear hK K;have hrl9:=hrow9.live;have hs_h9:Sub h h9:=hS9.in_ (i:=0) rfl;have hq9:=hqL.mono hs_h9;have hq0:=hqL;rw[hpe]at hq9 hq0;have e4':=(qeI hq9 hi').2.2.2.2;have e40:=(qeI hq0 hi').2.2.2.2;rw[<-hqj]at e4' e40;have hb9:=hqb.mono hs_h9;have hb0:=hqb;rw[hpb]at hb9 hb0;have f1':=(qfp hb9 ha').2.1;have f20:=(qfp hb0 ha').2.2;rw[<-hbj]at f1' f20;simp only at e4' f1' e40 f20;refine qbo [0,1,2,3,4,5,6,7,8,9,12,13,14,15,16,17,18,19,20,10,11,21,22,23] [0,0,0,0,0,0,0,0,0,0,2,2,2,2,2,2,2,2,2,0,0,0,0,0] [none,none,none,none,none,none,none,none,none,none,none,none,none,none,none,none,none,none,none,none,some 19,some 20,some 21,some 22] 20 (h) mixed (by kernel_rfl) (by rfl) (hs_h9) ?_;simp only[Kz,Vx,Eo,KM,YB];simp+decide only[Qe,QU,Xc,YR,Wi,qer,qep,qao,qan,Uy,UN,↓qc,↓qJ,qg Tryz.underlying45 WF,↓qh,↓qo,qf qdp,qg Tryz.underlying80 qav,qf qbK,qf qiH,hpe,e4',e40,hpb,f1',f20,htl,hll];repeat (with_reducible refine zqP ?_)
    refine qE (by rfl) (by rfl) (c_texts w0 _ btv bt (hbt.mono hs_h9) hbtn hy2) fun x15q10 h15q10 hx15q10=>?_;obtain⟨pp,hrowP,hGP,hSP⟩:=hx15q10;have hsA:Sub h9 h15q10:=hSP.in_ (i:=0) rfl;have hSA:=Sep.nest hS9 hSP;try simp only[Xo,Xf]at hSA
    rw[QB];refine And.intro (by first|exact Vi _|assumption|exact Vj (by assumption)) ?_;simp+decide only[qV,Xc];refine Zu (es:=1) (v:=rv9) (p:=rp9) (xs:=(A3++[91::(bw++[93])]).map strC) (ys:=(bt.map qau).map strC) (i:=1) (by rfl) (by rfl) Tryz.underlying22 Tryz.underlying22 (fun k e=>by cases e) sz9 by9 ze9 (by rfl) (by decide) (by rfl) hrow9 hG9 rfl hSA (by rfl) (hrowP.isL (hSA.in_ (i:=2) rfl)) (qhR _) (by simp only[Jn,Jb,JF];omega) (by simp only[Jn,Jb,JF];omega) fun rv10 rp10 h10 hrow10 hG10 hS10=>?_;rw[<-JI]at hrow10;have hrl10:=hrow10.live;have hs_h10:Sub h h10:=hS10.in_ (i:=0) rfl;rw[QB];refine And.intro (by first|exact Vi _|assumption|exact Vj (by assumption)) ?_;simp+decide only[qV,Xc];refine qE (by rfl) (by rfl) (ih _ blv bL (hbs.mono hs_h10) hsb hy3 (by omega)) fun x15q21 h15q21 hx15q21=>?_;obtain⟨pq,hrowQ,hGQ,hSQ⟩:=hx15q21;have hSB:=Sep.nest hS10 hSQ;try simp only[Xo,Xf]at hSB
    have hs_hB:Sub h h15q21:=hSB.in_ (i:=0) rfl;rw[QB];refine And.intro (by first|exact Vi _|assumption|exact Vj (by assumption)) ?_;simp+decide only[qV,Xc];refine Zu (es:=1) (v:=rv10) (p:=rp10) (xs:=(A3++[91::(bw++[93])]++bt.map qau).map strC) (ys:=(Zp d bL).map strC) (i:=1) (by rfl) (by rfl) Tryz.underlying22 Tryz.underlying22 (fun k e=>by cases e) sz9 by9 ze9 (by rfl) (by decide) (by rfl) hrow10 hG10 rfl hSB (by rfl) (hrowQ.isL (hSB.in_ (i:=3) rfl)) (qhR _) (by simp only[Jn,Jb,JF];omega) (by simp only[Jn,Jb,JF];omega) fun rv11 rp11 h11 hrow11 hG11 hS11=>?_;rw[<-JI]at hrow11;have hs_h11:Sub h h11:=hS11.in_ (i:=0) rfl;rw[QB];refine And.intro (by first|exact Vi _|assumption|exact Vj (by assumption)) ?_;simp+decide only[qP,Xc,↓qa];repeat (with_reducible refine zqP ?_)
    change Awp _ _ _ _ _ _ _;refine Qv [0,3,4,6] (by rfl) ?_;simp+decide only[XD,Xi,↓qc,↓qd,↓qa,hwa];try simp only[QL]
    exact⟨⟨a+1,A3++[91::(bw++[93])]++bt.map qau++Zp d bL,rv11,rp11,h11⟩,by first|rfl|(rw[hpe];rfl),Vi _,⟨ha',hS11.sub (by simp),hrow11,hG11,by simp only;rw[hg14,hY];simp⟩,by simp only;omega⟩
   ·try simp only[qG]at hb3
    have haq:a=ql.length:=by omega
    rw[haq,Va]at hg;have hg16:R=(A3++[[125]])++X:=by rw[hg];simp
    have hA16:=qnB hg16 hT;rw[Jb,JF]at hA16;refine Qk ?_;change Awp _ _ _ _ _ _ _;refine Qv [0,3,4] (by rfl) ?_;simp+decide only[Qe,↓qc];refine qO (cs:=[.str [125]]) (by kernel_rfl) fun k16q1 hk16q1=>?_;have hn_16q1:H k16q1=none:=by first|assumption|(simp only[Bd]at hk16q1;simp only[hk16q1])
    have hf_16q1:h k16q1=none:=Be hs_H hn_16q1;refine Zu (es:=1) (v:=rv) (p:=rp) (xs:=A3.map strC) (ys:=[strC [125]]) (i:=1) (by rfl) (by rfl) Tryz.underlying22 Tryz.underlying22 (fun k e=>by cases e) sz9 by9 ze9 (by rfl) (by decide) (by rfl) hrow hG rfl (hS.forget (Vj hk16q1)) (by rfl) (Bz (Vh _ _ _) (fun x hx=>by rw[V4.1 hx];rfl) (by rfl) (by rfl) (.exact 1) (KL _)) (by rfl) (by simp only[Zn];omega) (by simp only[Zn];omega) fun rv16 rp16 h16 hrow16 hG16 hS16=>?_;have hrow16:GrowV 1 rv16 rp16 ((A3++[[125]]).map strC):=by rw[JI];exact hrow16
    simp+decide only[qP,↓qa];change Awp _ _ _ _ _ _ _;refine Qv [0,3,4] (by rfl) ?_;simp+decide only[XD,Xi,↓qc,↓qd,↓qa,hwi];try simp only[QL]
    exact⟨⟨i+1,A3++[[125]],rv16,rp16,h16⟩,by first|rfl|(rw[hpe];rfl),Vi _,⟨hi',hS16,hrow16,hG16,by simp only;rw[hg16,hX]⟩,by simp only;omega⟩
 ·try simp only[qG]at hb1
  have hin:i=qs.length:=by omega
  rw[hin,Va]at hg;have hgR:R=A:=by rw[hg];simp
  refine Qk ?_;change Awp _ _ _ _ _ _ _;refine awp_rseq [2] (by rfl) fun K hK=>?_;simp+decide only[Xp,↓qc,↓qa];apply hK;clear hK K;refine qW ?_;refine Qb (qA (qC)) ?_;simp+decide only[QE];exact⟨H,Vi _,rp,by rw[hgR];exact hrow,hG,hS⟩
theorem qmO(w0:World):∀(d:Nat) (h:AHeap) (v:AVal) (l:List StC),StsV w0 d h v l->SmallS d l->TxS d l->(Zp d l).length<=1000000000000->ACall Tryz.prog w0 20 [v] h (qlA w0 d h l)
 |0,h,v,l,hs,hsm,htx,hT=>by
  obtain⟨rfl,hv⟩:=sts0 hs;exact qsV w0 h v hv
 |d+1,h,v,l,hs,hsm,htx,hT=>qsU w0 d h v l hs hsm htx hT fun h' v l hs hsm htx hT=>qmO w0 d h' v l hs hsm htx hT
end Go.Proofs.YtgiadjbiimkbiaaGreatDoor
namespace Go.Stm
open Go.Col (Str)
open Go.Tok
def qro:Str:=[69,78,68,45]
def qaD:TokC:=⟨6,[46],0,0,false⟩
def qgb(v:Str):TokC:=⟨1,v,0,0,false⟩
def spT2(w:Str):TokC:=⟨if w=[61]then 5 else 1,w,0,0,false⟩
def qeU(s:Str):List TokC:=(Lib.fields s).map spT2
def hasEnd(v:Str):Bool:= !Lib.contains v [32] && Lib.contains qdK ([32]++v++[32])
def qrv(out:List TokC)(p:PhrC):List TokC:=out++qeU p.words++p.toks
def qrw(W:List TokC->List StC->List TokC)(out:List TokC)(b:BodC):List TokC:=W (out++qeU b.1++b.2.1) b.2.2
def qhO(v:Str)(o:List TokC):List TokC:=if hasEnd v=true then o++qeU (qro++v)else o
def qjP(W:List TokC->List StC->List TokC)(out:List TokC)(s:StC):List TokC:=qhO s.verb (s.bodies.foldl (qrw W) (s.phrases.foldl qrv (out++[qgb s.verb])))
def Wj(W:List TokC->List StC->List TokC):List TokC->List StC->List TokC
 |out,[]=>out
 |out,s::l=>if 65536<out.length then out else Wj W (qjP W out s) l
def XU:Nat->List TokC->List StC->List TokC
 |0=>fun out _=>out
 |m+1=>Wj (XU m)
theorem qak{α:Type}{f:List TokC->α->List TokC}(hf:∀o x,o<+:f o x):∀(l:List α) (o:List TokC),o<+:l.foldl f o
 |[],o=>Ep o
 |x::l,o=>(hf o x).trans (qak hf l (f o x))
theorem qnm(o:List TokC)(p:PhrC):o<+:qrv o p:=⟨qeU p.words++p.toks,by unfold qrv;simp⟩
theorem qjH(v:Str)(o:List TokC):o<+:qhO v o:=by
 unfold qhO;split
 ·exact Er _ _
 ·exact Ep _
theorem qic{W:List TokC->List StC->List TokC}(hW:∀o l,o<+:W o l):∀(l:List StC) (o:List TokC),o<+:Wj W o l
 |[],o=>Ep o
 |s::l,o=>by
  rw[Wj];split
  ·exact Ep _
  ·refine List.IsPrefix.trans ?_ (qic hW l _)
   unfold qjP;refine List.IsPrefix.trans ?_ (qjH _ _);refine List.IsPrefix.trans ?_ (qak (fun o b=>?_) _ _)
   ·exact(Er _ _).trans (qak qnm _ _)
   ·exact(List.IsPrefix.trans (Er _ _) (Er _ _)).trans (hW _ _)
theorem qbh:∀(m:Nat) (o:List TokC) (l:List StC),o<+:XU m o l
 |0,o,l=>Ep o
 |m+1,o,l=>qic (fun o l=>qbh m o l) l o
theorem qnn(m:Nat)(o:List TokC)(b:BodC):o<+:qrw (XU m) o b:=(List.IsPrefix.trans (Er _ _) (Er _ _)).trans (qbh m _ _)
end Go.Stm
namespace Go.AM
theorem Sub.set_of{B h:AHeap}{k:Nat}{X:Blk}(hs:Sub B h)(hk:h k=some X):Sub (B.set k X) h:=fun j c hj=>by
 by_cases e:j=k
 ·subst e;rw[Vh]at hj;rw[hk];exact hj
 ·rw[Vg _ _ e]at hj;exact hs _ _ hj
end Go.AM
namespace Go.Proofs.YtgiadjbiimkbiaaGreatDoor
open Go.AM
open Go.Proofs
open Go.Col (Str FaultC okF)
open Go.Tok (TokC)
open Go.Stm
open Go.RowKit (Below)
set_option maxRecDepth 100000
theorem qti{v:Str}(h:asciiB v=true):asciiB (qro++v)=true:=by
 unfold asciiB at*
 rw[Es,h];rfl
theorem qmj(s:Str):qeU s=UJ s:=rfl
def qlW:Nat->List StC->Prop
 |0,_=>True
 |m+1,l=>∀s∈l,(asciiB s.verb=true/\s.verb.length<=1000)/\(∀p∈s.phrases,asciiB p.words=true)/\∀b∈s.bodies,asciiB b.1=true/\qlW m b.2.2
structure WrG where
 j:Nat
 xs:List TokC
 rv:AVal
 rp:AHeap
 H:AHeap
def qlu(w0:World)(h:AHeap)(zs:List TokC):AVal->AHeap->Prop:=fun r h'=>∃p,GrowV 5 r p (zs.map Xg)/\isG r=true/\AM.Sep [h,p] h'
theorem qhg{R o:List TokC}(h:o<+:R)(hR:R.length<=1000000000):o.length<=1000000000:=Ve h.length_le hR
theorem qkW{α β:Type}{qs:List (α×β)}{j:Nat}{d:α×β}(hj:j<qs.length):(qs.drop j).map (·.1)=(qs.getD j d).1::(qs.drop (j+1)).map (·.1):=by
 rw[Vb hj,Ke];simp[Ko,hj]
theorem c_write0(w0:World)(h:AHeap)(v ov:AVal)(op H:AHeap)(xs:List TokC)(hv:IsL w0 h 5 v [])(hrow:GrowV 5 ov op (xs.map Xg))(hG:isG ov=true)(hS:AM.Sep [h,op] H):ACall Tryz.prog w0 46 [ov,v] H (qlu w0 h (XU 0 xs [])):=by
 have nL:∀H:AHeap,Zl Tryz.prog H 45 v=⟨True, .int .i64 0⟩:=fun H=>hv.len Tryz.underlying45 H;have hlv:=hv.live;have hrl:=hrow.live;refine qR (n:=81) (rs:=[.tmp 4]) Tryz.func46 rfl rfl rfl rfl (VY rfl) ?_;simp only[qU];refine awp_rseq [0,1] (by rfl) fun K hK=>?_;simp+decide only[qP,↓qa];apply hK;clear hK K;refine qi ?_;refine awp_rseq [0,11,12,13] (by rfl) fun K hK=>?_;simp+decide only[Qe,Qh,↓qc,↓Qi,nL];apply hK;clear hK K;refine qI ?_;refine Qj [0,11,12,13] (fun z:Unit=>[(0,ov),(11,v),(12, .int .i64 0),(13, .int .i64 0)]) (fun z:Unit=>H) (fun z:Unit=>True) (fun z:Unit=>0) () (by rfl) (Vi _) trivial ?_;intro z _;refine awp_rseq [0,11,12,13,14] (by rfl) fun K hK=>?_;simp+decide only[XP,QH,qj,QY,↓qd];apply hK;clear hK K;refine qi (qz (b:=_) rfl (fun hb1=>?_) (fun hb1=>?_))
 ·cases hb1
 ·try simp only[qG]at hb1
  refine Qk ?_;change Awp _ _ _ _ _ _ _;refine awp_rseq [4] (by rfl) fun K hK=>?_;simp+decide only[Xp,↓qc,↓qa];apply hK;clear hK K;refine qW ?_;refine QG H zqC (qA (qC)) ?_;simp+decide only[QE];exact⟨op,hrow,hG,hS⟩
set_option maxHeartbeats 16000000 in
theorem c_writeS(w0:World)(hm:MaxL w0)(hsp:Asp w0)(m:Nat)(h:AHeap)(v ov:AVal)(op H₀:AHeap)(xs:List TokC)(l:List StC)(hs:StsV w0 (m+1) h v l)(hsm:SmallS (m+1) l)(htx:TxS (m+1) l)(hac:qlW (m+1) l)
 (hrow:GrowV 5 ov op (xs.map Xg)) (hG:isG ov=true) (hS:AM.Sep [h,op] H₀) (hT:(XU (m+1) xs l).length<=1000000000)
 (ih:∀(h':AHeap) (v ov:AVal) (op H':AHeap) (xs:List TokC) (l:List StC),StsV w0 m h' v l->SmallS m l->TxS m l->qlW m l->GrowV 5 ov op (xs.map Xg)->isG ov=true->AM.Sep [h',op] H'->(XU m xs l).length<=1000000000->ACall Tryz.prog w0 46 [ov,v] H' (qlu w0 h' (XU m xs l))):
 ACall Tryz.prog w0 46 [ov,v] H₀ (qlu w0 h (XU (m+1) xs l)):=by
 obtain⟨qs,hqe,hqL,hels⟩:=qfy hs hsm;rw[Ec]at hels;have nL:=qhS hqL;have hlv:=hqL.live;have hrl:=hrow.live;have hln:qs.length<=1000000:=by have:=hsm.len;rw[hqe,Jn]at this;exact this
 have hR:XU (m+1) xs l=Wj (XU m) xs ((qs.drop 0).map (·.1)):=by rw[Vn,<-hqe];rfl
 unfold qlu;obtain⟨R,hRR⟩:∃R,R=XU (m+1) xs l:=⟨_,rfl⟩
 rw[<-hRR]at hR hT|-
 refine qR (n:=81) (rs:=[.tmp 4]) Tryz.func46 rfl rfl rfl rfl (VY rfl) ?_;simp only[qU];refine awp_rseq [0,1] (by rfl) fun K hK=>?_;simp+decide only[qP,↓qa];apply hK;clear hK K;refine qi ?_;refine awp_rseq [0,11,12,13] (by rfl) fun K hK=>?_;simp+decide only[Qe,Qh,↓qc,↓Qi,nL];apply hK;clear hK K;refine qI ?_;refine Qj [0,11,12,13] (fun g:WrG=>[(0,g.rv),(11,v),(12, .int .i64 qs.length),(13, .int .i64 g.j)]) (fun g:WrG=>g.H) (fun g:WrG=>AM.Sep [h,g.rp] g.H/\g.j<=qs.length/\GrowV 5 g.rv g.rp (g.xs.map Xg)/\isG g.rv=true/\R=Wj (XU m) g.xs ((qs.drop g.j).map (·.1))) (fun g:WrG=>qs.length-g.j) ⟨0,xs,ov,op,H₀⟩ (by rfl) (Vi _) ⟨hS,Jq _,hrow,hG,hR⟩ ?_;rintro⟨j,xs,rv,rp,H⟩ ⟨hS,hj,hrow,hG,hg⟩;simp only at hS hj hrow hG hg|-
 have hs_H:Sub h H:=hS.in_ (i:=0) rfl;have hrl:=hrow.live;have nr:=ZN (hrow.isL (w0:=w0) (hS.in_ (i:=1) rfl));refine awp_rseq [0,11,12,13,14] (by rfl) fun K hK=>?_;simp+decide only[XP,QH,qj,QY,↓qd];apply hK;clear hK K;refine qi (qz (b:=_) rfl (fun hb1=>?_) (fun hb1=>?_))
 ·try simp only[qG]at hb1
  have hj1:j<qs.length:=by omega
  obtain⟨q,hqj⟩:∃q,q=qs.getD j qei:=⟨_,rfl⟩
  have hqm:q∈qs:=by rw[hqj,Ko,JB hj1];exact Vw hj1
  obtain⟨lc,o,cc,hpe⟩:=qea hqL (by omega);have hq2:=hqL.mono hs_H;rw[hpe]at hq2;obtain⟨e0,e1,e2,e3,e4⟩:=qeI hq2 hj1;rw[<-hqj]at e0 e1 e2 e3 e4;obtain⟨hph,hbd,hbn,hpn,hpt,hbb⟩:=hels q hqm;obtain⟨hx1,hx2,hx3⟩:=htx q.1 (by rw[hqe];exact BK (f:=(·.1)) hqm);obtain⟨⟨hy0,hy1⟩,hy2,hy3⟩:=hac q.1 (by rw[hqe];exact BK (f:=(·.1)) hqm);have hst:=qkW (d:=qei) hj1;rw[<-hqj]at hst;rw[hst,Wj]at hg;have hl1:=hph.live;have hs1:=hph.scal;have hl2:=hbd.live;have hs2:=hbd.scal;have hs5:=hs1;have hs6:=hs1;obtain⟨pl,hpl,hpq,hpr⟩:=id hph;obtain⟨ql,hql,hqb,hqq⟩:=id hbd;have np:=qie hpq;have nb:=qey hqb;have hbn2:ql.length<=1000000:=by rw[hql,Jn]at hbn;exact hbn
  have hpn2:pl.length<=1000000:=by rw[hpl,Jn]at hpn;exact hpn
  obtain⟨⟨qv,qln,qcl,qps,qbs⟩,qp,qb⟩:=q;simp only[Ed,StC.line,StC.col,Ee,Ef]at e0 e1 e2 e3 e4 hl1 hs1 hl2 hs2 hs5 hs6 np nb hpq hqb hpl hql hbb hpt hpr hqq hx1 hx2 hx3 hy0 hy1 hy2 hy3 hg;obtain⟨L,hL⟩:∃L,L=(qs.drop (j+1)).map (·.1):=⟨_,rfl⟩
  rw[<-hL]at hg;have hwj:IntKind.i64.wrap ((j:Int)+1)=((j+1:Nat):Int):=by rw[wrap_i64 (by omega) (by omega)];omega
  refine qF ?_;change Awp _ _ _ _ _ _ _;refine qi ?_;refine qI ?_;refine awp_rseq [0,6,11,12,13] (by rfl) fun K hK=>?_;simp+decide only[Zi,QJ,Xc,↓qJ,qg Tryz.underlying45 WF,↓qo,Qa qgH WF,hpe,e0,e1,e2,e3,e4,hl1,hl2];repeat (with_reducible refine zqP ?_)
  refine Qp qjs (cs:=[.str [], .int .i64 0, .int .i64 0, .nilSlice, .nilSlice]) (by rfl) fun k3q2 hk3q2=>?_;have hn_3q2:H k3q2=none:=by first|assumption|(simp only[Bd]at hk3q2;simp only[hk3q2])
  have hf_3q2:h k3q2=none:=Be hs_H hn_3q2;refine qN (by rfl) (by rfl) zqA WF (by rfl) (by rfl) zqD (Jq _) (by first|rfl|(simp+decide only[QI,BL,Yk,VN,YW,qaA,Qt,hs1,hs2])) ?_;simp only[QT,Bg];simp+decide only[Zi,Xc,Nat.reduceAdd];apply hK;clear hK K;refine qi ?_;have hS3:=Eb hS hn_3q2 (⟨[.str qv, .int .i64 qln, .int .i64 qcl,qp,qb],0⟩:Blk);simp only[Xf]at hS3;refine awp_rseq [0,6,11,12,13,19] (by rfl) fun K hK=>?_;simp+decide only[QK,qK,Qh,YG,↓qc,↓Qi,↓qd,nr];apply hK;clear hK K;refine qz (b:=_) rfl (fun hb2=>?_) (fun hb2=>?_)
  ·try simp only[qG]at hb2
   refine awp_rseq [4] (by rfl) fun K hK=>?_;simp+decide only[Xp,↓qc,↓qa];apply hK;clear hK K;refine qW ?_;try simp only[XB]
   refine Qb (qA (qC)) ?_;simp+decide only[QE];rw[hg,if_pos (by omega)];exact⟨_,Vi _,rp,hrow,hG,hS3.sub (by simp)⟩
  ·try simp only[qG]at hb2
   rw[if_neg (by omega)]at hg;have hg6:R=Wj (XU m) (qhO qv (((ql.drop 0).map (·.1)).foldl (qrw (XU m)) (((pl.drop 0).map (·.1)).foldl qrv (xs++[qgb qv])))) L:=by rw[hg,qjP];simp only[Vn,Ed,Ee,Ef];rw[hpl,hql]
   have hp6:(xs++[qgb qv])<+:R:=by
    rw[hg6];exact(((qak qnm _ _).trans (qak (qnn m) _ _)).trans (qjH _ _)).trans (qic (qbh m) _ _)
   have hn6:=qhg hp6 hT;rw[Jb,JF]at hn6;refine qF ?_;change Awp _ _ _ _ _ _ _;refine awp_rseq [0,6,11,12,13] (by rfl) fun K hK=>?_;simp+decide only[Qe,QU,QW,Zo,qag,↓qc,↓qh,↓qo,qf ag9,↓XO,↓QN,qiF];refine qO (cs:=Xg (qgb qv)) (by kernel_rfl) fun k6q4 hk6q4=>?_;have ne_6q4_3q2:k6q4≠k3q2:=by simp only[Bd]at hk6q4;simp only[Yv,hk6q4]
   have hn_6q4:H k6q4=none:=by first|assumption|(simp only[Bd]at hk6q4;simp only[hk6q4])
   have hf_6q4:h k6q4=none:=Be hs_H hn_6q4;refine Zu (es:=5) (v:=rv) (p:=rp) (xs:=xs.map Xg) (ys:=[Xg (qgb qv)]) (i:=1) (by rfl) (by rfl) Tryz.underlying39 Tryz.underlying39 (fun k e=>by cases e) Yo qfY qdU (by rfl) (by decide) (by rfl) hrow hG rfl (hS3.forget (Vj hk6q4)) (by rfl) (Bz (Vh _ _ _) (fun x hx=>by rw[V4.1 hx];rfl) (by rfl) (by rfl) (.exact 1) (KL _)) (by rfl) (by simp only[Zn];omega) (by simp only[Zn];omega) fun rv6 rp6 h6 hrow6 hG6 hS6=>?_;have hrow6:GrowV 5 rv6 rp6 ((xs++[qgb qv]).map Xg):=by rw[JI];exact hrow6
   simp only[Xo]at hS6;have hS6:AM.Sep [h,one k3q2 ⟨[.str qv, .int .i64 qln, .int .i64 qcl,qp,qb],0⟩,rp6] h6:=hS6.perm (.cons _ (List.Perm.swap _ _ _));simp+decide only[qP,↓qa];apply hK;clear hK K;refine qi ?_;have hrl6:=hrow6.live;have hs_h6:Sub h h6:=hS6.in_ (i:=0) rfl;have eb_3q2:h6 k3q2=some _:=hS6.at_ (i:=1) rfl;refine awp_rseq [0,6,11,12,13,28,29,30] (by rfl) fun K hK=>?_;simp+decide only[Qe,QU,Qh,YI,↓qh,↓qo,qf qdr,↓Qi,↓qc,Qm eb_3q2,np,hl1];apply hK;clear hK K;refine qI ?_;refine Qj [0,6,11,12,13,28,29,30] (fun g:WrG=>[(0,g.rv),(6, .ptr (.own k3q2) 0),(11,v),(12, .int .i64 qs.length),(13, .int .i64 j),(28,qp),(29, .int .i64 pl.length),(30, .int .i64 g.j)]) (fun g:WrG=>g.H) (fun g:WrG=>AM.Sep [h,one k3q2 ⟨[.str qv, .int .i64 qln, .int .i64 qcl,qp,qb],0⟩,g.rp] g.H/\g.j<=pl.length/\GrowV 5 g.rv g.rp (g.xs.map Xg)/\isG g.rv=true/\R=Wj (XU m) (qhO qv (((ql.drop 0).map (·.1)).foldl (qrw (XU m)) (((pl.drop g.j).map (·.1)).foldl qrv g.xs))) L) (fun g:WrG=>pl.length-g.j) ⟨0,xs++[qgb qv],rv6,rp6,h6⟩ (by first|rfl|(rw[hpe];rfl)) (Vi _) ⟨hS6,Jq _,hrow6,hG6,hg6⟩ ?_;rintro⟨a,xs,rv,rp,H⟩ ⟨hS,ha,hrow,hG,hga⟩;simp only at hS ha hrow hG hga|-
   have hs_H:Sub h H:=hS.in_ (i:=0) rfl;have eb_3q2:H k3q2=some _:=hS.at_ (i:=1) rfl;have hrl:=hrow.live;refine awp_rseq [0,6,11,12,13,28,29,30,31] (by rfl) fun K hK=>?_;simp+decide only[XP,QH,qj,QY,↓qd];apply hK;clear hK K;refine qi (qz (b:=_) rfl (fun hb3=>?_) (fun hb3=>?_))
   ·try simp only[qG]at hb3
    have ha1:a<pl.length:=by omega
    obtain⟨p,hpj⟩:∃p,p=pl.getD a qej:=⟨_,rfl⟩
    have hpm:p∈pl:=by rw[hpj,Ko,JB ha1];exact Vw ha1
    obtain⟨lp,op,cp,hpp⟩:=qcc hpq (by omega);have hp2:=hpq.mono hs_H;rw[hpp]at hp2;obtain⟨f0,f1⟩:=qeJ hp2 ha1;rw[<-hpj]at f0 f1;have hpk:=hpr p hpm;obtain⟨hu1,hu2⟩:=hx2 p.1 (by rw[hpl];exact BK (f:=(·.1)) hpm);have hu3:=hy2 p.1 (by rw[hpl];exact BK (f:=(·.1)) hpm);have hst2:=qkW (d:=qej) ha1;rw[<-hpj]at hst2;rw[hst2,Et]at hga;have hl5:=hpk.live;have hs5:=hpk.scal;obtain⟨⟨pw,pt⟩,pv⟩:=p;simp only at f0 f1 hpk hl5 hs5 hu1 hu2 hu3 hga;have hwa:IntKind.i64.wrap ((a:Int)+1)=((a+1:Nat):Int):=by rw[wrap_i64 (by omega) (by omega)];omega
    have hp10:(xs++UJ pw++pt)<+:R:=by
     rw[hga];exact(((qak qnm _ _).trans (qak (qnn m) _ _)).trans (qjH _ _)).trans (qic (qbh m) _ _)
    have hn10:=qhg hp10 hT;rw[Jb,Jb]at hn10;refine qF ?_;change Awp _ _ _ _ _ _ _;refine qi ?_;refine qI ?_;refine awp_rseq [0,6,8,11,12,13,28,29,30] (by rfl) fun K hK=>?_;simp+decide only[Zi,QJ,Xc,↓qJ,qg Tryz.underlying79 qbA,↓qo,Qa ag84 qbA,hpp,f0,f1,hl5];repeat (with_reducible refine zqP ?_)
    refine Qp ze84 (cs:=[.str [], .nilSlice]) (by rfl) fun k9q2 hk9q2=>?_;have hn_9q2:H k9q2=none:=by first|assumption|(simp only[Bd]at hk9q2;simp only[hk9q2])
    have hf_9q2:h k9q2=none:=Be hs_H hn_9q2;have ne_9q2_3q2:k9q2≠k3q2:=Bf hn_9q2 eb_3q2;refine qN (by rfl) (by rfl) zqA qbA (by rfl) (by rfl) zqD (Jq _) (by first|rfl|(simp+decide only[QI,BL,Yk,VN,YW,Qt,hs5])) ?_;simp only[QT,Bg];simp+decide only[Zi,Xc];apply hK;clear hK K;have hS9:=Eb hS hn_9q2 (⟨[.str pw,pv],0⟩:Blk);simp only[Xf]at hS9;refine qbo [0,1,2,5,6,3,4,7,8] [0,0,0,2,2,0,0,0,0] [none,none,none,none,none,none,some 5,some 6,some 7] 6 (h.set k9q2 ⟨[.str pw,pv],0⟩) mixed (by kernel_rfl) (by rfl) (Eu hs_H _ _) ?_;simp only[Kz,Vx,Eo,KM,YB];simp+decide only[Qe,QU,Wi,qbm,qao,qan,Uy,UN,↓qc,↓qh,qkS,↓qo,qf ag9,qf qbK,hl5];refine qE (by rfl) (by rfl) (qnY w0 hsp _ pw hu1 hu3) fun x10q3 h10q3 hx10q3=>?_;obtain⟨hrS,hsA⟩:=hx10q3;have hSA:=hS9.forget hsA;rw[QB];refine And.intro (by first|exact Vi _|assumption|exact Vj (by assumption)) ?_;simp+decide only[qV];refine Zu (es:=5) (v:=rv) (p:=rp) (xs:=xs.map Xg) (ys:=(UJ pw).map Xg) (i:=2) (by rfl) (by rfl) Tryz.underlying39 Tryz.underlying39 (fun k e=>by cases e) Yo qfY qdU (by rfl) (by decide) (by rfl) hrow hG rfl hSA (by rfl) hrS (qco _) (by simp only[Jn];omega) (by simp only[Jn];omega) fun rv10 rp10 h10 hrow10 hG10 hS10=>?_;rw[<-JI]at hrow10;simp only[Xo]at hS10;have hrl10:=hrow10.live;have hsB:Sub (h.set k9q2 ⟨[.str pw,pv],0⟩) h10:=Sub.set_of (hS10.in_ (i:=0) rfl) (hS10.at_ (i:=3) rfl);rw[QB];refine And.intro (by first|exact Vi _|assumption|exact Vj (by assumption)) ?_;simp+decide only[qV];refine Zu (es:=5) (v:=rv10) (p:=rp10) (xs:=(xs++UJ pw).map Xg) (ys:=pt.map Xg) (i:=2) (by rfl) (by rfl) Tryz.underlying39 Tryz.underlying39 (fun k e=>by cases e) Yo qfY qdU (by rfl) (by decide) (by rfl) hrow10 hG10 rfl hS10 (by rfl) (hpk.mono (hS10.in_ (i:=0) rfl)) (qco _) (by simp only[Jn,Jb];omega) (by simp only[Jn,Jb];omega) fun rv11 rp11 h11 hrow11 hG11 hS11=>?_;rw[<-JI]at hrow11;simp only[Xo]at hS11;have hrl11:=hrow11.live;have hsC:Sub (h.set k9q2 ⟨[.str pw,pv],0⟩) h11:=Sub.set_of (hS11.in_ (i:=0) rfl) (hS11.at_ (i:=3) rfl);rw[QB];refine And.intro (by first|exact Vi _|assumption|exact Vj (by assumption)) ?_;simp+decide only[qP,↓qa];repeat (with_reducible refine zqP ?_)
    change Awp _ _ _ _ _ _ _;refine Qv [0,6,11,12,13,28,29,30] (by rfl) ?_;simp+decide only[QK,Xi,↓qd,↓qc,hwa];try simp only[QL]
    exact⟨⟨a+1,xs++UJ pw++pt,rv11,rp11,h11⟩,by first|rfl|(rw[hpe,hpp];rfl),Vi _,⟨hS11.sub (by simp),ha1,hrow11,hG11,hga⟩,by simp only;omega⟩
   ·try simp only[qG]at hb3
    have haq:a=pl.length:=by omega
    rw[haq,Va]at hga;have hg12:R=Wj (XU m) (qhO qv (((ql.drop 0).map (·.1)).foldl (qrw (XU m)) xs)) L:=hga;refine Qk ?_;change Awp _ _ _ _ _ _ _;refine qi ?_;refine awp_rseq [0,6,11,12,13,44,45,46] (by rfl) fun K hK=>?_;simp+decide only[Qe,QU,Qh,YR,↓qh,↓qo,qf qdp,↓Qi,↓qc,Qm eb_3q2,nb,hl2];apply hK;clear hK K;refine qI ?_;refine Qj [0,6,11,12,13,44,45,46] (fun g:WrG=>[(0,g.rv),(6, .ptr (.own k3q2) 0),(11,v),(12, .int .i64 qs.length),(13, .int .i64 j),(44,qb),(45, .int .i64 ql.length),(46, .int .i64 g.j)]) (fun g:WrG=>g.H) (fun g:WrG=>AM.Sep [h,one k3q2 ⟨[.str qv, .int .i64 qln, .int .i64 qcl,qp,qb],0⟩,g.rp] g.H/\g.j<=ql.length/\GrowV 5 g.rv g.rp (g.xs.map Xg)/\isG g.rv=true/\R=Wj (XU m) (qhO qv (((ql.drop g.j).map (·.1)).foldl (qrw (XU m)) g.xs)) L) (fun g:WrG=>ql.length-g.j) ⟨0,xs,rv,rp,H⟩ (by first|rfl|(rw[hpe];rfl)) (Vi _) ⟨hS,Jq _,hrow,hG,hg12⟩ ?_;rintro⟨a,xs,rv,rp,H⟩ ⟨hS,ha,hrow,hG,hga⟩;simp only at hS ha hrow hG hga|-
    have hs_H:Sub h H:=hS.in_ (i:=0) rfl;have eb_3q2:H k3q2=some _:=hS.at_ (i:=1) rfl;have hrl:=hrow.live;refine awp_rseq [0,6,11,12,13,44,45,46,47] (by rfl) fun K hK=>?_;simp+decide only[XP,QH,qj,QY,↓qd];apply hK;clear hK K;refine qi (qz (b:=_) rfl (fun hb4=>?_) (fun hb4=>?_))
    ·try simp only[qG]at hb4
     have ha1:a<ql.length:=by omega
     obtain⟨p,hpj⟩:∃p,p=ql.getD a qdE:=⟨_,rfl⟩
     have hpm:p∈ql:=by rw[hpj,Ko,JB ha1];exact Vw ha1
     obtain⟨lp,op,cp,hpp⟩:=qck hqb (by omega);have hp2:=hqb.mono hs_H;rw[hpp]at hp2;obtain⟨f0,f1,f2⟩:=qfp hp2 ha1;rw[<-hpj]at f0 f1 f2;obtain⟨hpk,hps⟩:=hqq p hpm;obtain⟨hu1,hu2,hu4⟩:=hx3 p.1 (by rw[hql];exact BK (f:=(·.1)) hpm);obtain⟨hu3,hu5⟩:=hy3 p.1 (by rw[hql];exact BK (f:=(·.1)) hpm);obtain⟨-,hu6⟩:=hbb p.1 (by rw[hql];exact BK (f:=(·.1)) hpm);have hst2:=qkW (d:=qdE) ha1;rw[<-hpj]at hst2;rw[hst2,Et]at hga;have hl5:=hpk.live;have hs5:=hpk.scal;obtain⟨hl6,hs6,-⟩:=hps.shape;obtain⟨⟨pw,pt,pL⟩,pv,pLv⟩:=p;simp only at f0 f1 f2 hpk hps hl5 hs5 hl6 hs6 hu1 hu2 hu3 hu4 hu5 hu6 hga;have hwa:IntKind.i64.wrap ((a:Int)+1)=((a+1:Nat):Int):=by rw[wrap_i64 (by omega) (by omega)];omega
     have hp15:XU m (xs++UJ pw++pt) pL<+:R:=by
      rw[hga];exact((qak (qnn m) _ _).trans (qjH _ _)).trans (qic (qbh m) _ _)
     have hn15:=qhg hp15 hT;have hn16:=qhg ((qbh m (xs++UJ pw++pt) pL).trans hp15) hT;rw[Jb,Jb]at hn16;refine qF ?_;change Awp _ _ _ _ _ _ _;refine qi ?_;refine qI ?_;refine awp_rseq [0,6,10,11,12,13,44,45,46] (by rfl) fun K hK=>?_;simp+decide only[Zi,QJ,Xc,↓qJ,qg Tryz.underlying80 qav,↓qo,Qa qrf qav,hpp,f0,f1,f2,hl5,hl6];repeat (with_reducible refine zqP ?_)
     refine Qp qlH (cs:=[.str [], .nilSlice, .nilSlice]) (by rfl) fun k14q2 hk14q2=>?_;have hn_14q2:H k14q2=none:=by first|assumption|(simp only[Bd]at hk14q2;simp only[hk14q2])
     have hf_14q2:h k14q2=none:=Be hs_H hn_14q2;have ne_14q2_3q2:k14q2≠k3q2:=Bf hn_14q2 eb_3q2;refine qN (by rfl) (by rfl) zqA qav (by rfl) (by rfl) zqD (Jq _) (by first|rfl|(simp+decide only[QI,BL,Yk,VN,YW,Qt,hs5,hs6])) ?_;simp only[QT,Bg];simp+decide only[Zi,Xc,Nat.reduceAdd];apply hK;clear hK K;have hS9:=Eb hS hn_14q2 (⟨[.str pw,pv,pLv],0⟩:Blk);simp only[Xf]at hS9;refine qbo [0,1,2,5,6,8,9,3,4,7,10,11] [0,0,0,2,2,2,2,0,0,0,0,0] [none,none,none,none,none,none,none,none,some 7,some 8,some 9,some 10] 8 (h.set k14q2 ⟨[.str pw,pv,pLv],0⟩) mixed (by kernel_rfl) (by rfl) (Eu hs_H _ _) ?_;simp only[Kz,Vx,Eo,KM,YB];simp+decide only[Qe,QU,Wi,qer,qep,qao,qan,Uy,UN,↓qc,↓qh,qiy,↓qo,qf ag9,qf qbK,qf qiH,hl5,hl6];refine qE (by rfl) (by rfl) (qnY w0 hsp _ pw hu1 hu3) fun x15q3 h15q3 hx15q3=>?_;obtain⟨hrS,hsA⟩:=hx15q3;have hSA:=hS9.forget hsA;rw[QB];refine And.intro (by first|exact Vi _|assumption|exact Vj (by assumption)) ?_;simp+decide only[qV];refine Zu (es:=5) (v:=rv) (p:=rp) (xs:=xs.map Xg) (ys:=(UJ pw).map Xg) (i:=2) (by rfl) (by rfl) Tryz.underlying39 Tryz.underlying39 (fun k e=>by cases e) Yo qfY qdU (by rfl) (by decide) (by rfl) hrow hG rfl hSA (by rfl) hrS (qco _) (by simp only[Jn];omega) (by simp only[Jn];omega) fun rv10 rp10 h10 hrow10 hG10 hS10=>?_;rw[<-JI]at hrow10;simp only[Xo]at hS10;have hrl10:=hrow10.live;have hsB:Sub (h.set k14q2 ⟨[.str pw,pv,pLv],0⟩) h10:=Sub.set_of (hS10.in_ (i:=0) rfl) (hS10.at_ (i:=3) rfl);rw[QB];refine And.intro (by first|exact Vi _|assumption|exact Vj (by assumption)) ?_;simp+decide only[qV];refine Zu (es:=5) (v:=rv10) (p:=rp10) (xs:=(xs++UJ pw).map Xg) (ys:=pt.map Xg) (i:=2) (by rfl) (by rfl) Tryz.underlying39 Tryz.underlying39 (fun k e=>by cases e) Yo qfY qdU (by rfl) (by decide) (by rfl) hrow10 hG10 rfl hS10 (by rfl) (hpk.mono (hS10.in_ (i:=0) rfl)) (qco _) (by simp only[Jn,Jb];omega) (by simp only[Jn,Jb];omega) fun rv11 rp11 h11 hrow11 hG11 hS11=>?_;rw[<-JI]at hrow11;simp only[Xo]at hS11;have hrl11:=hrow11.live;have hsC:Sub (h.set k14q2 ⟨[.str pw,pv,pLv],0⟩) h11:=Sub.set_of (hS11.in_ (i:=0) rfl) (hS11.at_ (i:=3) rfl);have hS12:AM.Sep ([h,one k3q2 ⟨[.str qv, .int .i64 qln, .int .i64 qcl,qp,qb],0⟩,one k14q2 ⟨[.str pw,pv,pLv],0⟩]++[rp11]) h11:=hS11.perm (.cons _ (.cons _ (List.Perm.swap _ _ _)));have hB12:=hS12.left;have hF12:=BX hS12;rw[QB];refine And.intro (by first|exact Vi _|assumption|exact Vj (by assumption)) ?_;simp+decide only[qV];refine qE (by rfl) (by rfl) (ih (Wl [h,one k3q2 ⟨[.str qv, .int .i64 qln, .int .i64 qcl,qp,qb],0⟩,one k14q2 ⟨[.str pw,pv,pLv],0⟩]) pLv rv11 rp11 h11 (xs++UJ pw++pt) pL (hps.mono (Xy hB12 _ (by simp))) hu6 hu4 hu5 hrow11 hG11 hF12 hn15) fun x15q10 h15q10 hx15q10=>?_;obtain⟨rp13,hrow13,hG13,hS13⟩:=hx15q10;have hS14:=Sep.unfold hB12 hS13;simp only[Xf]at hS14;have hrl13:=hrow13.live;have hsD:Sub (h.set k14q2 ⟨[.str pw,pv,pLv],0⟩) h15q10:=Sub.set_of (hS14.in_ (i:=0) rfl) (hS14.at_ (i:=2) rfl);rw[QB];refine And.intro (by first|exact Vi _|assumption|exact Vj (by assumption)) ?_;simp+decide only[qP,↓qa];repeat (with_reducible refine zqP ?_)
     change Awp _ _ _ _ _ _ _;refine Qv [0,6,11,12,13,44,45,46] (by rfl) ?_;simp+decide only[QK,Xi,↓qd,↓qc,hwa];try simp only[QL]
     exact⟨⟨a+1,XU m (xs++UJ pw++pt) pL,x15q10,rp13,h15q10⟩,by first|rfl|(rw[hpe,hpp];rfl),Vi _,⟨hS14.sub (by simp),ha1,hrow13,hG13,hga⟩,by simp only;omega⟩
    ·try simp only[qG]at hb4
     have haq:a=ql.length:=by omega
     rw[haq,Va]at hga;have hg17:R=Wj (XU m) (qhO qv xs) L:=hga;have hp17:qhO qv xs<+:R:=by rw[hg17];exact qic (qbh m) _ _
     have hn17:=qhg hp17 hT;refine Qk ?_;change Awp _ _ _ _ _ _ _;have hcd:hasEnd qv=(!Lib.contains qv [32] && Lib.contains qdK ([32]++qv++[32])):=rfl;cases z1:Lib.contains qv [32];all_goals
      refine awp_rseq [0,6,11,12,13,72] (by rfl) fun K hK=>?_;simp+decide only[qV,QU,qag,↓qh,↓qo,qf ag9,Qm eb_3q2];refine QC (V:= .bool (Lib.contains qv [32])) (by rfl) (by rfl) (WA w0 hm _ qv [32] (by omega)) ?_;simp+decide only[Xj,XF,QU,qj,JD,Xt,KX,YJ,Jb,Yy,Qs,QS,Xn,Ze,Zt,ZF,ZO,YF,Zf,qag,↓qdf,↓qc,↓QM,↓Xv,qf ag9,↓Qn,Qm eb_3q2,z1];repeat (with_reducible refine zqP ?_)
      first
      |(refine Xl (by rfl) ?_;refine QC (V:= .bool (Lib.contains qdK ([32]++qv++[32]))) (by rfl) (by rfl) (WA w0 hm _ qdK ([32]++qv++[32]) (by decide)) ?_)
      |(refine qcm (by rfl) (by rfl) ?_)
      simp+decide only[qV,JD,Xt,KX,YS,Jb,↓Qd];apply hK;clear hK K;refine qz (b:=_) rfl (fun hb5=>?_) (fun hb5=>?_)
      ·try (cases hb5;done)
       all_goals have hh:hasEnd qv=true:=by rw[hcd,z1];exact hb5
       all_goals clear hb5
       all_goals unfold qhO at hg17 hn17
       all_goals rw[if_pos hh,Jb]at hn17
       all_goals rw[if_pos hh]at hg17
       all_goals
        refine Qv [0,11,12,13] (by rfl) ?_;simp+decide only[Xj,QU,qj,QF,Jb,Qs,ZO,qag,↓qc,↓qh,↓qo,qf ag9,↓qd,Qm eb_3q2,Nat.reduceAdd];repeat (with_reducible refine zqP ?_)
        refine qE (by rfl) (by rfl) (qnY w0 hsp _ (qro++qv) (by unfold qro;simp only[QF,Jb];omega) (qti hy0)) fun x18q4 h18q4 hx18q4=>?_;obtain⟨hrS,hsA⟩:=hx18q4;have hSA:=hS.forget hsA;refine Zu (es:=5) (v:=rv) (p:=rp) (xs:=xs.map Xg) (ys:=(UJ (qro++qv)).map Xg) (i:=2) (by rfl) (by rfl) Tryz.underlying39 Tryz.underlying39 (fun k e=>by cases e) Yo qfY qdU (by rfl) (by decide) (by rfl) hrow hG rfl hSA (by rfl) hrS (qco _) (by simp only[Jn];rw[<-qmj];omega) (by simp only[Jn];rw[<-qmj];omega) fun rv18 rp18 h18 hrow18 hG18 hS18=>?_;rw[<-JI]at hrow18;simp only[Xo]at hS18;simp+decide only[qP,QF,Jb,↓qa];change Awp _ _ _ _ _ _ _;refine Qv [0,11,12,13] (by rfl) ?_;simp+decide only[QK,Xi,↓qd,↓qc,hwj];try simp only[QL]
        first
        |exact⟨⟨j+1,xs++UJ (qro++qv),rv18,rp18,h18⟩,by first|rfl|(rw[hpe];rfl),Vi _,⟨hS18.sub (by simp),hj1,hrow18,hG18,by simp only;rw[<-hL];exact hg17⟩,by simp only;omega⟩
        |exact⟨⟨j+1,xs,rv,rp,H⟩,by first|rfl|(rw[hpe];rfl),Vi _,⟨hS.sub (by simp),hj1,hrow,hG,by simp only;rw[<-hL];exact hg17⟩,by simp only;omega⟩
      ·have hh:hasEnd qv=false:=by
        rw[hcd,z1];first
         |rfl
         |(have q:Lib.contains qdK ([32]++qv++[32])=false:=hb5
           rw[q];rfl)
       clear hb5;unfold qhO at hg17;rw[if_neg (by rw[hh];decide)]at hg17;all_goals
        refine qF ?_;change Awp _ _ _ _ _ _ _;refine Qv [0,11,12,13] (by rfl) ?_;simp+decide only[QK,Xi,↓qd,↓qc,hwj];try simp only[QL]
        first
        |exact⟨⟨j+1,xs++UJ (qro++qv),rv18,rp18,h18⟩,by first|rfl|(rw[hpe];rfl),Vi _,⟨hS18.sub (by simp),hj1,hrow18,hG18,by simp only;rw[<-hL];exact hg17⟩,by simp only;omega⟩
        |exact⟨⟨j+1,xs,rv,rp,H⟩,by first|rfl|(rw[hpe];rfl),Vi _,⟨hS.sub (by simp),hj1,hrow,hG,by simp only;rw[<-hL];exact hg17⟩,by simp only;omega⟩
 ·try simp only[qG]at hb1
  have hjq:j=qs.length:=by omega
  rw[hjq,Va]at hg;have hgR:R=xs:=hg;refine Qk ?_;change Awp _ _ _ _ _ _ _;refine awp_rseq [4] (by rfl) fun K hK=>?_;simp+decide only[Xp,↓qc,↓qa];apply hK;clear hK K;refine qW ?_;refine Qb (qA (qC)) ?_;simp+decide only[QE];exact⟨H,Vi _,rp,by rw[hgR];exact hrow,hG,hS⟩
theorem c_write(w0:World)(hm:MaxL w0)(hsp:Asp w0):∀(m:Nat) (h:AHeap) (v ov:AVal) (op H:AHeap) (xs:List TokC) (l:List StC),StsV w0 m h v l->SmallS m l->TxS m l->qlW m l->GrowV 5 ov op (xs.map Xg)->isG ov=true->AM.Sep [h,op] H->(XU m xs l).length<=1000000000->ACall Tryz.prog w0 46 [ov,v] H (qlu w0 h (XU m xs l))
 |0,h,v,ov,op,H,xs,l,hs,_,_,_,hrow,hG,hS,_=>by
  obtain⟨rfl,hv⟩:=sts0 hs;exact c_write0 w0 h v ov op H xs hv hrow hG hS
 |m+1,h,v,ov,op,H,xs,l,hs,hsm,htx,hac,hrow,hG,hS,hT=>c_writeS w0 hm hsp m h v ov op H xs l hs hsm htx hac hrow hG hS hT fun h' v ov op H' xs l a b c d e f g i=>c_write w0 hm hsp m h' v ov op H' xs l a b c d e f g i
end Go.Proofs.YtgiadjbiimkbiaaGreatDoor
namespace Go.Stm
open Go.Col (Str FaultC)
open Go.Tok
def XE(d:Nat)(l:List StC):List TokC:=
 if l=[]then[]else if YL 32 l=true then[]else if 65536<(XU d [] l++[qaD]).length then[]else XU d [] l++[qaD]
def qiK(d:Nat)(l:List StC)(e:Int):Prop:=
 (0<l.length/\XE d l=[]/\e=3)\/
 (¬(0<l.length/\XE d l=[])/\((∃f,ParseR qZ (XE d l) Qg (.bad f)/\e=if f.e=0 then(if qbL 32 [] l=true then 0 else 4)else 4)\/∃L j,ParseR qZ (XE d l) Qg (.ok L j)/\e=if qbL 32 L l=true then 0 else 4))
end Go.Stm
namespace Go.Proofs.YtgiadjbiimkbiaaGreatDoor
open Go.AM
open Go.Proofs
open Go.Col (Str FaultC okF)
open Go.Tok (TokC)
open Go.Stm
open Go.RowKit (Below)
set_option maxRecDepth 100000
structure StsOk(w0:World)(d:Nat)(h:AHeap)(v:AVal)(l:List StC):Prop where
 mem:StsV w0 d h v l
 small:SmallS d l
 tx:TxS d l
 asc:qlW d l
theorem StsOk.mono{w0:World}{d:Nat}{h h':AHeap}{v:AVal}{l:List StC}(hs:StsOk w0 d h v l)(hh:AM.Sub h h'):StsOk w0 d h' v l:=⟨hs.mem.mono hh,hs.small,hs.tx,hs.asc⟩
set_option maxHeartbeats 8000000 in
theorem qiE(w0:World)(hm:MaxL w0)(ha:Asp w0)(d:Nat)(h:AHeap)(v:AVal)(l:List StC)(hs:StsOk w0 d h v l)(hT:(XU d [] l).length<=1000000000):
 ACall Tryz.prog w0 23 [v] h (fun r h'=>IsL w0 h' 5 r ((XE d l).map Xg)/\AM.Sub h h'):=by
 have hlv:=hs.mem.shape.1;have nL:=UW hs.mem;obtain⟨R,hRR⟩:∃R,R=XE d l:=⟨_,rfl⟩
 have hR:=hRR;unfold XE at hR;rw[<-hRR];refine qR (n:=21) (rs:=[.tmp 2]) Tryz.func23 rfl rfl rfl rfl (VY rfl) ?_;simp only[qU];refine awp_rseq [0] (by rfl) fun K hK=>?_;simp+decide only[qP,↓qa];apply hK;clear hK K;refine qi ?_;have y0:(l.length=0/\∀z:Bool,(z && true)=z)\/(¬l.length=0/\YL 32 l=true)\/(¬l.length=0/\YL 32 l=false):=by
  by_cases y1:l.length=0
  ·exact .inl ⟨y1,J6⟩
  ·cases y2:YL 32 l with
   |true=>exact .inr (.inl ⟨y1,rfl⟩)
   |false=>exact .inr (.inr ⟨y1,rfl⟩)
 rcases y0 with⟨y1,y2⟩|⟨y1,y2⟩|⟨y1,y2⟩
 all_goals
  refine awp_rseq [0,10] (by rfl) fun K hK=>?_;simp+decide only[Xk,qK,ZH,YJ,Yy,XA,↓qc,↓Qi,↓qd,↓Qy,nL,y1,Int.natCast_eq_zero];first
  |(refine qcm (by rfl) (by rfl) ?_)
  |(refine Xl (by rfl) ?_
    refine qE (by rfl) (by rfl) (qla w0 32 d _ v l (by decide) hs.mem hs.small) fun x1q5 h1q5 hx1q5=>?_;obtain⟨rfl,hs1⟩:=hx1q5)
  simp+decide only[qV,Xt,YS,↓Qd,y2];apply hK;clear hK K;refine qz (b:=_) rfl (fun hb1=>?_) (fun hb1=>?_)
  ·try (cases hb1;done)
   all_goals clear hb1
   all_goals
    have hN:R=[]:=by
     rw[hR];first
      |(rw[if_pos (Kg y1)];done)
      |(rw[if_neg (fun e=>y1 (by rw[e];rfl)),if_pos y2];done)
   all_goals
    refine awp_rseq [2] (by rfl) fun K hK=>?_;simp+decide only[qP,↓qa];apply hK;clear hK K;refine qW ?_;try simp only[XB]
    refine Qb (qA (qC)) ?_;simp+decide only[QE];rw[hN];exact⟨h,by first|exact Vi _|exact hs1, .nil,Vi _⟩
  ·try (cases hb1;done)
   all_goals clear hb1
   all_goals (rw[if_neg (fun e=>y1 (by rw[e];rfl)),if_neg (by rw[y2];decide)]at hR)
   all_goals have hS0:AM.Sep [h1q5,emp] h1q5:=El (ps:=[h1q5]) ⟨fun p hp=>by rw[V4.1 hp];exact Vi _,by simp⟩
   all_goals
    refine qF ?_;change Awp _ _ _ _ _ _ _;refine awp_rseq [3] (by rfl) fun K hK=>?_;simp+decide only[Qe,↓qc];refine qE (by rfl) (by rfl) (c_write w0 hm ha d h1q5 v .nilSlice emp h1q5 [] l (hs.mem.mono hs1) hs.small hs.tx hs.asc .nil rfl hS0 hT) fun x3q1 h3q1 hx3q1=>?_;obtain⟨p3,hrow3,hG3,hS3⟩:=hx3q1;have hrl3:=hrow3.live;simp+decide only[qV,QW,Zo,↓XO,↓QN,qiF];refine qO (cs:=Xg qaD) (by kernel_rfl) fun k3q3 hk3q3=>?_;try have hf_3q3:h k3q3=none:=by first|assumption|(simp only[Bd]at hk3q3;simp only[hk3q3])
    refine Zu (es:=5) (v:=x3q1) (p:=p3) (xs:=(XU d [] l).map Xg) (ys:=[Xg qaD]) (i:=1) (by rfl) (by rfl) Tryz.underlying39 Tryz.underlying39 (fun k e=>by cases e) Yo qfY qdU (by rfl) (by decide) (by rfl) hrow3 hG3 rfl (hS3.forget (Vj hk3q3)) (by rfl) (Bz (Vh _ _ _) (fun x hx=>by rw[V4.1 hx];rfl) (by rfl) (by rfl) (.exact 1) (KL _)) (by rfl) (by simp only[Zn];omega) (by simp only[Zn];omega) fun rv4 rp4 h4 hrow4 hG4 hS4=>?_;have hrow4:GrowV 5 rv4 rp4 ((XU d [] l++[qaD]).map Xg):=by rw[JI];exact hrow4
    have hrl4:=hrow4.live;have n4:=ZN (hrow4.isL (w0:=w0) (hS4.in_ (i:=1) rfl));have hs4:AM.Sub h h4:=hs1.trans (hS4.in_ (i:=0) rfl);simp+decide only[qP,↓qa];apply hK;clear hK K;refine qi ?_;refine awp_rseq [3,18] (by rfl) fun K hK=>?_;simp+decide only[QK,qK,Qh,YG,↓qc,↓Qi,↓qd,n4];apply hK;clear hK K;refine qz (b:=_) rfl (fun hb2=>?_) (fun hb2=>?_)
    ·try simp only[qG]at hb2
     refine awp_rseq [2] (by rfl) fun K hK=>?_;simp+decide only[qP,↓qa];apply hK;clear hK K;refine qW ?_;try simp only[XB]
     refine Qb (qA (qC)) ?_;simp+decide only[QE];rw[hR,if_pos (by omega)];exact⟨h4,Vi _, .nil,hs4⟩
    ·try simp only[qG]at hb2
     rw[if_neg (by omega)]at hR;refine qF ?_;change Awp _ _ _ _ _ _ _;refine awp_rseq [2] (by rfl) fun K hK=>?_;simp+decide only[Qe,↓qc];refine QC (V:=ZP rv4) (by rfl) (by rfl) (qhA w0 _ rv4 _ (hrow4.isL (hS4.in_ (i:=1) rfl))) ?_;simp+decide only[qP,↓qa];apply hK;clear hK K;refine qW ?_;refine Qb (qA (qC)) ?_;simp+decide only[QE];rw[hR];exact⟨h4,Vi _,(hrow4.isL (hS4.in_ (i:=1) rfl)).clip,hs4⟩
theorem qiN(d:Nat)(l:List StC):(XE d l).length<=65536:=by
 unfold XE;repeat' split
 all_goals first|(simp;done)|omega
set_option maxHeartbeats 8000000 in
theorem qjJ(w0:World)(hm:MaxL w0)(ha:Asp w0)(d:Nat)(h:AHeap)(v:AVal)(l:List StC)(hs:StsOk w0 d h v l)(hT:(XU d [] l).length<=1000000000)(hsh:Short (XE d l))(hL:∀L j,ParseR qZ (XE d l) Qg (.ok L j)->SmallS 32 L):
 ACall Tryz.prog w0 22 [v] h (fun r h'=>(∃e,r= .int .i64 e/\qiK d l e)/\AM.Sub h h'):=by
 have hlv:=hs.mem.shape.1;have nL:=UW hs.mem;refine qR (n:=30) (rs:=[.tmp 2]) Tryz.func22 rfl rfl rfl rfl (VY rfl) ?_;simp only[qU];refine awp_rseq [0] (by rfl) fun K hK=>?_;simp+decide only[qP,↓qa];apply hK;clear hK K;refine awp_rseq [0,3] (by rfl) fun K hK=>?_;simp+decide only[Qe,↓qc];refine qE (by rfl) (by rfl) (qiE w0 hm ha d _ v l hs hT) fun x1q1 h1q1 hx1q1=>?_;obtain⟨ht1,hs1⟩:=hx1q1;have nT:=ZN ht1;have htl:=ht1.live;have hs_h1q1:Sub h h1q1:=Br zqC hs1;have hr_h1q1:=hs_h1q1;simp+decide only[qP,↓qa];apply hK;clear hK K;refine qi ?_;refine awp_rseq [0,3,15] (by rfl) fun K hK=>?_;simp+decide only[Xk,qK,ZH,Yl,QS,XA,YG,qfm,qfl,↓qc,↓Qi,↓qd,↓Qy,↓qbW,↓Qn,↓Qd,nL,nT];apply hK;clear hK K;refine qz (b:=_) rfl (fun hb1=>?_) (fun hb1=>?_)
 ·try simp only[qG]at hb1
  refine awp_rseq [2] (by rfl) fun K hK=>?_;simp+decide only[qP,↓qa];apply hK;clear hK K;refine qW ?_;try simp only[XB]
  refine Qb (qA (qC)) ?_;simp+decide only[QE];refine⟨h1q1,Vi _,⟨3,rfl, .inl ⟨by omega,Kg (by omega),rfl⟩⟩,hs1⟩
 ·try simp only[qG]at hb1
  have hneg:¬(0<l.length/\XE d l=[]):=fun z=>by
   have z2:=z.2;have z3:(XE d l).length=0:=by rw[z2];rfl
   have:=z.1;omega
  refine qF ?_;change Awp _ _ _ _ _ _ _;refine qi ?_;refine awp_rseq [0,4,5] (by rfl) fun K hK=>?_;simp+decide only[Qe,↓qc];refine qE (by rfl) (by rfl) (UC w0 hm ha (XE d l) (Ve (qiN d l) (by decide)) hsh _ x1q1 ht1) fun x4q1 h4q1 hx4q1=>?_;obtain⟨hs4,ho⟩:=hx4q1;obtain⟨f,L,rv,rfl,hv4,hsL,hcase⟩:∃f L rv,x4q1= .tuple [rv,faultV f]/\StsV w0 32 h4q1 rv L/\SmallS 32 L/\((ParseR qZ (XE d l) Qg (.bad f)/\L=[])\/(∃j,ParseR qZ (XE d l) Qg (.ok L j)/\f=okF)):=by
   rcases ho with⟨f,q,e⟩|⟨L,j,rv,q,e,hv⟩
   ·exact⟨f,[], .nilSlice,e,⟨[],rfl, .nil,fun q hq=>by cases hq⟩,⟨Jq _,fun s hs=>by cases hs⟩, .inl ⟨q,rfl⟩⟩
   ·exact⟨okF,L,rv,e,hv,hL L j q, .inr ⟨j,q,rfl⟩⟩
  have hrl:=hv4.shape.1;have hs_h4q1:Sub h h4q1:=Br zqC hs4;have hr_h4q1:Sub h1q1 h4q1:=Br zqC hs4;simp+decide only[Qe,QF,QR,Xe,↓qc,↓Xa,Nat.reduceAdd,faultV];refine Qp qgl (cs:=[.int .i64 0, .int .i64 0, .int .i64 0]) (by rfl) fun k4q5 hk4q5=>?_;have hn_4q5:h4q1 k4q5=none:=by first|assumption|(simp only[Bd]at hk4q5;simp only[hk4q5])
  have hf_4q5:h k4q5=none:=Be hs_h4q1 hn_4q5;simp+decide only[qP,↓qa];refine qN (by rfl) (by rfl) zqA qaZ (by rfl) (by rfl) zqD (Jq _) (by rfl) ?_;simp only[QT,Bg];simp+decide only[qV,Nat.reduceAdd];apply hK;clear hK K;have y0:f.e=0\/¬f.e=0:=Classical.em _;rcases y0 with y1|y1;all_goals
   refine awp_rseq [29] (by rfl) fun K hK=>?_;simp+decide only[Xk,XI,Xt,YJ,Yy,WY,↓qh,qsH,↓qo,qf ag46,↓qd,↓qc,↓Qy,y1];first
   |(refine qcm (by rfl) (by rfl) ?_)
   |(refine Xl (by rfl) ?_
     refine qE (by rfl) (by rfl) (qlc w0 32 d _ rv v L l (hv4.mono zqB) (hs.mem.mono zqB) hsL hs.small) fun x5q6 h5q6 hx5q6=>?_;obtain⟨rfl,hs5⟩:=hx5q6;have hs5':AM.Sub h h5q6:=Br zqB hs5)
   simp+decide only[qV,XF,XL,YF,Zf,↓Uc,↓Qd];apply hK;clear hK K;refine qz (b:=_) rfl (fun hb2=>?_) (fun hb2=>?_)
   ·have hcr:qiK d l 4:=by
     refine .inr ⟨hneg,?_⟩;rcases hcase with⟨q,rfl⟩|⟨j,q,rfl⟩
     ·refine .inl ⟨f,q,?_⟩
      by_cases z:f.e=0
      ·have zs:qbL 32 [] l=false:=by first|exact absurd z y1|simpa using hb2
       rw[if_pos z,zs];rfl
      ·rw[if_neg z]
     ·have zs:qbL 32 L l=false:=by first|exact absurd rfl y1|simpa using hb2
      exact .inr ⟨L,j,q,by rw[zs];rfl⟩
    all_goals
     try simp only[qG]at hb2
     refine awp_rseq [2] (by rfl) fun K hK=>?_;simp+decide only[qP,↓qa];apply hK;clear hK K;refine qW ?_;try simp only[XB]
     refine Qb (qA (qC)) ?_;simp+decide only[QE];exact⟨h,by first|exact hs5'|exact zqB,⟨4,rfl,hcr⟩,Vi _⟩
   ·try (cases hb2;done)
    all_goals
     have hcr:qiK d l 0:=by
      refine .inr ⟨hneg,?_⟩;have zs:qbL 32 L l=true:=by simpa using hb2
      rcases hcase with⟨q,rfl⟩|⟨j,q,rfl⟩
      ·exact .inl ⟨f,q,by rw[if_pos y1,zs];rfl⟩
      ·exact .inr ⟨L,j,q,by rw[zs];rfl⟩
    all_goals
     try simp only[qG]at hb2
     refine qF ?_;change Awp _ _ _ _ _ _ _;refine awp_rseq [2] (by rfl) fun K hK=>?_;simp+decide only[qP,↓qa];apply hK;clear hK K;refine qW ?_;refine Qb (qA (qC)) ?_;simp+decide only[QE];exact⟨h,hs5',⟨0,rfl,hcr⟩,Vi _⟩
end Go.Proofs.YtgiadjbiimkbiaaGreatDoor
namespace Go.Stm
open Go.Col (Str FaultC okF)
open Go.Tok
set_option maxRecDepth 100000
def rowsT:List Str:=[[65,67,67,69,80,84,58,70,82,79,77,58],
 [65,68,68,58,84,79,59,71,73,86,73,78,71,58,40,79,78,41,32,83,73,90,69,32,69,82,82,79,82,59,78,79,84,32,40,79,78,41,32,83,73,90,69,32,69,82,82,79,82],
 [65,76,84,69,82,58,84,79,32,80,82,79,67,69,69,68,32,84,79,59,84,79,58],
 [67,65,76,76,58,85,83,73,78,71,58,40,79,78,41,32,69,88,67,69,80,84,73,79,78,59,78,79,84,32,40,79,78,41,32,69,88,67,69,80,84,73,79,78],
 [67,65,78,67,69,76,58,58],
 [67,76,79,83,69,58,58],
 [67,79,77,80,85,84,69,58,61,58,40,79,78,41,32,83,73,90,69,32,69,82,82,79,82,59,78,79,84,32,40,79,78,41,32,83,73,90,69,32,69,82,82,79,82],
 [67,79,78,84,73,78,85,69,58,58],
 [68,69,76,69,84,69,58,82,69,67,79,82,68,58,73,78,86,65,76,73,68,32,40,75,69,89,41,59,78,79,84,32,73,78,86,65,76,73,68,32,40,75,69,89,41],
 [68,73,83,80,76,65,89,58,85,80,79,78,59,91,87,73,84,72,93,32,78,79,32,65,68,86,65,78,67,73,78,71,58],
 [68,73,86,73,68,69,58,73,78,84,79,59,66,89,59,71,73,86,73,78,71,59,82,69,77,65,73,78,68,69,82,58,40,79,78,41,32,83,73,90,69,32,69,82,82,79,82,59,78,79,84,32,40,79,78,41,32,83,73,90,69,32,69,82,82,79,82],
 [69,86,65,76,85,65,84,69,58,58,87,72,69,78,59,87,72,69,78,32,79,84,72,69,82],
 [69,88,73,84,58,80,82,79,71,82,65,77,58],
 [71,69,78,69,82,65,84,69,58,58],
 [71,79,58,84,79,59,68,69,80,69,78,68,73,78,71,32,40,79,78,41,58],
 [71,79,66,65,67,75,58,58],
 [73,70,58,58,84,72,69,78,59,69,76,83,69],
 [73,78,73,84,73,65,76,73,90,69,58,58],
 [73,78,73,84,73,65,84,69,58,58],
 [73,78,83,80,69,67,84,58,58],
 [77,69,82,71,69,58,40,79,78,41,32,65,83,67,69,78,68,73,78,71,32,40,75,69,89,41,59,40,79,78,41,32,68,69,83,67,69,78,68,73,78,71,32,40,75,69,89,41,59,85,83,73,78,71,59,71,73,86,73,78,71,59,79,85,84,80,85,84,32,80,82,79,67,69,68,85,82,69,32,91,73,83,93,58],
 [77,79,86,69,58,84,79,58],
 [77,85,76,84,73,80,76,89,58,66,89,59,71,73,86,73,78,71,58,40,79,78,41,32,83,73,90,69,32,69,82,82,79,82,59,78,79,84,32,40,79,78,41,32,83,73,90,69,32,69,82,82,79,82],
 [79,80,69,78,58,73,78,80,85,84,59,79,85,84,80,85,84,59,73,45,79,59,69,88,84,69,78,68,58],
 [80,69,82,70,79,82,77,58,84,72,82,85,59,84,72,82,79,85,71,72,59,84,73,77,69,83,59,91,87,73,84,72,93,32,84,69,83,84,32,66,69,70,79,82,69,59,91,87,73,84,72,93,32,84,69,83,84,32,65,70,84,69,82,59,85,78,84,73,76,59,86,65,82,89,73,78,71,59,65,70,84,69,82,58],
 [82,69,65,68,58,78,69,88,84,32,91,82,69,67,79,82,68,93,59,82,69,67,79,82,68,59,73,78,84,79,59,75,69,89,32,91,73,83,93,58,40,65,84,41,32,69,78,68,59,78,79,84,32,40,65,84,41,32,69,78,68,59,73,78,86,65,76,73,68,32,40,75,69,89,41,59,78,79,84,32,73,78,86,65,76,73,68,32,40,75,69,89,41],
 [82,69,76,69,65,83,69,58,70,82,79,77,58],
 [82,69,84,85,82,78,58,82,69,67,79,82,68,59,73,78,84,79,58,40,65,84,41,32,69,78,68,59,78,79,84,32,40,65,84,41,32,69,78,68],
 [82,69,87,82,73,84,69,58,70,82,79,77,58,73,78,86,65,76,73,68,32,40,75,69,89,41,59,78,79,84,32,73,78,86,65,76,73,68,32,40,75,69,89,41],
 [83,69,65,82,67,72,58,86,65,82,89,73,78,71,58,40,65,84,41,32,69,78,68,59,78,79,84,32,40,65,84,41,32,69,78,68,59,87,72,69,78],
 [83,69,84,58,84,79,58],
 [83,79,82,84,58,40,79,78,41,32,65,83,67,69,78,68,73,78,71,32,40,75,69,89,41,59,40,79,78,41,32,68,69,83,67,69,78,68,73,78,71,32,40,75,69,89,41,59,85,83,73,78,71,59,71,73,86,73,78,71,59,79,85,84,80,85,84,32,80,82,79,67,69,68,85,82,69,32,91,73,83,93,59,73,78,80,85,84,32,80,82,79,67,69,68,85,82,69,32,91,73,83,93,58],
 [83,84,65,82,84,58,75,69,89,32,91,73,83,93,58,73,78,86,65,76,73,68,32,40,75,69,89,41,59,78,79,84,32,73,78,86,65,76,73,68,32,40,75,69,89,41],
 [83,84,79,80,58,82,85,78,58],
 [83,84,82,73,78,71,58,58,40,79,78,41,32,79,86,69,82,70,76,79,87,59,78,79,84,32,40,79,78,41,32,79,86,69,82,70,76,79,87],
 [83,85,66,84,82,65,67,84,58,70,82,79,77,59,71,73,86,73,78,71,58,40,79,78,41,32,83,73,90,69,32,69,82,82,79,82,59,78,79,84,32,40,79,78,41,32,83,73,90,69,32,69,82,82,79,82],
 [84,69,82,77,73,78,65,84,69,58,58],
 [85,78,83,84,82,73,78,71,58,58,40,79,78,41,32,79,86,69,82,70,76,79,87,59,78,79,84,32,40,79,78,41,32,79,86,69,82,70,76,79,87],
 [87,82,73,84,69,58,70,82,79,77,59,65,70,84,69,82,32,40,65,68,86,65,78,67,73,78,71,41,59,66,69,70,79,82,69,32,40,65,68,86,65,78,67,73,78,71,41,58,73,78,86,65,76,73,68,32,40,75,69,89,41,59,78,79,84,32,73,78,86,65,76,73,68,32,40,75,69,89,41]]
theorem qfC:rowsT.length=39:=by decide
def opsT:List Str:=[[65],[66],[67,45,49],[49],[34,81,34]]
def Yb(ops:List UInt8):Str:=((ops.take 4).map fun o=>32::opsT.getD (o.toNat%5) []).flatten
def qoD(w:Str)(bits:UInt8)(all:Bool)(i:Nat):Bool:=(decide (w.getD 0 0=91) && !all)||((decide (w.getD 0 0=91)||decide (w.getD 0 0=40)) && (all && decide (bits.toNat / 2^(i%8)%2=1)))
def qaz(bits:UInt8)(all:Bool):Nat->List Str->Str->Str
 |_,[],out=>out
 |i,w::ws,out=>qaz bits all (i+1) ws (if qoD w bits all i=true then out else out++[32]++Lib.trimS w qfa)
def qaa(form:Str)(bits:UInt8)(all:Bool):Str:=Lib.trimSpace (qaz bits all 0 (Lib.fields form) [])
def qcS(form:Str):Str:=if form=qrl then qeP else if form=TOPTOw then TOw else if form=RECORDw then[]else qaa form 0 false
def qam(s:Str):List Str:=if s=[]then[]else Xr 59 [] s
structure YC where
 form:UInt8
 ops:List UInt8
 short:UInt8
inductive XC where
 |mk (verb:UInt8) (p:List YC) (b:List (UInt8×List UInt8×List XC×UInt8)) (cut:Bool)
abbrev ZC:=UInt8×List UInt8×List XC×UInt8
def XC.verb:XC->UInt8| .mk v _ _ _=>v
def XC.p:XC->List YC| .mk _ p _ _=>p
def XC.b:XC->List ZC| .mk _ _ b _=>b
def XC.cut:XC->Bool| .mk _ _ _ c=>c
def noY:YC:=⟨0,[],0⟩
def noZ:ZC:=(0,[],[],0)
structure BuC where
 text:Str
 cur:Cur
def qds(b:BuC)(w:Str):BuC:={b with text:=b.text++[32]++w}
def qeE(ps:List PhrC)(ts:List TokC):List PhrC:=ps.dropLast++[⟨(ps.getLastD ⟨[],[]⟩).words,(ps.getLastD ⟨[],[]⟩).toks++ts⟩]
def Zg(forms:List Str)(b:BuC)(y:YC):BuC:=
 let form:=forms.getD (y.form.toNat%forms.length) []
 let b':=qds b (qaa form y.short true++Yb y.ops)
 if qcS form=[]then{b' with cur:={b'.cur with phrases:=qeE b'.cur.phrases (Qz (Yb y.ops))}}
 else{b' with cur:={b'.cur with phrases:=b'.cur.phrases++[⟨qcS form,Qz (Yb y.ops)⟩]}}
def UK(x:XC)(verb:Str):Str:=
 let first:=if x.p=[]then[]else Yb (x.p.getD 0 noY).ops
 if verb=IFv/\first=[]then[32,65]else first
def YZ(x:XC)(b:BuC)(forms:List Str):BuC:=
 let b1:=qds b (UK x b.cur.verb)
 let b2:={b1 with cur:={b1.cur with phrases:=[⟨[],Qz (UK x b.cur.verb)⟩]}}
 if forms=[]then b2 else((x.p.take 5).drop 1).foldl (Zg forms) b2
def qjv(b:BuC)(w:Str):Bool:=b.cur.phrases.any fun p=>decide (p.words=w)
def qmz(verb:Str):Bool:=decide (verb=IFv)||(decide (verb=Ym)||decide (verb=SEARCHv))
def semiW(n:Str):Str:=59::(n++[59])
def qjc(verb:Str)(forms:List Str)(z:ZC)(i:Nat):Str:=
 if qmz verb=true/\i=0 then(if verb=IFv then Yh else XT)
 else if forms=[]then[]else forms.getD (z.1.toNat%forms.length) []
def qmk(seen form name:Str):Bool:=decide (form=[])||((!decide (name=XT) && Lib.contains seen (semiW name))||Lib.contains seen (semiW qgI))
def qoZ(name:Str)(z:ZC):Str:=if name=XT then(if Yb z.2.1=[]then[32,49]else Yb z.2.1)else[]
def qjZ(form name:Str)(z:ZC):Str:=if name=Yh/\z.2.2.2.toNat%2=1 then[]else qaa form z.2.2.2 true
section
variable (B:List XC->Nat->Bool->Str×List StC)
def qhF(b:BuC)(name ops:Str)(l:List XC)(depth:Nat)(last:Bool):BuC:=
 {text:=b.text++ops++(B l (depth+1) last).1,cur:={b.cur with bodies:=b.cur.bodies++[(name,Qz ops,(B l (depth+1) last).2)]}}
def ZY(x:XC)(forms:List Str)(depth:Nat)(last:Bool)(s:BuC×Str)(i:Nat):BuC×Str:=
 let z:=x.b.getD i noZ
 let form:=qjc s.1.cur.verb forms z i
 let name:=qcS form
 if qmk s.2 form name=true then s
 else(qhF B (qds s.1 (qjZ form name z)) name (qoZ name z) z.2.2.1 depth (last && (decide (i=3)||decide (x.b.length<=i+1))),s.2++[59]++name++[59])
def WP(x:XC)(b:BuC)(forms:List Str)(depth:Nat)(last:Bool):BuC:=
 let first:=(firstT b.cur.phrases).length
 if b.cur.verb=Zh then
  if first=0\/(first=1/\qjv b qft=true/\qjv b qeP=false)then qhF B b [] [] (x.b.getD 0 noZ).2.2.1 depth false else b
 else((KP (min 4 (max x.b.length (if qmz b.cur.verb=true then 1 else 0)))).foldl (ZY B x forms depth last) (b,[])).1
def rowOf(x:XC)(depth:Nat):List Str:=Xr 58 [] (rowsT.getD (if 4<depth then 21 else x.verb.toNat%39) [])
def qfO(b:BuC)(verb:Str)(cut end_ last:Bool):Bool:=
 Lib.contains qdK ([32]++verb++[32]) && ((!decide (b.cur.bodies=[]) && (!last||(!cut||decide (verb=Zh))))||(decide (b.cur.bodies=[]) && ((!last && end_)||cut)))
def UV(x:XC)(depth:Nat)(end_ last:Bool):BuC:=
 let row:=rowOf x depth
 let verb:=row.getD 0 []
 let b0:BuC:=⟨32::verb,⟨verb,0,0,[],[]⟩⟩
 let b2:=WP B x (YZ x b0 (qam (row.getD 1 []))) (qam (row.getD 2 [])) depth last
 if qfO b2 verb x.cut end_ last=true then qds b2 (ENDw++verb)else b2
def Ub(l:List XC)(depth:Nat)(last:Bool):Nat->Str×List StC->Str×List StC
 |0,r=>r
 |n+1,r=>
  let i:=r.2.length
  if i<l.length/\i<4 then
   let e:=decide (i+1=l.length)||decide (i=3)
   let b:=UV B (l.getD i (.mk 0 [] [] false)) depth e (last && e)
   Ub l depth last n (r.1++b.text,r.2++[b.cur.done])
  else r
end
def contC:StC:= .mk [67,79,78,84,73,78,85,69] 0 0 [⟨[],[]⟩] []
def XY:Nat->List XC->Nat->Bool->Str×List StC
 |0,_,_,_=>([],[])
 |f+1,l,depth,last=>
  let r:=Ub (XY f) l depth last 4 ([],[])
  if r.2=[]then([32,67,79,78,84,73,78,85,69],[contC])else r
def spoilT:List Str:=[[73,70,32,65,32,61,32,66,32,65,68,68,32,49,32,84,79,32,65],
 [56],
 [65,32,77,79,86,69,32,49,32,84,79,32,66,32,46],
 [49],
 [77,79,86,69,32,65,32,84,79,32,66,32,69,78,68,45,73,70,32,46],
 [53],
 [73,70,32,65,32,61,32,66,32,46],
 [49],
 [73,70,32,65,68,68,32,49,32,84,79,32,65,32,46],
 [49],
 [73,70,32,65,32,69,76,83,69,32,65,68,68,32,49,32,84,79,32,65,32,46],
 [49],
 [73,70,32,65,32,84,72,69,78,32,69,76,83,69,32,65,68,68,32,49,32,84,79,32,65,32,46],
 [51],
 [73,70,32,65,32,65,68,68,32,49,32,84,79,32,66,32,69,76,83,69,32,65,68,68,32,50,32,84,79,32,66,32,69,76,83,69,32,65,68,68,32,51,32,84,79,32,66,32,46],
 [49,50],
 [73,70,32,65,32,65,68,68,32,49,32,84,79,32,66,32,69,78,68,45,73,70,32,69,76,83,69,32,65,68,68,32,49,32,84,79,32,66,32,46],
 [56],
 [80,69,82,70,79,82,77,32,65,68,68,32,49,32,84,79,32,65,32,46],
 [49],
 [80,69,82,70,79,82,77,32,46],
 [49],
 [80,69,82,70,79,82,77,32,53,32,84,73,77,69,83,32,46],
 [49],
 [80,69,82,70,79,82,77,32,65,32,84,73,77,69,83,32,65,68,68,32,49,32,84,79,32,66,32,46],
 [49],
 [80,69,82,70,79,82,77,32,80,32,53,32,84,73,77,69,83,32,65,68,68,32,49,32,84,79,32,66,32,69,78,68,45,80,69,82,70,79,82,77,32,46],
 [57],
 [69,86,65,76,85,65,84,69,32,65,32,46],
 [49],
 [69,86,65,76,85,65,84,69,32,65,32,87,72,69,78,32,79,84,72,69,82,32,65,68,68,32,49,32,84,79,32,66,32,46],
 [49],
 [69,86,65,76,85,65,84,69,32,65,32,87,72,69,78,32,49,32,46],
 [51],
 [69,86,65,76,85,65,84,69,32,65,32,87,72,69,78,32,65,68,68,32,49,32,84,79,32,66,32,46],
 [51],
 [69,86,65,76,85,65,84,69,32,65,32,87,72,69,78,32,79,84,72,69,82,32,65,68,68,32,49,32,84,79,32,65,32,87,72,69,78,32,49,32,65,68,68,32,49,32,84,79,32,65,32,46],
 [57],
 [69,86,65,76,85,65,84,69,32,65,32,87,72,69,78,32,49,32,87,72,69,78,32,79,84,72,69,82,32,46],
 [53],
 [82,69,65,68,32,70,32,65,84,32,69,78,68,32,46],
 [51],
 [82,69,65,68,32,70,32,65,84,32,69,78,68,32,77,79,86,69,32,65,32,84,79,32,66,32,65,84,32,69,78,68,32,77,79,86,69,32,65,32,84,79,32,66,32,46],
 [57],
 [73,70,32,65,32,65,68,68,32,49,32,84,79,32,66,32,69,78,68,45,65,68,68,32,67,32,46],
 [56],
 [65,68,68,32,49,32,84,79,32,65,32,79,78,32,83,73,90,69,32,69,82,82,79,82,32,67,79,78,84,73,78,85,69,32,78,79,84,32,83,73,90,69,32,69,82,82,79,82,32,46],
 [57],
 [83,69,65,82,67,72,32,84,32,65,84,32,69,78,68,32,67,79,78,84,73,78,85,69,32,46],
 [49],
 [69,78,68,45,73,70,32,46],
 [49],
 [77,79,86,69,32,65,32,84,79,32,66,32,46,32,69,76,83,69,32,46],
 [54],
 [67,65,76,76,32,65,32,69,88,67,69,80,84,73,79,78,32,69,88,67,69,80,84,73,79,78,32,46],
 [51],
 [73,70,32,65,32,84,72,69,78,32,67,79,78,84,73,78,85,69,32,84,72,69,78,32,67,79,78,84,73,78,85,69,32,46],
 [53]]
def goodT:Str:=[65,68,68,32,65,32,84,79,32,66,32,46,32]
def qeM:Nat->Str
 |0=>[]
 |n+1=>qeM n++goodT
def numE(s:Str):Int:=s.foldl (fun n c=>10*n+(c.toNat:Int)-48) 0
def badAt(s:Str)(ln:Int):Bool:=match qaE qZ (Qz s) Qg 300 with
 |some (.bad f)=>decide (f=⟨4,ln,8⟩)
 |_=>false
def qjF(k n:Nat):Bool:=badAt (qeM n++spoilT.getD (2*k) []) (5*n+numE (spoilT.getD (2*k+1) []))
def qcz(a b:Nat):Bool:=(Js a b).all fun k=>(KP 5).all fun n=>qjF k n
theorem spoil0:qcz 0 3=true:=by decide+kernel
theorem spoil3:qcz 3 3=true:=by decide+kernel
theorem spoil6:qcz 6 3=true:=by decide+kernel
theorem spoil9:qcz 9 3=true:=by decide+kernel
theorem spoil12:qcz 12 3=true:=by decide+kernel
theorem spoil15:qcz 15 3=true:=by decide+kernel
theorem spoil18:qcz 18 3=true:=by decide+kernel
theorem spoil21:qcz 21 3=true:=by decide+kernel
theorem spoil24:qcz 24 3=true:=by decide+kernel
theorem spoil27:qcz 27 2=true:=by decide+kernel
theorem spoil_law{k n:Nat}(hk:k<29)(hn:n<5):qjF k n=true:=by
 have key:∀a b,qcz a b=true->a<=k->k<a+b->qjF k n=true:=fun a b h h1 h2=>
  Jz.1 (Jz.1 h k (List.mem_range'_1.2 ⟨h1,h2⟩)) n (JA.2 hn)
 by_cases h0:k<3
 ·exact key 0 3 spoil0 (by omega) (by omega)
 by_cases h3:k<6
 ·exact key 3 3 spoil3 (by omega) (by omega)
 by_cases h6:k<9
 ·exact key 6 3 spoil6 (by omega) (by omega)
 by_cases h9:k<12
 ·exact key 9 3 spoil9 (by omega) (by omega)
 by_cases h12:k<15
 ·exact key 12 3 spoil12 (by omega) (by omega)
 by_cases h15:k<18
 ·exact key 15 3 spoil15 (by omega) (by omega)
 by_cases h18:k<21
 ·exact key 18 3 spoil18 (by omega) (by omega)
 by_cases h21:k<24
 ·exact key 21 3 spoil21 (by omega) (by omega)
 by_cases h24:k<27
 ·exact key 24 3 spoil24 (by omega) (by omega)
 by_cases h27:k<30
 ·exact key 27 2 spoil27 (by omega) (by omega)
 omega
end Go.Stm
namespace Go.Stm
open Go.Col (Str FaultC okF)
open Go.Tok
def qhU:Nat->List StC->Bool
 |0,l=>decide (l.length<=1000000)
 |m+1,l=>decide (l.length<=1000000) && l.all fun s=>decide (s.verb.length<=1000000) && (decide (s.bodies.length<=1000000) && (decide (s.phrases.length<=1000000) && ((s.phrases.all fun p=>decide (p.words.length<=1000000) && (decide (p.toks.length<=1000000) && p.toks.all fun t=>decide (t.text.length<=1000000))) &&
  s.bodies.all fun b=>decide (b.1.length<=1000000) && (decide (b.2.1.length<=1000000) && ((b.2.1.all fun t=>decide (t.text.length<=1000000)) && qhU m b.2.2)))))
def qkJ(s:Str)(n:Nat)(want:Str):Bool:=match qaE qZ (Qz s) Qg 300 with
 |some (.ok L _)=>decide (L.length=n) && (decide (Lib.join (Zp 32 L) [32]=want) && (qhU 32 L && (decide ((Zp 32 L).length<=1000000) && decide (Zm 32 L<=1000000))))
 |_=>false
def lvSa:Str:=[65,68,68,32,65,32,66,32,84,79,32,67,32,83,73,90,69,32,69,82,82,79,82,32,77,79,86,69,32,49,32,84,79,32,68,32,69,78,68,45,65,68,68,32,77,79,86,69,32,50,32,84,79,32,69,32,46]
def lvWa:Str:=[123,65,68,68,32,60,62,32,49,65,32,49,66,32,60,84,79,62,32,49,67,32,91,79,78,32,83,73,90,69,32,69,82,82,79,82,93,32,123,77,79,86,69,32,60,62,32,50,49,32,60,84,79,62,32,49,68,32,125,32,125,32,123,77,79,86,69,32,60,62,32,50,50,32,60,84,79,62,32,49,69,32,125]
theorem lv_a:qkJ lvSa 2 lvWa=true:=by decide+kernel
def lvSb:Str:=[73,70,32,65,32,62,32,49,32,73,70,32,66,32,61,32,50,32,65,68,68,32,49,32,84,79,32,65,32,69,76,83,69,32,65,68,68,32,50,32,84,79,32,65,32,46,32,77,79,86,69,32,65,32,84,79,32,66,32,46]
def lvWb:Str:=[123,73,70,32,60,62,32,49,65,32,53,62,32,50,49,32,91,84,72,69,78,93,32,123,73,70,32,60,62,32,49,66,32,53,61,32,50,50,32,91,84,72,69,78,93,32,123,65,68,68,32,60,62,32,50,49,32,60,84,79,62,32,49,65,32,125,32,91,69,76,83,69,93,32,123,65,68,68,32,60,62,32,50,50,32,60,84,79,62,32,49,65,32,125,32,125,32,125,32,123,77,79,86,69,32,60,62,32,49,65,32,60,84,79,62,32,49,66,32,125]
theorem lv_b:qkJ lvSb 2 lvWb=true:=by decide+kernel
def lvSc:Str:=[80,69,82,70,79,82,77,32,78,32,84,73,77,69,83,32,65,68,68,32,49,32,84,79,32,65,32,69,78,68,45,80,69,82,70,79,82,77,32,46,32,80,69,82,70,79,82,77,32,80,32,78,32,84,73,77,69,83,32,46]
def lvWc:Str:=[123,80,69,82,70,79,82,77,32,60,62,32,49,78,32,60,84,73,77,69,83,62,32,91,93,32,123,65,68,68,32,60,62,32,50,49,32,60,84,79,62,32,49,65,32,125,32,125,32,123,80,69,82,70,79,82,77,32,60,62,32,49,80,32,49,78,32,60,84,73,77,69,83,62,32,125]
theorem lv_c:qkJ lvSc 2 lvWc=true:=by decide+kernel
def lvSd:Str:=[69,86,65,76,85,65,84,69,32,65,32,87,72,69,78,32,49,32,87,72,69,78,32,50,32,67,79,78,84,73,78,85,69,32,87,72,69,78,32,79,84,72,69,82,32,83,84,79,80,32,82,85,78,32,69,78,68,45,69,86,65,76,85,65,84,69,32,46]
def lvWd:Str:=[123,69,86,65,76,85,65,84,69,32,60,62,32,49,65,32,91,87,72,69,78,93,32,50,49,32,91,87,72,69,78,93,32,50,50,32,123,67,79,78,84,73,78,85,69,32,60,62,32,125,32,91,87,72,69,78,32,79,84,72,69,82,93,32,123,83,84,79,80,32,60,62,32,60,82,85,78,62,32,125,32,125]
theorem lv_d:qkJ lvSd 1 lvWd=true:=by decide+kernel
def lvSr:Str:=[82,69,65,68,32,70,32,78,69,88,84,32,82,69,67,79,82,68,32,73,78,84,79,32,88,32,65,84,32,69,78,68,32,67,79,78,84,73,78,85,69,32,46]
def lvWr:Str:=[123,82,69,65,68,32,60,62,32,49,70,32,60,78,69,88,84,62,32,60,73,78,84,79,62,32,49,88,32,91,65,84,32,69,78,68,93,32,123,67,79,78,84,73,78,85,69,32,60,62,32,125,32,125]
theorem lv_r:qkJ lvSr 1 lvWr=true:=by decide+kernel
def fiveB(s:Str):Bool:=match qaE qZ (Qz s) Qg 300 with
 |some (.ok L _)=>decide ((if YL 32 L=true then 0 else Zm 32 L)=5)
 |_=>false
theorem lv_five:fiveB lvSb=true:=by decide+kernel
def lvT:List Str:=[[65,68,68,32,49,32,84,79,32,65,32,69,78,68,45,73,70,32,46],
 [73,70,32,65,32,61,32,66,32,46],
 [80,69,82,70,79,82,77,32,65,68,68,32,49,32,84,79,32,65,32,46],
 [53,32,84,79,32,65,32,46]]
def lvL:List Int:=[5,1,1,1]
theorem lv_bad:((KP 4).all fun n=>badAt (lvT.getD n []) (lvL.getD n 0) && (decide ((lvT.getD n []).length<=100) && Go.Proofs.YtgiadjbiimkbiaaGreatDoor.asciiB (lvT.getD n [])))=true:=by decide+kernel
end Go.Stm
namespace Go.Proofs.YtgiadjbiimkbiaaGreatDoor
open Go.AM
open Go.Proofs
open Go.Col (Str FaultC okF)
open Go.Tok (TokC)
open Go.Stm
open Go.RowKit (Below)
set_option maxRecDepth 100000
theorem Ug:∀{m:Nat} {l:List StC},qhU m l=true->SmallS m l/\TxS m l
 |0,l,h=>⟨of_decide_eq_true (p:=l.length<=1000000) h,trivial⟩
 |m+1,l,h=>by
  simp only[Us,Jz,qhU]at h;obtain⟨h0,h1⟩:=h;exact⟨⟨h0,fun s hs=>⟨(h1 s hs).2.1,(h1 s hs).2.2.1,fun p hp=>((h1 s hs).2.2.2.1 p hp).2.1,fun b hb=>⟨((h1 s hs).2.2.2.2 b hb).2.1,(Ug ((h1 s hs).2.2.2.2 b hb).2.2.2).1⟩⟩⟩,
   fun s hs=>⟨(h1 s hs).1,fun p hp=>⟨((h1 s hs).2.2.2.1 p hp).1,((h1 s hs).2.2.2.1 p hp).2.2⟩,fun b hb=>⟨((h1 s hs).2.2.2.2 b hb).1,((h1 s hs).2.2.2.2 b hb).2.2.1,(Ug ((h1 s hs).2.2.2.2 b hb).2.2.2).2⟩⟩⟩
theorem qgY{l:List TokC}{r r':Rs (List StC)}{f:Nat}(h:qaE qZ l Qg f=some r)(h':ParseR qZ l Qg r'):r'=r:=ParseR.one h' ⟨f,h⟩
theorem qcF{w0:World}{s want:Str}{n:Nat}{h h':AHeap}{r:AVal}(hb:qkJ s n want=true)(ho:qhM w0 (Qz s) h r h'):
 Sub h h'/\∃L rv,r= .tuple [rv,faultV okF]/\StsV w0 32 h' rv L/\L.length=n/\Lib.join (Zp 32 L) [32]=want/\SmallS 32 L/\TxS 32 L/\(Zp 32 L).length<=1000000/\Zm 32 L<=1000000/\∃j,qaE qZ (Qz s) Qg 300=some (.ok L j):=by
 obtain⟨hs,ho⟩:=ho;unfold qkJ at hb;cases hp:qaE qZ (Qz s) Qg 300 with
 |none=>rw[hp]at hb;cases hb
 |some x=>
  rw[hp]at hb;cases x with
  |bad f=>cases hb
  |ok L j=>
   simp only[Us]at hb;obtain⟨b1,b2,b3,b4,b5⟩:=hb;rcases ho with⟨f,q,-⟩|⟨L',j',rv,q,e,hv⟩
   ·cases qgY hp q
   ·cases qgY hp q
    exact⟨hs,L,rv,e,hv,b1,b2,(Ug b3).1,(Ug b3).2,b4,b5,j,rfl⟩
theorem qmp{w0:World}{s:Str}{ln:Int}{h h':AHeap}{r:AVal}(hb:badAt s ln=true)(ho:qhM w0 (Qz s) h r h'):Sub h h'/\r= .tuple [.nilSlice,faultV ⟨4,ln,8⟩]:=by
 obtain⟨hs,ho⟩:=ho;unfold badAt at hb;cases hp:qaE qZ (Qz s) Qg 300 with
 |none=>rw[hp]at hb;cases hb
 |some x=>
  rw[hp]at hb;cases x with
  |ok L j=>cases hb
  |bad f=>
   have hb:=of_decide_eq_true hb;subst hb;rcases ho with⟨f,q,e⟩|⟨L',j',rv,q,-⟩
   ·cases qgY hp q
    exact⟨hs,e⟩
   ·cases qgY hp q
theorem lv_count{L:List StC}{j:Nat}(h:qaE qZ (Qz lvSb) Qg 300=some (.ok L j)):qbt 32 L=5:=by
 have:=lv_five;unfold fiveB at this;rw[h]at this;exact of_decide_eq_true this
theorem WT(w0:World)(hm:MaxL w0)(ha:Asp w0)(h:AHeap)(s:Str)(hl:s.length<=999999)(has:asciiB s=true):
 ACall Tryz.prog w0 16 [.str s] h (fun r h'=>IsL w0 h' 5 r ((Qz s).map Xg)/\Sub h h'):=
 (qdO w0 hm ha h s hl has).mono fun r h' ⟨p,a,_,b⟩=>⟨a.isL (b.in_ (i:=1) rfl),b.in_ (i:=0) rfl⟩
theorem qcT(w0:World)(h:AHeap)(v:AVal)(l:List StC)(hs:StsV w0 32 h v l)(hsm:SmallS 32 l)(htx:TxS 32 l)(hT:(Zp 32 l).length<=1000000):
 ACall Tryz.prog w0 20 [v] h (fun r h'=>IsStrs w0 h' r (Zp 32 l)/\Sub h h'):=
 (qmO w0 32 h v l hs hsm htx (by omega)).mono fun r h' ⟨p,a,_,b⟩=>⟨a.isL (b.in_ (i:=1) rfl),b.in_ (i:=0) rfl⟩
set_option maxHeartbeats 32000000 in
theorem qdN(w0:World)(hm:MaxL w0)(ha:Asp w0)(h:AHeap):ACall Tryz.prog w0 13 [] h (fun r h'=>r= .bool true/\Sub h h'):=by
 refine qR (n:=141) (rs:=[.tmp 0]) Tryz.func13 rfl rfl rfl rfl (VY rfl) ?_;simp only[qU];refine awp_rseq [] (by rfl) fun K hK=>?_;simp+decide only[Zj,↓qa];apply hK;clear hK K;refine awp_rseq [1,2] (by rfl) fun K hK=>?_;refine qE (by rfl) (by rfl) (WT w0 hm ha _ lvSa (by decide) (by decide)) fun x1q0 h1q0 hx1q0=>?_;obtain⟨ht1,hsT1⟩:=hx1q0;have hs_h1q0:Sub h h1q0:=Br zqC hsT1;have hr_h1q0:=hs_h1q0;refine qE (by rfl) (by rfl) (UC w0 hm ha (Qz lvSa) (YU (by decide)) (ZT (by decide)) _ x1q0 ht1) fun x1q1 h1q1 hx1q1=>?_;obtain⟨hsP1,La,rva,e1,hva,hna,hja,hsma,htxa,hsla,hcta,jja,hppa⟩:=qcF lv_a hx1q1;subst e1;have hvla:=hva.shape.1;have hvna:=UW hva;rw[hna]at hvna;have hs_h1q1:Sub h h1q1:=Br zqC hsP1;have hr_h1q1:Sub h1q0 h1q1:=Br zqC hsP1;simp+decide only[XW,QZ,QF,QR,Xe,↓qc,↓Xa,Nat.reduceAdd,faultV];refine Qp qgl (cs:=[.int .i64 0, .int .i64 0, .int .i64 0]) (by rfl) fun k1q5 hk1q5=>?_;have hn_1q5:h1q1 k1q5=none:=by first|assumption|(simp only[Bd]at hk1q5;simp only[hk1q5])
 have hf_1q5:h k1q5=none:=Be hs_h1q1 hn_1q5;simp+decide only[Zj,↓qa];refine qN (by rfl) (by rfl) zqA qaZ (by rfl) (by rfl) zqD (Jq _) (by rfl) ?_;simp only[QT,Bg];simp+decide only[XK,QZ,Nat.reduceAdd];apply hK;clear hK K;refine awp_rseq [1,2,3,4] (by rfl) fun K hK=>?_;refine qE (by rfl) (by rfl) (WT w0 hm ha _ lvSb (by decide) (by decide)) fun x2q0 h2q0 hx2q0=>?_;obtain⟨ht2,hsT2⟩:=hx2q0;have hs_h2q0:Sub h h2q0:=Br zqC hsT2;have hr_h2q0:Sub h1q1 h2q0:=Br zqC hsT2;have eb_1q5:=hsT2 k1q5 _ zqA;refine qE (by rfl) (by rfl) (UC w0 hm ha (Qz lvSb) (YU (by decide)) (ZT (by decide)) _ x2q0 ht2) fun x2q1 h2q1 hx2q1=>?_;obtain⟨hsP2,Lb,rvb,e2,hvb,hnb,hjb,hsmb,htxb,hslb,hctb,jjb,hppb⟩:=qcF lv_b hx2q1;subst e2;have hvlb:=hvb.shape.1;have hvnb:=UW hvb;rw[hnb]at hvnb;have hs_h2q1:Sub h h2q1:=Br zqC hsP2;have hr_h2q1:Sub h2q0 h2q1:=Br zqC hsP2;have eb_1q5:=hsP2 k1q5 _ zqA;simp+decide only[XW,QZ,QF,QR,Xe,↓qc,↓Xa,Nat.reduceAdd,faultV];refine Qp qgl (cs:=[.int .i64 0, .int .i64 0, .int .i64 0]) (by rfl) fun k2q5 hk2q5=>?_;have hn_2q5:h2q1 k2q5=none:=by first|assumption|(simp only[Bd]at hk2q5;simp only[hk2q5])
 have hf_2q5:h k2q5=none:=Be hs_h2q1 hn_2q5;have ne_2q5_1q5:k2q5≠k1q5:=Bf hn_2q5 eb_1q5;simp+decide only[Zj,↓qa];refine qN (by rfl) (by rfl) zqA qaZ (by rfl) (by rfl) zqD (Jq _) (by rfl) ?_;simp only[QT,Bg];simp+decide only[XK,QZ,Nat.reduceAdd];apply hK;clear hK K;refine awp_rseq [1,2,3,4,5,6] (by rfl) fun K hK=>?_;refine qE (by rfl) (by rfl) (WT w0 hm ha _ lvSc (by decide) (by decide)) fun x3q0 h3q0 hx3q0=>?_;obtain⟨ht3,hsT3⟩:=hx3q0;have hs_h3q0:Sub h h3q0:=Br zqC hsT3;have hr_h3q0:Sub h2q1 h3q0:=Br zqC hsT3;have eb_2q5:=hsT3 k2q5 _ zqA;have eb_1q5:=hsT3 k1q5 _ zqA;refine qE (by rfl) (by rfl) (UC w0 hm ha (Qz lvSc) (YU (by decide)) (ZT (by decide)) _ x3q0 ht3) fun x3q1 h3q1 hx3q1=>?_;obtain⟨hsP3,Lc,rvc,e3,hvc,hnc,hjc,hsmc,htxc,hslc,hctc,jjc,hppc⟩:=qcF lv_c hx3q1;subst e3;have hvlc:=hvc.shape.1;have hvnc:=UW hvc;rw[hnc]at hvnc;have hs_h3q1:Sub h h3q1:=Br zqC hsP3;have hr_h3q1:Sub h3q0 h3q1:=Br zqC hsP3;have eb_1q5:=hsP3 k1q5 _ zqA;have eb_2q5:=hsP3 k2q5 _ zqA;simp+decide only[XW,QZ,QF,QR,Xe,↓qc,↓Xa,Nat.reduceAdd,faultV];refine Qp qgl (cs:=[.int .i64 0, .int .i64 0, .int .i64 0]) (by rfl) fun k3q5 hk3q5=>?_;have hn_3q5:h3q1 k3q5=none:=by first|assumption|(simp only[Bd]at hk3q5;simp only[hk3q5])
 have hf_3q5:h k3q5=none:=Be hs_h3q1 hn_3q5;have ne_3q5_1q5:k3q5≠k1q5:=Bf hn_3q5 eb_1q5;have ne_3q5_2q5:k3q5≠k2q5:=Bf hn_3q5 eb_2q5;simp+decide only[Zj,↓qa];refine qN (by rfl) (by rfl) zqA qaZ (by rfl) (by rfl) zqD (Jq _) (by rfl) ?_;simp only[QT,Bg];simp+decide only[XK,QZ,Nat.reduceAdd];apply hK;clear hK K;refine awp_rseq [1,2,3,4,5,6,7,8] (by rfl) fun K hK=>?_;refine qE (by rfl) (by rfl) (WT w0 hm ha _ lvSd (by decide) (by decide)) fun x4q0 h4q0 hx4q0=>?_;obtain⟨ht4,hsT4⟩:=hx4q0;have hs_h4q0:Sub h h4q0:=Br zqC hsT4;have hr_h4q0:Sub h3q1 h4q0:=Br zqC hsT4;have eb_3q5:=hsT4 k3q5 _ zqA;have eb_1q5:=hsT4 k1q5 _ zqA;have eb_2q5:=hsT4 k2q5 _ zqA;refine qE (by rfl) (by rfl) (UC w0 hm ha (Qz lvSd) (YU (by decide)) (ZT (by decide)) _ x4q0 ht4) fun x4q1 h4q1 hx4q1=>?_;obtain⟨hsP4,Ld,rvd,e4,hvd,hnd,hjd,hsmd,htxd,hsld,hctd,jjd,hppd⟩:=qcF lv_d hx4q1;subst e4;have hvld:=hvd.shape.1;have hvnd:=UW hvd;rw[hnd]at hvnd;have hs_h4q1:Sub h h4q1:=Br zqC hsP4;have hr_h4q1:Sub h4q0 h4q1:=Br zqC hsP4;have eb_1q5:=hsP4 k1q5 _ zqA;have eb_2q5:=hsP4 k2q5 _ zqA;have eb_3q5:=hsP4 k3q5 _ zqA;simp+decide only[XW,QZ,QF,QR,Xe,↓qc,↓Xa,Nat.reduceAdd,faultV];refine Qp qgl (cs:=[.int .i64 0, .int .i64 0, .int .i64 0]) (by rfl) fun k4q5 hk4q5=>?_;have hn_4q5:h4q1 k4q5=none:=by first|assumption|(simp only[Bd]at hk4q5;simp only[hk4q5])
 have hf_4q5:h k4q5=none:=Be hs_h4q1 hn_4q5;have ne_4q5_1q5:k4q5≠k1q5:=Bf hn_4q5 eb_1q5;have ne_4q5_2q5:k4q5≠k2q5:=Bf hn_4q5 eb_2q5;have ne_4q5_3q5:k4q5≠k3q5:=Bf hn_4q5 eb_3q5;simp+decide only[Zj,↓qa];refine qN (by rfl) (by rfl) zqA qaZ (by rfl) (by rfl) zqD (Jq _) (by rfl) ?_;simp only[QT,Bg];simp+decide only[XK,QZ,Nat.reduceAdd];apply hK;clear hK K;refine awp_rseq [1,2,3,4,5,6,7,8,9,10] (by rfl) fun K hK=>?_;refine qE (by rfl) (by rfl) (WT w0 hm ha _ lvSr (by decide) (by decide)) fun x5q0 h5q0 hx5q0=>?_;obtain⟨ht5,hsT5⟩:=hx5q0;have hs_h5q0:Sub h h5q0:=Br zqC hsT5;have hr_h5q0:Sub h4q1 h5q0:=Br zqC hsT5;have eb_4q5:=hsT5 k4q5 _ zqA;have eb_1q5:=hsT5 k1q5 _ zqA;have eb_2q5:=hsT5 k2q5 _ zqA;have eb_3q5:=hsT5 k3q5 _ zqA;refine qE (by rfl) (by rfl) (UC w0 hm ha (Qz lvSr) (YU (by decide)) (ZT (by decide)) _ x5q0 ht5) fun x5q1 h5q1 hx5q1=>?_;obtain⟨hsP5,Lr,rvr,e5,hvr,hnr,hjr,hsmr,htxr,hslr,hctr,jjr,hppr⟩:=qcF lv_r hx5q1;subst e5;have hvlr:=hvr.shape.1;have hvnr:=UW hvr;rw[hnr]at hvnr;have hs_h5q1:Sub h h5q1:=Br zqC hsP5;have hr_h5q1:Sub h5q0 h5q1:=Br zqC hsP5;have eb_1q5:=hsP5 k1q5 _ zqA;have eb_2q5:=hsP5 k2q5 _ zqA;have eb_3q5:=hsP5 k3q5 _ zqA;have eb_4q5:=hsP5 k4q5 _ zqA;simp+decide only[XW,QZ,QF,QR,Xe,↓qc,↓Xa,Nat.reduceAdd,faultV];refine Qp qgl (cs:=[.int .i64 0, .int .i64 0, .int .i64 0]) (by rfl) fun k5q5 hk5q5=>?_;have hn_5q5:h5q1 k5q5=none:=by first|assumption|(simp only[Bd]at hk5q5;simp only[hk5q5])
 have hf_5q5:h k5q5=none:=Be hs_h5q1 hn_5q5;have ne_5q5_1q5:k5q5≠k1q5:=Bf hn_5q5 eb_1q5;have ne_5q5_2q5:k5q5≠k2q5:=Bf hn_5q5 eb_2q5;have ne_5q5_3q5:k5q5≠k3q5:=Bf hn_5q5 eb_3q5;have ne_5q5_4q5:k5q5≠k4q5:=Bf hn_5q5 eb_4q5;simp+decide only[Zj,↓qa];refine qN (by rfl) (by rfl) zqA qaZ (by rfl) (by rfl) zqD (Jq _) (by rfl) ?_;simp only[QT,Bg];simp+decide only[XK,QZ,Nat.reduceAdd];apply hK;clear hK K;refine qi ?_;refine awp_rseq [1,3,5,7,9,87] (by kernel_rfl) fun K hK=>?_;simp+decide only[Xk,XI,Xm,ZH,Yl,QS,Ze,Zt,ZF,WY,↓qh,qsH,↓qo,qf ag46,↓qd,↓qc,↓QM,↓Xv,↓Qn,↓Qd,↓Qy,↓qbW,ne_5q5_1q5.symm,ne_5q5_2q5.symm,ne_5q5_3q5.symm,ne_5q5_4q5.symm,Qm eb_1q5,Qm eb_2q5,Qm eb_3q5,Qm eb_4q5,hvna,hvnb,hvnc,hvnd,hvnr];apply hK;clear hK K;refine qz (b:=_) rfl (fun hb1=>?_) (fun hb1=>?_)
 ·cases hb1
 ·try simp only[qG]at hb1
  refine qF ?_;change Awp _ _ _ _ _ _ _;refine qi ?_;refine awp_rseq [5,7,9,102] (by rfl) fun K hK=>?_;simp+decide only[XW,QZ,↓qc];refine qE (by rfl) (by rfl) (qcT w0 _ rva La (hva.mono (by repeat (first|exact Vi _|assumption|refine Br ?_ (Vj (by assumption))|refine Br ?_ (by assumption)))) hsma htxa hsla) fun x8q1 h8q1 hx8q1=>?_;obtain⟨hsta,hsSa⟩:=hx8q1;have hs_h8q1:Sub h h8q1:=Br zqC hsSa;have hr_h8q1:Sub h5q1 h8q1:=Br zqC hsSa;have eb_5q5:=hsSa k5q5 _ zqA;have eb_1q5:=hsSa k1q5 _ zqA;have eb_2q5:=hsSa k2q5 _ zqA;have eb_3q5:=hsSa k3q5 _ zqA;have eb_4q5:=hsSa k4q5 _ zqA;refine QC (V:= .str lvWa) (by rfl) (by rfl) (by rw[<-hja];exact qiD w0 _ _ (Zp 32 La) [32] hsta (by omega) (by rw[hja];decide)) ?_;simp+decide only[Xj,QZ,Xt,YJ,Yy,ZE,qac,↓qd,↓qc,↓Qy];refine Xl (by rfl) ?_;refine qE (by rfl) (by rfl) (qcT w0 _ rvb Lb (hvb.mono (by repeat (first|exact Vi _|assumption|refine Br ?_ (Vj (by assumption))|refine Br ?_ (by assumption)))) hsmb htxb hslb) fun x8q6 h8q6 hx8q6=>?_;obtain⟨hstb,hsSb⟩:=hx8q6;have hs_h8q6:Sub h h8q6:=Br zqC hsSb;have hr_h8q6:Sub h8q1 h8q6:=Br zqC hsSb;have eb_1q5:=hsSb k1q5 _ zqA;have eb_2q5:=hsSb k2q5 _ zqA;have eb_3q5:=hsSb k3q5 _ zqA;have eb_4q5:=hsSb k4q5 _ zqA;have eb_5q5:=hsSb k5q5 _ zqA;refine Xl (by rfl) ?_;refine QC (V:= .str lvWb) (by rfl) (by rfl) (by rw[<-hjb];exact qiD w0 _ _ (Zp 32 Lb) [32] hstb (by omega) (by rw[hjb];decide)) ?_;simp+decide only[Xj,QZ,XL,Qs,QS,Xn,qac,↓Qn,↓Qd,↓qc,↓Qy];refine Xl (by rfl) ?_;refine qE (by rfl) (by rfl) (qhB w0 32 _ rvb Lb (hvb.mono (by repeat (first|exact Vi _|assumption|refine Br ?_ (Vj (by assumption))|refine Br ?_ (by assumption)))) hsmb (by omega)) fun x8q12 h8q12 hx8q12=>?_;obtain⟨rfl,hsC⟩:=hx8q12;rw[lv_count hppb];have hs_h8q12:Sub h h8q12:=Br zqC hsC;have hr_h8q12:Sub h8q6 h8q12:=Br zqC hsC;have eb_1q5:=hsC k1q5 _ zqA;have eb_2q5:=hsC k2q5 _ zqA;have eb_3q5:=hsC k3q5 _ zqA;have eb_4q5:=hsC k4q5 _ zqA;have eb_5q5:=hsC k5q5 _ zqA;simp+decide only[XP,Yw,qK,Xm,XL,QS,WY,↓Qn,↓Qd];apply hK;clear hK K;refine qz (b:=_) rfl (fun hb2=>?_) (fun hb2=>?_)
  ·cases hb2
  ·try simp only[qG]at hb2
   refine qF ?_;change Awp _ _ _ _ _ _ _;refine qi ?_;refine awp_rseq [118] (by rfl) fun K hK=>?_;simp+decide only[XW,QZ,↓qc];refine qE (by rfl) (by rfl) (qcT w0 _ rvc Lc (hvc.mono (by repeat (first|exact Vi _|assumption|refine Br ?_ (Vj (by assumption))|refine Br ?_ (by assumption)))) hsmc htxc hslc) fun x10q1 h10q1 hx10q1=>?_;obtain⟨hstc,hsSc⟩:=hx10q1;have hs_h10q1:Sub h h10q1:=Br zqC hsSc;have hr_h10q1:Sub h8q12 h10q1:=Br zqC hsSc;have eb_1q5:=hsSc k1q5 _ zqA;have eb_2q5:=hsSc k2q5 _ zqA;have eb_3q5:=hsSc k3q5 _ zqA;have eb_4q5:=hsSc k4q5 _ zqA;have eb_5q5:=hsSc k5q5 _ zqA;refine QC (V:= .str lvWc) (by rfl) (by rfl) (by rw[<-hjc];exact qiD w0 _ _ (Zp 32 Lc) [32] hstc (by omega) (by rw[hjc];decide)) ?_;simp+decide only[Xj,QZ,Xt,YJ,Yy,ZE,qac,↓qd,↓qc,↓Qy];refine Xl (by rfl) ?_;refine qE (by rfl) (by rfl) (qcT w0 _ rvd Ld (hvd.mono (by repeat (first|exact Vi _|assumption|refine Br ?_ (Vj (by assumption))|refine Br ?_ (by assumption)))) hsmd htxd hsld) fun x10q6 h10q6 hx10q6=>?_;obtain⟨hstd,hsSd⟩:=hx10q6;have hs_h10q6:Sub h h10q6:=Br zqC hsSd;have hr_h10q6:Sub h10q1 h10q6:=Br zqC hsSd;have eb_1q5:=hsSd k1q5 _ zqA;have eb_2q5:=hsSd k2q5 _ zqA;have eb_3q5:=hsSd k3q5 _ zqA;have eb_4q5:=hsSd k4q5 _ zqA;have eb_5q5:=hsSd k5q5 _ zqA;refine Xl (by rfl) ?_;refine QC (V:= .str lvWd) (by rfl) (by rfl) (by rw[<-hjd];exact qiD w0 _ _ (Zp 32 Ld) [32] hstd (by omega) (by rw[hjd];decide)) ?_;simp+decide only[Xj,QZ,XL,Qs,QS,Xn,qac,↓Qn,↓Qd,↓qc,↓Qy];refine Xl (by rfl) ?_;refine qE (by rfl) (by rfl) (qcT w0 _ rvr Lr (hvr.mono (by repeat (first|exact Vi _|assumption|refine Br ?_ (Vj (by assumption))|refine Br ?_ (by assumption)))) hsmr htxr hslr) fun x10q12 h10q12 hx10q12=>?_;obtain⟨hstr,hsSr⟩:=hx10q12;have hs_h10q12:Sub h h10q12:=Br zqC hsSr;have hr_h10q12:Sub h10q6 h10q12:=Br zqC hsSr;have eb_1q5:=hsSr k1q5 _ zqA;have eb_2q5:=hsSr k2q5 _ zqA;have eb_3q5:=hsSr k3q5 _ zqA;have eb_4q5:=hsSr k4q5 _ zqA;have eb_5q5:=hsSr k5q5 _ zqA;refine Xl (by rfl) ?_;refine QC (V:= .str lvWr) (by rfl) (by rfl) (by rw[<-hjr];exact qiD w0 _ _ (Zp 32 Lr) [32] hstr (by omega) (by rw[hjr];decide)) ?_;simp+decide only[XP,QZ,XL,Qs,QS,Xn,qac,↓Qn,↓Qd];apply hK;clear hK K;refine qz (b:=_) rfl (fun hb3=>?_) (fun hb3=>?_)
   ·cases hb3
   ·try simp only[qG]at hb3
    refine qF ?_;change Awp _ _ _ _ _ _ _;refine awp_rseq [11] (by rfl) fun K hK=>?_;refine qO (cs:=lvT.map AVal.str) (by kernel_rfl) fun k12q0 hk12q0=>?_;have hn_12q0:h10q12 k12q0=none:=by first|assumption|(simp only[Bd]at hk12q0;simp only[hk12q0])
    have hf_12q0:h k12q0=none:=Be hs_h10q12 hn_12q0;have ne_12q0_1q5:k12q0≠k1q5:=Bf hn_12q0 eb_1q5;have ne_12q0_2q5:k12q0≠k2q5:=Bf hn_12q0 eb_2q5;have ne_12q0_3q5:k12q0≠k3q5:=Bf hn_12q0 eb_3q5;have ne_12q0_4q5:k12q0≠k4q5:=Bf hn_12q0 eb_4q5;have ne_12q0_5q5:k12q0≠k5q5:=Bf hn_12q0 eb_5q5;simp+decide only[Zj,↓qa];apply hK;clear hK K;refine qi ?_;refine awp_rseq [11,12] (by rfl) fun K hK=>?_;simp+decide only[Zj,↓qa];apply hK;clear hK K;refine qI ?_;refine Qj [11,12] (fun g:LtG=>[(11, .slice (.own k12q0) 0 4 (.exact 4)),(12, .int .i64 g.i)]) (fun g:LtG=>g.H) (fun g:LtG=>g.i<=4/\Sub h g.H/\g.H k12q0=some ⟨lvT.map AVal.str,0⟩) (fun g:LtG=>4-g.i) ⟨0, .nilSlice,emp,_⟩ (by rfl) (Vi _) ⟨Jq _,zqB,zqA⟩ ?_;rintro⟨i,rv,rp,H⟩ ⟨hi,hs_H,eb_12q0⟩;simp only at hi hs_H eb_12q0|-
    refine qi ?_;refine awp_rseq [11,12,121] (by rfl) fun K hK=>?_;simp+decide only[Xk,qK,Xm,QY,↓qc,↓qd];apply hK;clear hK K;refine qz (b:=_) rfl (fun hb4=>?_) (fun hb4=>?_)
    ·try simp only[qG]at hb4
     have hi':i<4:=by omega
     obtain⟨s,hs⟩:∃s,s=lvT.getD i []:=⟨_,rfl⟩
     obtain⟨ln,hln⟩:∃ln,ln=lvL.getD i 0:=⟨_,rfl⟩
     have es:=qaw (w0:=w0) eb_12q0 hi';rw[<-hs,Yc w0 eb_12q0]at es;have hbad:=Jz.1 lv_bad i (JA.2 hi');rw[<-hs,<-hln,Ky,Ky,decide_eq_true_eq]at hbad;obtain⟨hbad,hsl,hsa⟩:=hbad;have hi4:((i:Int)<4)=True:=eq_true (by omega);have hwi:IntKind.i64.wrap ((i:Int)+1)=((i+1:Nat):Int):=by rw[wrap_i64 (by omega) (by omega)];omega
     have hcell:([AVal.int .i64 5, .int .i64 1, .int .i64 1, .int .i64 1]:List AVal).getD i .dead= .int .i64 ln:=by
      rw[hln];have q:i=0\/i=1\/i=2\/i=3:=by omega
      rcases q with rfl|rfl|rfl|rfl<;>rfl
     refine qF ?_;change Awp _ _ _ _ _ _ _;refine qi ?_;refine qI ?_;refine awp_rseq [11,12,14] (by rfl) fun K hK=>?_;simp+decide only[XW,XF,QJ,VD,Xm,Bi,↓qc,↓qJ,qg Tryz.underlying22 sz9,↓qo,qf ag9,Qm eb_12q0,es,hi4];repeat (with_reducible refine zqP ?_)
     refine qE (by rfl) (by rfl) (WT w0 hm ha _ s (by omega) hsa) fun x16q4 h16q4 hx16q4=>?_;obtain⟨ht16,hsT16⟩:=hx16q4;have hs_h16q4:Sub h h16q4:=Br zqC hsT16;have hr_h16q4:Sub H h16q4:=Br zqC hsT16;have eb_12q0:=hsT16 k12q0 _ zqA;refine qE (by rfl) (by rfl) (UC w0 hm ha (Qz s) (YU (by omega)) (ZT (by omega)) _ x16q4 ht16) fun x16q5 h16q5 hx16q5=>?_;obtain⟨hsP16,e16⟩:=qmp hbad hx16q5;subst e16;have hs_h16q5:Sub h h16q5:=Br zqC hsP16;have hr_h16q5:Sub h16q4 h16q5:=Br zqC hsP16;have eb_12q0:=hsP16 k12q0 _ zqA;simp+decide only[XW,XF,VD,Xm,QF,QR,Xe,↓qc,↓Xa,Nat.reduceAdd,faultV];refine Qp qgl (cs:=[.int .i64 0, .int .i64 0, .int .i64 0]) (by rfl) fun k16q9 hk16q9=>?_;have hn_16q9:h16q5 k16q9=none:=by first|assumption|(simp only[Bd]at hk16q9;simp only[hk16q9])
     have hf_16q9:h k16q9=none:=Be hs_h16q5 hn_16q9;have ne_16q9_12q0:k16q9≠k12q0:=Bf hn_16q9 eb_12q0;simp+decide only[Kj,VE,Ka,BL,Jp,setAt,VZ,Slots.put,putD,ev,J6,and_true,absS,absV,ne_eq,not_false_eq_true,true_and,Un,Uf,QB,Ev,cellsAt,VF,VG,qhi,VX,allLive,Kn,qdk,qem,Wt,qfc,qel,qek,qcK,qgy,qaf,Ul,qbk,qbj,qgw,qcJ,qcI,qgs,qgr,cond_false,QO,XF,VD,Xm,↓qa];refine qN (by rfl) (by rfl) zqA qaZ (by rfl) (by rfl) zqD (Jq _) (by rfl) ?_;simp only[QT,Bg];simp+decide only[XK,XF,VD,Xm,Nat.reduceAdd];apply hK;clear hK K;refine qbn 8 [] [11,12,140] mixed (by kernel_rfl) (by rfl) fun K hK=>?_;simp only[Ki,Bh,Vr,List.take_nil,List.drop_nil];simp+decide only[XK,XF,VD,Xm,ZJ,↓qaO,Qa qjy qaZ,Nat.reduceAdd];refine UO (by rfl) ?_;refine qO (cs:=[.int .i64 5, .int .i64 1, .int .i64 1, .int .i64 1]) (by kernel_rfl) fun k17q1 hk17q1=>?_;have ne_17q1_16q9:k17q1≠k16q9:=by simp only[Bd]at hk17q1;simp only[Yv,hk17q1]
     have hn_17q1:h16q5 k17q1=none:=by first|assumption|(simp only[Bd]at hk17q1;simp only[hk17q1])
     have hf_17q1:h k17q1=none:=Be hs_h16q5 hn_17q1;have ne_17q1_12q0:k17q1≠k12q0:=Bf hn_17q1 eb_12q0;rw[QB];simp+decide only[Xj,XF,VD,Xm,qj,QW,Zo,Bi,ZJ,XZ,↓qaN,↓WO,qg Tryz.underlying100 sz3,↓qaO,qf ag3,↓qhl,↓QN,qdP,qfS,↓qfg,qbi,ne48,hcell];repeat (with_reducible refine zqP ?_)
     apply hK;clear hK K;refine qz (b:=_) rfl (fun hb5=>?_) (fun hb5=>?_)
     ·simp at hb5
     ·try simp only[qG]at hb5
      refine qF ?_;change Awp _ _ _ _ _ _ _;refine Qv [11,12] (by rfl) ?_;simp+decide only[ZR,Yw,qK,Xm,XJ,↓qc,↓qd,↓qa,hwi];try simp only[QL]
      exact⟨⟨i+1, .nilSlice,emp,_⟩,rfl,Vi _,⟨hi',zqB,zqA⟩,by simp only;omega⟩
    ·try simp only[qG]at hb4
     refine Qk ?_;change Awp _ _ _ _ _ _ _;refine awp_rseq [0] (by rfl) fun K hK=>?_;simp+decide only[Zj,↓qa];apply hK;clear hK K;refine qW ?_;refine QG h zqC (qA (qC)) ?_;simp+decide only[XK,QZ,Yz];exact Vi _
end Go.Proofs.YtgiadjbiimkbiaaGreatDoor
namespace Go.Stm
open Go.Col (Str FaultC okF)
open Go.Tok
open Go.Proofs.YtgiadjbiimkbiaaGreatDoor (asciiB)
theorem qis:∀n:Nat,(qeM n).length=13*n
 |0=>rfl
 |n+1=>by rw[qeM,Jb,qis n];rfl
theorem qcs{a b:Str}(ha:asciiB a=true)(hb:asciiB b=true):asciiB (a++b)=true:=by
 unfold asciiB at*
 rw[Es,ha,hb];rfl
theorem qjb:∀n:Nat,asciiB (qeM n)=true
 |0=>rfl
 |n+1=>qcs (qjb n) (by decide)
theorem qrF:(spoilT.all fun s=>asciiB s && decide (s.length<=100))=true:=by decide+kernel
theorem spoil_num:((KP 29).all fun k=>decide ((spoilT.getD (2*k+1) []).length<=2) && (spoilT.getD (2*k+1) []).all fun c=>decide (48<=c.toNat/\c.toNat<=57))=true:=by decide+kernel
def qsd(n:Int)(c:UInt8):Int:=10*n+(c.toNat:Int)-48
end Go.Stm
namespace Go.AM
theorem qlj{P:Program}{w0:World}{n:FrameK}{Q:Exit->Slots->AHeap->Prop}{s:Slots}{h:AHeap}{id:Nat}{d e:Tmp}{t:TypeId}{m:Nat}{ps:List (Nat×Operand)}{ty ty':TypeId}{pos pos':String}{af af':Array Edge}{cs:List AVal}
 (hd:Qo n [⟨some d, .buildSlice t m ps.toArray,ty,pos,af,none⟩,⟨some e, .assign (.tmp d),ty',pos',af',none⟩]=true) (hb:qbH P t m (evP s ps)=some cs)
 (hk:∀k,h k=none->Q .normal (putD (putD s (some d) (.slice (.own k) 0 m (.exact m))) (some e) (ev (putD s (some d) (.slice (.own k) 0 m (.exact m))) (.tmp d))) (h.set k ⟨cs,0⟩)):
 Awp P w0 n (.region id [⟨some d, .buildSlice t m ps.toArray,ty,pos,af,none⟩,⟨some e, .assign (.tmp d),ty',pos',af',none⟩].toArray false) Q s h:=by
 refine qgF hd ?_;refine qO hb fun k hk0=>?_;rw[qa];exact⟨trivial,hk k hk0⟩
end Go.AM
namespace Go.Proofs.YtgiadjbiimkbiaaGreatDoor
open Go.AM
open Go.Proofs
open Go.Col (Str FaultC okF)
open Go.Tok (TokC)
open Go.Stm
open Go.RowKit (Below)
set_option maxRecDepth 100000
set_option maxHeartbeats 8000000 in
theorem l_Faults1(w0:World)(hm:MaxL w0)(ha:Asp w0)(h:AHeap)(what many:UInt8):
 ACall Tryz.prog w0 9 [.int .u8 what.toNat, .int .u8 many.toNat] h (fun x h'=>x= .bool true/\Sub h h'):=by
 have hw8:what.toNat<256:=what.toNat_lt;have hm8:many.toNat<256:=many.toNat_lt;obtain⟨k,hk⟩:∃k,k=what.toNat%29:=⟨_,rfl⟩
 obtain⟨n,hn⟩:∃n,n=many.toNat%5:=⟨_,rfl⟩
 have hk29:k<29:=by omega
 have hn5:n<5:=by omega
 have hremk:Ew (what.toNat:Int) 29=(k:Int):=by rw[Ex (by omega),hk];exact(Ey what.toNat 29).symm
 have hremn:Ew (many.toNat:Int) 5=(n:Int):=by rw[Ex (by omega),hn];exact(Ey many.toNat 5).symm
 have hq:Int.tdiv ((58:Nat):Int) 2=29:=rfl;have hww:IntKind.i64.wrap (what.toNat:Int)=(what.toNat:Int):=wrap_i64 (by omega) (by omega);have hwn:IntKind.i64.wrap (n:Int)=(n:Int):=wrap_i64 (by omega) (by omega);have hwk:IntKind.i64.wrap (k:Int)=(k:Int):=wrap_i64 (by omega) (by omega);have hw29:IntKind.i64.wrap 29=29:=rfl;have hwu:IntKind.u8.wrap (n:Int)=(n:Int):=wrap_u8 (by omega) (by omega);have hwk2:IntKind.i64.wrap (2*(k:Int))=((2*k:Nat):Int):=by rw[wrap_i64 (by omega) (by omega)];omega
 have hwk3:IntKind.i64.wrap (((2*k:Nat):Int)+1)=((2*k+1:Nat):Int):=by rw[wrap_i64 (by omega) (by omega)];omega
 obtain⟨T,hT⟩:∃T,T=spoilT:=⟨_,rfl⟩
 have hTl:T.length=58:=by rw[hT];rfl
 obtain⟨s0,hs0⟩:∃s,s=T.getD (2*k) []:=⟨_,rfl⟩
 obtain⟨s1,hs1⟩:∃s,s=T.getD (2*k+1) []:=⟨_,rfl⟩
 have hbad:badAt (qeM n++s0) (5*n+numE s1)=true:=by rw[hs0,hs1,hT];exact spoil_law hk29 hn5
 have hm0:s0∈spoilT:=by rw[hs0,hT,Ko,JB (by rw[<-hT];omega)];exact Vw _
 have h0:=Jz.1 qrF s0 hm0;rw[Ky,decide_eq_true_eq]at h0;obtain⟨h0a,h0l⟩:=h0;have h1:=Jz.1 spoil_num k (JA.2 hk29);rw[<-hT,<-hs1,Ky,decide_eq_true_eq]at h1;obtain⟨h1l,h1d⟩:=h1;have hgl:=qis n;have hal:asciiB (qeM n++s0)=true:=qcs (qjb n) h0a;have hll:(qeM n++s0).length<=999999:=by rw[Jb];omega
 refine qR (n:=83) (rs:=[.tmp 4]) Tryz.func9 rfl rfl rfl rfl (VY rfl) ?_;simp only[qU];refine awp_rseq [0,1] (by rfl) fun K hK=>?_;simp+decide only[Zj,↓qa];apply hK;clear hK K;refine qi ?_;refine qlj (cs:=T.map AVal.str) (by kernel_rfl) (by rw[hT];kernel_rfl) fun k1q0 hk1q0=>?_;simp only[qcb];refine JR [0,1,5] ?_;simp+decide only[QI,Zr,Ev,VF,VG];have eb:(h.set k1q0 ⟨T.map AVal.str,0⟩) k1q0=some _:=Vh _ _ _;have lT:=WC (Uv (w0:=w0) eb);rw[hTl]at lT;have es0:=qaw (w0:=w0) eb (i:=2*k) (by omega);have es1:=qaw (w0:=w0) eb (i:=2*k+1) (by omega);rw[<-hs0]at es0;rw[<-hs1]at es1;refine awp_rseq [1,5,6] (by rfl) fun K hK=>?_;simp+decide only[ZR,Yw,qK,Xm,qj,Qh,XM,qad,↓qc,↓ZZ _ _ _ (Uo Tryz.underlying5 Tryz.underlying3),ZA Tryz.underlying5 Tryz.underlying3,↓Qi,QV Tryz.underlying22,↓qd,qig,↓qa,hq,hw29,hww,hremk];apply hK;clear hK K;refine awp_rseq [1,5,6,7] (by rfl) fun K hK=>?_;simp+decide only[Zj,↓qa];apply hK;clear hK K;refine awp_rseq [5,6,7,8] (by rfl) fun K hK=>?_;simp+decide only[ZR,Yw,qK,Xm,XM,qad,↓qc,↓qd,↓ZZ _ _ _ (Uo Tryz.underlying5 Tryz.underlying3),ZA Tryz.underlying5 Tryz.underlying3,↓qa,hremn,hwn];apply hK;clear hK K;refine qi ?_;refine awp_rseq [5,6,7,8,9] (by rfl) fun K hK=>?_;simp+decide only[Zj,↓qa];apply hK;clear hK K;refine qI ?_;refine Qj [5,6,7,8,9] (fun i:Nat=>[(5, .slice (.own k1q0) 0 58 (.exact 58)),(6, .int .i64 k),(7, .str (qeM i)),(8, .int .i64 n),(9, .int .i64 i)]) (fun i:Nat=>h.set k1q0 ⟨T.map AVal.str,0⟩) (fun i:Nat=>i<=n) (fun i:Nat=>n-i) 0 (by rfl) (Vi _) (Jq _) ?_;intro i hi;have hgi:=qis i;have hwi:IntKind.i64.wrap ((i:Int)+1)=((i+1:Nat):Int):=by rw[wrap_i64 (by omega) (by omega)];omega
 refine qi ?_;refine awp_rseq [5,6,7,8,9,26] (by rfl) fun K hK=>?_;simp+decide only[Xk,Xm,qj,QY,↓qc,↓qd];apply hK;clear hK K;refine qz (b:=_) rfl (fun hb1=>?_) (fun hb1=>?_)
 ·try simp only[qG]at hb1
  refine qF ?_;change Awp _ _ _ _ _ _ _;refine qi ?_;refine qI ?_;refine Qv [5,6,7,8,9] (by rfl) ?_;simp+decide only[ZR,QZ,QF,ZE,ZO,↓qc,↓qd,↓qa,Nat.reduceAdd];repeat (with_reducible refine zqP ?_)
  change Awp _ _ _ _ _ _ _;refine Qv [5,6,7,8,9] (by rfl) ?_;simp+decide only[ZR,Yw,qK,Xm,XJ,↓qc,↓qd,↓qa,hwi];try simp only[QL]
  exact⟨i+1,rfl,Vi _,by omega,by omega⟩
 ·try simp only[qG]at hb1
  have hin:i=n:=by omega
  subst hin;refine Qk ?_;change Awp _ _ _ _ _ _ _;refine awp_rseq [5,6,7,8,10] (by rfl) fun K hK=>?_;simp+decide only[Zj,↓qa];apply hK;clear hK K;refine qi ?_;refine awp_rseq [5,6,7,8,10,11] (by rfl) fun K hK=>?_;simp+decide only[Zj,↓qa];apply hK;clear hK K;refine qI ?_;refine Qj [5,6,7,8,10,11] (fun g:Nat×Int=>[(5, .slice (.own k1q0) 0 58 (.exact 58)),(6, .int .i64 k),(7, .str (qeM i)),(8, .int .i64 i),(10, .int .i64 g.2),(11, .int .i64 g.1)]) (fun g:Nat×Int=>h.set k1q0 ⟨T.map AVal.str,0⟩) (fun g:Nat×Int=>g.1<=s1.length/\(s1.drop g.1).foldl qsd g.2=numE s1/\0<=g.2/\g.2<10^g.1) (fun g:Nat×Int=>s1.length-g.1) (0,0) (by rfl) (Vi _) ⟨Jq _,rfl,Int.le_refl _,by decide⟩ ?_;rintro⟨j,m⟩ ⟨hj,hg,hm0,hm1⟩;simp only at hj hg hm0 hm1|-
  have hm2:m<100:=by
   have:j=0\/j=1\/j=2:=by omega
   rcases this with rfl|rfl|rfl<;>simp at hm1<;>omega
  refine qi ?_;refine awp_rseq [5,6,7,8,10,11,39] (by rfl) fun K hK=>?_;simp+decide only[Xk,qK,VD,Xm,qj,XJ,↓qc,↓qd,qgu,hwk2,hwk3];try simp+decide only[XP,Yw,QJ,VD,Xm,qj,Qh,QY,Bi,↓qJ,qg Tryz.underlying22 sz9,↓qo,qf ag9,↓Qi,pLen_str Tryz.underlying9,↓qd,es1]
  repeat (with_reducible refine zqP ?_)
  apply hK;clear hK K;refine qz (b:=_) rfl (fun hb2=>?_) (fun hb2=>?_)
  ·try simp only[qG]at hb2
   have hj':j<s1.length:=by omega
   obtain⟨c,hc⟩:∃c,c=s1.getD j 0:=⟨_,rfl⟩
   have hcm:c∈s1:=by rw[hc,Ko,JB hj'];exact Vw hj'
   have hcd:=of_decide_eq_true (Jz.1 h1d c hcm);have hjl:((j:Int)<s1.length)=True:=eq_true (by omega);have hst:(s1.drop (j+1)).foldl qsd (qsd m c)=numE s1:=by
    rw[<-hg,Vb hj',Et];congr 2;rw[hc];simp[Ko,hj']
   have hc8:IntKind.i64.wrap (c.toNat:Int)=(c.toNat:Int):=wrap_i64 (by omega) (by omega);have hm10:IntKind.i64.wrap (10*m)=10*m:=wrap_i64 (by omega) (by omega);have hmc:IntKind.i64.wrap (10*m+(c.toNat:Int))=10*m+(c.toNat:Int):=wrap_i64 (by omega) (by omega);have hms:IntKind.i64.wrap (10*m+(c.toNat:Int)-48)=qsd m c:=by rw[wrap_i64 (by omega) (by omega)];rfl
   have hwj:IntKind.i64.wrap ((j:Int)+1)=((j+1:Nat):Int):=by rw[wrap_i64 (by omega) (by omega)];omega
   refine qF ?_;change Awp _ _ _ _ _ _ _;refine qi ?_;refine qI ?_;refine Qv [5,6,7,8,10,11] (by rfl) ?_;simp+decide only[Xk,qK,VD,Xm,qj,XJ,↓qc,↓qd,qgu,hwk2,hwk3,hjl,hm10];try simp+decide only[ZR,Yw,QJ,qK,VD,Xm,qj,XJ,Bi,WW,XM,↓qJ,qg Tryz.underlying22 sz9,↓qo,qf ag9,↓qc,↓qhI,qfE,qeh Tryz.underlying9,↓ZZ _ _ _ (Uo Tryz.underlying5 Tryz.underlying3),ZA Tryz.underlying5 Tryz.underlying3,↓qd,↓qa,es1,hjl,<-hc,hc8,hmc,hms]
   repeat (with_reducible refine zqP ?_)
   change Awp _ _ _ _ _ _ _;refine Qv [5,6,7,8,10,11] (by rfl) ?_;simp+decide only[ZR,Yw,qK,Xm,XJ,↓qc,↓qd,↓qa,hwj];try simp only[QL]
   exact⟨(j+1,qsd m c),rfl,Vi _,⟨hj',hst,by unfold qsd;omega,by unfold qsd;rw[Int.pow_succ];omega⟩,by simp only;omega⟩
  ·try simp only[qG]at hb2
   have hjn:j=s1.length:=by omega
   rw[hjn,Va]at hg;have hmn:m=numE s1:=hg;rw[<-hmn]at hbad;have hwn5:IntKind.i64.wrap (5*(i:Int))=5*(i:Int):=wrap_i64 (by omega) (by omega);have hwl:IntKind.i64.wrap (5*(i:Int)+m)=5*(i:Int)+m:=wrap_i64 (by omega) (by omega);refine Qk ?_;change Awp _ _ _ _ _ _ _;refine awp_rseq [8,10,12,13] (by rfl) fun K hK=>?_;simp+decide only[Xk,VD,Xm,qj,↓qc,↓qd,qgu,hwk2];try simp+decide only[XP,XF,QJ,VD,Xm,qj,Qs,ZO,Bi,↓qJ,qg Tryz.underlying22 sz9,↓qo,qf ag9,↓qd,es0]
   repeat (with_reducible refine zqP ?_)
   refine qE (by rfl) (by rfl) (WT w0 hm ha _ (qeM i++s0) hll hal) fun x14q7 h14q7 hx14q7=>?_;obtain⟨ht14,hsT14⟩:=hx14q7;have hs_h14q7:Sub h h14q7:=Br zqC hsT14;have hr_h14q7:=hs_h14q7;refine qE (by rfl) (by rfl) (UC w0 hm ha (Qz (qeM i++s0)) (YU hll) (ZT (by omega)) _ x14q7 ht14) fun x14q8 h14q8 hx14q8=>?_;obtain⟨hsP14,e14⟩:=qmp hbad hx14q8;subst e14;have hs_h14q8:Sub h h14q8:=Br zqC hsP14;have hr_h14q8:Sub h14q7 h14q8:=Br zqC hsP14;simp+decide only[XW,XF,VD,Xm,QF,QR,Xe,↓qc,↓Xa,Nat.reduceAdd,faultV];refine Qp qgl (cs:=[.int .i64 0, .int .i64 0, .int .i64 0]) (by rfl) fun k14q12 hk14q12=>?_;have hn_14q12:h14q8 k14q12=none:=by first|assumption|(simp only[Bd]at hk14q12;simp only[hk14q12])
   have hf_14q12:h k14q12=none:=Be hs_h14q8 hn_14q12;simp+decide only[Kj,VE,Ka,BL,Jp,setAt,VZ,Slots.put,putD,ev,J6,and_true,absS,absV,ne_eq,not_false_eq_true,true_and,Un,Uf,QB,Ev,cellsAt,VF,VG,qhi,VX,allLive,Kn,qdk,qem,Wt,qfc,qel,qek,qcK,qgy,qaf,Ul,qbk,qbj,qgw,qcJ,qcI,qgs,qgr,cond_false,QO,XF,VD,Xm,↓qa];refine qN (by rfl) (by rfl) zqA qaZ (by rfl) (by rfl) zqD (Jq _) (by rfl) ?_;simp only[QT,Bg];simp+decide only[XK,XF,VD,Xm,Nat.reduceAdd];apply hK;clear hK K;refine awp_rseq [4] (by rfl) fun K hK=>?_;simp+decide only[Xk,QJ,qK,Xm,qj,ZH,YJ,XJ,YS,Yy,Ke,QS,List.map_nil,XA,Ze,Zo,Zt,↓qc,↓Qi,qoV Tryz.underlying45,↓qd,↓Xv,Qa qjy qaZ,↓Qy,↓Qn,qgu,↓qlp,↓QN,qdP,qfS,qbi,eq48,↓Qd,Nat.reduceAdd,hwn5,hwl];refine Xl (by rfl) ?_;refine qE (by rfl) (by rfl) (qdN w0 hm ha _) fun x15q14 h15q14 hx15q14=>?_;obtain⟨rfl,hs15⟩:=hx15q14;have hs_h15q14:Sub h h15q14:=Br zqC hs15;have hr_h15q14:Sub h14q8 h15q14:=Br zqC hs15;have eb_14q12:=hs15 k14q12 _ zqA;simp+decide only[Zj,YS,↓Qd,↓qa];apply hK;clear hK K;refine qW ?_;refine QG h zqC (qA (qC)) ?_;simp+decide only[XK,QZ,Yz];exact Vi _
end Go.Proofs.YtgiadjbiimkbiaaGreatDoor
namespace Go.Stm
open Go.Col (Str FaultC okF)
open Go.Tok
end Go.Stm
namespace Go.Proofs.YtgiadjbiimkbiaaGreatDoor
open Go.AM
open Go.Proofs
open Go.Col (Str FaultC okF)
open Go.Tok (TokC)
open Go.Stm
open Go.RowKit (Below)
set_option maxRecDepth 100000
end Go.Proofs.YtgiadjbiimkbiaaGreatDoor
namespace Go.Stm
open Go.Col (Str FaultC okF)
open Go.Tok
set_option maxRecDepth 100000
theorem lawT_text(i j:Nat)(w:Str):qau (Ue i w)=qau (Ue j w):=by
 rw[Ue,Ue];by_cases a:w.getD 0 0=34
 ·rw[if_pos a,if_pos a];rfl
 ·rw[if_neg a,if_neg a]
  by_cases b:48<=w.getD 0 0/\w.getD 0 0<=57
  ·rw[if_pos b,if_pos b];rfl
  ·rw[if_neg b,if_neg b]
   by_cases c:w=[46]
   ·rw[if_pos c,if_pos c];rfl
   ·rw[if_neg c,if_neg c]
    split<;>rfl
theorem qmL(a b:Str):Lib.fields (a++32::b)=Lib.fields a++Lib.fields b:=by
 have go:∀(a cur:Str),Lib.fieldsGo cur (a++32::b)=Lib.fieldsGo cur a++Lib.fieldsGo [] b:=by
  intro a;induction a with
  |nil=>
   intro cur;have h32:Lib.isSp 32=true:=by decide
   simp only[if_true,Jd,Lib.fieldsGo,h32];split<;>simp
  |cons c a ih=>
   intro cur;simp only[Kh,Lib.fieldsGo];split
   ·split
    ·exact ih []
    ·rw[ih []];simp
   ·exact ih _
 exact go a []
end Go.Stm
namespace Go.Stm
open Go.Col (Str FaultC okF)
open Go.Tok
open Go.Proofs.YtgiadjbiimkbiaaGreatDoor (asciiB)
end Go.Stm
namespace Go.Proofs.YtgiadjbiimkbiaaGreatDoor
open Go.AM
open Go.Proofs
open Go.Col (Str FaultC okF)
open Go.Tok (TokC)
open Go.Stm
open Go.RowKit (Below)
set_option maxRecDepth 100000
def u8C(b:UInt8):List AVal:=[.int .u8 b.toNat]
theorem u8_get{w0:World}{h:AHeap}{lc:AM.Loc}{o n:Nat}{c:Cap}{l:List UInt8}(hv:IsL w0 h 1 (.slice lc o n c) (l.map u8C)){i:Nat}(hi:i<l.length):rd w0 h lc (o+i)= .int .u8 (l.getD i 0).toNat:=by
 have:=hv.at0 (i:=i) (by rw[Jn];exact hi) (by decide);rw[Bi]at this;rw[this,getD_map (0:UInt8) hi];rfl
end Go.Proofs.YtgiadjbiimkbiaaGreatDoor
namespace Go.Stm
open Go.Col (Str)
theorem qgd{c:UInt8}:∀{a acc:Str},c∉a->Xr c acc a=[acc++a]
 |[],acc,_=>by rw[Xr,JE]
 |b::a,acc,h=>by
  have hb:b≠c:=fun e=>h (by rw[e];exact Je);rw[Xr,if_neg hb,qgd (fun q=>h (Jf _ q)),K9];rfl
theorem qgM{c:UInt8}(b:Str):∀{a acc:Str},c∉a->Xr c acc (a++c::b)=(acc++a)::Xr c [] b
 |[],acc,_=>by rw[Jd,Xr,if_pos rfl,JE]
 |d::a,acc,h=>by
  have hd:d≠c:=fun e=>h (by rw[e];exact Je);rw[Kh,Xr,if_neg hd,qgM b (fun q=>h (Jf _ q)),K9];rfl
end Go.Stm
namespace Go.Proofs.YtgiadjbiimkbiaaGreatDoor
open Go.AM
open Go.Proofs
open Go.Col (Str FaultC okF)
open Go.Tok (TokC)
open Go.Stm
open Go.RowKit (Below)
set_option maxRecDepth 100000
theorem str_flat(l:List Str):l.map AVal.str=(l.map strC).flatten:=by
 induction l with
 |nil=>rfl
 |cons s l ih=>rw[Ke,Ke,Vp,ih];rfl
theorem str_live(l:List Str):allLive (l.map strC).flatten=true:=by
 induction l with
 |nil=>rfl
 |cons s l ih=>rw[Ke,Vp];exact ih
theorem split_c(c:UInt8):∀(n:Nat) (s:Str),s.length<=n->Lib.splitB ⟨⟨[c]⟩⟩ 0 (Lib.countB ⟨⟨s⟩⟩ ⟨⟨[c]⟩⟩) ⟨⟨s⟩⟩=(Xr c [] s).map fun l=>(⟨⟨l⟩⟩:ByteArray):=by
 intro n;induction n with
 |zero=>
  intro s hs;have:s=[]:=Kg (by omega);subst this;rcases index_one [] c with⟨h1,-⟩|⟨i,h1,h2,-⟩
  ·rw[Lib.splitB_miss _ _ _ _ h1]
   rfl
  ·cases h2
 |succ n ih=>
  intro s hs;rcases index_one s c with⟨h1,h2⟩|⟨i,h1,h2,h3,h4⟩
  ·rw[Lib.splitB_miss _ _ _ _ h1,qgd h2]
   rfl
  ·have h1':Lib.indexB ⟨⟨s⟩⟩ ⟨⟨[c]⟩⟩=(i:Int):=h1
   have hsz:(⟨⟨s⟩⟩:ByteArray).size=s.length:=rfl;have h10:(⟨⟨[c]⟩⟩:ByteArray).size=1:=rfl;rw[Lib.countB_hit _ _ i (by rw[h10];decide) h1',Nat.add_comm 1,Lib.splitB_hit _ _ _ _ i h1',h10,hsz,extract_mk,extract_mk,Vn,En,K6,JZ (l:=s.drop (i+1)) (by simp),ih _ (by simp;omega)];conv=>rhs;rw[h3,qgM _ h4]
   rfl
theorem qpN(w0:World)(hm:MaxL w0)(h:AHeap)(s:Str)(c:UInt8)(hl:s.length<4294967281):ACall Tryz.prog w0 52 [.str s, .str [c]] h (fun v h'=>∃k,h k=none/\v= .slice (.own k) 0 (Xr c [] s).length (.exact (Xr c [] s).length)/\h'=h.set k ⟨(Xr c [] s).map AVal.str,0⟩):=by
 obtain⟨m,hm⟩:=hm;refine qhJ (vals:=[.string ⟨⟨s⟩⟩, .string ⟨⟨[c]⟩⟩]) (cs:=(Xr c [] s).map fun x=>Value.string ⟨⟨x⟩⟩) (e:=9) Tryz.func52 rfl rfl (fun fi vs hv=>qiI hv) (fun fi=>qkd fi _) fun w hb=>?_;have hlt:2<w0.heap.size:=qhy hm;have hw:w.cell? ⟨2,0,none⟩=some (.int .i64 m):=(hb.cell (p:=⟨2,0,none⟩) hlt).trans hm;refine(Tryz.strings_Split ⟨⟨s⟩⟩ ⟨⟨[c]⟩⟩ m w hl hw (show 1<=(⟨⟨[c]⟩⟩:ByteArray).size from KL 1)).mono fun e w' ⟨e1,e2⟩=>?_;have hs:=split_c c s.length s (KL _);have hn:Lib.countB ⟨⟨s⟩⟩ ⟨⟨[c]⟩⟩+1=(Xr c [] s).length:=by
  rw[<-Jn (f:=fun l=>(⟨⟨l⟩⟩:ByteArray)),<-hs,Lib.splitB_all _ (show 1<=(⟨⟨[c]⟩⟩:ByteArray).size from KL 1) 0 _ _ rfl]
 rw[e1,e2,hn,hs,List.map_map];exact⟨rfl,rfl⟩
theorem qpM(w0:World)(ha:Asp w0)(h:AHeap)(s:Str)(hl:s.length<=1000000)(has:asciiB s=true):ACall Tryz.prog w0 103 [.str s] h (fun v h'=>v= .str (Lib.trimSpace s)/\h'=h):=by
 refine qeO (vals:=[.string ⟨⟨s⟩⟩]) (val:= .string ⟨⟨Lib.trimSpace s⟩⟩) Tryz.func103 rfl rfl (fun fi vs hv=>VRs_s hv) (fun fi=>rfl) fun w hb=>?_;refine(Tryz.strings_TrimSpace ⟨⟨s⟩⟩ w (Ve hl (by decide)) (qll has) (ha.later hb)).mono fun e w' ⟨e1,e2⟩=>⟨e1,?_⟩
 subst e2;exact Lib.bytesWorld_below w _ _
theorem qsW(w0:World)(h:AHeap):ACall Tryz.prog w0 7 [] h (fun r h'=>∃k,h k=none/\r= .slice (.own k) 0 39 (.exact 39)/\h'=h.set k ⟨rowsT.map AVal.str,0⟩):=by
 obtain⟨T,hT⟩:∃T,T=rowsT:=⟨_,rfl⟩
 rw[<-hT];refine qR (n:=2) (rs:=[.tmp 0]) Tryz.func7 rfl rfl rfl rfl (VY rfl) ?_;simp only[qU];refine awp_rseq [] (by rfl) fun K hK=>?_;simp+decide only[qP,↓qa];apply hK;clear hK K;refine qi ?_;refine qlj (cs:=T.map AVal.str) (by kernel_rfl) (by rw[hT];kernel_rfl) fun k1q0 hk1q0=>?_;simp only[qcb];refine JR [0] ?_;simp+decide only[QI,Zr,Ev,VF,VG];refine qW ?_;refine Qb (qA (qC)) ?_;simp+decide only[QE];exact⟨_,Vi _,k1q0,hk1q0,rfl,rfl⟩
theorem c_listL(w0:World)(hm:MaxL w0)(h:AHeap)(s:Str)(hl:s.length<=1000000):ACall Tryz.prog w0 54 [.str s] h (fun r h'=>∃p,GrowV 1 r p ((qam s).map strC)/\AM.Sep [h,p] h'):=by
 have hS0:AM.Sep [h,emp] h:=El (ps:=[h]) ⟨fun p hp=>by rw[V4.1 hp];exact Vi _,by simp⟩;refine qR (n:=7) (rs:=[.tmp 2]) Tryz.func54 rfl rfl rfl rfl (VY rfl) ?_;simp only[qU];refine awp_rseq [0] (by rfl) fun K hK=>?_;simp+decide only[qP,↓qa];apply hK;clear hK K;refine qi ?_;refine awp_rseq [0,4] (by rfl) fun K hK=>?_;simp+decide only[Xj,ZE,Zd,↓qc,↓qd];apply hK;clear hK K;refine qz (b:=_) rfl (fun hb1=>?_) (fun hb1=>?_)
 ·try simp only[qG]at hb1
  have hL:qam s=[]:=by unfold qam;rw[if_pos hb1]
  refine awp_rseq [2] (by rfl) fun K hK=>?_;simp+decide only[qP,↓qa];apply hK;clear hK K;refine qW ?_;try simp only[XB]
  refine QG h zqC (qA (qC)) ?_;simp+decide only[QE];rw[hL];exact⟨emp, .nil,hS0⟩
 ·try simp only[qG]at hb1
  have hL:qam s=Xr 59 [] s:=by unfold qam;rw[if_neg hb1]
  refine qF ?_;change Awp _ _ _ _ _ _ _;refine awp_rseq [2] (by rfl) fun K hK=>?_;simp+decide only[Qe,↓qc];refine qE (by rfl) (by rfl) (qpN w0 hm _ s 59 (by omega)) fun x3q1 h3q1 hx3q1=>?_;obtain⟨k,hk,rfl,e3⟩:=hx3q1;have hS3:=Eb (ps:=[h]) ⟨fun p hp=>by rw[V4.1 hp];exact Vi _,by simp⟩ hk ⟨(Xr 59 [] s).map AVal.str,0⟩;rw[<-e3]at hS3;simp only[Xf]at hS3;simp+decide only[qP,↓qa];apply hK;clear hK K;refine qW ?_;refine Qb (qA (qC)) ?_;simp+decide only[QE];rw[hL];exact⟨_,Vi _,_,GrowV.new (by rw[Jn]) (.inl rfl) (fun x hx=>by obtain⟨y,_,rfl⟩:=List.mem_map.1 hx;rfl) (str_live _) (str_flat _),hS3⟩
end Go.Proofs.YtgiadjbiimkbiaaGreatDoor
namespace Go.Stm
open Go.Col (Str)
open Go.Proofs.YtgiadjbiimkbiaaGreatDoor (asciiB)
theorem qop{ops:List UInt8}{i:Nat}(hi:i<ops.length)(h4:i<4):((ops.take (i+1)).map fun o=>32::opsT.getD (o.toNat%5) []).flatten=((ops.take i).map fun o=>32::opsT.getD (o.toNat%5) []).flatten++[32]++opsT.getD ((ops.getD i 0).toNat%5) []:=by
 rw[Bn,JB hi,JI,List.flatten_append,K9];congr 1;simp[Ko,hi]
theorem opsT_ok(k:Nat):(opsT.getD k []).length<=3/\asciiB (opsT.getD k [])=true:=by
 by_cases h:k<5
 ·have:k=0\/k=1\/k=2\/k=3\/k=4:=by omega
  rcases this with rfl|rfl|rfl|rfl|rfl<;>decide
 ·rw[Ko,List.getElem?_eq_none (by show opsT.length<=k;simp[opsT];omega)]
  exact⟨by decide,rfl⟩
theorem qmv(l:List UInt8):((l.map fun o=>32::opsT.getD (o.toNat%5) []).flatten).length<=4*l.length/\asciiB ((l.map fun o=>32::opsT.getD (o.toNat%5) []).flatten)=true:=by
 induction l with
 |nil=>exact⟨KL _,rfl⟩
 |cons o l ih=>
  obtain⟨a,b⟩:=opsT_ok (o.toNat%5);rw[Ke,Vp];refine⟨by rw[Jb,KX,KX];omega,?_⟩;unfold asciiB at*
  rw[Es,List.all_cons,b,ih.2];rfl
theorem wordsE_ok(ops:List UInt8):(Yb ops).length<=16/\asciiB (Yb ops)=true:=by
 obtain⟨a,b⟩:=qmv (ops.take 4);exact⟨Ve a (by rw[K4];omega),b⟩
end Go.Stm
namespace Go.Proofs.YtgiadjbiimkbiaaGreatDoor
open Go.AM
open Go.Proofs
open Go.Col (Str FaultC okF)
open Go.Tok (TokC)
open Go.Stm
open Go.RowKit (Below)
set_option maxRecDepth 100000
abbrev buB(text:Str)(c:Cur)(pv bv:AVal):Blk:=⟨[.str text, .str c.verb, .int .i64 c.line, .int .i64 c.col,pv,bv],0⟩
theorem qoa(w0:World)(B H:AHeap)(kb:Nat)(text w:Str)(c:Cur)(pv bv:AVal)(hS:AM.Sep [B,one kb (buB text c pv bv)] H)(hl:text.length<=1000000000)(hw:w.length<=1000000000):
 ACall Tryz.prog w0 56 [.ptr (.own kb) 0, .str w] H (fun _ h'=>AM.Sep [B,one kb (buB (text++[32]++w) c pv bv)] h'):=by
 have eb_b:H kb=some _:=hS.at_ (i:=1) rfl;refine qR (n:=14) (rs:=[]) Tryz.func56 rfl rfl rfl rfl (VY rfl) ?_;simp only[qU];refine Qv [] (by rfl) ?_;simp+decide only[Xj,QU,qj,QF,Jb,Qs,Xh,Xn,ZO,↓qc,↓Qf,↓qh,qnK,↓qo,qf ag9,↓qd,Qm eb_b];repeat (with_reducible refine zqP ?_)
 refine qN (by rfl) (by rfl) zqA sz9 (by rfl) (by rfl) zqD (Jq _) (by rfl) ?_;simp only[QT];simp+decide only[qV,QF,Jb];refine qai (qC) ?_;exact⟨_,Vi _,hS.put (i:=1) rfl _⟩
theorem c_has(w0:World)(B H:AHeap)(kb:Nat)(text w:Str)(c:Cur)(pv bv:AVal)(qs:List (PhrC×AVal))(hS:AM.Sep [B,one kb (buB text c pv bv)] H)(hv:∀h,AM.Sub B h->IsL w0 h 2 pv (qs.map phC))(hl:qs.length<=1000000):
 ACall Tryz.prog w0 84 [.ptr (.own kb) 0, .str w] H (fun r h'=>r= .bool ((qs.map (·.1)).any fun p=>decide (p.words=w))/\h'=H):=by
 have eb_b:H kb=some _:=hS.at_ (i:=1) rfl;have hB:AM.Sub B H:=hS.in_ (i:=0) rfl;have hq:=hv H hB;have np:=qie hq;have hpl:=hq.live;obtain⟨R,hR⟩:∃R,R=((qs.map (·.1)).any fun p=>decide (p.words=w)):=⟨_,rfl⟩
 rw[<-hR];refine qR (n:=27) (rs:=[.tmp 4]) Tryz.func84 rfl rfl rfl rfl (VY rfl) ?_;simp only[qU];refine awp_rseq [0,1] (by rfl) fun K hK=>?_;simp+decide only[qP,↓qa];apply hK;clear hK K;refine qi ?_;refine awp_rseq [0,1,5] (by rfl) fun K hK=>?_;simp+decide only[qP,↓qa];apply hK;clear hK K;refine qI ?_;refine Qj [0,1,5] (fun j:Nat=>[(0, .ptr (.own kb) 0),(1, .str w),(5, .int .i64 j)]) (fun j:Nat=>H) (fun j:Nat=>j<=qs.length/\R=(((qs.drop j).map (·.1)).any fun p=>decide (p.words=w))) (fun j:Nat=>qs.length-j) 0 (by rfl) (Vi _) ⟨Jq _,hR⟩ ?_;rintro j ⟨hj,hg⟩;refine qi ?_;refine awp_rseq [0,1,5,13] (by rfl) fun K hK=>?_;simp+decide only[QK,QU,qj,Qh,QY,Xh,YI,WE,↓qc,↓Qf,↓qh,↓qo,qf qdr,↓Qi,↓qd,Qm eb_b,Nat.reduceAdd,np,hpl];apply hK;clear hK K;refine qz (b:=_) rfl (fun hb1=>?_) (fun hb1=>?_)
 ·try simp only[qG]at hb1
  have hj1:j<qs.length:=by omega
  obtain⟨lc,o,cc,hpe⟩:=qcc hq (by omega);have hq2:=hq;rw[hpe]at hq2;obtain⟨e0,e1⟩:=qeJ hq2 hj1;have hst:=qlm (p:=fun p:PhrC=>decide (p.words=w)) (d:=qej) hj1;rw[hst]at hg;obtain⟨q,hq3⟩:∃q,q=(qs.getD j qej).1.words:=⟨_,rfl⟩
  rw[<-hq3]at e0 hg;have hwj:IntKind.i64.wrap ((j:Int)+1)=((j+1:Nat):Int):=by rw[wrap_i64 (by omega) (by omega)];omega
  have hpl2:(AVal.slice lc o qs.length cc).live=true:=rfl;refine qF ?_;change Awp _ _ _ _ _ _ _;refine qi ?_;refine qI ?_;refine awp_rseq [0,1,5,26] (by rfl) fun K hK=>?_;simp+decide only[Xj,QU,VD,qj,K6,Qs,Xh,Zd,YI,WE,↓qc,↓Qf,↓qh,↓qo,qf qdr,↓qJ,qg Tryz.underlying79 qbA,qkS,qf ag9,↓qd,Qm eb_b,Nat.reduceAdd,hpe,e0];repeat (with_reducible refine zqP ?_)
  apply hK;clear hK K;refine qz (b:=_) rfl (fun hb2=>?_) (fun hb2=>?_)
  ·try simp only[qG]at hb2
   refine awp_rseq [4] (by rfl) fun K hK=>?_;simp+decide only[qP,↓qa];apply hK;clear hK K;refine qW ?_;try simp only[XB]
   refine Qb (qA (qC)) ?_;simp+decide only[QE];exact⟨H,Vi _,by rw[hg,decide_eq_true hb2];rfl,rfl⟩
  ·try simp only[qG]at hb2
   rw[decide_eq_false hb2,VS]at hg;refine qF ?_;change Awp _ _ _ _ _ _ _;refine Qv [0,1,5] (by rfl) ?_;simp+decide only[XD,Xi,↓qc,↓qd,↓qa,hwj];try simp only[QL]
   exact⟨j+1,by first|rfl|(rw[hpe];rfl),Vi _,⟨hj1,hg⟩,by omega⟩
 ·try simp only[qG]at hb1
  have hjq:j=qs.length:=by omega
  rw[hjq,Va]at hg;refine Qk ?_;change Awp _ _ _ _ _ _ _;refine awp_rseq [4] (by rfl) fun K hK=>?_;simp+decide only[qP,↓qa];apply hK;clear hK K;refine qW ?_;refine Qb (qA (qC)) ?_;simp+decide only[QE];exact⟨H,Vi _,by rw[hg];rfl,rfl⟩
theorem qkZ(w0:World)(h:AHeap)(v:AVal)(l:List UInt8)(hv:IsL w0 h 1 v (l.map u8C)):ACall Tryz.prog w0 81 [v] h (fun r h'=>r= .str (Yb l)/\AM.Sub h h'):=by
 have hlv:=hv.live;have nv:∀H:AHeap,Zl Tryz.prog H 32 v=⟨True, .int .i64 l.length⟩:=fun H=>by have:=hv.len Tryz.underlying32 H;rwa [Jn]at this
 refine qR (n:=27) (rs:=[.tmp 2]) Tryz.func81 rfl rfl rfl rfl (VY rfl) ?_;simp only[qU];refine awp_rseq [0] (by rfl) fun K hK=>?_;simp+decide only[qP,↓qa];apply hK;clear hK K;refine awp_rseq [0,3] (by rfl) fun K hK=>?_;simp+decide only[qP,↓qa];apply hK;clear hK K;refine qi ?_;refine awp_rseq [0,3,4] (by rfl) fun K hK=>?_;simp+decide only[qP,↓qa];apply hK;clear hK K;refine qI ?_;refine Qj [0,3,4] (fun g:SaG=>[(0,v),(3, .str (((l.take g.j).map fun o=>32::opsT.getD (o.toNat%5) []).flatten)),(4, .int .i64 g.j)]) (fun g:SaG=>g.H) (fun g:SaG=>AM.Sub h g.H/\g.j<=l.length/\g.j<=4) (fun g:SaG=>l.length-g.j) ⟨0,h⟩ (by rfl) (Vi _) ⟨Vi _,Jq _,Jq _⟩ ?_;rintro⟨j,H⟩ ⟨hs_H,hj,hj4⟩;simp only at hs_H hj hj4|-
 have hfl:=(qmv (l.take j)).1;rw[K4]at hfl;refine qi ?_;refine awp_rseq [0,3,4,12] (by rfl) fun K hK=>?_;simp+decide only[Xk,qK,qj,ZH,Yl,QS,QY,↓qc,↓Qi,↓qd,↓Qy,↓Qn,↓Qd,nv];apply hK;clear hK K;refine qz (b:=_) rfl (fun hb1=>?_) (fun hb1=>?_)
 ·try simp only[qG]at hb1
  obtain⟨hj1,hj5⟩:j<l.length/\j<4:=by omega
  obtain⟨lc,o,cc,hve⟩:=hv.open (fun e=>by rw[Vz]at e;rw[e]at hj1;cases hj1);have hv2:=hv.mono hs_H;rw[hve]at hv2;have e0:∀(k:Nat) (X:Blk),H k=none->rd w0 (H.set k X) lc (o+j)= .int .u8 (l.getD j 0).toNat:=fun k X hk=>by
   have q:=hv.mono (hs_H.trans (Vj (b:=X) hk));rw[hve]at q;exact u8_get q hj1
  have hst:=qop hj1 hj5;obtain⟨b,hb⟩:∃b,b=l.getD j 0:=⟨_,rfl⟩
  rw[<-hb]at hst e0;have hb8:b.toNat<256:=b.toNat_lt;obtain⟨k,hk⟩:∃k,k=b.toNat%5:=⟨_,rfl⟩
  have hk5:k<5:=by omega
  have hrem:Ew (b.toNat:Int) 5=(k:Int):=by rw[Ex (by omega),hk];exact(Ey b.toNat 5).symm
  have hwu:IntKind.u8.wrap (k:Int)=(k:Int):=wrap_u8 (by omega) (by omega);have q5:k=0\/k=1\/k=2\/k=3\/k=4:=by omega
  have hc5:(opsT.map AVal.str).getD k .dead= .str (opsT.getD k []):=by rcases q5 with e|e|e|e|e<;>rw[e]<;>rfl
  obtain⟨s,hs⟩:∃s,s=opsT.getD k []:=⟨_,rfl⟩
  have hsl:=(opsT_ok k).1;rw[<-hk,<-hs]at hst;rw[<-hs]at hc5 hsl;have hkb:(0<=(k:Int)/\(k:Int)<5)=True:=eq_true ⟨by omega,by omega⟩;have hjb:(0<=(j:Int)/\(j:Int)<(l.length:Int))=True:=eq_true ⟨by omega,by omega⟩;have hwj:IntKind.i64.wrap ((j:Int)+1)=((j+1:Nat):Int):=by rw[wrap_i64 (by omega) (by omega)];omega
  refine qF ?_;change Awp _ _ _ _ _ _ _;refine qi ?_;refine qI ?_;refine Qv [0,3,4] (by rfl) ?_;simp+decide only[Xj,VD,QF,Jn,Jb,ZE,ZO,↓qc,↓qd,hve];repeat (with_reducible refine zqP ?_)
  refine qO (cs:=opsT.map AVal.str) (by kernel_rfl) fun k5q2 hk5q2=>?_;have hn_5q2:H k5q2=none:=by first|assumption|(simp only[Bd]at hk5q2;simp only[hk5q2])
  have hf_5q2:h k5q2=none:=Be hs_H hn_5q2;simp+decide only[XD,QJ,qK,VD,qj,QF,Jn,Jb,Qs,ZO,Bi,qad,↓qc,↓qJ,qg Tryz.underlying32 sz5,↓qo,qf ag5,↓qd,qg Tryz.underlying22 sz9,qf ag9,↓qa,hjb,hrem,hc5,e0 _ _ hk5q2];repeat (with_reducible refine zqP ?_)
  change Awp _ _ _ _ _ _ _;refine Qv [0,3,4] (by rfl) ?_;simp+decide only[XD,Xi,↓qc,↓qd,↓qa,hwj];try simp only[QL]
  exact⟨⟨j+1,_⟩,by rw[hst];first|rfl|(rw[hve];simp only[Jn];rfl),Vi _,⟨zqB,hj1,hj5⟩,by simp only;omega⟩
 ·try simp only[qG]at hb1
  have hR:((l.take j).map fun o=>32::opsT.getD (o.toNat%5) []).flatten=Yb l:=by
   unfold Yb;rcases hb1 with z|z
   ·rw[JZ (by omega),JZ (by omega)]
   ·rw[show j=4 by omega]
  refine Qk ?_;change Awp _ _ _ _ _ _ _;refine awp_rseq [2] (by rfl) fun K hK=>?_;simp+decide only[Xp,↓qc,↓qa];apply hK;clear hK K;refine qW ?_;refine Qb (qA (qC)) ?_;simp+decide only[QE];rw[hR];exact⟨_,Vi _,rfl,hs_H⟩
end Go.Proofs.YtgiadjbiimkbiaaGreatDoor
namespace Go.Stm
open Go.Col (Str)
open Go.Proofs.YtgiadjbiimkbiaaGreatDoor (asciiB)
theorem qsF{s:Str}:∀w∈Lib.fields s,∀b∈w,b∈s:=by
 have go:∀(s cur:Str),∀w∈Lib.fieldsGo cur s,∀b∈w,b∈cur\/b∈s:=by
  intro s;induction s with
  |nil=>
   intro cur w hw b hb;unfold Lib.fieldsGo at hw;split at hw
   ·cases hw
   ·rw[V4.1 hw]at hb;exact .inl hb
  |cons c s ih=>
   intro cur w hw b hb;unfold Lib.fieldsGo at hw;split at hw
   ·split at hw
    ·rcases ih [] w hw b hb with z|z
     ·cases z
     ·exact .inr (Jf _ z)
    ·rcases KW.1 hw with q|q
     ·rw[q]at hb;exact .inl hb
     ·rcases ih [] w q b hb with z|z
      ·cases z
      ·exact .inr (Jf _ z)
   ·rcases ih _ w hw b hb with z|z
    ·rcases JV.1 z with z|z
     ·exact .inl z
     ·rw[V4.1 z];exact .inr Je
    ·exact .inr (Jf _ z)
 intro w hw b hb;rcases go s [] w hw b hb with z|z
 ·cases z
 ·exact z
theorem qiG{s t:Str}(h:asciiB s=true)(hm:∀b∈t,b∈s):asciiB t=true:=by
 unfold asciiB at*
 exact Jz.2 fun b hb=>Jz.1 h b (hm b hb)
theorem qiA{p:UInt8->Bool}:∀{s:Str},∀b∈s.dropWhile p,b∈s
 |[],b,h=>h
 |c::s,b,h=>by
  rw[Eg]at h;split at h
  ·exact Jf _ (qiA b h)
  ·exact h
theorem qmd{s cs:Str}:∀b∈Lib.trimS s cs,b∈s:=fun b hb=>by
 unfold Lib.trimS Lib.trimLeftS Lib.trimRightS at hb;have h1:=qiA b hb;have h2:=qiA b (Ez.1 h1);exact Ez.1 h2
theorem qiB{p:UInt8->Bool}:∀(s:Str),(s.dropWhile p).length<=s.length
 |[]=>KL _
 |c::s=>by
  rw[Eg];split
  ·exact Ve (qiB s) (by simp)
  ·exact KL _
theorem space_len(s:Str):(Lib.trimSpace s).length<=s.length:=by
 unfold Lib.trimSpace;have h1:=qiB (p:=Lib.isSp) s;have h2:=qiB (p:=Lib.isSp) (s.dropWhile Lib.isSp).reverse;rw[Eh]at h2|-
 omega
end Go.Stm
namespace Go.Proofs.YtgiadjbiimkbiaaGreatDoor
open Go.AM
open Go.Proofs
open Go.Col (Str FaultC okF)
open Go.Tok (TokC)
open Go.Stm
open Go.RowKit (Below)
set_option maxRecDepth 100000
set_option maxHeartbeats 4000000 in
theorem qnZ(w0:World)(ha:Asp w0)(h:AHeap)(form:Str)(bits:UInt8)(all:Bool)(hf:form.length<=500)(hfa:asciiB form=true):
 ACall Tryz.prog w0 82 [.str form, .int .u8 bits.toNat, .bool all] h (fun r h'=>r= .str (qaa form bits all)/\AM.Sub h h'):=by
 obtain⟨ws,hws⟩:∃ws,ws=Lib.fields form:=⟨_,rfl⟩
 have hwl:ws.length<=501:=by rw[hws];exact Ve (fields_few form) (by omega)
 have hwa:∀w∈ws,w.length<=500/\w≠[]/\asciiB w=true:=fun w hw=>by
  rw[hws]at hw;exact⟨Ve (fields_small w hw) hf,qgB w hw,qiG hfa (qsF w hw)⟩
 have hR:qaa form bits all=Lib.trimSpace (qaz bits all 0 ws []):=by rw[hws];rfl
 have hb8:bits.toNat<256:=bits.toNat_lt;refine qR (n:=58) (rs:=[.tmp 6]) Tryz.func82 rfl rfl rfl rfl (VY rfl) ?_;simp only[qU];refine awp_rseq [0,1,2] (by rfl) fun K hK=>?_;simp+decide only[qP,↓qa,Nat.reduceAdd];apply hK;clear hK K;refine awp_rseq [0,1,2,7] (by rfl) fun K hK=>?_;simp+decide only[qP,↓qa];apply hK;clear hK K;refine awp_rseq [1,2,7,8] (by rfl) fun K hK=>?_;simp+decide only[Qe,↓qc];refine qE (by rfl) (by rfl) (qbG w0 ha _ form (by omega) hfa) fun x2q1 h2q1 hx2q1=>?_;obtain⟨kw,hkw,rfl,rfl⟩:=hx2q1;rw[<-hws];have lw:=WC (Uv (w0:=w0) (Vh h kw ⟨ws.map AVal.str,0⟩));simp+decide only[qP,↓qa];apply hK;clear hK K;refine qi ?_;refine awp_rseq [1,2,7,8,9] (by rfl) fun K hK=>?_;simp+decide only[qP,↓qa];apply hK;clear hK K;refine qI ?_;refine Qj [1,2,7,8,9] (fun g:Nat×Str=>[(1, .int .u8 bits.toNat),(2, .bool all),(7, .str g.2),(8, .slice (.own kw) 0 ws.length (.exact ws.length)),(9, .int .i64 g.1)]) (fun g:Nat×Str=>h.set kw ⟨ws.map AVal.str,0⟩) (fun g:Nat×Str=>g.1<=ws.length/\g.2.length<=501*g.1/\asciiB g.2=true/\qaz bits all 0 ws []=qaz bits all g.1 (ws.drop g.1) g.2) (fun g:Nat×Str=>ws.length-g.1) (0,[]) (by rfl) (Vi _) ⟨Jq _,Jq _,rfl,rfl⟩ ?_;rintro⟨i,out⟩ ⟨hi,hol,hoa,hg⟩;simp only at hi hol hoa hg|-
 refine qi ?_;refine awp_rseq [1,2,7,8,9,16] (by rfl) fun K hK=>?_;simp+decide only[QK,qj,Qh,QY,↓qc,↓Qi,QV Tryz.underlying22,↓qd];apply hK;clear hK K;refine qz (b:=_) rfl (fun hb1=>?_) (fun hb1=>?_)
 ·try simp only[qG]at hb1
  have hi':i<ws.length:=by omega
  obtain⟨w,hw⟩:∃w,w=ws.getD i []:=⟨_,rfl⟩
  have ew:=qaw (w0:=w0) (Vh h kw ⟨ws.map AVal.str,0⟩) hi';rw[<-hw]at ew;obtain⟨hwn,hwp,hwas⟩:=hwa w (by rw[hw,Ko,JB hi'];exact Vw hi');have hst:qaz bits all 0 ws []=qaz bits all (i+1) (ws.drop (i+1)) (if qoD w bits all i=true then out else out++[32]++Lib.trimS w qfa):=by
   rw[hg,Vb hi',qaz];have:ws[i]=w:=by rw[hw];simp[Ko,hi']
   rw[this]
  have hw0:((0:Int)<w.length)=True:=eq_true (by have:=Bu.2 hwp;omega);have hwb:(0<=(0:Int)/\(0:Int)<w.length)=True:=eq_true ⟨by omega,by have:=Bu.2 hwp;omega⟩;have h91:∀c:UInt8,decide ((c.toNat:Int)=91)=decide (c=91):=fun c=>Yg c 91;have h40:∀c:UInt8,decide ((c.toNat:Int)=40)=decide (c=40):=fun c=>Yg c 40;have h8:Ew (i:Int) 8=((i%8:Nat):Int):=by rw[Ex (by omega)];exact(Ey i 8).symm
  have hw8:IntKind.i64.wrap ((i%8:Nat):Int)=((i%8:Nat):Int):=wrap_i64 (by omega) (by omega);obtain⟨bt,hbt⟩:∃bt,bt=bits.toNat / 2^(i%8)%2:=⟨_,rfl⟩
  have hbit:Ew (Int.fdiv (bits.toNat:Int) (2^(min (i%8) IntKind.u8.bits))) 2=(bt:Int):=by
   have hm:min (i%8) IntKind.u8.bits=i%8:=by show min (i%8) 8=_;omega
   rw[hm,hbt];have h1:Int.fdiv (bits.toNat:Int) (2^(i%8))=((bits.toNat / 2^(i%8):Nat):Int):=by
    rw[Int.fdiv_eq_ediv_of_nonneg _ (Int.pow_nonneg (by decide)),Int.natCast_ediv];congr 1
   rw[h1,Ex (Int.natCast_nonneg _)];exact(Ey _ 2).symm
  have hbu:IntKind.u8.wrap (bt:Int)=(bt:Int):=wrap_u8 (by omega) (by omega);have hb1':decide ((bt:Int)=1)=decide (bt=1):=by rw[decide_eq_decide];omega
  have hsk:qoD w bits all i=((decide (w.getD 0 0=91) && !all)||((decide (w.getD 0 0=91)||decide (w.getD 0 0=40)) && (all && decide (bt=1)))):=by rw[hbt];rfl
  have hwi:IntKind.i64.wrap ((i:Int)+1)=((i+1:Nat):Int):=by rw[wrap_i64 (by omega) (by omega)];omega
  have hi0:Int.toNat 0=0:=rfl;have htl:=trimS_le w qfa;have hwp0:=Bu.2 hwp;refine qF ?_;change Awp _ _ _ _ _ _ _;refine qi ?_;refine qI ?_;refine awp_rseq [1,2,7,8,9,10] (by rfl) fun K hK=>?_;simp+decide only[Xp,QJ,VD,Bi,↓qc,↓qJ,qg Tryz.underlying22 sz9,↓qo,qf ag9,↓qa,ew];repeat (with_reducible refine zqP ?_)
  apply hK;clear hK K;refine qi ?_;refine awp_rseq [1,2,7,8,9,10,50] (by kernel_rfl) fun K hK=>?_;simp+decide only[Xk,qK,VD,qj,XL,QS,XA,YF,Zf,qad,qbz,qby,qjk,qjj,↓qc,↓qhI,qfE,qeh Tryz.underlying9,↓qd,↓Qy,↓Uc,↓Qd,↓ag_index,cv_indexl,cp_indexl,↓Qn,↓UE,qmu,h91,h40,h8,hbit,hb1',hi0];refine⟨by omega,fun _=>by omega,fun _=>by omega,fun _=>by omega,?_⟩;apply hK;clear hK K;refine qz (b:=_) rfl (fun hb2=>?_) (fun hb2=>?_)
  ·have hk:qoD w bits all i=true:=by rw[hsk,<-Vo];exact hb2
   rw[if_pos hk]at hst;all_goals
    try simp only[qG]at hb2
    refine Qk ?_;change Awp _ _ _ _ _ _ _;refine Qv [1,2,7,8,9] (by rfl) ?_;simp+decide only[XD,Xi,↓qc,↓qd,↓qa,hwi];try simp only[QL]
    first
    |exact⟨(i+1,out),rfl,Vi _,⟨hi',by simp only;omega,hoa,hst⟩,by simp only;omega⟩
    |exact⟨(i+1,out++[32]++Lib.trimS w qfa),rfl,Vi _,⟨hi',by simp only[QF,Jb];omega,qcs (qcs hoa (by decide)) (qiG hwas qmd),hst⟩,by simp only;omega⟩
  ·have hk:qoD w bits all i=false:=by rw[hsk,<-Vo];exact hb2
   rw[if_neg (by rw[hk];decide)]at hst;all_goals
    try simp only[qG]at hb2
    refine qF ?_;change Awp _ _ _ _ _ _ _;refine Qv [1,2,7,8,9] (by rfl) ?_;simp+decide only[Xj,QF,Jb,ZE,ZO,↓qc,↓qd];repeat (with_reducible refine zqP ?_)
    refine QC (V:= .str (Lib.trimS w qfa)) (by rfl) (by rfl) (qsT w0 _ w qfa (by omega) (by decide) (by decide) (by decide)) ?_;simp+decide only[XK,QO,Za,qj,QF,Jb,Qs,ZO,↓qd,↓qa];repeat (with_reducible refine zqP ?_)
    change Awp _ _ _ _ _ _ _;refine Qv [1,2,7,8,9] (by rfl) ?_;simp+decide only[XD,Xi,↓qc,↓qd,↓qa,hwi];try simp only[QL]
    first
    |exact⟨(i+1,out),rfl,Vi _,⟨hi',by simp only;omega,hoa,hst⟩,by simp only;omega⟩
    |exact⟨(i+1,out++[32]++Lib.trimS w qfa),rfl,Vi _,⟨hi',by simp only[QF,Jb];omega,qcs (qcs hoa (by decide)) (qiG hwas qmd),hst⟩,by simp only;omega⟩
 ·try simp only[qG]at hb1
  have hin:i=ws.length:=by omega
  rw[hin,Va]at hg;have hRo:qaa form bits all=Lib.trimSpace out:=by rw[hR,hg];rfl
  refine Qk ?_;change Awp _ _ _ _ _ _ _;refine awp_rseq [6] (by rfl) fun K hK=>?_;simp+decide only[Qe,↓qc];refine QC (V:= .str (Lib.trimSpace out)) (by rfl) (by rfl) (qpM w0 ha _ out (by omega) hoa) ?_;simp+decide only[qP,↓qa];apply hK;clear hK K;refine qW ?_;refine Qb (qA (qC)) ?_;simp+decide only[QE];rw[hRo];exact⟨_,Vi _,rfl,Vj hkw⟩
theorem qlb(w0:World)(ha:Asp w0)(h:AHeap)(form:Str)(hf:form.length<=500)(hfa:asciiB form=true):
 ACall Tryz.prog w0 83 [.str form] h (fun r h'=>r= .str (qcS form)/\AM.Sub h h'):=by
 have hR:qcS form=if form=[84,72,82,79,85,71,72]then qeP else if form=[84,79,32,80,82,79,67,69,69,68,32,84,79]then TOw else if form=[82,69,67,79,82,68]then[]else qaa form 0 false:=rfl
 refine qR (n:=11) (rs:=[.tmp 2]) Tryz.func83 rfl rfl rfl rfl (VY rfl) ?_;simp only[qU];refine awp_rseq [0] (by rfl) fun K hK=>?_;simp+decide only[qP,↓qa];apply hK;clear hK K;refine qi ?_;refine awp_rseq [0,4] (by rfl) fun K hK=>?_;simp+decide only[Xj,ZE,Zd,↓qc,↓qd];apply hK;clear hK K;refine qz (b:=_) rfl (fun hb1=>?_) (fun hb1=>?_)
 ·try simp only[qG]at hb1
  refine awp_rseq [2] (by rfl) fun K hK=>?_;simp+decide only[qP,↓qa];apply hK;clear hK K;refine qW ?_;try simp only[XB]
  refine QG h zqC (qA (qC)) ?_;simp+decide only[QE];rw[hR,if_pos hb1];exact⟨rfl,Vi _⟩
 ·try simp only[qG]at hb1
  rw[if_neg hb1]at hR;refine qF ?_;change Awp _ _ _ _ _ _ _;refine qi ?_;refine awp_rseq [0,6] (by rfl) fun K hK=>?_;simp+decide only[Xj,ZE,Zd,↓qc,↓qd];apply hK;clear hK K;refine qz (b:=_) rfl (fun hb2=>?_) (fun hb2=>?_)
  ·try simp only[qG]at hb2
   refine awp_rseq [2] (by rfl) fun K hK=>?_;simp+decide only[qP,↓qa];apply hK;clear hK K;refine qW ?_;try simp only[XB]
   refine QG h zqC (qA (qC)) ?_;simp+decide only[QE];rw[hR,if_pos hb2];exact⟨rfl,Vi _⟩
  ·try simp only[qG]at hb2
   rw[if_neg hb2]at hR;refine qF ?_;change Awp _ _ _ _ _ _ _;refine qi ?_;refine awp_rseq [0,8] (by rfl) fun K hK=>?_;simp+decide only[Xj,ZE,Zd,↓qc,↓qd];apply hK;clear hK K;refine qz (b:=_) rfl (fun hb3=>?_) (fun hb3=>?_)
   ·try simp only[qG]at hb3
    refine awp_rseq [2] (by rfl) fun K hK=>?_;simp+decide only[qP,↓qa];apply hK;clear hK K;refine qW ?_;try simp only[XB]
    refine QG h zqC (qA (qC)) ?_;simp+decide only[QE];rw[hR,if_pos hb3];exact⟨rfl,Vi _⟩
   ·try simp only[qG]at hb3
    rw[if_neg hb3]at hR;refine qF ?_;change Awp _ _ _ _ _ _ _;refine awp_rseq [2] (by rfl) fun K hK=>?_;simp+decide only[Qe,↓qc];refine qE (by rfl) (by rfl) (qnZ w0 ha _ form 0 false hf hfa) fun x7q1 h7q1 hx7q1=>?_;obtain⟨rfl,hs7⟩:=hx7q1;have hs_h7q1:Sub h h7q1:=Br zqC hs7;have hr_h7q1:=hs_h7q1;simp+decide only[qP,↓qa];apply hK;clear hK K;refine qW ?_;refine Qb (qA (qC)) ?_;simp+decide only[QE];rw[hR];exact⟨_,Vi _,rfl,hs7⟩
end Go.Proofs.YtgiadjbiimkbiaaGreatDoor
