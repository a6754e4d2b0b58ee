/-
  Texts of this proof, joined: SoQ, SoR, SoS, SpA, SpB, SpC, SpD, SpE, SqC, SqD, BmG, SqE, SrB, SrF, SrG, SrH, SrA, SrC, SpF, SrD, SrI, SrJ, SsA, SsB, SvA, SvB, SvC, SvD, SvE, SqB, SqF, SqG, SpG, SrE, SsC, SsD, SsE.
  Conditions: none.
-/
import Derived.Test.YtgiadjbiimkbiaaGreatDoorBc
import Derived.Test.YtgiadjbiimkbiaaGreatDoorBb
import Derived.Lib.Space
import Derived.Lib.AtoiErrMem
set_option linter.unusedSimpArgs false
set_option linter.unnecessarySimpa false
set_option linter.unusedVariables false
open Bool renaming and_true->J8,and_eq_true->Ky,true_and->Vz,false_or->VJ,false_and->VI,and_false->VM,or_eq_true->JJ,not_eq_true'->Jj,not_true->VK,not_false->VL,or_false->VN,or_true->VO,true_or->VP,and_assoc->Vq
open Go.AM.PMap renaming le_trans->JR
open List renaming mem_singleton->V9,mem_cons->KY,mem_cons_self->Jg,map_cons->Ke,flatten_cons->VS,mem_cons_of_mem->Jh,length_map->Jp,map_append->JK,length_append->Jd,mem_append->JX,getD_cons_zero->VQ,getD_cons_succ->Kn,map_eq_nil_iff->V5,drop_eq_getElem_cons->Ve,any_cons->Bp,getD->Ko,mem_map_of_mem->BL,getElem?_eq_getElem->JD,getElem_mem->VY,drop_length->Vd,length->Ee,drop_of_length_le->Bq,length_cons->KZ,nil_append->Jf,length_nil->JF,cons_append->Kh,take_add_one->Vu,length_take->K6,dropWhile_cons->Ef,length_reverse->Eg,length_pos_iff->Bv,take_length->Jq,drop_succ_cons->VU,drop_zero->Vp,range->KP,all_eq_true->JB,mem_range->JC,contains_iff_mem->Va,any_eq_true->Vb,getElem?_drop->Kq,drop_drop->El,getElem?_eq_some_iff->Jz,length_singleton->JH,append_assoc->Jb,length_drop->K7,append_nil->JG,mem_flatten->Er,mem_map->JM,find?_cons->Br,map_singleton->Es,dropLast_concat->Et,map->Eu,exists_cons_of_ne_nil->Ev,isPrefixOf_iff_prefix->Ew,all_append->EB,take_of_length_le->J3,mem_reverse->EF
open Go.AM.Sub renaming refl->Vk,none->Bj,trans->Bt,set->Vl
open Go.AM.Slots renaming get->BX
open Nat renaming zero_le->Js,add_zero->K8,lt_or_ge->KU,le_of_ble_eq_true->V7,zero_add->Jr,add_sub_cancel->Ed,add_assoc->Kw,le_refl->KL,le_trans->Vg,mul_one->Bo,lt_of_not_le->J6,eq_or_lt_of_le->JA,sub_zero->Em,add_comm->JI,mod_lt->Km
open Go.AM.Sep renaming fold->BZ,lay->Ec,emp->Ej
open Go.Stm.ParseR renaming sent->Ea
open Go.AM.Awp renaming keep->JU
open Int renaming toNat_natCast->Vw,ofNat_le->Ei,natCast_nonneg->VX,tmod->EC,tmod_eq_emod_of_nonneg->ED,natCast_emod->EE
open Go.Proofs.YtgiadjbiimkbiaaGreatDoor.StsV renaming mono->Eb
open Go.AM.AHeap renaming set_none->Bi,set_set->Bn,ne_some->Bl,set_same->Vj
open UInt8 renaming le_iff_toNat_le->Eh,ofNat->KD
open Go.AM.IsL renaming own->BA
open Array renaming getD->JE,replicate->Jw
open Go.Stm.StC renaming phrases->En,bodies->Eo,verb->Ep
open Option renaming map_some->KI
open Go.Stm.LoopR renaming stop->Ex,endS->Ey,endO->Ez,leave->EA
namespace Go.AM
section
variable {P:Program} {wz:World} {s:Slots} {h:AHeap}
theorem qsL{n:FrameK}{ops:List Oper}{i:Nat}{dst:Option Tmp}{fo:Operand}{args:Array Operand}{ts:Array TypeId}{ty:TypeId}{pos:String}{af:Array Edge}{fi:PMap}{a:Act}{w:World}{Q:Exit->Act->World->Prop}{K:Act->World->Prop}{R Rp:AVal->AHeap->Prop}{f:FuncId}{cap:List AVal}
 (hd:(match dst with|some d=>decide (d<n.sz)|none=>true)=true) (ho:ops[i]?=some ⟨dst, .call ⟨.value fo,args,ts⟩,ty,pos,af,none⟩) (hf:ev s fo= .func f cap) (hcall:ACallE P wz f (evs s args.toList++cap) h R Rp) (hr:HRel wz fi h w) (hs:SRel fi n s a)
 (hk:∀(Ps:PMap) (x:AVal) (h':AHeap) (a':Act) (w':World),fi.le Ps->HRel wz Ps h' w'->SRel Ps n (putD s dst x) a'->R x h'->K a' w')
 (hq:∀(Ps:PMap) (v:Value) (x:AVal) (h':AHeap) (w':World),fi.le Ps->HRel wz Ps h' w'->VR Ps x v->Rp x h'->Q (.panic [{v,recovered:=false}]) a w'):wpOp P ops.toArray Q i K a w:=by
 have hv:=hs.evs args.toList;have hfv:=hs.ev fo;rw[hf]at hfv;simp only[VR]at hfv;obtain⟨vs,hfe,hcap⟩:=hfv;obtain⟨fn,g1,g2,g3,g4⟩:=hcall fi (args.toList.map a.eval++vs) w hr (qbJ hv hcap);have hx:(execOp a.eval ⟨dst, .call ⟨.value fo,args,ts⟩,ty,pos,af,none⟩).run P w= .ok (.enter f (args.toList.map a.eval++vs).toArray) w:=by
  have hb:¬fn.body=none:=fun e=>by rw[e]at g3;cases g3
  have hn':¬fn.name= "runtime.NumGoroutine":=by simpa using g2
  have ea:args.map a.eval=(args.toList.map a.eval).toArray:=map_toArray _ _;simp only[execOp,resolve,hfe,Deferred.ofValue,Sem.run_bind,Sem.run_pure,Result.andThen_ok,invoke];rw[ea];simp[callFunc,g1,hn',hb]
 have ho':ops.toArray[i]?=some ⟨dst, .call ⟨.value fo,args,ts⟩,ty,pos,af,none⟩:=by simpa using ho
 unfold wpOp;simp only[ho'];rw[if_pos (by simp[Region.wanted])];refine .inl ?_;unfold Oper.wp;rw[hx,Oper.upon_enter];refine g4.mono fun e w' q=>?_;rcases q with⟨v,rfl,Ps,x,h'',q1,q2,q3,q4⟩|⟨v,rfl,Ps,x,h'',q1,q2,q3,q4⟩
 ·exact hk Ps x h'' _ w' q1 q2 ((hs.mono q1).putD hd q3) q4
 ·exact hq Ps v x h'' w' q1 q2 q3 q4
theorem awp_draw5E{k:Nat}{ds:List Deferred}{s₀:Slots}{R Rp:AVal->AHeap->Prop}{id:Nat}{l:List Oper}{o0 o1 o3 o4:Oper}{dst:Option Tmp}{fo:Operand}{args:Array Operand}{ts:Array TypeId}{ty:TypeId}{pos:String}{af:Array Edge}{Q:Exit->Slots->AHeap->Prop}{v0 v1:AVal}
 (hm:P.follows .mixedOrders=true) (hl:l=[o0,o1,⟨dst, .call ⟨.value fo,args,ts⟩,ty,pos,af,none⟩,o3,o4]) (hg0:o0.guard=none) (hg1:o1.guard=none) (hd:Qv k l=true)
 (hr0:Region.ready .any l.toArray #[false,false,false,false,false]=[0,1]) (hr1:Region.ready .any l.toArray #[true,false,false,false,false]=[1]) (hr2:Region.ready .any l.toArray #[false,true,false,false,false]=[0,2]) (hr3:Region.ready .any l.toArray #[true,true,false,false,false]=[2])
 (hr4:Region.ready .any l.toArray #[true,true,true,false,false]=[3]) (hr5:Region.ready .any l.toArray #[false,true,true,false,false]=[0]) (hr6:Region.ready .any l.toArray #[true,true,true,true,false]=[4]) (hr7:Region.ready .any l.toArray #[true,true,true,true,true]=[])
 (hp0:∀s' h',(h'=h\/∃x,R x h')->(s'=s\/s'=putD s o1.dst v1\/∃x,s'=putD (putD s o1.dst v1) dst x)->(pop P wz h' s' o0.op).pre/\(pop P wz h' s' o0.op).val=v0)
 (hp1:∀s',(s'=s\/s'=putD s o0.dst v0)->(pop P wz h s' o1.op).pre/\(pop P wz h s' o1.op).val=v1)
 (hA:∀s',s'=putD s o1.dst v1\/s'=putD (putD s o0.dst v0) o1.dst v1\/s'=putD (putD s o1.dst v1) o0.dst v0->
   (∃f cap,ev s' fo= .func f cap/\ACallE P wz f (evs s' args.toList++cap) h R Rp)/\∀i,s₀.get i=s'.get i\/s₀.get i= .dead)
 (hK:∀s' x h',R x h'->s'=putD (putD (putD s o0.dst v0) o1.dst v1) dst x\/s'=putD (putD (putD s o1.dst v1) o0.dst v0) dst x\/s'=putD (putD (putD s o1.dst v1) dst x) o0.dst v0->Qp P wz l [o3,o4] s' h' (fun s'' h''=>Q .normal s'' h'')):
 Awp P wz ⟨k,ds,GP wz k ds s₀ Rp⟩ (.region id l.toArray true) Q s h:=by
 intro fi a w hr hs;refine wp_region_any hm ?_;have hlen:l.length=5:=by rw[hl];rfl
 have ho0:l[0]?=some o0:=by rw[hl];rfl
 have ho1:l[1]?=some o1:=by rw[hl];rfl
 have ho2:l[2]?=some ⟨dst, .call ⟨.value fo,args,ts⟩,ty,pos,af,none⟩:=by rw[hl];rfl
 have hsz:l.toArray.size=5:=by simpa using hlen
 have hds:=hd;rw[hl]at hds;simp only[J8,Ky,Qv]at hds;obtain⟨hd0,hd1,hd2,hd34⟩:=hds;rw[hsz];have hw:HRel wz fi h {w with drawn:=w.drawn+1}:=hr.drew;have tail:∀(Ps:PMap) (s':Slots) (h':AHeap) (a':Act) (w':World),fi.le Ps->HRel wz Ps h' w'->SRel Ps ⟨k,ds,GP wz k ds s₀ Rp⟩ s' a'->Qp P wz l [o3,o4] s' h' (fun s'' h''=>Q .normal s'' h'')->
  wpAny P .any l.toArray (AQ wz ⟨k,ds,GP wz k ds s₀ Rp⟩ fi Q) 2 #[true,true,true,false,false] a' w':=by
  intro Ps s' h' a' w' hle hr' hs' hk;have:=qed (P:=P) (wz:=wz) l ⟨k,ds,GP wz k ds s₀ Rp⟩ [] hd [o3,o4] 3 Ps s' h' a' w' _ (AQ wz ⟨k,ds,GP wz k ds s₀ Rp⟩ fi Q) (fun j hj=>by
   rw[hl];match j,hj with
   |0,_=>rfl
   |1,_=>rfl) (by simp only[J8,Ky,Qv];exact hd34) hk hr' hs' (fun χ s'' h'' a'' w'' e1 e2 e3 e4=> .inl ⟨χ,s'',h'',JR hle e1,e2,e3,e4⟩)
  rw[show List.range' 3 [o3,o4].length++[]=[3,4]from rfl,wpOps_cons]at this;refine⟨fun e=>(by rw[hr4]at e;cases e),fun i hi=>?_⟩;rw[hr4]at hi;rw[V9.1 hi];refine wpOp_mono (fun a2 w2 q=>?_) this;rw[wpOps_cons]at q;show wpAny P .any l.toArray _ 1 #[true,true,true,true,false] a2 w2
  refine⟨fun e=>(by rw[hr6]at e;cases e),fun i hi=>?_⟩;rw[hr6]at hi;rw[V9.1 hi];refine wpOp_mono (fun a3 w3 q=>?_) q;exact⟨hr7,q⟩
 have call:∀(s':Slots) (a':Act) (K:Act->World->Prop),SRel fi ⟨k,ds,GP wz k ds s₀ Rp⟩ s' a'->((∃f cap,ev s' fo= .func f cap/\ACallE P wz f (evs s' args.toList++cap) h R Rp)/\∀i,s₀.get i=s'.get i\/s₀.get i= .dead)->
  (∀(Ps:PMap) (x:AVal) (h':AHeap) (a2:Act) (w':World),fi.le Ps->HRel wz Ps h' w'->SRel Ps ⟨k,ds,GP wz k ds s₀ Rp⟩ (putD s' dst x) a2->R x h'->K a2 w')->
  wpOp P l.toArray (AQ wz ⟨k,ds,GP wz k ds s₀ Rp⟩ fi Q) 2 K a' {w with drawn:=w.drawn+1}:=by
  intro s' a' K hs' ⟨⟨f,cap,hf,hcall⟩,hs0⟩ hk;refine qsL hd2 ho2 hf hcall hw hs' hk fun Ps v x h' w' q1 q2 q3 q4=> .inr ⟨trivial,Ps,q1,v,rfl,Ps,x,h',Ps.le_refl,q2,q3,q4,⟨hs'.size,hs'.defers,fun i=>?_⟩⟩;rcases hs0 i with e|e
  ·rw[e];exact WG q1 _ _ (hs'.val i)
  ·rw[e];simp[VR]
 show wpAny P .any l.toArray _ 5 #[false,false,false,false,false] a _
 refine⟨fun e=>(by rw[hr0]at e;cases e),fun i hi=>?_⟩;rw[hr0]at hi;rcases KY.1 hi with rfl|hi
 ·obtain⟨p0,e0⟩:=hp0 s h (.inl rfl) (.inl rfl)
  refine qdJ ho0 hg0 hd0 p0 hw hs fun a1 hs1=>?_;rw[e0]at hs1;show wpAny P .any l.toArray _ 4 #[true,false,false,false,false] a1 _
  refine⟨fun e=>(by rw[hr1]at e;cases e),fun i hi=>?_⟩;rw[hr1]at hi;rw[V9.1 hi];obtain⟨p1,e1⟩:=hp1 _ (.inr rfl);refine qdJ ho1 hg1 hd1 p1 hw hs1 fun a2 hs2=>?_;rw[e1]at hs2;show wpAny P .any l.toArray _ 3 #[true,true,false,false,false] a2 _
  refine⟨fun e=>(by rw[hr3]at e;cases e),fun i hi=>?_⟩;rw[hr3]at hi;rw[V9.1 hi];refine call _ _ _ hs2 (hA _ (.inr (.inl rfl))) fun Ps x h' a3 w' q1 q2 q3 q4=>?_;exact tail Ps _ h' a3 w' q1 q2 q3 (hK _ x h' q4 (.inl rfl))
 ·rw[V9.1 hi]
  obtain⟨p1,e1⟩:=hp1 _ (.inl rfl);refine qdJ ho1 hg1 hd1 p1 hw hs fun a1 hs1=>?_;rw[e1]at hs1;show wpAny P .any l.toArray _ 4 #[false,true,false,false,false] a1 _
  refine⟨fun e=>(by rw[hr2]at e;cases e),fun i hi=>?_⟩;rw[hr2]at hi;rcases KY.1 hi with rfl|hi
  ·obtain⟨p0,e0⟩:=hp0 _ h (.inl rfl) (.inr (.inl rfl))
   refine qdJ ho0 hg0 hd0 p0 hw hs1 fun a2 hs2=>?_;rw[e0]at hs2;show wpAny P .any l.toArray _ 3 #[true,true,false,false,false] a2 _
   refine⟨fun e=>(by rw[hr3]at e;cases e),fun i hi=>?_⟩;rw[hr3]at hi;rw[V9.1 hi];refine call _ _ _ hs2 (hA _ (.inr (.inr rfl))) fun Ps x h' a3 w' q1 q2 q3 q4=>?_;exact tail Ps _ h' a3 w' q1 q2 q3 (hK _ x h' q4 (.inr (.inl rfl)))
  ·rw[V9.1 hi]
   refine call _ _ _ hs1 (hA _ (.inl rfl)) fun Ps x h' a3 w' q1 q2 q3 q4=>?_;show wpAny P .any l.toArray _ 3 #[false,true,true,false,false] a3 w'
   refine⟨fun e=>(by rw[hr5]at e;cases e),fun i hi=>?_⟩;rw[hr5]at hi;rw[V9.1 hi];obtain⟨p0,e0⟩:=hp0 _ h' (.inr ⟨x,q4⟩) (.inr (.inr ⟨x,rfl⟩));refine qdJ ho0 hg0 hd0 p0 q2 q3 fun a4 hs4=>?_;rw[e0]at hs4;exact tail Ps _ h' a4 w' q1 q2 hs4 (hK _ x h' q4 (.inr (.inr rfl)))
end
end Go.AM
namespace Go.Proofs.YtgiadjbiimkbiaaGreatDoor
open Go.AM
open Go.Proofs
open Go.Col (Str FaultC okF)
open Go.Tok (TokC)
open Go.Stm
open Go.RowKit (Below)
set_option maxRecDepth 100000
def ParseOk(wz:World)(l:List TokC)(h:AHeap):AVal->AHeap->Prop:=fun r h'=>Sub h h'/\∃L j rv E,ParseR wordsO l Qo (.ok L j)/\r= .tuple [rv,faultV okF]/\Sep [h,E] h'/\StsV wz 32 E rv L
def ParseP(l:List TokC)(h:AHeap)(k2 k3:Nat):AVal->AHeap->Prop:=fun x h'=>Sub h h'/\∃f,ParseR wordsO l Qo (.bad f)/\x= .iface 48 (faultV f)/\(∃b,h' k2=some ⟨[b],0⟩)/\∃y1 y2 y3,h' k3=some ⟨[y1,y2,y3],0⟩
structure PaG where
 i:Nat
 ov:AVal
 op:AHeap
 qs:List (StC×AVal×AVal)
 rv:AVal
 rp:AHeap
 E:AHeap
 H:AHeap
structure PaI(wz:World)(l:List TokC)(h:AHeap)(k2 k3 kp:Nat)(v:AVal)(g:PaG):Prop where
 sep:Sep [h,one k2 ⟨[g.rv],0⟩,one k3 ⟨[.int .i64 0, .int .i64 0, .int .i64 0],0⟩,one kp (parB3 v g.i g.ov),g.op,g.rp,g.E] g.H
 par:ParS wz l h v g.ov g.op [] g.i
 row:GrowV 5 g.rv g.rp (g.qs.map qen)
 isG:isG g.rv=true
 els:∀q∈g.qs,PhV wz g.E q.2.1 q.1.phrases/\BdV wz (StsV wz 31 g.E) g.E q.2.2 q.1.bodies
 few:g.qs.length<=g.i
 go:∀r,SentR wordsO l Qo g.i (g.qs.map (·.1)) r->SentR wordsO l Qo 0 [] r
theorem sts_scal{qs:List (StC×AVal×AVal)}(h:∀q∈qs,q.2.1.scal=true/\q.2.2.scal=true):Qu (qs.map qen).flatten=true:=by
 induction qs with
 |nil=>rfl
 |cons q qs ih=>
  obtain⟨a,b⟩:=h q Jg;rw[Ke,VS];show(true && (true && (true && (q.2.1.scal && (q.2.2.scal && Qu (qs.map qen).flatten)))))=true
  rw[a,b,ih fun x hx=>h x (Jh _ hx)];rfl
set_option maxHeartbeats 16000000 in
theorem l_parse(wz:World)(hm:MaxL wz)(ha:Asp wz)(l:List TokC)(hl:l.length<=1000000)(hsh:Short l)(h H:AHeap)(k2 k3:Nat)(v:AVal)(d:Deferred)(hv:IsL wz h 5 v (l.map Zb))(hS:Sep [h,one k2 ⟨[.nilSlice],0⟩,one k3 ⟨[.int .i64 0, .int .i64 0, .int .i64 0],0⟩] H):
 Awp Tryz.prog wz ⟨59,[d],GP wz 59 [d] [(2, .ptr (.own k2) 0),(3, .ptr (.own k3) 0)] (ParseP l h k2 k3)⟩ (Uk 2 (qdG Tryz.f12)) (retQ fun sX hX=>qdN Tryz.prog wz [.cell 2 45, .cell 3 48] (ParseOk wz l h) .ret sX hX) [(0,v),(2, .ptr (.own k2) 0),(3, .ptr (.own k3) 0)] (H):=by
 have eb_2:H k2=some _:=hS.at_ (i:=1) rfl;have eb_3:H k3=some _:=hS.at_ (i:=2) rfl;have ne_2_3:k2≠k3:=hS.ne (i:=1) (j:=2) rfl rfl (by decide);have hs_H:Sub h H:=hS.in_ (i:=0) rfl;have hlv:=hv.live;have nv:=Wn hv;have hbu:WV Tryz.prog 96 [(0,v)]=⟨True, .agg [v, .int .i64 0, .nilSlice]⟩:=by generalize l.map Zb=X at hv;cases hv<;>kernel_rfl
 change Awp _ _ _ (Code.seq _ _) _ _ _;refine awp_rseq [0,2,3,4] (by rfl) fun K hK=>?_;simp+decide only[Qw,XN,Yo,XO,Za,XZ,Xt,WO,Zw,evP,↓qc,↓YJ,↓XL,hbu];refine Ut (v:= .agg [v, .int .i64 0, .nilSlice]) (cs:=[v, .int .i64 0, .nilSlice]) (by rfl) (by simp+decide only[J8,allLive,qjl,qlH,qbZ]) (by rfl) fun k2q2 hk2q2=>?_;simp+decide only[qJ,↓qa];apply hK;clear hK K;refine qo ?_;obtain⟨H3,hH3⟩:∃H3,H3=H.set k2q2 ⟨[v, .int .i64 0, .nilSlice],0⟩:=⟨_,rfl⟩
 refine Awp.forget (h':=H3) (by rw[hH3];exact Vk _) ?_;have hS3:=hS.lay hk2q2 ⟨[v, .int .i64 0, .nilSlice],0⟩;rw[<-hH3]at hS3;simp only[Xv]at hS3;have eb_2:H3 k2=some _:=hS3.at_ (i:=1) rfl;have eb_3:H3 k3=some _:=hS3.at_ (i:=2) rfl;have eb_2q2:H3 k2q2=some _:=hS3.at_ (i:=3) rfl;have ne_2_2q2:k2≠k2q2:=hS3.ne (i:=1) (j:=3) rfl rfl (by decide);have ne_3_2q2:k3≠k2q2:=hS3.ne (i:=2) (j:=3) rfl rfl (by decide);have hs_H3:Sub h H3:=hS3.in_ (i:=0) rfl;refine awp_rseq [0,2,3,4,11] (by rfl) fun K hK=>?_;simp+decide only[QH,qO,Qm,WL,↓qc,↓Qr,↓qf,nv];apply hK;clear hK K;refine qz (b:=_) rfl (fun hb1=>?_) (fun hb1=>?_)
 ·try simp only[qG]at hb1
  refine YF 1 (by rfl) (by rfl) ?_;simp only[Zu];simp+decide only[Qw,↓qc];refine⟨⟨_,_,by rfl,?_⟩,fun i=>match i with|0=> .inr rfl|1=> .inr rfl|2=> .inl rfl|3=> .inl rfl|i+4=> .inr (by simp[BX])⟩;exact(qeI wz _ h k2q2 v .nilSlice l 0 3 65536 eb_2q2 hs_H3 hv hl (by omega)).mono (fun _ _ q=>q) fun x h' ⟨q1,q2⟩=>⟨hs_H3.trans q2,_,ParseR.long (by omega),q1,⟨_,q2 _ _ eb_2⟩,_,_,_,q2 _ _ eb_3⟩
 ·try simp only[qG]at hb1
  have hl5:l.length<=65536:=by omega
  refine qE ?_;change Awp _ _ _ _ _ _ _;refine qo ?_;refine qK ?_;refine QD [0,2,3,4] (fun g:PaG=>[(0,v),(2, .ptr (.own k2) 0),(3, .ptr (.own k3) 0),(4, .ptr (.own k2q2) 0)]) (fun g:PaG=>g.H) (fun g:PaG=>PaI wz l h k2 k3 k2q2 v g) (fun g:PaG=>l.length-g.i) ⟨0, .nilSlice,emp,[], .nilSlice,emp,emp,H3⟩ (by rfl) (Vk _) ⟨hS3.emp.emp.emp,⟨hv, .nil,rfl,Js _⟩, .nil,rfl,(fun q hq=>by cases hq),Js _,fun r hr=>hr⟩ ?_;rintro⟨i,ov,op,qs,rv,rp,E,H⟩ ⟨hS,hP,hrow,hG,hels,hfew,hgo⟩;simp only at hS hP hrow hG hels hfew hgo|-
  have eb_2:H k2=some _:=hS.at_ (i:=1) rfl;have eb_3:H k3=some _:=hS.at_ (i:=2) rfl;have eb_2q2:H k2q2=some _:=hS.at_ (i:=3) rfl;have hs_H:Sub h H:=hS.in_ (i:=0) rfl;have hrl:=hrow.live;refine qo ?_;refine awp_rseq [0,2,3,4,20] (by rfl) fun K hK=>?_;simp+decide only[Yz,qF,Qm,Xg,Zz,↓qc,↓Qg,↓qg,We,↓qj,qd ag3,↓Qr,↓qf,Ql eb_2q2,nv];apply hK;clear hK K;refine qz (b:=_) rfl (fun hb2=>?_) (fun hb2=>?_)
  ·try simp only[qG]at hb2
   have hil:i<l.length:=by omega
   have hdj:[h,one k2 ⟨[rv],0⟩,one k3 ⟨[.int .i64 0, .int .i64 0, .int .i64 0],0⟩,rp,E].Pairwise disj:=(hS.pick [0,1,2,5,6] (by decide) (by simp)).2;have hu:=Xl hdj;obtain⟨BB,hBB⟩:∃BB,BB=YY [h,one k2 ⟨[rv],0⟩,one k3 ⟨[.int .i64 0, .int .i64 0, .int .i64 0],0⟩,rp,E]:=⟨_,rfl⟩
   rw[<-hBB]at hu;have hcall:=(c_list wz hm ha l (by omega) hsh H BB k2q2 v ov op [] i (by rw[hBB];exact BZ (ps:=[h,one k2 ⟨[rv],0⟩,one k3 ⟨[.int .i64 0, .int .i64 0, .int .i64 0],0⟩,rp,E]) (hS.pick [0,1,2,5,6,3,4] (by decide) (by simp))) ⟨hv.mono (hu h (by simp)),hP.open_,hP.isG,hP.at_⟩ (fun f hf=>by cases hf) rfl).mono (R':=qkM wz l BB k2q2 v [] 1 i) (Rp':=ParseP l h k2 k3) (fun _ _ q=>q) fun x h' ⟨f,q1,q2,q3⟩=>⟨(hu h (by simp)).trans q3,f,Ea (by omega) (hgo _ (SentR.bad hil q1)),q2,⟨rv,q3 _ _ (hu _ (by simp) _ _ (one_at _ _))⟩,_,_,_,q3 _ _ (hu (one k3 ⟨[.int .i64 0, .int .i64 0, .int .i64 0],0⟩) (by simp) _ _ (one_at _ _))⟩
   refine qE ?_;change Awp _ _ _ _ _ _ _;refine qK ?_;refine qo ?_;have hR2:∀x h',qkM wz l BB k2q2 v [] 1 i x h'->h' k2=some ⟨[rv],0⟩:=fun x h' ⟨L,j,ov2,op2,E2,q1,q2,q3,q4,q5,q6⟩=>q6.in_ (i:=0) rfl _ _ (hu _ (by simp) _ _ (one_at _ _));refine awp_draw5E (v0:=rv) (v1:= .ptr (.own k2q2) 0) (R:=qkM wz l BB k2q2 v [] 1 i) mixed (by rfl) rfl rfl (by rfl) (by kernel_rfl) (by kernel_rfl) (by kernel_rfl) (by kernel_rfl) (by kernel_rfl) (by kernel_rfl) (by kernel_rfl) (by kernel_rfl) (fun s' h' hh hs=>?_) (fun s' hs=>?_) (fun s' hs=>?_) (fun s' x h' hx hs=>?_)
   ·have e2:h' k2=some ⟨[rv],0⟩:=by
     rcases hh with rfl|⟨x,hx⟩
     ·exact eb_2
     ·exact hR2 x h' hx
    have es:BX s' 2= .ptr (.own k2) 0:=by rcases hs with rfl|rfl|⟨x,rfl⟩<;>rfl
    show(Yr Tryz.prog wz h' 45 (s'.get 2)).pre/\(Yr Tryz.prog wz h' 45 (s'.get 2)).val=rv
    rw[es,qd qjH,YG wz e2];exact⟨hrl,rfl⟩
   ·have es:BX s' 4= .ptr (.own k2q2) 0:=by rcases hs with rfl|rfl<;>rfl
    exact⟨trivial,es⟩
   ·refine⟨⟨30,[],rfl,?_⟩,?_⟩
    ·have es:evs s' [Operand.tmp 22, .const (.int .i64 1)]=[.ptr (.own k2q2) 0, .int .i64 1]:=by rcases hs with rfl|rfl|rfl<;>rfl
     show ACallE _ _ _ (evs s' [Operand.tmp 22, .const (.int .i64 1)]++[]) _ _ _
     rw[es];exact hcall
    ·intro i
     match i with
     |0=>exact .inr rfl
     |1=>exact .inr rfl
     |2=>rcases hs with rfl|rfl|rfl<;>exact .inl rfl
     |3=>rcases hs with rfl|rfl|rfl<;>exact .inl rfl
     |i+4=>exact .inr (by simp[BX])
   obtain⟨L,j,ov2,op2,E2,hR,hij,hLn,hsts,hP2,hS2⟩:=hx;rw[hBB]at hS2;have hS2:=hS2.unfold hdj;have hse:s'=[(0,v),(2, .ptr (.own k2) 0),(3, .ptr (.own k3) 0),(4, .ptr (.own k2q2) 0),(20, .bool (decide ((i:Int)<(l.length:Int)))),(21,rv),(22, .ptr (.own k2q2) 0),(23,x)]:=by rcases hs with rfl|rfl|rfl<;>rfl
   subst hse;obtain⟨qL,hqL,hrL,hels2⟩:=(show StsV wz (31+1) E2 x L from hsts)
   have hjl:=hP2.at_;have hqn:qL.length=L.length:=by rw[hqL,Jp]
   refine Un (es:=5) (v:=rv) (p:=rp) (xs:=qs.map qen) (ys:=qL.map qen) (i:=3) (by rfl) (by rfl) Tryz.underlying45 Tryz.underlying45 (fun k e=>by cases e) UJ by82 qoc (by rfl) (by decide) (by rfl) hrow hG rfl hS2 (by rfl) (hrL.mono (hS2.in_ (i:=7) rfl)) (sts_scal fun q hq=>⟨(hels2 q hq).1.scal,(hels2 q hq).2.scal⟩) (by simp only[Jp];omega) (by simp only[Jp];omega) fun rv2 rp2 h6 hrow2 hG2 hS6=>?_;refine qN (v:=rv2) (by rfl) (by rfl) (hS6.at_ (i:=1) rfl) qsV hrow2.live (by rw[hrow2.cells];rfl) (by simp only[Xo];omega) (Js _) (by rw[hrow2.cells];simp[Qu,hrow2.scal]) ?_;simp only[XE,WN,hrow2.cells];rw[Qt];show Awp _ _ _ _ _ _ _
   obtain⟨H7,hH7⟩:∃H7,H7=h6.set k2 ⟨[rv2],0⟩:=⟨_,rfl⟩
   refine Awp.forget (h':=H7) (by rw[hH7];exact Vk _) ?_;have hS7:=hS6.put (i:=1) rfl ⟨[rv2],0⟩;rw[<-hH7]at hS7;simp only[XE,Xv]at hS7;have eb_2:H7 k2=some _:=hS7.at_ (i:=1) rfl;have eb_3:H7 k3=some _:=hS7.at_ (i:=2) rfl;have eb_2q2:H7 k2q2=some _:=hS7.at_ (i:=5) rfl;have hs_H7:Sub h H7:=hS7.in_ (i:=0) rfl;have hlo2:=hP2.open_.live;refine JU [0,2,3,4] ?_;refine qo ?_;have mcase:(∃(lc:AM.Loc) (o:Nat) (cc:Cap),v= .slice lc o l.length cc/\j<l.length/\decide ((j:Int)=(l.length:Int))=false/\rd wz H7 lc (o+j*5)= .int .u8 (l.getD j noT).kind.toNat/\decide (((l.getD j noT).kind.toNat:Int)=6)=decide ((l.getD j noT).kind=6)/\decide (j=l.length\/(l.getD j noT).kind≠6)= !decide ((l.getD j noT).kind=6))\/
    (∃(lc:AM.Loc) (o:Nat) (cc:Cap),v=v/\¬j<l.length/\decide ((j:Int)=(l.length:Int))=true/\True/\True/\decide (j=l.length\/(l.getD j noT).kind≠6)=true):=by
    by_cases hlt:j<l.length
    ·obtain⟨lc,o,cc,hve⟩:=Yp hv (by omega)
     have hv2:=hv.mono hs_H7;rw[hve]at hv2;refine .inl ⟨lc,o,cc,hve,hlt,by rw[decide_eq_false_iff_not];omega,(UI hv2 hlt).1,Yu _ 6,?_⟩;by_cases q:(l.getD j noT).kind=6
     ·rw[decide_eq_true q,decide_eq_false]
      ·rfl
      ·rintro(z|z)
       ·omega
       ·exact z q
     ·rw[decide_eq_false q,decide_eq_true (.inr q)];rfl
    ·exact .inr ⟨.base 0,0, .exact 0,rfl,hlt,by rw[decide_eq_true_eq];omega,trivial,trivial,decide_eq_true (.inl (by omega))⟩
   refine awp_rseq [0,2,3,4,42] (by rfl) fun K hK=>?_;suffices hM:∀b:Bool,b=decide (j=l.length\/(l.getD j noT).kind≠6)->K [(0,v),(2, .ptr (.own k2) 0),(3, .ptr (.own k3) 0),(4, .ptr (.own k2q2) 0),(42, .bool b)] (H7) by
    rcases mcase with⟨lc,o,cc,hve,hkl,hkd,e0,hk6,hfin⟩|⟨lc,o,cc,hve,hkl,hkd,e0,hk6,hfin⟩<;>(
     simp+decide only[QH,Zn,Vw,qO,K8,Qe,qF,Yh,Zf,Xg,Xk,Zm,Yw,UR,↓qc,↓Qg,↓qg,We,↓qj,qd ag3,↓Qr,Xp Tryz.underlying39,↓qf,↓Xc,qY,qZ,qW,↓qdt,↓QR,↓XP,↓Zv,qh Tryz.underlying39 UA,qaG,qd qmr,↓QI,↓QE,Ql eb_2q2,nv,hve,hkd,e0,hk6];repeat (with_reducible refine zqP ?_)
     first|exact hM _ hfin.symm|(rw[hve]at hM;exact hM _ hfin.symm))
   intro b hb_7;apply hK;clear hK K;refine qz (b:=_) rfl (fun hb3=>?_) (fun hb3=>?_)
   ·skip
    have hend:j=l.length\/(l.getD j noT).kind≠6:=of_decide_eq_true (by rw[<-hb_7];exact hb3);refine YF 5 (by rfl) (by rfl) ?_;simp only[Zu];simp+decide only[ZU,Xg,↓qc,↓Qg,↓qg,We,↓qj,qd ag3,Ql eb_2q2];refine⟨⟨_,_,by rfl,?_⟩,fun i=>match i with|0=> .inr rfl|1=> .inr rfl|2=> .inl rfl|3=> .inl rfl|i+4=> .inr (by simp[BX])⟩;exact(qeI wz _ h k2q2 v ov2 l j 4 j eb_2q2 hs_H7 hv hl (by omega)).mono (fun _ _ q=>q) fun x h' ⟨q1,q2⟩=>⟨hs_H7.trans q2,_,Ea (by omega) (hgo _ (SentR.open hil hR hend)),q1,⟨_,q2 _ _ eb_2⟩,_,_,_,q2 _ _ eb_3⟩
   ·skip
    have hend:¬(j=l.length\/(l.getD j noT).kind≠6):=of_decide_eq_false (by rw[<-hb_7];exact hb3);have hjl2:j<l.length:=by
     rcases KU j l.length with z|z
     ·exact z
     ·exact absurd (.inl (by omega)) hend
    have hwj:IntKind.i64.wrap ((j:Int)+1)=((j+1:Nat):Int):=by rw[wrap_i64 (by omega) (by omega)];omega
    refine qE ?_;change Awp _ _ _ _ _ _ _;refine QK [0,2,3,4] (by rfl) ?_;simp+decide only[Yz,ZE,Xg,↓qc,↓Qg,↓qg,We,↓qj,qd ag3,↓qf,Ql eb_2q2,hwj];refine qN (by rfl) (by rfl) zqA sz3 (by rfl) (by rfl) zqD (Js _) (by rfl) ?_;simp only[QZ];simp+decide only[qR];try simp only[QT]
    have hS8:=(BZ (ps:=[E,E2]) ((hS7.put (i:=5) rfl (parB3 v (j+1) ov2)).pick [4,7,0,1,2,5,6,3] (by decide) (by simp))).pick [1,2,3,4,5,6,0] (by decide) (by simp);have hue:=Xl (ps:=[E,E2]) (hS7.pick [4,7] (by decide) (by simp)).2;refine⟨⟨j+1,ov2,op2,qs++qL,rv2,rp2,YY [E,E2],H7.set k2q2 (parB3 v (j+1) ov2)⟩,rfl,Vk _,⟨hS8,⟨hv,hP2.open_,hP2.isG,hjl2⟩,by simp only;rw[JK];exact hrow2,hG2,fun q hq=>?_,by simp only[Jd];omega,fun r hr=>?_⟩,by simp only;omega⟩
    ·rcases JX.1 hq with z|z
     ·exact⟨(hels q z).1.mono (hue E (by simp)),(hels q z).2.mono (hue E (by simp)) fun _ _=>Eb (hue E (by simp))⟩
     ·exact⟨(hels2 q z).1.mono (hue E2 (by simp)),(hels2 q z).2.mono (hue E2 (by simp)) fun _ _=>Eb (hue E2 (by simp))⟩
    ·refine hgo r (SentR.next hil hR hend ?_)
     simp only[JK]at hr;rw[hqL];exact hr
  ·try simp only[qG]at hb2
   have hin:i=l.length:=by have:=hP.at_;omega
   have hRes:ParseR wordsO l Qo (.ok (qs.map (·.1)) i):=Ea (by omega) (hgo _ (SentR.stop (by omega)));have hu2:=Xl (ps:=[rp,E]) (hS.pick [5,6] (by decide) (by simp)).2;have hrow3:=hrow.isL (wz:=wz) (hS.in_ (i:=5) rfl);have hck:=hrow3.clip;have hckl:=hck.live;refine QC ?_;change Awp _ _ _ _ _ _ _;refine awp_rseq [2,3] (by rfl) fun K hK=>?_;simp+decide only[qR,Xa,↓qj,qd qjH,Ql eb_2,hrl];refine QM (V:=ZA rv) (by rfl) (by rfl) (qsr wz _ rv _ (hrow3.mono zqB)) ?_;simp+decide only[qR,XN,Yo,XO,Za,XZ,Xt,WO,Zw,evP,↓YJ,↓XL,bld48_];refine qN (v:=ZA rv) (by rfl) (by rfl) eb_2 qsV hckl (by rw[hck.cells];rfl) (by simp only[Xo];omega) (Js _) (by rw[hck.cells];simp[Qu,hck.scal]) ?_;simp only[XE,WN,hck.cells];refine qN (by rfl) (by rfl) zqA UF (by rfl) (by rfl) zqD (Js _) (by rfl) ?_;simp only[QZ];simp+decide only[qR,Nat.reduceAdd];apply hK;clear hK K;refine qV ?_;refine Qk (?_) ?_
   ·simp+decide only[qeJ,ev,J8,and_true,true_and,ne_eq,not_false_eq_true,Qt,cellsAt,qeK,Vz,ZV,qaC,Wp,qd qjH,Qa qeR UF,Nat.reduceAdd,ne_2_3,Nat.reduceAdd,hckl]
   simp+decide only[Zg,ZV,qaC,qcL,qd qjH,Qa qeR UF,Nat.reduceAdd,ne_2_3,Nat.reduceAdd,hckl];have hS8:=(hS.put (i:=1) rfl ⟨[ZA rv],0⟩).put (i:=2) rfl ⟨[.int .i64 0, .int .i64 0, .int .i64 0],0⟩;have hS9:=(BZ (ps:=[rp,E]) (hS8.pick [5,6,0] (by decide) (by simp))).pick [1,0] (by decide) (by simp);have hu8:=Xl (ps:=[rp,E]) (hS8.pick [5,6] (by decide) (by simp)).2;exact⟨_,Vk _,hS8.in_ (i:=0) rfl,_,_,_,_,hRes,rfl,hS9,qs,rfl,(hrow.isL (wz:=wz) (hu8 rp (by simp))).clip,fun q hq=>⟨(hels q hq).1.mono (hu8 E (by simp)),(hels q hq).2.mono (hu8 E (by simp)) fun _ _=>Eb (hu8 E (by simp))⟩⟩
def ParseOutE(wz:World)(l:List TokC)(h:AHeap):AVal->AHeap->Prop:=fun r h'=>Sub h h'/\((∃f,ParseR wordsO l Qo (.bad f)/\r= .tuple [.nilSlice,faultV f])\/∃L j rv E,ParseR wordsO l Qo (.ok L j)/\r= .tuple [rv,faultV okF]/\Sep [h,E] h'/\StsV wz 32 E rv L)
def qmC(wz:World)(l:List TokC)(h:AHeap):AVal->AHeap->Prop:=fun r h'=>Sub h h'/\((∃f,ParseR wordsO l Qo (.bad f)/\r= .tuple [.nilSlice,faultV f])\/∃L j rv,ParseR wordsO l Qo (.ok L j)/\r= .tuple [rv,faultV okF]/\StsV wz 32 h' rv L)
theorem qrL(p2 p3:Value)(w:World):(invoke (.fn (.func 28) #[p2,p3]) #[]).run Tryz.prog w= .ok (.enter 28 #[p2,p3]) w:=by
 simp[go_sem]
set_option maxHeartbeats 4000000 in
theorem qss(wz:World)(hm:MaxL wz)(ha:Asp wz)(l:List TokC)(hl:l.length<=1000000)(hsh:Short l)(h:AHeap)(v:AVal)(hv:IsL wz h 5 v (l.map Zb)):ACall Tryz.prog wz 12 [v] h (ParseOutE wz l h):=by
 refine acall_putC (k:=59) (rs:=[.cell 2 45, .cell 3 48]) Tryz.func12 rfl rfl rfl rfl (V7 rfl) ?_;simp only[qU];refine awp_rseq [0,2,3] (by rfl) fun K hK=>?_;refine Qz ze45 (cs:=[.nilSlice]) (by rfl) fun k0q0 hk0q0=>?_;try have hf_0q0:h k0q0=none:=by first|assumption|(simp only[Bi]at hk0q0;simp only[hk0q0])
 refine Qz qhv (cs:=[.int .i64 0, .int .i64 0, .int .i64 0]) (by rfl) fun k0q1 hk0q1=>?_;have ne_0q1_0q0:k0q1≠k0q0:=by simp only[Bi]at hk0q1;simp only[Ua,hk0q1]
 try have hf_0q1:h k0q1=none:=by first|assumption|(simp only[Bi]at hk0q1;simp only[hk0q1])
 simp+decide only[qR];apply hK;clear hK K;have hS:=(Ec (Ec (ps:=[h]) ⟨fun p hp=>by rw[V9.1 hp];exact Vk _,by simp⟩ hk0q0 ⟨[.nilSlice],0⟩) hk0q1 ⟨[.int .i64 0, .int .i64 0, .int .i64 0],0⟩)
 simp only[Xv]at hS;refine awp_put_fn (pre:=[_]) (P1:=fun s h'=>qdN Tryz.prog wz [.cell 2 45, .cell 3 48] (ParseOk wz l h) .ret s h') (s₀:=[(2, .ptr (.own k0q0) 0),(3, .ptr (.own k0q1) 0)]) (Rp:=ParseP l h k0q0 k0q1) (f:=28) (cap:=[.ptr (.own k0q0) 0, .ptr (.own k0q1) 0]) (by rfl) (by rfl) ?_ ?_ ?_
 ·simp+decide only[Zo,Ul,Qt,XN,evs,↓qkp,qhT]
  intro d;refine JU [0,2,3] ?_;exact l_parse wz hm ha l hl hsh h _ k0q0 k0q1 v d hv hS
 ·intro Ps vs s' h' a w G hcap hr hs hq
  simp only[VRs,VR]at hcap;obtain⟨_,_,rfl,⟨a2,-,rfl⟩,_,_,rfl,⟨a3,-,rfl⟩,rfl⟩:=hcap;obtain⟨hp,h'',hsub,hR⟩:=hq;obtain⟨vr,g1,g2⟩:=qeu hr hs Tryz.f12 hp;refine leaves_cons (f:=28) (args:= #[.pointer (some a2), .pointer (some a3)]) (by simp) (qrL _ _ w) ((catch_idle a2 a3 w).mono ?_);rintro e u' w' ⟨rfl,rfl,rfl⟩;exact⟨vr,g1,vr,rfl,Ps,_,h'',Ps.le_refl,hr.forget hsub,g2,hR.1, .inr hR.2⟩
 ·intro Ps vs vf y h' a w G hcap hr hvf hRp hs
  simp only[VRs]at hcap;obtain⟨p2,_,rfl,h2,p3,_,rfl,h3,rfl⟩:=hcap;obtain⟨hsh',f,q1,rfl,⟨b,e2⟩,y1,y2,y3,e3⟩:=hRp;have ne:k0q0≠k0q1:=hS.ne (i:=1) (j:=2) rfl rfl (by decide);have hn1:h k0q1=none:=(AHeap.set_ne _ _ ne.symm).symm.trans hk0q1;refine leaves_cons (f:=28) (args:= #[p2,p3]) (by simp) (qrL _ _ w) ((catch_bad wz Ps w h' h k0q0 k0q1 hsh' hk0q0 hn1 b b y1 y2 y3 f p2 p3 vf e2 e3 ne hr h2 h3 hvf).mono ?_);rintro e u' w' ⟨r,rfl,rfl,χ,h2',hle,hr2,g2,g3,g4⟩;have hs2:SRel χ ⟨59,[dOf 28 [p2,p3]],G⟩ [(2, .ptr (.own k0q0) 0),(3, .ptr (.own k0q1) 0)] a:=hs.mono hle;have hpr:Wp Tryz.prog wz [(2, .ptr (.own k0q0) 0),(3, .ptr (.own k0q1) 0)] h2' Tryz.f12.results.toList:=by
   show Wp Tryz.prog wz _ _ [.cell 2 45, .cell 3 48]
   simp+decide only[ZZ,Jr,ev,J8,and_true,true_and,cellsAt,VQ,allLive,Kn,qjl,qbZ,ZV,Wp,qd qjH,Qa qeR UF,YG wz g2,YG wz g3,Nat.reduceAdd]
  have hro:qcr Tryz.prog wz [(2, .ptr (.own k0q0) 0),(3, .ptr (.own k0q1) 0)] h2' Tryz.f12.results.toList= .tuple [.nilSlice,faultV f]:=by
   show qcr Tryz.prog wz _ _ [.cell 2 45, .cell 3 48]=_
   simp+decide only[ZZ,Jr,ev,cellsAt,VQ,Kn,ZV,qcL,qd qjH,Qa qeR UF,YG wz g2,YG wz g3,Nat.reduceAdd]
  obtain⟨vr,r1,r2⟩:=qeu hr2 hs2 Tryz.f12 hpr;rw[hro]at r2;exact⟨vr,r1,vr,rfl,χ,_,h2',hle,hr2,r2,g4, .inl ⟨f,q1,rfl⟩⟩
theorem qgp(wz:World)(hm:MaxL wz)(ha:Asp wz)(l:List TokC)(hl:l.length<=1000000)(hsh:Short l)(h:AHeap)(v:AVal)(hv:IsL wz h 5 v (l.map Zb)):ACall Tryz.prog wz 12 [v] h (qmC wz l h):=
 (qss wz hm ha l hl hsh h v hv).mono fun r h' q=>⟨q.1,q.2.imp id fun⟨L,j,rv,E,a,b,c,d⟩=>⟨L,j,rv,a,b,d.mono (c.in_ (i:=1) rfl)⟩⟩
end Go.Proofs.YtgiadjbiimkbiaaGreatDoor
namespace Go.Stm
open Go.Col (Str)
open Go.Tok
def WZ:Nat->List StC->Bool
 |0,l=>decide (0<l.length)
 |m+1,l=>l.any fun s=>s.bodies.any fun b=>WZ m b.2.2
def QW:Nat->List StC->Nat
 |0,l=>l.length
 |m+1,l=>l.length+(l.map fun s=>(s.bodies.map fun b=>QW m b.2.2).sum).sum
def Wo(a b:List TokC):Bool:=decide (a.map (fun t=>(t.kind,t.text))=b.map (fun t=>(t.kind,t.text)))
def SmallS:Nat->List StC->Prop
 |0,l=>l.length<=1000000
 |m+1,l=>l.length<=1000000/\∀s∈l,s.bodies.length<=1000000/\s.phrases.length<=1000000/\(∀p∈s.phrases,p.toks.length<=1000000)/\∀b∈s.bodies,b.2.1.length<=1000000/\SmallS m b.2.2
theorem SmallS.len{m:Nat}{l:List StC}(h:SmallS m l):l.length<=1000000:=by cases m<;>first|exact h|exact h.1
end Go.Stm
namespace Go.Proofs.YtgiadjbiimkbiaaGreatDoor
open Go.AM
open Go.Proofs
open Go.Col (Str FaultC okF)
open Go.Tok (TokC)
open Go.Stm
open Go.RowKit (Below)
set_option maxRecDepth 100000
def qgB:StC×AVal×AVal:=(.mk [] 0 0 [] [], .nilSlice, .nilSlice)
theorem qgI{wz:World}{h:AHeap}{lc:AM.Loc}{o:Nat}{c:Cap}{qs:List (StC×AVal×AVal)}(ht:IsL wz h 5 (.slice lc o qs.length c) (qs.map qen)){i:Nat}(hi:i<qs.length):
 rd wz h lc (o+i*5)= .str (qs.getD i qgB).1.verb/\rd wz h lc (o+i*5+1)= .int .i64 (qs.getD i qgB).1.line/\rd wz h lc (o+i*5+2)= .int .i64 (qs.getD i qgB).1.col/\rd wz h lc (o+i*5+3)=(qs.getD i qgB).2.1/\rd wz h lc (o+i*5+4)=(qs.getD i qgB).2.2:=by
 have he:=ht.elem (i:=i) (by rw[Jp];exact hi);rw[getD_map qgB hi]at he;simp only[and_true,cellsAt,List.cons.injEq,qen]at he;exact he
theorem qhH{wz:World}{h:AHeap}{v:AVal}{qs:List (StC×AVal×AVal)}(ht:IsL wz h 5 v (qs.map qen))(hn:0<qs.length):∃lc o c,v= .slice lc o qs.length c:=by
 obtain⟨lc,o,c,e⟩:=ht.open (fun e=>by rw[V5]at e;subst e;simp at hn);rw[Jp]at e;exact⟨lc,o,c,e⟩
theorem qlk{wz:World}{h:AHeap}{v:AVal}{qs:List (StC×AVal×AVal)}(ht:IsL wz h 5 v (qs.map qen)):∀H:AHeap,Ze Tryz.prog H 45 v=⟨True, .int .i64 qs.length⟩:=by
 intro H;have:=ht.len Tryz.underlying45 H
 rwa [Jp]at this
structure D1G where
 j:Nat
 H:AHeap
structure D2G where
 j:Nat
 H:AHeap
theorem qmp{α β:Type}{qs:List (α×β)}{p:α->Bool}{j:Nat}{d:α×β}(hj:j<qs.length):((qs.drop j).map (·.1)).any p=(p (qs.getD j d).1||((qs.drop (j+1)).map (·.1)).any p):=by
 rw[Ve hj,Ke,Bp];congr 1;simp[Ko,hj]
theorem qhE{wz:World}{d:Nat}{h:AHeap}{v:AVal}{l:List StC}(hs:StsV wz d h v l)(hsm:SmallS d l):∃qs:List (StC×AVal×AVal),l=qs.map (·.1)/\IsL wz h 5 v (qs.map qen)/\∀q∈qs,PhV wz h q.2.1 q.1.phrases/\BdV wz (StsV wz (d-1) h) h q.2.2 q.1.bodies/\q.1.bodies.length<=1000000/\q.1.phrases.length<=1000000/\(∀p∈q.1.phrases,p.toks.length<=1000000)/\∀b∈q.1.bodies,b.2.1.length<=1000000/\SmallS (d-1) b.2.2:=by
 cases d with
 |zero=>exact⟨[],hs.1,hs.2,fun q hq=>by cases hq⟩
 |succ d=>
  obtain⟨qs,e,a,b⟩:=hs;exact⟨qs,e,a,fun q hq=>⟨(b q hq).1,(b q hq).2,hsm.2 q.1 (by rw[e];exact BL (f:=(·.1)) hq)⟩⟩
theorem c_deep0(wz:World)(d:Nat)(h:AHeap)(v:AVal)(l:List StC)(hs:StsV wz d h v l):ACall Tryz.prog wz 38 [v, .int .i64 0] h (fun r h'=>r= .bool (WZ 0 l)/\Sub h h'):=by
 have nL:=qdc hs;have hlv:=hs.shape.1;have hR:WZ 0 l=decide (0<l.length):=rfl;rw[hR];refine qP (n:=34) (rs:=[.tmp 4]) Tryz.func38 rfl rfl rfl rfl (V7 rfl) ?_;simp only[qU];refine awp_rseq [0,1] (by rfl) fun K hK=>?_;simp+decide only[qJ,↓qa];apply hK;clear hK K;refine qo ?_;refine awp_rseq [0,1,10] (by rfl) fun K hK=>?_;simp+decide only[QH,qO,Zm,↓qc,↓qf];apply hK;clear hK K;refine qz (b:=_) rfl (fun hb1=>?_) (fun hb1=>?_)
 ·try simp only[qG]at hb1
  refine awp_rseq [4] (by rfl) fun K hK=>?_;simp+decide only[ZY,qO,Qm,WL,↓qc,↓Qr,↓qf,↓qa,nL];apply hK;clear hK K;refine qV ?_;try simp only[Xz]
  refine QL h zqC (qA (qC)) ?_;simp+decide only[Xn];exact⟨by congr 1;rw[Bool.eq_iff_iff];simp only[decide_eq_true_eq];omega,Vk _⟩
 ·cases hb1
set_option maxHeartbeats 8000000 in
theorem c_deepS(wz:World)(m d:Nat)(h:AHeap)(v:AVal)(l:List StC)(hm:m<=1000)(hs:StsV wz d h v l)(hsm:SmallS d l)
 (ih:∀(h':AHeap) (v:AVal) (l:List StC),StsV wz (d-1) h' v l->SmallS (d-1) l->ACall Tryz.prog wz 38 [v, .int .i64 m] h' (fun r h''=>r= .bool (WZ m l)/\Sub h' h'')):
 ACall Tryz.prog wz 38 [v, .int .i64 ((m+1:Nat):Int)] h (fun r h'=>r= .bool (WZ (m+1) l)/\Sub h h'):=by
 obtain⟨qs,hqe,hqL,hels⟩:=qhE hs hsm;have nL:=qlk hqL;have hlv:=hqL.live;have hln:qs.length<=1000000:=by have:=hsm.len;rw[hqe,Jp]at this;exact this
 have hR:WZ (m+1) l=(qs.map (·.1)).any fun s=>s.bodies.any fun b=>WZ m b.2.2:=by rw[<-hqe];rfl
 obtain⟨R,hRR⟩:∃R,R=WZ (m+1) l:=⟨_,rfl⟩
 rw[<-hRR]at hR|-
 refine qP (n:=34) (rs:=[.tmp 4]) Tryz.func38 rfl rfl rfl rfl (V7 rfl) ?_;simp only[qU];refine awp_rseq [0,1] (by rfl) fun K hK=>?_;simp+decide only[qJ,↓qa];apply hK;clear hK K;refine qo ?_;refine awp_rseq [0,1,10] (by rfl) fun K hK=>?_;simp+decide only[QH,qO,Zm,↓qc,↓qf];apply hK;clear hK K;refine qz (b:=_) rfl (fun hb1=>?_) (fun hb1=>?_)
 ·have:=of_decide_eq_true hb1;omega
 ·try simp only[qG]at hb1
  refine qE ?_;change Awp _ _ _ _ _ _ _;refine qo ?_;refine awp_rseq [1,14,15,16] (by rfl) fun K hK=>?_;simp+decide only[Qw,Qm,↓qc,↓Qr,nL];apply hK;clear hK K;refine qK ?_;refine QD [1,14,15,16] (fun g:D1G=>[(1, .int .i64 ((m+1:Nat):Int)),(14,v),(15, .int .i64 qs.length),(16, .int .i64 g.j)]) (fun g:D1G=>g.H) (fun g:D1G=>Sub h g.H/\g.j<=qs.length/\R=((qs.drop g.j).map (·.1)).any fun s=>s.bodies.any fun b=>WZ m b.2.2) (fun g:D1G=>qs.length-g.j) ⟨0,h⟩ (by rfl) (Vk _) ⟨Vk _,Js _,hR⟩ ?_;rintro⟨j,H⟩ ⟨hs_H,hj,hg⟩;simp only at hs_H hj hg|-
  refine awp_rseq [1,14,15,16,17] (by rfl) fun K hK=>?_;simp+decide only[Zp,YT,↓qf];apply hK;clear hK K;refine qo (qz (b:=_) rfl (fun hb2=>?_) (fun hb2=>?_))
  ·try simp only[qG]at hb2
   have hj':j<qs.length:=by omega
   obtain⟨q,hqj⟩:∃q,q=qs.getD j qgB:=⟨_,rfl⟩
   have hqm:q∈qs:=by rw[hqj,Ko,JD hj'];exact VY hj'
   obtain⟨lc,o,cc,hpe⟩:=qhH hqL (by omega);have hq2:=hqL.mono hs_H;rw[hpe]at hq2;obtain⟨e0,e1,e2,e3,e4⟩:=qgI hq2 hj';rw[<-hqj]at e0 e1 e2 e3 e4;obtain⟨hph,hbd,hbn,hpn,hpt,hbb⟩:=hels q hqm;have hst:=qmp (p:=fun s:StC=>s.bodies.any fun b=>WZ m b.2.2) (d:=qgB) hj';rw[<-hg,<-hqj]at hst;have hl1:=hph.live;have hs1:=hph.scal;have hl2:=hbd.live;have hs2:=hbd.scal;have hs3:=hs1;have hs4:=hs2;obtain⟨ql,hql,hqb,hqq⟩:=id hbd;have nb:=qfH hqb;have hbn2:ql.length<=1000000:=by rw[hql,Jp]at hbn;exact hbn
   obtain⟨qs1,qp,qb⟩:=q;simp only at e0 e1 e2 e3 e4 hl1 hs1 hl2 hs2 hs3 hs4 hst nb hqb hql hbb;rw[hql]at hst;obtain⟨X,hX⟩:∃X,X=((qs.drop (j+1)).map (·.1)).any fun s=>s.bodies.any fun b=>WZ m b.2.2:=⟨_,rfl⟩
   rw[<-hX]at hst;have hwj:IntKind.i64.wrap ((j:Int)+1)=((j+1:Nat):Int):=by rw[wrap_i64 (by omega) (by omega)];omega
   refine qE ?_;change Awp _ _ _ _ _ _ _;refine qo ?_;refine qK ?_;refine awp_rseq [1,6,14,15,16] (by rfl) fun K hK=>?_;simp+decide only[Zg,Xa,QN,↓qI,qh Tryz.underlying45 UJ,↓qj,Qa qiH UJ,hpe,e0,e1,e2,e3,e4,hl1,hl2];repeat (with_reducible refine zqP ?_)
   refine Qz qoc (cs:=[.str [], .int .i64 0, .int .i64 0, .nilSlice, .nilSlice]) (by rfl) fun k5q2 hk5q2=>?_;have hn_5q2:H k5q2=none:=by first|assumption|(simp only[Bi]at hk5q2;simp only[hk5q2])
   have hf_5q2:h k5q2=none:=Bj hs_H hn_5q2;refine qN (by rfl) (by rfl) zqA UJ (by rfl) (by rfl) zqD (Js _) (by first|rfl|(simp+decide only[ZJ,Qu,hs1,hs2,WU,ZM])) ?_;simp only[QZ,Bn];simp+decide only[Zg,QN,Nat.reduceAdd];apply hK;clear hK K;refine awp_rseq [1,14,15,16,21,22,23] (by rfl) fun K hK=>?_;simp+decide only[ZU,Qm,↓qg,Wh,↓qj,qd qeb,↓Qr,↓qc,nb,hl2];apply hK;clear hK K;refine qK ?_;refine QD [1,14,15,16,21,22,23] (fun g:D2G=>[(1, .int .i64 ((m+1:Nat):Int)),(14,v),(15, .int .i64 qs.length),(16, .int .i64 j),(21,qb),(22, .int .i64 ql.length),(23, .int .i64 g.j)]) (fun g:D2G=>g.H) (fun g:D2G=>Sub h g.H/\g.j<=ql.length/\R=((((ql.drop g.j).map (·.1)).any fun b=>WZ m b.2.2)||X)) (fun g:D2G=>ql.length-g.j) ⟨0,_⟩ (by rw[hpe];rfl) (Vk _) ⟨zqB,Js _,hst⟩ ?_;rintro⟨a,H2⟩ ⟨hs_H2,ha,hga⟩;simp only at hs_H2 ha hga|-
   refine awp_rseq [1,14,15,16,21,22,23,24] (by rfl) fun K hK=>?_;simp+decide only[Zp,YT,↓qf];apply hK;clear hK K;refine qo (qz (b:=_) rfl (fun hb3=>?_) (fun hb3=>?_))
   ·try simp only[qG]at hb3
    have ha':a<ql.length:=by omega
    obtain⟨b,hbe⟩:∃b,b=ql.getD a qff:=⟨_,rfl⟩
    have hbm:b∈ql:=by rw[hbe,Ko,JD ha'];exact VY ha'
    obtain⟨lb,ob,cb,hbp⟩:=qds hqb (by omega);have hb2:=hqb.mono hs_H2;rw[hbp]at hb2;obtain⟨f0,f1,f2⟩:=qgR hb2 ha';rw[<-hbe]at f0 f1 f2;obtain⟨hbt,hbs⟩:=hqq b hbm;have hsb:SmallS (d-1) b.1.2.2:=(hbb b.1 (by rw[hql];exact BL (f:=(·.1)) hbm)).2;have hst2:=qmp (p:=fun b:BodC=>WZ m b.2.2) (d:=qff) ha';rw[<-hbe]at hst2;rw[hst2]at hga;have hl3:=hbt.live;have hs3:=hbt.scal;obtain⟨hl4,hs4,hc4⟩:=hbs.shape;obtain⟨⟨bw,bt,bL⟩,btv,blv⟩:=b;simp only at f0 f1 f2 hbs hsb hga hl3 hs3 hl4 hs4;have hwa:IntKind.i64.wrap ((a:Int)+1)=((a+1:Nat):Int):=by rw[wrap_i64 (by omega) (by omega)];omega
    have hwm:IntKind.i64.wrap (((m+1:Nat):Int)-1)=(m:Int):=by rw[wrap_i64 (by omega) (by omega)];omega
    refine qE ?_;change Awp _ _ _ _ _ _ _;refine qo ?_;refine qK ?_;refine awp_rseq [1,8,14,15,16,21,22,23] (by rfl) fun K hK=>?_;simp+decide only[Zg,Xa,QN,↓qI,qh Tryz.underlying80 qbU,↓qj,Qa ag86 qbU,hbp,f0,f1,f2,hl3,hl4];repeat (with_reducible refine zqP ?_)
    refine Qz qob (cs:=[.str [], .nilSlice, .nilSlice]) (by rfl) fun k8q2 hk8q2=>?_;have hn_8q2:H2 k8q2=none:=by first|assumption|(simp only[Bi]at hk8q2;simp only[hk8q2])
    have hf_8q2:h k8q2=none:=Bj hs_H2 hn_8q2;refine qN (by rfl) (by rfl) zqA qbU (by rfl) (by rfl) zqD (Js _) (by first|rfl|(simp+decide only[ZJ,Qu,hs3,hs4,ZM])) ?_;simp only[QZ,Bn];simp+decide only[Zg,QN,Nat.reduceAdd];apply hK;clear hK K;refine awp_rseq [1,14,15,16,21,22,23,31] (by rfl) fun K hK=>?_;simp+decide only[Yz,qO,UC,↓qg,qfA,↓qj,qd qjH,↓qc,↓qf,hl4,hwm];refine qM (by rfl) (by rfl) (ih _ blv bL (hbs.mono zqB) hsb) fun x9q4 h9q4 hx9q4=>?_;obtain⟨rfl,hs9⟩:=hx9q4;have hs_h9q4:Sub h h9q4:=Bt zqC hs9;have hr_h9q4:Sub H2 h9q4:=Bt zqC hs9;have eb_8q2:=hs9 k8q2 _ zqA;simp+decide only[qR];apply hK;clear hK K;refine qz (b:=_) rfl (fun hb4=>?_) (fun hb4=>?_)
    ·skip
     refine awp_rseq [4] (by rfl) fun K hK=>?_;simp+decide only[qJ,↓qa];apply hK;clear hK K;refine qV ?_;try simp only[Xz]
     refine Qk (qA (qC)) ?_;simp+decide only[Xn];rw[hga,hb4];exact⟨h,by assumption,rfl,Vk _⟩
    ·skip
     rw[hb4,VJ]at hga;refine qE ?_;change Awp _ _ _ _ _ _ _;refine QK [1,14,15,16,21,22,23] (by rfl) ?_;simp+decide only[QH,ZE,↓qf,↓qc,hwa];try simp only[QT]
     exact⟨⟨a+1,h9q4⟩,by rw[hbp];rfl,Vk _,⟨by assumption,ha',hga⟩,by simp only;omega⟩
   ·try simp only[qG]at hb3
    have haq:a=ql.length:=by omega
    rw[haq,Vd]at hga;have hgX:R=X:=by rw[hga];rfl
    refine QC ?_;change Awp _ _ _ _ _ _ _;refine QK [1,14,15,16] (by rfl) ?_;simp+decide only[QH,ZE,↓qf,↓qc,hwj];try simp only[QT]
    exact⟨⟨j+1,H2⟩,rfl,Vk _,⟨hs_H2,hj',by rw[hgX,hX]⟩,by simp only;omega⟩
  ·try simp only[qG]at hb2
   have hjq:j=qs.length:=by omega
   rw[hjq,Vd]at hg;refine QC ?_;change Awp _ _ _ _ _ _ _;refine awp_rseq [4] (by rfl) fun K hK=>?_;simp+decide only[qJ,↓qa];apply hK;clear hK K;refine qV ?_;refine Qk (qA (qC)) ?_;simp+decide only[Xn];rw[hg];exact⟨H,Vk _,rfl,hs_H⟩
theorem qpj(wz:World):∀(m d:Nat) (h:AHeap) (v:AVal) (l:List StC),m<=1000->StsV wz d h v l->SmallS d l->ACall Tryz.prog wz 38 [v, .int .i64 m] h (fun r h'=>r= .bool (WZ m l)/\Sub h h')
 |0,d,h,v,l,_,hs,hsm=>c_deep0 wz d h v l hs
 |m+1,d,h,v,l,hm,hs,hsm=>c_deepS wz m d h v l (by omega) hs hsm fun h' v l hs hsm=>qpj wz m (d-1) h' v l (by omega) hs hsm
structure C1G where
 j:Nat
 n:Nat
 H:AHeap
theorem qpM{α β:Type}{qs:List (α×β)}{f:α->Nat}{j:Nat}{d:α×β}(hj:j<qs.length):(((qs.drop j).map (·.1)).map f).sum=f (qs.getD j d).1+(((qs.drop (j+1)).map (·.1)).map f).sum:=by
 rw[Ve hj,Ke,Ke,List.sum_cons];congr 2;simp[Ko,hj]
theorem sts0{wz:World}{h:AHeap}{v:AVal}{l:List StC}(hs:StsV wz 0 h v l):l=[]/\IsL wz h 5 v []:=hs
theorem c_cnt0(wz:World)(h:AHeap)(v:AVal)(hv:IsL wz h 5 v []):ACall Tryz.prog wz 49 [v] h (fun r h'=>r= .int .i64 0/\Sub h h'):=by
 have nL:∀H:AHeap,Ze Tryz.prog H 45 v=⟨True, .int .i64 0⟩:=fun H=>hv.len Tryz.underlying45 H;have hlv:=hv.live;refine qP (n:=31) (rs:=[.tmp 2]) Tryz.func49 rfl rfl rfl rfl (V7 rfl) ?_;simp only[qU];refine awp_rseq [0] (by rfl) fun K hK=>?_;simp+decide only[qJ,↓qa];apply hK;clear hK K;refine awp_rseq [0,3] (by rfl) fun K hK=>?_;simp+decide only[Xh,Qm,↓qc,↓Qr,↓qa,nL];apply hK;clear hK K;refine qo ?_;refine awp_rseq [3,10,11,12] (by rfl) fun K hK=>?_;simp+decide only[Qw,Qm,↓qc,↓Qr,nL];apply hK;clear hK K;refine qK ?_;refine QD [3,10,11,12] (fun z:Unit=>[(3, .int .i64 0),(10,v),(11, .int .i64 0),(12, .int .i64 0)]) (fun z:Unit=>h) (fun z:Unit=>True) (fun z:Unit=>0) () (by rfl) (Vk _) trivial ?_;intro z _;refine awp_rseq [3,10,11,12,13] (by rfl) fun K hK=>?_;simp+decide only[Zp,YT,↓qf];apply hK;clear hK K;refine qo (qz (b:=_) rfl (fun hb1=>?_) (fun hb1=>?_))
 ·cases hb1
 ·try simp only[qG]at hb1
  refine QC ?_;change Awp _ _ _ _ _ _ _;refine awp_rseq [2] (by rfl) fun K hK=>?_;simp+decide only[Xh,↓qc,↓qa];apply hK;clear hK K;refine qV ?_;refine QL h zqC (qA (qC)) ?_;simp+decide only[Xn];exact Vk _
set_option maxHeartbeats 8000000 in
theorem c_cntS(wz:World)(d:Nat)(h:AHeap)(v:AVal)(l:List StC)(hs:StsV wz (d+1) h v l)(hsm:SmallS (d+1) l)(hT:QW (d+1) l<=1000000000000)
 (ih:∀(h':AHeap) (v:AVal) (l:List StC),StsV wz d h' v l->SmallS d l->QW d l<=1000000000000->ACall Tryz.prog wz 49 [v] h' (fun r h''=>r= .int .i64 (QW d l)/\Sub h' h'')):
 ACall Tryz.prog wz 49 [v] h (fun r h'=>r= .int .i64 (QW (d+1) l)/\Sub h h'):=by
 obtain⟨qs,hqe,hqL,hels⟩:=qhE hs hsm;rw[Ed]at hels;have nL:=qlk hqL;have hlv:=hqL.live;have hln:qs.length<=1000000:=by have:=hsm.len;rw[hqe,Jp]at this;exact this
 have hR:QW (d+1) l=qs.length+((qs.map (·.1)).map fun s=>(s.bodies.map fun b=>QW d b.2.2).sum).sum:=by
  rw[<-hqe];show l.length+_=qs.length+_
  rw[hqe,Jp]
 obtain⟨R,hRR⟩:∃R,R=QW (d+1) l:=⟨_,rfl⟩
 rw[<-hRR]at hR hT|-
 refine qP (n:=31) (rs:=[.tmp 2]) Tryz.func49 rfl rfl rfl rfl (V7 rfl) ?_;simp only[qU];refine awp_rseq [0] (by rfl) fun K hK=>?_;simp+decide only[qJ,↓qa];apply hK;clear hK K;refine awp_rseq [0,3] (by rfl) fun K hK=>?_;simp+decide only[Xh,Qm,↓qc,↓Qr,↓qa,nL];apply hK;clear hK K;refine qo ?_;refine awp_rseq [3,10,11,12] (by rfl) fun K hK=>?_;simp+decide only[Qw,Qm,↓qc,↓Qr,nL];apply hK;clear hK K;refine qK ?_;refine QD [3,10,11,12] (fun g:C1G=>[(3, .int .i64 g.n),(10,v),(11, .int .i64 qs.length),(12, .int .i64 g.j)]) (fun g:C1G=>g.H) (fun g:C1G=>Sub h g.H/\g.j<=qs.length/\R=g.n+(((qs.drop g.j).map (·.1)).map fun s=>(s.bodies.map fun b=>QW d b.2.2).sum).sum) (fun g:C1G=>qs.length-g.j) ⟨0,qs.length,h⟩ (by rfl) (Vk _) ⟨Vk _,Js _,hR⟩ ?_;rintro⟨j,n,H⟩ ⟨hs_H,hj,hg⟩;simp only at hs_H hj hg|-
 refine awp_rseq [3,10,11,12,13] (by rfl) fun K hK=>?_;simp+decide only[Zp,YT,↓qf];apply hK;clear hK K;refine qo (qz (b:=_) rfl (fun hb1=>?_) (fun hb1=>?_))
 ·try simp only[qG]at hb1
  have hj':j<qs.length:=by omega
  obtain⟨q,hqj⟩:∃q,q=qs.getD j qgB:=⟨_,rfl⟩
  have hqm:q∈qs:=by rw[hqj,Ko,JD hj'];exact VY hj'
  obtain⟨lc,o,cc,hpe⟩:=qhH hqL (by omega);have hq2:=hqL.mono hs_H;rw[hpe]at hq2;obtain⟨e0,e1,e2,e3,e4⟩:=qgI hq2 hj';rw[<-hqj]at e0 e1 e2 e3 e4;obtain⟨hph,hbd,hbn,hpn,hpt,hbb⟩:=hels q hqm;have hst:=qpM (f:=fun s:StC=>(s.bodies.map fun b=>QW d b.2.2).sum) (d:=qgB) hj';rw[<-hqj]at hst;rw[hst,<-Kw]at hg;have hl1:=hph.live;have hs1:=hph.scal;have hl2:=hbd.live;have hs2:=hbd.scal;have hs3:=hs1;have hs4:=hs2;obtain⟨ql,hql,hqb,hqq⟩:=id hbd;have nb:=qfH hqb;have hbn2:ql.length<=1000000:=by rw[hql,Jp]at hbn;exact hbn
  obtain⟨qs1,qp,qb⟩:=q;simp only at e0 e1 e2 e3 e4 hl1 hs1 hl2 hs2 hs3 hs4 hg nb hqb hql hbb;rw[hql]at hg;obtain⟨X,hX⟩:∃X,X=(((qs.drop (j+1)).map (·.1)).map fun s=>(s.bodies.map fun b=>QW d b.2.2).sum).sum:=⟨_,rfl⟩
  rw[<-hX]at hg;have hwj:IntKind.i64.wrap ((j:Int)+1)=((j+1:Nat):Int):=by rw[wrap_i64 (by omega) (by omega)];omega
  refine qE ?_;change Awp _ _ _ _ _ _ _;refine qo ?_;refine qK ?_;refine awp_rseq [3,5,10,11,12] (by rfl) fun K hK=>?_;simp+decide only[Zg,Xa,QN,↓qI,qh Tryz.underlying45 UJ,↓qj,Qa qiH UJ,hpe,e0,e1,e2,e3,e4,hl1,hl2];repeat (with_reducible refine zqP ?_)
  refine Qz qoc (cs:=[.str [], .int .i64 0, .int .i64 0, .nilSlice, .nilSlice]) (by rfl) fun k4q2 hk4q2=>?_;have hn_4q2:H k4q2=none:=by first|assumption|(simp only[Bi]at hk4q2;simp only[hk4q2])
  have hf_4q2:h k4q2=none:=Bj hs_H hn_4q2;refine qN (by rfl) (by rfl) zqA UJ (by rfl) (by rfl) zqD (Js _) (by first|rfl|(simp+decide only[ZJ,Qu,hs1,hs2,WU,ZM])) ?_;simp only[QZ,Bn];simp+decide only[Zg,QN,Nat.reduceAdd];apply hK;clear hK K;refine awp_rseq [3,10,11,12,17,18,19] (by rfl) fun K hK=>?_;simp+decide only[ZU,Qm,↓qg,Wh,↓qj,qd qeb,↓Qr,↓qc,nb,hl2];apply hK;clear hK K;refine qK ?_;refine QD [3,10,11,12,17,18,19] (fun g:C1G=>[(3, .int .i64 g.n),(10,v),(11, .int .i64 qs.length),(12, .int .i64 j),(17,qb),(18, .int .i64 ql.length),(19, .int .i64 g.j)]) (fun g:C1G=>g.H) (fun g:C1G=>Sub h g.H/\g.j<=ql.length/\R=g.n+(((ql.drop g.j).map (·.1)).map fun b=>QW d b.2.2).sum+X) (fun g:C1G=>ql.length-g.j) ⟨0,n,_⟩ (by rw[hpe];rfl) (Vk _) ⟨zqB,Js _,hg⟩ ?_;rintro⟨a,n2,H2⟩ ⟨hs_H2,ha,hga⟩;simp only at hs_H2 ha hga|-
  refine awp_rseq [3,10,11,12,17,18,19,20] (by rfl) fun K hK=>?_;simp+decide only[Zp,YT,↓qf];apply hK;clear hK K;refine qo (qz (b:=_) rfl (fun hb2=>?_) (fun hb2=>?_))
  ·try simp only[qG]at hb2
   have ha':a<ql.length:=by omega
   obtain⟨b,hbe⟩:∃b,b=ql.getD a qff:=⟨_,rfl⟩
   have hbm:b∈ql:=by rw[hbe,Ko,JD ha'];exact VY ha'
   obtain⟨lb,ob,cb,hbp⟩:=qds hqb (by omega);have hb2:=hqb.mono hs_H2;rw[hbp]at hb2;obtain⟨f0,f1,f2⟩:=qgR hb2 ha';rw[<-hbe]at f0 f1 f2;obtain⟨hbt,hbs⟩:=hqq b hbm;have hsb:SmallS d b.1.2.2:=(hbb b.1 (by rw[hql];exact BL (f:=(·.1)) hbm)).2;have hst2:=qpM (f:=fun b:BodC=>QW d b.2.2) (d:=qff) ha';rw[<-hbe]at hst2;rw[hst2,<-Kw]at hga;have hl3:=hbt.live;have hs3:=hbt.scal;obtain⟨hl4,hs4,hc4⟩:=hbs.shape;obtain⟨⟨bw,bt,bL⟩,btv,blv⟩:=b;simp only at f0 f1 f2 hbs hsb hga hl3 hs3 hl4 hs4;have hwa:IntKind.i64.wrap ((a:Int)+1)=((a+1:Nat):Int):=by rw[wrap_i64 (by omega) (by omega)];omega
   have hwm:IntKind.i64.wrap ((n2:Int)+(QW d bL:Int))=((n2+QW d bL:Nat):Int):=by rw[wrap_i64 (by omega) (by omega)];omega
   refine qE ?_;change Awp _ _ _ _ _ _ _;refine qo ?_;refine qK ?_;refine awp_rseq [3,7,10,11,12,17,18,19] (by rfl) fun K hK=>?_;simp+decide only[Zg,Xa,QN,↓qI,qh Tryz.underlying80 qbU,↓qj,Qa ag86 qbU,hbp,f0,f1,f2,hl3,hl4];repeat (with_reducible refine zqP ?_)
   refine Qz qob (cs:=[.str [], .nilSlice, .nilSlice]) (by rfl) fun k7q2 hk7q2=>?_;have hn_7q2:H2 k7q2=none:=by first|assumption|(simp only[Bi]at hk7q2;simp only[hk7q2])
   have hf_7q2:h k7q2=none:=Bj hs_H2 hn_7q2;refine qN (by rfl) (by rfl) zqA qbU (by rfl) (by rfl) zqD (Js _) (by first|rfl|(simp+decide only[ZJ,Qu,hs3,hs4,ZM])) ?_;simp only[QZ,Bn];simp+decide only[Zg,QN,Nat.reduceAdd];apply hK;clear hK K;refine QK [3,10,11,12,17,18,19] (by rfl) ?_;simp+decide only[ZU,↓qc,↓qg,qfA,↓qj,qd qjH,hl4];refine qM (by rfl) (by rfl) (ih _ blv bL (hbs.mono zqB) hsb (by omega)) fun x8q3 h8q3 hx8q3=>?_;obtain⟨rfl,hs8⟩:=hx8q3;have hs_h8q3:Sub h h8q3:=Bt zqC hs8;have hr_h8q3:Sub H2 h8q3:=Bt zqC hs8;have eb_7q2:=hs8 k7q2 _ zqA;simp+decide only[qJ,cond_false,qaf,WA,qF,ZI,↓qf,↓qa,hwm];change Awp _ _ _ _ _ _ _;refine QK [3,10,11,12,17,18,19] (by rfl) ?_;simp+decide only[QH,ZE,↓qf,↓qc,hwa];try simp only[QT]
   exact⟨⟨a+1,n2+QW d bL,h8q3⟩,by rw[hbp];rfl,Vk _,⟨by assumption,ha',hga⟩,by simp only;omega⟩
  ·try simp only[qG]at hb2
   have haq:a=ql.length:=by omega
   rw[haq,Vd]at hga;refine QC ?_;change Awp _ _ _ _ _ _ _;refine QK [3,10,11,12] (by rfl) ?_;simp+decide only[QH,ZE,↓qf,↓qc,hwj];try simp only[QT]
   exact⟨⟨j+1,n2,H2⟩,rfl,Vk _,⟨hs_H2,hj',by simp only;rw[hga,hX];simp⟩,by simp only;omega⟩
 ·try simp only[qG]at hb1
  have hjq:j=qs.length:=by omega
  rw[hjq,Vd]at hg;refine QC ?_;change Awp _ _ _ _ _ _ _;refine awp_rseq [2] (by rfl) fun K hK=>?_;simp+decide only[Xh,↓qc,↓qa];apply hK;clear hK K;refine qV ?_;refine Qk (qA (qC)) ?_;simp+decide only[Xn];refine⟨H,Vk _,?_,hs_H⟩;rw[hg];simp
theorem c_cnt(wz:World):∀(d:Nat) (h:AHeap) (v:AVal) (l:List StC),StsV wz d h v l->SmallS d l->QW d l<=1000000000000->ACall Tryz.prog wz 49 [v] h (fun r h'=>r= .int .i64 (QW d l)/\Sub h h')
 |0,h,v,l,hs,hsm,hT=>by
  obtain⟨rfl,hv⟩:=sts0 hs;exact c_cnt0 wz h v hv
 |d+1,h,v,l,hs,hsm,hT=>c_cntS wz d h v l hs hsm hT fun h' v l hs hsm hT=>c_cnt wz d h' v l hs hsm hT
def qpA(d:Nat)(l:List StC):Nat:=if WZ 32 l=true then 0 else QW d l
theorem c_Count(wz:World)(d:Nat)(h:AHeap)(v:AVal)(l:List StC)(hs:StsV wz d h v l)(hsm:SmallS d l)(hT:QW d l<=1000000000000):ACall Tryz.prog wz 26 [v] h (fun r h'=>r= .int .i64 (qpA d l)/\Sub h h'):=by
 have hlv:=hs.shape.1;refine qP (n:=7) (rs:=[.tmp 2]) Tryz.func26 rfl rfl rfl rfl (V7 rfl) ?_;simp only[qU];refine awp_rseq [0] (by rfl) fun K hK=>?_;simp+decide only[qJ,↓qa];apply hK;clear hK K;refine qo ?_;refine awp_rseq [0,4] (by rfl) fun K hK=>?_;simp+decide only[Qw,↓qc];refine qM (by rfl) (by rfl) (qpj wz 32 d _ v l (by decide) hs hsm) fun x1q1 h1q1 hx1q1=>?_;obtain⟨rfl,hs1⟩:=hx1q1;have hs_h1q1:Sub h h1q1:=Bt zqC hs1;have hr_h1q1:=hs_h1q1;simp+decide only[qR];apply hK;clear hK K;refine qz (b:=_) rfl (fun hb1=>?_) (fun hb1=>?_)
 ·skip
  refine awp_rseq [2] (by rfl) fun K hK=>?_;simp+decide only[qJ,↓qa];apply hK;clear hK K;refine qV ?_;try simp only[Xz]
  refine Qk (qA (qC)) ?_;simp+decide only[Xn];exact⟨h,by assumption,by unfold qpA;rw[if_pos hb1];rfl,Vk _⟩
 ·skip
  refine qE ?_;change Awp _ _ _ _ _ _ _;refine awp_rseq [2] (by rfl) fun K hK=>?_;simp+decide only[Qw,↓qc];refine qM (by rfl) (by rfl) (c_cnt wz d _ v l (hs.mono zqB) hsm hT) fun x3q1 h3q1 hx3q1=>?_;obtain⟨rfl,hs3⟩:=hx3q1;have hs_h3q1:Sub h h3q1:=Bt zqC hs3;have hr_h3q1:Sub h1q1 h3q1:=Bt zqC hs3;simp+decide only[qJ,↓qa];apply hK;clear hK K;refine qV ?_;refine Qk (qA (qC)) ?_;simp+decide only[Xn];exact⟨h,by assumption,by unfold qpA;rw[if_neg (by rw[hb1];decide)],Vk _⟩
theorem tk_step{a b:List TokC}{j:Nat}(ha:j<a.length)(hb:j<b.length):Wo (a.drop j) (b.drop j)=(decide ((a.getD j noT).kind=(b.getD j noT).kind) && (decide ((a.getD j noT).text=(b.getD j noT).text) && Wo (a.drop (j+1)) (b.drop (j+1)))):=by
 unfold Wo;rw[Ve ha,Ve hb];simp only[Ke,List.cons.injEq,Prod.mk.injEq,Ko,JD ha,JD hb,Option.getD_some];by_cases h1:a[j].kind=b[j].kind<;>by_cases h2:a[j].text=b[j].text<;>simp[h1,h2]
set_option maxHeartbeats 4000000 in
theorem qsl(wz:World)(h:AHeap)(v w:AVal)(a b:List TokC)(hv:IsL wz h 5 v (a.map Zb))(hw:IsL wz h 5 w (b.map Zb))(ha:a.length<=1000000):
 ACall Tryz.prog wz 65 [v,w] h (fun r h'=>r= .bool (Wo a b)/\h'=h):=by
 have hlv:=hv.live;have hlw:=hw.live;have nv:=Wn hv;have nw:=Wn hw;refine qP (n:=41) (rs:=[.tmp 4]) Tryz.func65 rfl rfl rfl rfl (V7 rfl) ?_;simp only[qU];refine awp_rseq [0,1] (by rfl) fun K hK=>?_;simp+decide only[qJ,↓qa];apply hK;clear hK K;refine qo ?_;refine awp_rseq [0,1,10] (by rfl) fun K hK=>?_;simp+decide only[QH,qF,Qm,UR,↓qc,↓Qr,↓qf,nv,nw];apply hK;clear hK K;refine qz (b:=_) rfl (fun hb1=>?_) (fun hb1=>?_)
 ·try simp only[qG]at hb1
  have hne:a.length≠b.length:=by omega
  refine awp_rseq [4] (by rfl) fun K hK=>?_;simp+decide only[qJ,↓qa];apply hK;clear hK K;refine qV ?_;try simp only[Xz]
  refine QL h zqC (qA (qC)) ?_;simp+decide only[Xn];have:Wo a b=false:=by
   unfold Wo;rw[decide_eq_false];intro e;have:=congrArg Ee e;rw[Jp,Jp]at this;exact hne this
  rw[this]
 ·try simp only[qG]at hb1
  have heq:a.length=b.length:=by omega
  refine qE ?_;change Awp _ _ _ _ _ _ _;refine qo ?_;refine awp_rseq [0,1,12,13] (by rfl) fun K hK=>?_;simp+decide only[Qw,Qm,↓qc,↓Qr,nv];apply hK;clear hK K;refine qK ?_;refine QD [0,1,12,13] (fun j:Nat=>[(0,v),(1,w),(12, .int .i64 a.length),(13, .int .i64 j)]) (fun j:Nat=>h) (fun j:Nat=>j<=a.length/\Wo a b=Wo (a.drop j) (b.drop j)) (fun j:Nat=>a.length-j) 0 (by rfl) (Vk _) ⟨Js _,rfl⟩ ?_;rintro j ⟨hj,hg⟩;refine awp_rseq [0,1,12,13,14] (by rfl) fun K hK=>?_;simp+decide only[Zp,YT,↓qf];apply hK;clear hK K;refine qo (qz (b:=_) rfl (fun hb2=>?_) (fun hb2=>?_))
  ·try simp only[qG]at hb2
   have hj1:j<a.length:=by omega
   have hj2:j<b.length:=by omega
   obtain⟨lc,o,c,hve⟩:=Yp hv (by omega);obtain⟨lw,ow,cw,hwe⟩:=Yp hw (by omega);have hv2:=hv;have hw2:=hw;rw[hve]at hv2;rw[hwe]at hw2;obtain⟨e0,e1,-⟩:=UI hv2 hj1;obtain⟨f0,f1,-⟩:=UI hw2 hj2;have hst:=tk_step hj1 hj2;obtain⟨t,ht⟩:∃t,t=a.getD j noT:=⟨_,rfl⟩
   obtain⟨u,hu⟩:∃u,u=b.getD j noT:=⟨_,rfl⟩
   rw[<-ht]at e0 e1 hst;rw[<-hu]at f0 f1 hst;have hk:=Yu t.kind u.kind;have hjb:((j:Int)<(b.length:Int))=True:=eq_true (by omega);have hja:((j:Int)<(a.length:Int))=True:=eq_true (by omega);have hwj:IntKind.i64.wrap ((j:Int)+1)=((j+1:Nat):Int):=by rw[wrap_i64 (by omega) (by omega)];omega
   refine qE ?_;change Awp _ _ _ _ _ _ _;refine qo ?_;refine qK ?_;refine awp_rseq [0,1,5,12,13] (by rfl) fun K hK=>?_;simp+decide only[Xh,↓qc,↓qa];apply hK;clear hK K;refine qai [0,1,12,13,39] mixed (by kernel_rfl) (by rfl) (by rfl) fun K hK=>?_;simp+decide only[QH,Zn,QN,Qe,qF,XF,YS,Qb,Wi,Xk,Yw,UR,qan,↓qc,↓qI,qh Tryz.underlying39 UA,↓qg,qaG,↓qj,qd qmr,↓qf,↓Xc,qY,qZ,qW,↓Zv,agL_il5,agL_ir5,↓QR,qcT,↓XP,qd ag9,↓QI,↓QE,hve,hwe,e0,e1,f0,f1,hk,hjb,hja];repeat (with_reducible refine zqP ?_)
   apply hK;clear hK K;refine qz (b:=_) rfl (fun hb3=>?_) (fun hb3=>?_)
   ·try simp only[qG]at hb3
    refine awp_rseq [4] (by rfl) fun K hK=>?_;simp+decide only[qJ,↓qa];apply hK;clear hK K;refine qV ?_;try simp only[Xz]
    refine QL h zqC (qA (qC)) ?_;simp+decide only[Xn];rw[hg,hst];rcases hb3 with z|z
    ·rw[decide_eq_false z];rfl
    ·rw[decide_eq_false z,VI,VM]
   ·try simp only[qG]at hb3
    refine qE ?_;change Awp _ _ _ _ _ _ _;refine QK [0,1,12,13] (by rfl) ?_;simp+decide only[QH,ZE,↓qf,↓qc,hwj];try simp only[QT]
    refine⟨j+1,by rw[hve,hwe];rfl,Vk _,⟨hj1,?_⟩,by omega⟩;obtain⟨z1,z2⟩:=hb3;rw[hg,hst,decide_eq_true z1,decide_eq_true z2,Vz,Vz]
  ·try simp only[qG]at hb2
   refine QC ?_;change Awp _ _ _ _ _ _ _;refine awp_rseq [4] (by rfl) fun K hK=>?_;simp+decide only[qJ,↓qa];apply hK;clear hK K;refine qV ?_;refine QL h zqC (qA (qC)) ?_;simp+decide only[Xn];rw[hg,Bq (by omega),Bq (by omega)];rfl
end Go.Proofs.YtgiadjbiimkbiaaGreatDoor
namespace Go.Stm
open Go.Col (Str)
open Go.Tok
def qbA(a b:PhrC):Bool:=decide (a.words=b.words) && Wo a.toks b.toks
def rowE{α:Type}(f:α->α->Bool):List α->List α->Bool
 |[],[]=>true
 |x::a,y::b=>f x y && rowE f a b
 |_,_=>false
def qal:Nat->List StC->List StC->Bool
 |0,a,b=>decide (a.length=b.length)
 |m+1,a,b=>rowE (fun s t=>decide (s.verb=t.verb) && (rowE qbA s.phrases t.phrases && rowE (fun x y=>decide (x.1=y.1) && (Wo x.2.1 y.2.1 && qal m x.2.2 y.2.2)) s.bodies t.bodies)) a b
def qnZ(d:Nat)(a b:List StC):Bool:= !WZ 32 a && (!WZ 32 b && qal d a b)
theorem qls{α:Type}{f:α->α->Bool}:∀{a b:List α},rowE f a b=true->a.length=b.length
 |[],[],_=>rfl
 |x::a,y::b,h=>by
  rw[rowE,Ky]at h;rw[KZ,KZ,qls h.2]
 |[],y::b,h=>by cases h
 |x::a,[],h=>by cases h
end Go.Stm
namespace Go.Stm
open Go.Col (Str FaultC okF)
open Go.Tok
theorem qnD:∀(a b:List Str) (i:Nat),qbe i (a++b)=qbe i a++qbe (i+a.length) b
 |[],b,i=>by rw[Jf,JF,K8];rfl
 |w::a,b,i=>by
  rw[Kh,qbe,qbe,qnD a b (i+1),KZ,Kh,show i+1+a.length=i+(a.length+1) by omega]
theorem qge:∀(a:List Str) (i:Nat),(qbe i a).length=a.length
 |[],_=>rfl
 |w::a,i=>by rw[qbe,KZ,KZ,qge a]
theorem qtz{ws:List Str}{i:Nat}(hi:i<ws.length):qbe 0 (ws.take (i+1))=qbe 0 (ws.take i)++[qao i (ws.getD i [])]:=by
 rw[Vu,JD hi,Option.toList,qnD,K6,Nat.min_eq_left (by omega),Jr];simp[qbe,Ko,hi]
theorem qfs(s:Str):(Qh s).length=(Lib.fields s).length:=qge _ _
end Go.Stm
namespace Go.Proofs.YtgiadjbiimkbiaaGreatDoor
open Go.AM
open Go.Proofs
open Go.Col (Str FaultC okF)
open Go.Tok (TokC)
open Go.Stm
open Go.RowKit (Below)
set_option maxRecDepth 100000
structure LtG where
 i:Nat
 rv:AVal
 rp:AHeap
 H:AHeap
theorem trimB_le(s:Str)(c:UInt8):(Lib.trimB s c).length<=s.length:=by
 have hd:∀(p:UInt8->Bool) (s:Str),(s.dropWhile p).length<=s.length:=by
  intro p s;induction s with
  |nil=>exact KL _
  |cons b s ih=>
   rw[Ef];split
   ·rw[KZ];omega
   ·exact KL _
 unfold Lib.trimB
 (unfold Lib.trimLeftB Lib.trimRightB;have h1:=hd (· ==c) s.reverse;have h2:=hd (· ==c) (List.dropWhile (· ==c) s.reverse).reverse;rw[Eg]at h1 h2;omega)
theorem qty{s:Str}{n:Nat}(h:s.length<=n)(i:Nat):(qao i s).text.length<=n:=by
 unfold qao;repeat' split
 all_goals first|exact Vg (trimB_le _ _) h|exact h
theorem qjY{n:Nat}:∀(l:List Str) (i:Nat),(∀w∈l,w.length<=n)->∀t∈qbe i l,t.text.length<=n
 |[],_,_,t,ht=>by cases ht
 |w::l,i,h,t,ht=>by
  rcases KY.1 ht with rfl|ht
  ·exact qty (h w Jg) _
  ·exact qjY l _ (fun w hw=>h w (Jh _ hw)) t ht
theorem YW{s:Str}(hl:s.length<=1000000):Short (Qh s):=qjY _ _ fun w hw=>Vg (fields_small w hw) hl
theorem qaL{s:Str}(hl:s.length<=999999):(Qh s).length<=1000000:=by rw[qfs];exact Vg (fields_few s) (by omega)
set_option maxHeartbeats 8000000 in
theorem qdY(wz:World)(hm:MaxL wz)(ha:Asp wz)(h:AHeap)(s:Str)(hl:s.length<=999999)(has:asciiB s=true):
 ACall Tryz.prog wz 16 [.str s] h (fun r h'=>∃p,GrowV 5 r p ((Qh s).map Zb)/\isG r=true/\Sep [h,p] h'):=by
 obtain⟨ws,hws⟩:∃ws,ws=Lib.fields s:=⟨_,rfl⟩
 have hwl:ws.length<=1000000:=by rw[hws];exact Vg (fields_few s) (by omega)
 have hwa:∀w∈ws,w.length<=1000000/\w≠[]:=fun w hw=>by
  rw[hws]at hw;exact⟨Vg (fields_small w hw) (by omega),qhi w hw⟩
 have hR:Qh s=qbe 0 ws:=by rw[hws];rfl
 rw[hR];refine qP (n:=66) (rs:=[.tmp 2]) Tryz.func16 rfl rfl rfl rfl (V7 rfl) ?_;simp only[qU];refine awp_rseq [0] (by rfl) fun K hK=>?_;simp+decide only[qJ,↓qa];apply hK;clear hK K;refine awp_rseq [0,3] (by rfl) fun K hK=>?_;simp+decide only[qJ,↓qa];apply hK;clear hK K;refine awp_rseq [3,4] (by rfl) fun K hK=>?_;simp+decide only[Qw,↓qc];refine qM (by rfl) (by rfl) (qfD wz ha _ s (by omega) has) fun x2q1 h2q1 hx2q1=>?_;obtain⟨kw,hkw,rfl,e2⟩:=hx2q1;rw[<-hws]at e2|-
 have hS0:=Ec (ps:=[h]) ⟨fun p hp=>by rw[V9.1 hp];exact Vk _,by simp⟩ hkw ⟨ws.map AVal.str,0⟩;rw[<-e2]at hS0;simp only[Xv]at hS0;have lw:=qbL (qeo (wz:=wz) (hS0.at_ (i:=1) rfl));simp+decide only[qJ,↓qa];apply hK;clear hK K;refine qo ?_;refine awp_rseq [3,4,5] (by rfl) fun K hK=>?_;simp+decide only[qJ,↓qa];apply hK;clear hK K;refine qK ?_;refine QD [3,4,5] (fun g:LtG=>[(3,g.rv),(4, .slice (.own kw) 0 ws.length (.exact ws.length)),(5, .int .i64 g.i)]) (fun g:LtG=>g.H) (fun g:LtG=>g.i<=ws.length/\Sep [h,one kw ⟨ws.map AVal.str,0⟩,g.rp] g.H/\GrowV 5 g.rv g.rp ((qbe 0 (ws.take g.i)).map Zb)/\isG g.rv=true) (fun g:LtG=>ws.length-g.i) ⟨0, .nilSlice,emp,h2q1⟩ (by rfl) (Vk _) ⟨Js _,hS0.emp, .nil,rfl⟩ ?_;rintro⟨i,rv,rp,H⟩ ⟨hi,hS,hrow,hG⟩;simp only at hi hS hrow hG|-
 have eb_w:H kw=some _:=hS.at_ (i:=1) rfl;have hs_H:Sub h H:=hS.in_ (i:=0) rfl;have hrl:=hrow.live;refine qo ?_;refine awp_rseq [3,4,5,13] (by rfl) fun K hK=>?_;simp+decide only[QH,qF,Qm,Zz,↓qc,↓Qr,Xp Tryz.underlying22,↓qf];apply hK;clear hK K;refine qz (b:=_) rfl (fun hb1=>?_) (fun hb1=>?_)
 ·try simp only[qG]at hb1
  have hi':i<ws.length:=by omega
  obtain⟨w,hw⟩:∃w,w=ws.getD i []:=⟨_,rfl⟩
  have ew:=qgZ (wz:=wz) eb_w hi';rw[<-hw,YG wz eb_w]at ew;have hst:=qtz hi';rw[<-hw]at hst;obtain⟨hwn,hwp⟩:=hwa w (by rw[hw,Ko,JD hi'];exact VY hi');have hwi:IntKind.i64.wrap ((i:Int)+1)=((i+1:Nat):Int):=by rw[wrap_i64 (by omega) (by omega)];omega
  have hw0:((0:Int)<w.length)=True:=eq_true (by have:=Bv.2 hwp;omega);have h34:∀c:UInt8,decide ((c.toNat:Int)=34)=decide (c=34):=fun c=>Yu c 34;have h48:∀c:UInt8,decide ((c.toNat:Int) >= 48)=decide (48<=c):=fun c=>by rw[decide_eq_decide,Eh];exact Ei
  have h57:∀c:UInt8,decide ((c.toNat:Int)<=57)=decide (c<=57):=fun c=>by rw[decide_eq_decide,Eh];exact Ei
  refine qE ?_;change Awp _ _ _ _ _ _ _;refine qo ?_;refine qK ?_;refine awp_rseq [3,4,5,6] (by rfl) fun K hK=>?_;simp+decide only[QH,Xa,Vw,ZE,XN,Bo,Yo,XO,Za,XZ,Xt,WO,Zw,evP,↓qc,↓qI,qh Tryz.underlying22 sz9,↓qj,qd ag9,↓qf,↓YJ,↓XL,qgr,qsy,Ql eb_w,ew,hwi];repeat (with_reducible refine zqP ?_)
  refine Qz qpB (cs:=[.int .u8 0, .str [], .int .i64 0, .int .i64 0, .bool false]) (by rfl) fun k6q8 hk6q8=>?_;have hn_6q8:H k6q8=none:=by first|assumption|(simp only[Bi]at hk6q8;simp only[hk6q8])
  have hf_6q8:h k6q8=none:=Bj hs_H hn_6q8;have ne_6q8_w:k6q8≠kw:=Bl hn_6q8 eb_w;refine qN (by rfl) (by rfl) zqA UA (by rfl) (by rfl) zqD (Js _) (by rfl) ?_;simp only[QZ,Bn];simp+decide only[qR,Vw,Nat.reduceAdd];apply hK;clear hK K;refine qo ?_;refine awp_rseq [3,4,5,6,7] (by rfl) fun K hK=>?_;simp+decide only[Xh,Xa,Vw,Bo,↓qc,↓qI,qh Tryz.underlying22 sz9,↓qj,qd ag9,↓qmo,qjg,qhe Tryz.underlying9,↓qa,ne_6q8_w.symm,Ql eb_w,ew,hw0];repeat (with_reducible refine zqP ?_)
  apply hK;clear hK K;refine YE [3,4,5,6] (fun t:TokC=>[(3,rv),(4, .slice (.own kw) 0 ws.length (.exact ws.length)),(5, .int .i64 i),(6, .ptr (.own k6q8) 0)]) (fun t:TokC=>H.set k6q8 ⟨Zb t,0⟩) (fun t:TokC=>t=qao i w) ?_ ?_
  ·refine qK ?_
   refine awp_rseq [3,4,5,6,7,29] (by rfl) fun K hK=>?_;simp+decide only[ZY,qO,Zm,↓qc,↓qf,↓qa,h34];apply hK;clear hK K;refine qz (b:=_) rfl (fun hb2=>?_) (fun hb2=>?_)
   ·try simp only[qG]at hb2
    have hT:qao i w=⟨3,Lib.trimB w 34,(i+1:Nat),8,false⟩:=by unfold qao;exact if_pos hb2
    refine awp_rseq [3,4,5,6] (by rfl) fun K hK=>?_;simp+decide only[YI,↓qg,qaG];refine qN (by rfl) (by rfl) zqA sz40 (by rfl) (by rfl) zqD (Js _) (by rfl) ?_;simp only[QZ,Bn];simp+decide only[qR];apply hK;clear hK K;refine QK [3,4,5,6] (by rfl) ?_;simp+decide only[Qw,Xa,Vw,Bo,↓qc,↓qI,qh Tryz.underlying22 sz9,↓qj,qd ag9,ne_6q8_w.symm,Ql eb_w,ew];repeat (with_reducible refine zqP ?_)
    refine QM (V:= .str (Lib.trimB w 34)) (by rfl) (by rfl) (c_trim1 wz _ w 34 (by omega) (by decide)) ?_;simp+decide only[YI,Vw,↓qg,qcT];refine qN (by rfl) (by rfl) zqA sz9 (by rfl) (by rfl) zqD (Js _) (by rfl) ?_;simp only[QZ,Bn];simp+decide only[qR,Vw];try simp only[if_true,QT]
    exact⟨qao i w,rfl,by rw[hT];exact Vk _,rfl⟩
   ·try simp only[qG]at hb2
    refine awp_rseq [3,4,5,6,39] (by rfl) fun K hK=>?_;simp+decide only[ZY,Vz,Ya,XF,Zf,Xk,↓qc,↓qf,qow,↓Xc,qY,qZ,qW,↓QI,qtp,↓QE,↓qa,h48,h57];apply hK;clear hK K;refine qz (b:=_) rfl (fun hb3=>?_) (fun hb3=>?_)
    ·try simp only[qG]at hb3
     have hT:qao i w=⟨2,w,(i+1:Nat),8,false⟩:=by unfold qao;exact(if_neg hb2).trans (if_pos hb3)
     refine QK [3,4,5,6] (by rfl) ?_;simp+decide only[YI,↓qg,qaG];refine qN (by rfl) (by rfl) zqA sz40 (by rfl) (by rfl) zqD (Js _) (by rfl) ?_;simp only[QZ,Bn];simp+decide only[qR];try simp only[if_true,QT]
     exact⟨qao i w,rfl,by rw[hT];exact Vk _,rfl⟩
    ·try simp only[qG]at hb3
     have hn3:¬(48<=w.getD 0 0/\w.getD 0 0<=57):=fun hh=>by rcases hb3 with z|z;exact z hh.1;exact z hh.2
     refine awp_rseq [3,4,5,6,47] (by rfl) fun K hK=>?_;simp+decide only[Xh,Yv,Xa,Vw,Qb,ZF,Bo,↓qc,↓qI,qh Tryz.underlying22 sz9,↓qj,qd ag9,↓qf,↓qa,ne_6q8_w.symm,Ql eb_w,ew];repeat (with_reducible refine zqP ?_)
     apply hK;clear hK K;refine qz (b:=_) rfl (fun hb4=>?_) (fun hb4=>?_)
     ·try simp only[qG]at hb4
      have hT:qao i w=⟨6,w,(i+1:Nat),8,false⟩:=by unfold qao;exact(if_neg hb2).trans ((if_neg hn3).trans (if_pos hb4))
      refine QK [3,4,5,6] (by rfl) ?_;simp+decide only[YI,↓qg,qaG];refine qN (by rfl) (by rfl) zqA sz40 (by rfl) (by rfl) zqD (Js _) (by rfl) ?_;simp only[QZ,Bn];simp+decide only[qR];try simp only[if_true,QT]
      exact⟨qao i w,rfl,by rw[hT];exact Vk _,rfl⟩
     ·try simp only[qG]at hb4
      refine awp_rseq [3,4,5,6,54] (by rfl) fun K hK=>?_;simp+decide only[Qw,Xa,Vw,Bo,↓qc,↓qI,qh Tryz.underlying22 sz9,↓qj,qd ag9,ne_6q8_w.symm,Ql eb_w,ew];repeat (with_reducible refine zqP ?_)
      refine QM (V:= .bool (Lib.contains qtc w)) (by rfl) (by rfl) (qaa wz hm _ qtc w (by decide)) ?_;simp+decide only[qJ,Vw,↓qa];apply hK;clear hK K;refine qz (b:=_) rfl (fun hb5=>?_) (fun hb5=>?_)
      ·skip
       have hT:qao i w=⟨5,w,(i+1:Nat),8,false⟩:=by unfold qao;exact(if_neg hb2).trans ((if_neg hn3).trans ((if_neg hb4).trans (if_pos hb5)))
       refine QK [3,4,5,6] (by rfl) ?_;simp+decide only[YI,↓qg,qaG];refine qN (by rfl) (by rfl) zqA sz40 (by rfl) (by rfl) zqD (Js _) (by rfl) ?_;simp only[QZ,Bn];simp+decide only[qR];try simp only[if_true,QT]
       exact⟨qao i w,rfl,by rw[hT];exact Vk _,rfl⟩
      ·skip
       have hT:qao i w=⟨1,w,(i+1:Nat),8,false⟩:=by unfold qao;exact(if_neg hb2).trans ((if_neg hn3).trans ((if_neg hb4).trans (if_neg (by rw[hb5];decide))))
       refine qE ?_;try simp only[if_true,QT]
       exact⟨qao i w,rfl,by rw[hT];exact Vk _,rfl⟩
  ·rintro t rfl
   refine QK [3,4,5] (by rfl) ?_;simp+decide only[Qw,Xa,↓qc,↓qj,Qa qmP UA,Nat.reduceAdd,Zb];refine Qd (cs:=Zb (qao i w)) (by rfl) fun k17q2 hk17q2=>?_;have ne_17q2_6q8:k17q2≠k6q8:=by simp only[Bi]at hk17q2;simp only[Ua,hk17q2]
   have hn_17q2:H k17q2=none:=by first|assumption|(simp only[Bi]at hk17q2;simp only[hk17q2])
   have hf_17q2:h k17q2=none:=Bj hs_H hn_17q2;have ne_17q2_w:k17q2≠kw:=Bl hn_17q2 eb_w;refine Yi (es:=5) (v:=rv) (p:=rp) (xs:=(qbe 0 (ws.take i)).map Zb) (ys:=[Zb (qao i w)]) (i:=2) (by rfl) (by rfl) Tryz.underlying39 Tryz.underlying39 (fun k e=>by cases e) UA by44 qpB (by rfl) (by decide) (by rfl) hrow rfl (hS.forget ((Vl hn_6q8).trans (Vl hk17q2))) (by rfl) (BA (Vj _ _ _) (fun x hx=>by rw[V9.1 hx];rfl) (by simp) (by rfl) (.exact 1) (KL _)) (by rfl) (by simp) (by simp only[Yb,qge,K6];omega) (by simp only[Yb,qge,K6];omega) fun rv2 rp2 h8 hrow2 hG2 hS2=>?_;simp+decide only[qJ,↓qa];change Awp _ _ _ _ _ _ _;refine QK [3,4,5] (by rfl) ?_;simp+decide only[YH,↓qc,↓qf,↓qa,hwi];try simp only[QT]
   exact⟨⟨i+1,rv2,rp2,h8⟩,rfl,Vk _,⟨hi',hS2,by simp only;rw[hst,JK];exact hrow2,hG2⟩,by simp only;omega⟩
 ·try simp only[qG]at hb1
  have hin:i=ws.length:=by omega
  rw[hin,Jq]at hrow;refine QC ?_;change Awp _ _ _ _ _ _ _;refine awp_rseq [2] (by rfl) fun K hK=>?_;simp+decide only[Xh,↓qc,↓qa];apply hK;clear hK K;refine qV ?_;refine Qk (qA (qC)) ?_;simp+decide only[Xn];exact⟨H,Vk _,rp,hrow,hG,hS.sub (by simp)⟩
theorem conv_kind(wz:World)(H:AHeap)(k:Nat)(b:UInt8):qdP Tryz.prog wz (H.set k ⟨byteCells [b],0⟩) 32 9 (.slice (.own k) 0 1 (.exact 1))=⟨True, .str [b]⟩:=by
 rw[qrt Tryz.underlying32 Tryz.underlying9 Tryz.underlying5,qkm (Vj _ _ _) 0 1 (by simp[byteCells])];have h1:=qmh [b];have h2:=qmg [b];have h3:((byteCells [b]).drop 0).take 1=byteCells [b]:=rfl;simp only[h3,h1,h2]
theorem wrap_kind(k:UInt8):IntKind.u8.wrap (48+(k.toNat:Int))=((48+k:UInt8).toNat:Int):=by
 unfold IntKind.wrap;rw[UInt8.toNat_add];simp[IntKind.bits,IntKind.signed]
theorem qiU(l:List Str):Qu (l.map strC).flatten=true:=by
 induction l with
 |nil=>rfl
 |cons s l ih=>rw[Ke,VS];exact ih
set_option maxHeartbeats 4000000 in
theorem c_texts(wz:World)(h:AHeap)(v:AVal)(l:List TokC)(hv:IsL wz h 5 v (l.map Zb))(hl:l.length<=1000000)(hsh:Short l):
 ACall Tryz.prog wz 43 [v] h (fun r h'=>∃p,GrowV 1 r p ((l.map qaU).map strC)/\isG r=true/\Sep [h,p] h'):=by
 have hlv:=hv.live;have nv:=Wn hv;have hS0:Sep [h,emp] h:=Ej (ps:=[h]) ⟨fun p hp=>by rw[V9.1 hp];exact Vk _,by simp⟩;refine qP (n:=29) (rs:=[.tmp 2]) Tryz.func43 rfl rfl rfl rfl (V7 rfl) ?_;simp only[qU];refine awp_rseq [0] (by rfl) fun K hK=>?_;simp+decide only[qJ,↓qa];apply hK;clear hK K;refine awp_rseq [0,3] (by rfl) fun K hK=>?_;simp+decide only[qJ,↓qa];apply hK;clear hK K;refine qo ?_;refine awp_rseq [0,3,4] (by rfl) fun K hK=>?_;simp+decide only[qJ,↓qa];apply hK;clear hK K;refine qK ?_;refine QD [0,3,4] (fun g:LtG=>[(0,v),(3,g.rv),(4, .int .i64 g.i)]) (fun g:LtG=>g.H) (fun g:LtG=>g.i<=l.length/\Sep [h,g.rp] g.H/\GrowV 1 g.rv g.rp (((l.take g.i).map qaU).map strC)/\isG g.rv=true) (fun g:LtG=>l.length-g.i) ⟨0, .nilSlice,emp,h⟩ (by rfl) (Vk _) ⟨Js _,hS0, .nil,rfl⟩ ?_;rintro⟨i,rv,rp,H⟩ ⟨hi,hS,hrow,hG⟩;simp only at hi hS hrow hG|-
 have hs_H:Sub h H:=hS.in_ (i:=0) rfl;have hrl:=hrow.live;refine qo ?_;refine awp_rseq [0,3,4,8] (by rfl) fun K hK=>?_;simp+decide only[QH,qF,Qm,Zz,↓qc,↓Qr,↓qf,nv];apply hK;clear hK K;refine qz (b:=_) rfl (fun hb1=>?_) (fun hb1=>?_)
 ·try simp only[qG]at hb1
  have hi':i<l.length:=by omega
  obtain⟨lc,o,c,hve⟩:=Yp hv (by omega);obtain⟨t,ht⟩:∃t,t=l.getD i noT:=⟨_,rfl⟩
  have hv2:=hv.mono hs_H;rw[hve]at hv2;obtain⟨e0,e1,-⟩:=UI hv2 hi';rw[<-ht]at e0 e1;have e2:∀(k:Nat) (b:Blk),H k=none->rd wz (H.set k b) lc (o+i*5+1)= .str t.text:=fun k b hk=>by
   obtain⟨-,q,-⟩:=UI (hv2.mono (Vl hk)) hi';rw[q,<-ht]
  have htk:l.take (i+1)=l.take i++[t]:=by rw[Vu,JD hi',ht];simp[Ko,hi']
  have hwi:IntKind.i64.wrap ((i:Int)+1)=((i+1:Nat):Int):=by rw[wrap_i64 (by omega) (by omega)];omega
  have hwk:=wrap_kind t.kind;have hts:t.text.length<=1000000:=by rw[ht];exact hsh.at hi'
  refine qE ?_;change Awp _ _ _ _ _ _ _;refine qo ?_;refine qK ?_;refine qeO 16 [] mixed (by kernel_rfl) (by rfl) ?_;simp only[Zu,VU,Vp];simp+decide only[QH,Xm,QN,qF,Xo,ZI,ZN,Zj,↓qbg,↓Uj,qh Tryz.underlying39 UA,↓YP,qaG,↓qbh,qd qmr,↓qfw,hve,e0,hwk];repeat (with_reducible refine zqP ?_)
  refine UY (by rfl) ?_;refine Qd (cs:=byteCells [48+t.kind]) (by kernel_rfl) fun k5q7 hk5q7=>?_;have hn_5q7:H k5q7=none:=by first|assumption|(simp only[Bi]at hk5q7;simp only[hk5q7])
  have hf_5q7:h k5q7=none:=Bj hs_H hn_5q7;rw[Qt];simp+decide only[XI,Xm,QN,qF,Xo,Qb,YL,ZN,Zj,↓fp_convert _ _ _ (es_str Tryz.underlying32 Tryz.underlying9),UO,↓qbg,↓Uj,qh Tryz.underlying39 UA,↓YP,qcT,↓qbh,qd ag9,↓qfw,conv_kind,e2 _ _ hk5q7];repeat (with_reducible refine zqP ?_)
  refine UY (by rfl) ?_;refine Qd (cs:=[.str (qaU t)]) (by kernel_rfl) fun k5q15 hk5q15=>?_;have ne_5q15_5q7:k5q15≠k5q7:=by simp only[Bi]at hk5q15;simp only[Ua,hk5q15]
  have hn_5q15:H k5q15=none:=by first|assumption|(simp only[Bi]at hk5q15;simp only[hk5q15])
  have hf_5q15:h k5q15=none:=Bj hs_H hn_5q15;rw[Qt];try simp only[qbi,qaS]
  refine Yi (es:=1) (v:=rv) (p:=rp) (xs:=((l.take i).map qaU).map strC) (ys:=[strC (qaU t)]) (i:=1) (by rfl) (by rfl) Tryz.underlying22 Tryz.underlying22 (fun k e=>by cases e) sz9 by9 ze9 (by rfl) (by decide) (by rfl) hrow rfl (hS.forget ((Vl hk5q7).trans (Vl hk5q15))) (by rfl) (BA (Vj _ _ _) (fun x hx=>by rw[V9.1 hx];rfl) (by rfl) (by rfl) (.exact 1) (KL _)) (by rfl) (by simp) (by simp only[Yb,K6];omega) (by simp only[Yb,K6];omega) fun rv2 rp2 h8 hrow2 hG2 hS2=>?_;simp+decide only[qJ,QN,Xo,↓qa];change Awp _ _ _ _ _ _ _;refine QK [0,3,4] (by rfl) ?_;simp+decide only[YH,↓qc,↓qf,↓qa,hwi];try simp only[QT]
  exact⟨⟨i+1,rv2,rp2,h8⟩,by first|rfl|(rw[hve];rfl),Vk _,⟨hi',hS2,by simp only;rw[htk,JK,JK];exact hrow2,hG2⟩,by simp only;omega⟩
 ·try simp only[qG]at hb1
  have hin:i=l.length:=by omega
  rw[hin,Jq]at hrow;refine QC ?_;change Awp _ _ _ _ _ _ _;refine awp_rseq [2] (by rfl) fun K hK=>?_;simp+decide only[Xh,↓qc,↓qa];apply hK;clear hK K;refine qV ?_;refine Qk (qA (qC)) ?_;simp+decide only[Xn];exact⟨H,Vk _,rp,hrow,hG,hS⟩
end Go.Proofs.YtgiadjbiimkbiaaGreatDoor
namespace Go.AM
open Go.RowKit (Below)
section
variable {P:Program} {wz:World} {n:FrameK} {g₀:AHeap}
def qbr(P:Program)(wz:World)(l:List Oper)(g₀:AHeap):List Oper->Nat->List Nat->Slots->AHeap->(Slots->AHeap->Prop)->Prop
 |[],_,_,s,h,K=>K s h
 |o::r,0,_,s,h,K=>Qp P wz l [o] s h fun s' h'=>Sub g₀ h'/\qbr P wz l g₀ r 0 [] s' h' K
 |o::r,m+1,1::bs,s,h,K=>∃V,(∀g,Sub h g->Qp P wz l [o] s g fun s' h'=>s'=putD s o.dst V/\h'=g)/\qbr P wz l g₀ r m bs (putD s o.dst V) h K
 |o::r,m+1,2::bs,s,h,K=>Qp P wz l [o] s g₀ fun s' _=>qbr P wz l g₀ r m bs s' h K
 |o::r,m+1,bs,s,h,K=>Qp P wz l [o] s h fun s' h'=>Sub h h'/\qbr P wz l g₀ r m (bs.drop 1) s' h' K
theorem qca{l:List Oper}{m:Nat}{bs:List Nat}{s:Slots}{h:AHeap}{K:Slots->AHeap->Prop}:qbr P wz l g₀ [] m bs s h K=K s h:=by cases m<;>rfl
theorem qcB{l:List Oper}{m:Nat}{bs:List Nat}{o:Oper}{r:List Oper}{s:Slots}{h:AHeap}{K:Slots->AHeap->Prop}:qbr P wz l g₀ (o::r) (m+1) (0::bs) s h K=Qp P wz l [o] s h fun s' h'=>Sub h h'/\qbr P wz l g₀ r m bs s' h' K:=rfl
theorem qbC{l:List Oper}{bs:List Nat}{o:Oper}{r:List Oper}{s:Slots}{h:AHeap}{K:Slots->AHeap->Prop}:qbr P wz l g₀ (o::r) 0 bs s h K=Qp P wz l [o] s h fun s' h'=>Sub g₀ h'/\qbr P wz l g₀ r 0 [] s' h' K:=rfl
theorem qcA{l:List Oper}{m:Nat}{bs:List Nat}{o:Oper}{r:List Oper}{s:Slots}{h:AHeap}{K:Slots->AHeap->Prop}:qbr P wz l g₀ (o::r) (m+1) (2::bs) s h K=Qp P wz l [o] s g₀ fun s' _=>qbr P wz l g₀ r m bs s' h K:=rfl
theorem qnE{l:List Oper}{m:Nat}{bs:List Nat}(h1:bs.getD 0 0≠1)(h2:bs.getD 0 0≠2){o:Oper}{r:List Oper}{s:Slots}{h:AHeap}{K:Slots->AHeap->Prop}(hj:qbr P wz l g₀ (o::r) (m+1) bs s h K):Qp P wz l [o] s h fun s' h'=>Sub h h'/\qbr P wz l g₀ r m (bs.drop 1) s' h' K:=by
 match bs,h1,h2,hj with
 |[],_,_,hj=>exact hj
 |0::bs,_,_,hj=>exact hj
 |1::bs,h1,_,_=>exact absurd rfl h1
 |2::bs,_,h2,_=>exact absurd rfl h2
 |(k+3)::bs,_,_,hj=>exact hj
theorem lOps_take1{l:List Oper}{m:Nat}{bs:List Nat}(hb:bs.getD 0 0=1){o:Oper}{r:List Oper}{s:Slots}{h:AHeap}{K:Slots->AHeap->Prop}(hj:qbr P wz l g₀ (o::r) (m+1) bs s h K):∃V,(∀g,Sub h g->Qp P wz l [o] s g fun s' h'=>s'=putD s o.dst V/\h'=g)/\qbr P wz l g₀ r m (bs.drop 1) (putD s o.dst V) h K:=by
 match bs,hb,hj with
 |[],hb,_=>simp at hb
 |1::bs,_,hj=>exact hj
 |0::bs,hb,_=>simp at hb
 |(k+2)::bs,hb,_=>simp at hb
theorem lOps_take2{l:List Oper}{m:Nat}{bs:List Nat}(hb:bs.getD 0 0=2){o:Oper}{r:List Oper}{s:Slots}{h:AHeap}{K:Slots->AHeap->Prop}(hj:qbr P wz l g₀ (o::r) (m+1) bs s h K):Qp P wz l [o] s g₀ fun s' _=>qbr P wz l g₀ r m (bs.drop 1) s' h K:=by
 match bs,hb,hj with
 |[],hb,_=>simp at hb
 |2::bs,_,hj=>exact hj
 |0::bs,hb,_=>simp at hb
 |1::bs,hb,_=>simp at hb
 |(k+3)::bs,hb,_=>simp at hb
theorem lOps_zero'{l:List Oper}{bs bs':List Nat}{r:List Oper}{s:Slots}{h:AHeap}{K:Slots->AHeap->Prop}:qbr P wz l g₀ r 0 bs s h K=qbr P wz l g₀ r 0 bs' s h K:=by cases r<;>rfl
theorem qbD{l:List Oper}{K K':Slots->AHeap->Prop}(hk:∀s h,K s h->K' s h):∀{r:List Oper} {m:Nat} {bs:List Nat} {s:Slots} {h:AHeap},qbr P wz l g₀ r m bs s h K->qbr P wz l g₀ r m bs s h K'
 |[],m,bs,s,h,ha=>by rw[qca]at ha|-;exact hk _ _ ha
 |o::r,0,bs,s,h,ha=>qbI (fun s' h' hx=>⟨hx.1,qbD hk hx.2⟩) ha
 |o::r,m+1,1::bs,s,h,ha=>by
  obtain⟨V,h1,h2⟩:=ha;exact⟨V,h1,qbD hk h2⟩
 |o::r,m+1,2::bs,s,h,ha=>qbI (fun s' h' hx=>qbD hk hx) ha
 |o::r,m+1,[],s,h,ha=>qbI (fun s' h' hx=>⟨hx.1,qbD hk hx.2⟩) ha
 |o::r,m+1,0::bs,s,h,ha=>qbI (fun s' h' hx=>⟨hx.1,qbD hk hx.2⟩) ha
 |o::r,m+1,(k+3)::bs,s,h,ha=>qbI (fun s' h' hx=>⟨hx.1,qbD hk hx.2⟩) ha
def isL(P:Program)(l:List Oper)(π:List Nat)(fl:List Nat)(m q:Nat):Bool:=decide (q<m) && (fl.getD q 0==1||isF P l (π.getD q 0))
def qoM(P:Program)(l:List Oper)(π:List Nat)(fl:List Nat)(ws:List (Option Nat))(m:Nat):Bool:=
 qaE l && ((KP m).all fun q=> !(fl.getD q 0==2)||isF P l (π.getD q 0)) && (π.all fun i=>decide (i<l.length)) && ((KP l.length).all fun i=>π.contains i) &&
 ((KP π.length).all fun q=>(KP π.length).all fun r=>decide (q=r)|| !(π.getD q 0==π.getD r 0)) &&
 ((KP π.length).all fun q=>match ws.getD q none with
   |none=>(KP q).all fun c=>isL P l π fl m c
   |some r=>decide (r<q) && Region.waitsFor .any l.toArray (π.getD q 0) (π.getD r 0) && (KP q).all fun c=>decide (c<=r)||isL P l π fl m c) &&
 ((KP π.length).all fun q=>match l[π.getD q 0]? with
   |none=>true
   |some o=>(KP π.length).all fun r=>match l[π.getD r 0]? with
    |none=>true
    |some oj=>(match oj.dst with
     |none=>true
     |some t=> !(Qy l o).contains t||(decide (q<r) && decide (m<=r) && !(fl.getD q 0==2))||(decide (r<q) && Region.waitsFor .any l.toArray (π.getD q 0) (π.getD r 0)))) &&
 decide (m<=π.length) && ((KP π.length).all fun q=>decide (q<m)|| !isL P l π fl m q) &&
 (decide (m=π.length)||(KP m).all fun q=>(fl.getD q 0==2)||(KP (m+1)).any fun r=>decide (q<r) && (decide (r=m)|| !(fl.getD r 0==2)) && Region.waitsFor .any l.toArray (π.getD r 0) (π.getD q 0))
structure FloatL(P:Program)(l:List Oper)(π:List Nat)(fl:List Nat)(m:Nat):Prop where
 order:qaE l=true
 lateF:∀q,q<m->fl.getD q 0=2->isF P l (π.getD q 0)=true
 inr:∀q,q<π.length->π.getD q 0<l.length
 onto:∀i,i<l.length->∃q,q<π.length/\π.getD q 0=i
 inj:∀q r,q<π.length->r<π.length->π.getD q 0=π.getD r 0->q=r
 wait:∀q c,q<π.length->c<q->isL P l π fl m c=false->∃r,c<=r/\r<q/\Region.waitsFor .any l.toArray (π.getD q 0) (π.getD r 0)=true
 data:∀q r o oj t,q<π.length->r<π.length->l[π.getD q 0]?=some o->l[π.getD r 0]?=some oj->oj.dst=some t->t∈Qy l o->(q<r/\m<=r/\fl.getD q 0≠2)\/(r<q/\Region.waitsFor .any l.toArray (π.getD q 0) (π.getD r 0)=true)
 mle:m<=π.length
 tail:∀q,m<=q->q<π.length->isL P l π fl m q=false
 sink:m<π.length->∀q,q<m->fl.getD q 0≠2->∃r,q<r/\r<=m/\(r=m\/fl.getD r 0≠2)/\Region.waitsFor .any l.toArray (π.getD r 0) (π.getD q 0)=true
theorem qrP{l:List Oper}{π:List Nat}{fl:List Nat}{ws:List (Option Nat)}{m:Nat}(h:qoM P l π fl ws m=true):FloatL P l π fl m:=by
 unfold qoM at h;simp only[Ky]at h;obtain⟨⟨⟨⟨⟨⟨⟨⟨⟨h1,hL⟩,h2⟩,h3⟩,h4⟩,h5⟩,h6⟩,h7⟩,h8⟩,h9⟩:=h;simp only[JB,JC]at hL h2 h3 h4 h5 h6 h8;refine⟨h1,fun q hq e=>by
  have z:=hL q hq;rw[JJ]at z;rcases z with z|z
  ·rw[e]at z;simp at z
  ·exact z,fun q hq=>?_,fun i hi=>?_,fun q r hq hr e=>?_,fun q c hq hc hf=>?_,fun q r o oj t hq hr ho hoj hd ht=>?_,by simpa using h7,fun q hm hq=>?_,fun hm q hq hq2=>?_⟩
 ·have:=h2 (π.getD q 0) (by rw[Ko,JD hq];exact VY hq)
  simpa using this
 ·have:=h3 i hi
  rw[Va]at this;obtain⟨q,hq,e⟩:=List.getElem_of_mem this;exact⟨q,hq,by rw[Ko,JD hq];exact e⟩
 ·have:=h4 q hq r hr
  rw[JJ,decide_eq_true_eq]at this;rcases this with e'|e'
  ·exact e'
  ·rw[e]at e';simp at e'
 ·have:=h5 q hq
  split at this
  ·rw[JB]at this
   rw[this c (JC.2 hc)]at hf;cases hf
  ·rename_i r _
   simp only[Wy,JJ,JB,JC]at this;obtain⟨⟨t1,t2⟩,t3⟩:=this;rcases t3 c hc with e|e
   ·exact⟨r,e,t1,t2⟩
   ·rw[e]at hf;cases hf
 ·have:=h6 q hq
  rw[ho]at this;simp only[JB,JC]at this;have:=this r hr;rw[hoj]at this;simp only[Ky,decide_eq_true_eq,Jj,JJ,hd]at this;rcases this with(e|e)|e
  ·have hm:(Qy l o).contains t=true:=by simpa using ht
   rw[hm]at e;cases e
  ·exact .inl ⟨e.1.1,e.1.2,by simpa using e.2⟩
  ·exact .inr e
 ·have:=h8 q hq
  simp only[decide_eq_true_eq,Jj,JJ]at this;rcases this with e|e
  ·omega
  ·exact e
 ·rw[JJ,decide_eq_true_eq]at h9
  rcases h9 with e|e
  ·omega
  ·rw[JB]at e
   have:=e q (JC.2 hq);rw[JJ]at this;rcases this with this|this
   ·exact absurd (by simpa using this) hq2
   rw[Vb]at this;obtain⟨r,hr,hw⟩:=this;rw[JC]at hr;simp only[Wy,JJ]at hw;exact⟨r,hw.1.1,by omega,hw.1.2.imp id (fun z=>by simpa using z),hw.2⟩
theorem qsA{l:List Oper}(hall:Qv n l=true){π:List Nat}{fl:List Nat}{m:Nat}(F:FloatL P l π fl m){K:Slots->AHeap->Prop}{g:AHeap}(hg₀:Sub g₀ g):∀(d p:Nat) (S:Slots),π.length-p=d->p<=π.length->qbr P wz l g₀ ((YV l π).drop p) (m-p) (fl.drop p) S g K->
 ∃p' S',p<=p'/\p'<=π.length/\(p'<π.length->isL P l π fl m p'=false)/\(∀q,p<=q->q<p'->isL P l π fl m q=true)/\qbr P wz l g₀ ((YV l π).drop p') (m-p') (fl.drop p') S' g K/\
  (∀q o,p<=q->q<p'->l[π.getD q 0]?=some o->∃V,(∀t,o.dst=some t->S'.get t=V)/\FactC P wz n l g S' o V/\(fl.getD q 0=2->FactC P wz n l g₀ S' o V))/\
  (∀t,(∀q o,p<=q->q<p'->l[π.getD q 0]?=some o->o.dst≠some t)->S'.get t=S.get t):=by
 intro d;induction d with
 |zero=>
  intro p S hd hp ha;exact⟨p,S,KL _,hp,fun h=>by omega,fun q h1 h2=>by omega,ha,fun q o h1 h2=>by omega,fun t _=>rfl⟩
 |succ d ih=>
  intro p S hd hp ha;have hpl:p<π.length:=by omega
  cases hf:isL P l π fl m p with
  |false=>exact⟨p,S,KL _,hp,fun _=>hf,fun q h1 h2=>by omega,ha,fun q o h1 h2=>by omega,fun t _=>rfl⟩
  |true=>
   have hpm:p<m:=by
    refine J6 fun h=>?_;rw[F.tail p h hpl]at hf;cases hf
   obtain⟨o,ho⟩:∃o,l[π.getD p 0]?=some o:=⟨_,JD (F.inr p hpl)⟩
   rw[qez F.inr hpl ho,show m-p=(m-(p+1))+1 by omega]at ha;have hfl:(fl.drop p).getD 0 0=fl.getD p 0:=by simp[Ko,Kq]
   have hfd:(fl.drop p).drop 1=fl.drop (p+1):=by rw[El]
   obtain⟨V,hv,hfact,hfact₀⟩:∃V,qbr P wz l g₀ ((YV l π).drop (p+1)) (m-(p+1)) (fl.drop (p+1)) (putD S o.dst V) g K/\FactC P wz n l g S o V/\(fl.getD p 0=2->FactC P wz n l g₀ S o V):=by
    by_cases hb2:fl.getD p 0=2
    ·have ha:=lOps_take2 (by rw[hfl,hb2]) ha
     rw[hfd]at ha;have hk2:WE P o.op=2:=by
      have:=F.lateF p hpm hb2;unfold isF at this;rw[ho]at this;simpa using this
     obtain⟨V,hv,hfact⟩:=qoR hall hk2 ha;exact⟨V,hv,hfact.toC.sub hg₀,fun _=>hfact.toC⟩
    ·by_cases hb1:fl.getD p 0=1
     ·obtain⟨V,h1,h2⟩:=lOps_take1 (by rw[hfl,hb1]) ha
      rw[hfd]at h2;exact⟨V,h2,fact_free hall h1,fun e=>absurd e hb2⟩
     ·have hk2:WE P o.op=2:=by
       unfold isL isF at hf;rw[ho]at hf;simp only[Ky,JJ,beq_iff_eq,hb1,false_or]at hf;simpa using hf.2
      have ha:=qnE (by rw[hfl];exact hb1) (by rw[hfl];exact hb2) ha;rw[hfd]at ha;obtain⟨V,⟨_,hv⟩,hfact⟩:=qoR hall hk2 ha;exact⟨V,hv,hfact.toC,fun e=>absurd e hb2⟩
   obtain⟨p',S',a1,a2,a3,a4,a5,a6,a7⟩:=ih (p+1) (putD S o.dst V) (by omega) (by omega) hv;have notlook:∀q oq t,p<=q->q<p'->l[π.getD q 0]?=some oq->oq.dst=some t->t∉Qy l o:=fun q oq t h1 h2 h3 h4 ht=>by
    rcases F.data p q o oq t hpl (by omega) ho h3 h4 ht with⟨c1,c2,_⟩|⟨c1,_⟩
    ·have:=a4 q (by omega) h2
     rw[F.tail q c2 (by omega)]at this;cases this
    ·omega
   have uniq:∀q oq t,p<q->q<π.length->l[π.getD q 0]?=some oq->oq.dst=some t->o.dst≠some t:=fun q oq t h1 h2 h3 h4 e=>by
    have:=((XR F.order ho).2 _ oq t h3 h4).1 e;have:=F.inj p q hpl h2 this;omega
   refine⟨p',S',by omega,a2,a3,fun q h1 h2=>?_,a5,fun q oq h1 h2 hq=>?_,fun t ht=>?_⟩
   ·rcases JA h1 with e|e
    ·rw[<-e];exact hf
    ·exact a4 q e h2
   ·rcases JA h1 with e|e
    ·subst e
     rw[ho]at hq;obtain rfl:=Option.some.inj hq;have hsl:∀t∈Qy l o,S'.get t=S.get t:=fun t ht=>by
      rw[a7 t fun q oq h3 h4 h5 h6=>notlook q oq t (by omega) (by omega) h5 h6 ht,YD,if_neg fun e=>notlook p o t (KL _) (by omega) ho e ht]
     refine⟨V,fun t ht=>?_,hfact.slots hsl,fun e=>(hfact₀ e).slots hsl⟩;rw[a7 t fun q oq h3 h4 h5 h6=>uniq q oq t h3 (by omega) h5 h6 ht,YD,if_pos ht]
    ·exact a6 q oq e h2 hq
   ·rw[a7 t fun q oq h3 h4 h5=>ht q oq (by omega) h4 h5,YD,if_neg (ht p o (KL _) (by omega) ho)]
def PhaseL(P:Program)(wz:World)(n:FrameK)(g₀:AHeap)(l:List Oper)(π:List Nat)(fl:List Nat)(m:Nat)(K:Slots->AHeap->Prop)(listed:Array Bool)(Ps:PMap)(a:Act)(w:World):Prop:=
 listed.size=l.length/\(∀j oj,l[j]?=some oj->listed.getD j false=true->∀e∈oj.after,Region.binds .any e=true->listed.getD e.on false=true)/\a.tmps.size=n/\a.defers=n.dfr/\
 ∃p S g,p<=π.length/\(p<π.length->isL P l π fl m p=false)/\(∀q,p<=q->q<π.length->listed.getD (π.getD q 0) false=false)/\(∀q,q<p->isL P l π fl m q=false->listed.getD (π.getD q 0) false=true)/\
  (m<p->∀q,q<p->fl.getD q 0≠2->listed.getD (π.getD q 0) false=true)/\Sub g₀ g/\HRel wz Ps g w/\qbr P wz l g₀ ((YV l π).drop p) (m-p) (fl.drop p) S g K/\
  (∀q o,q<p->l[π.getD q 0]?=some o->listed.getD (π.getD q 0) false=false->∃V,(∀t,o.dst=some t->S.get t=V)/\FactC P wz n l g S o V/\(fl.getD q 0=2->FactC P wz n l g₀ S o V))/\
  ∀t,(∃q o,q<p/\l[π.getD q 0]?=some o/\o.dst=some t/\listed.getD (π.getD q 0) false=false)\/VR Ps (S.get t) (a.tmps.getD t undef)
theorem any_okL{l:List Oper}(hall:Qv n l=true){π:List Nat}{fl:List Nat}{m:Nat}(F:FloatL P l π fl m){K:Slots->AHeap->Prop}{fi:PMap}{Q:Exit->Act->World->Prop}
 (hq:∀Ps S g a w,fi.le Ps->HRel wz Ps g w->SRel Ps n S a->K S g->Q .normal a w):∀(fuel:Nat) (listed:Array Bool) (a:Act) (w:World) (Ps:PMap),fi.le Ps->PhaseL P wz n g₀ l π fl m K listed Ps a w->
 (listed.toList.filter (!·)).length<=fuel->wpAny P .any l.toArray Q fuel listed a w:=by
 have hB:=F.order;have fin:∀(listed:Array Bool) (a:Act) (w:World) (Ps:PMap),fi.le Ps->PhaseL P wz n g₀ l π fl m K listed Ps a w->Region.ready .any l.toArray listed=[]->Q .normal a w:=by
  rintro listed a w Ps hle ⟨i1,i2,i3,i4,p,S,g,p1,p2,p3,p4,p5,pg,p6,p7,p8,p9⟩ hrd;have hal:=qeP hB i1 hrd;have hp:p=π.length:=by
   rcases JA p1 with e|e
   ·exact e
   ·have:=p3 p (KL _) e
    rw[hal _ (F.inr p e)]at this;cases this
  subst hp;rw[show(YV l π).drop π.length=[] by rw[<-qey F.inr];simp,qca]at p7;refine hq Ps S g a w hle p6 ⟨i3,i4,fun t=>?_⟩ p7;rcases p9 t with⟨q,o,c1,c2,c3,c4⟩|c
  ·rw[hal _ (F.inr q c1)]at c4;cases c4
  ·exact c
 intro fuel;induction fuel with
 |zero=>
  intro listed a w Ps hle inv hc;have hrd:Region.ready .any l.toArray listed=[]:=by
   cases hrd:Region.ready .any l.toArray listed with
   |nil=>rfl
   |cons i r=>
    exfalso;have hm:i∈Region.ready .any l.toArray listed:=by rw[hrd];exact Jg
    obtain⟨h1,o,ho,_⟩:=mem_ready.1 hm;have hi:i<listed.size:=by
     have:l[i]?=some o:=by simpa using ho
     rw[inv.1];exact(Jz.1 this).1
    have h2:listed.toList[i]?=some false:=by
     simp[JE,hi]at h1;simp[hi,h1]
    have:=List.mem_of_getElem? h2;have hmem:false∈listed.toList.filter (!·):=by simp[List.mem_filter,this]
    have:=List.length_pos_of_mem hmem;omega
  exact⟨hrd,fin listed a w Ps hle inv hrd⟩
 |succ fuel ih=>
  intro listed a w Ps hle inv hc;refine⟨fun hrd=>fin listed a w Ps hle inv hrd,fun i hi=>?_⟩;obtain⟨i1,i2,i3,i4,p,S,g,p1,p2,p3,p4,p5,pg,p6,p7,p8,p9⟩:=inv;obtain⟨h1,o,ho,hedges⟩:=mem_ready.1 hi;have hol:l[i]?=some o:=by simpa using ho
  have hilt:i<l.length:=(Jz.1 hol).1;have hisz:i<listed.size:=by rw[i1];exact hilt
  have hif:listed.getD i false=false:=by simp[JE,hisz]at h1|-;exact h1
  have hcount:((listed.setIfInBounds i true).toList.filter (!·)).length<=fuel:=by
   have h2:listed.toList[i]?=some false:=by
    simp[JE,hisz]at h1;simp[hisz,h1]
   have:=qcE listed.toList i h2;have e:(listed.setIfInBounds i true).toList=listed.toList.set i true:=by simp
   rw[e];omega
  have hdn:∀d,o.dst=some d->d<n:=fun d hd=>qdE l i d hall (by rw[Yf,hol];exact hd);obtain⟨q,hql,hqi⟩:=F.onto i hilt;have hoq:l[π.getD q 0]?=some o:=by rw[hqi];exact hol
  have looks:LookOk Ps n l o S a:=⟨i3,i4,fun t ht=>by
   rcases p9 t with⟨r,oj,c1,c2,c3,c4⟩|c
   ·exfalso
    rcases F.data q r o oj t hql (by omega) hoq c2 c3 ht with⟨d1,d2,d3⟩|⟨_,this⟩
    ·have:=p5 (by omega) q (by omega) d3
     rw[hqi,hif]at this;cases this
    ·rw[hqi]at this
     rw[qbK hol hedges this]at c4;cases c4
   ·exact c⟩
  have closed':∀j oj,l[j]?=some oj->(listed.setIfInBounds i true).getD j false=true->∀e∈oj.after,Region.binds .any e=true->(listed.setIfInBounds i true).getD e.on false=true:=fun j oj hj hl e he hb=>by
   by_cases e1:e.on=i
   ·rw[e1];exact set_self hisz
   ·rw[Xu e1]
    by_cases e2:j=i
    ·subst e2
     rw[hol]at hj;obtain rfl:=Option.some.inj hj;exact hedges e he hb
    ·rw[Xu e2]at hl
     exact i2 j oj hj hl e he hb
  have other:∀r,r<π.length->r≠q->(listed.setIfInBounds i true).getD (π.getD r 0) false=listed.getD (π.getD r 0) false:=fun r hr hne=>Xu fun e=>hne (F.inj r q hr hql (by rw[e,hqi]));have nobehind:p<q->False:=fun hpq=>by
   obtain⟨r,r1,r2,r3⟩:=F.wait q p hql hpq (p2 (by omega));rw[hqi]at r3;have:=qbK hol hedges r3;rw[p3 r r1 (by omega)]at this;cases this
  have goal:(if Region.wanted o (yielded l.toArray a.tmps)=true then o.wp P a w (wpAny P .any l.toArray Q fuel (listed.setIfInBounds i true)) Q else wpAny P .any l.toArray Q fuel (listed.setIfInBounds i true) (a.put o.dst undef) w):=by
   rcases KU q p with hqp|hqp
   ·
    obtain⟨V,v1,v2,-⟩:=p8 q o hqp hoq (by rw[hqi];exact hif);refine v2 Ps w a g _ Q (Vk g) p6 looks fun ψ₂ v wx hle₂ hr₂ hv=>?_;refine ih _ _ _ ψ₂ (JR hle hle₂) ⟨by simp[i1],closed',by rw[qfk];exact i3,by rw[put_defers];exact i4,p,S,g,p1,p2,fun r r1 r2=>?_,fun r r1 r2=>?_,fun hm r r1 r2=>?_,pg,hr₂,p7,fun r oj r1 r2 r3=>?_,fun t=>?_⟩ hcount
    ·rw[other r r2 (by omega)];exact p3 r r1 r2
    ·by_cases e:r=q
     ·rw[e,hqi];exact set_self hisz
     ·rw[other r (by omega) e];exact p4 r r1 r2
    ·by_cases e:r=q
     ·rw[e,hqi];exact set_self hisz
     ·rw[other r (by omega) e];exact p5 hm r r1 r2
    ·by_cases e:r=q
     ·rw[e,hqi,set_self hisz]at r3;cases r3
     ·rw[other r (by omega) e]at r3
      exact p8 r oj r1 r2 r3
    ·by_cases hod:o.dst=some t
     ·right
      rw[v1 t hod,qaD a hod (by rw[i3];exact hdn t hod)];exact hv t hod
     ·rcases p9 t with⟨r,oj,c1,c2,c3,c4⟩|c
      ·refine .inl ⟨r,oj,c1,c2,c3,?_⟩
       rw[other r (by omega) fun e=>by subst e;rw[hoq]at c2;obtain rfl:=Option.some.inj c2;exact hod c3];exact c4
      ·right
       rw[UM a hod];exact WG hle₂ _ _ c
   ·have hqe:q=p:=by
     rcases JA hqp with e|e
     ·exact e.symm
     ·exact(nobehind e).elim
    subst hqe;have all_m:m<=q->∀r,r<q->fl.getD r 0≠2->listed.getD (π.getD r 0) false=true:=fun hm r hr hr2=>by
     rcases JA hm with e|e
     ·subst e
      have key:∀d r,r+d=m->r<m->fl.getD r 0≠2->listed.getD (π.getD r 0) false=true:=by
       intro d;induction d using Nat.strongRecOn with
       |ind d ihd=>
        intro r hd hr hr2;obtain⟨r',s1,s2,s4,s3⟩:=F.sink hql r hr hr2;rcases JA s2 with e|e
        ·subst e
         rw[hqi]at s3;exact qbK hol hedges s3
        ·have hl:=ihd (m-r') (by omega) r' (by omega) e (s4.resolve_left (by omega))
         obtain⟨oj,hoj⟩:∃oj,l[π.getD r' 0]?=some oj:=⟨_,JD (F.inr r' (by omega))⟩
         exact qbK hoj (i2 _ oj hoj hl) s3
      exact key (m-r) r (by omega) hr hr2
     ·exact p5 e r hr hr2
    obtain⟨K',ha,hnext⟩:∃K':Slots->AHeap->Prop,Qp P wz l [o] S g K'/\∀s' h',K' s' h'->(q<m->Sub g h')/\Sub g₀ h'/\qbr P wz l g₀ ((YV l π).drop (q+1)) (m-(q+1)) (fl.drop (q+1)) s' h' K:=by
     rw[qez F.inr hql hoq]at p7;have hfl:(fl.drop q).getD 0 0=fl.getD q 0:=by simp[Ko,Kq]
     have hfd:(fl.drop q).drop 1=fl.drop (q+1):=by rw[El]
     by_cases c:q<m
     ·have hfb:fl.getD q 0≠1/\fl.getD q 0≠2:=by
       have:=p2 hql;unfold isL at this;rw[decide_eq_true c,Vz,Bool.or_eq_false_iff]at this;refine⟨by simpa using this.1,fun e=>?_⟩;rw[F.lateF q c e]at this;cases this.2
      rw[show m-q=(m-(q+1))+1 by omega]at p7;have p7:=qnE (by rw[hfl];exact hfb.1) (by rw[hfl];exact hfb.2) p7;rw[hfd]at p7;exact⟨_,p7,fun s' h' hx=>⟨fun _=>hx.1,pg.trans hx.1,hx.2⟩⟩
     ·rw[show m-q=0 by omega,qbC]at p7
      refine⟨_,p7,fun s' h' hx=>⟨fun hc=>absurd hc c,hx.1,?_⟩⟩;rw[show m-(q+1)=0 by omega,lOps_zero' (bs':=[])];exact hx.2
    refine qts hall ha p6 looks fun ψ' x h' v w' e1 e2 e3 hk=>?_;obtain⟨k1,kg,k2⟩:=hnext _ _ hk;obtain⟨p',S',a1,a2,a3,a4,a5,a6,a7⟩:=qsA hall F kg (π.length-(q+1)) (q+1) (putD S o.dst x) rfl (by omega) k2;have keep:∀r or t,r<q->l[π.getD r 0]?=some or->listed.getD (π.getD r 0) false=false->(or.dst=some t\/t∈Qy l or)->S'.get t=S.get t:=fun r or t hr hor hun ht=>by
     have nd:∀u ou,q<=u->u<max p' (q+1)->u<π.length->l[π.getD u 0]?=some ou->ou.dst≠some t:=fun u ou h1 hup h2 h3 h4=>by
      rcases ht with ht|ht
      ·have:=((XR hB hor).2 _ ou t h3 h4).1 ht
       have:=F.inj r u (by omega) h2 this;omega
      ·rcases F.data r u or ou t (by omega) h2 hor h3 h4 ht with⟨c1,c2,c3⟩|⟨c1,_⟩
       ·rcases JA h1 with e|e
        ·subst e
         rw[all_m c2 r hr c3]at hun;cases hun
        ·have:=a4 u e (by omega)
         rw[F.tail u c2 h2]at this;cases this
       ·omega
     rw[a7 t fun u ou h1 h2 h3=>nd u ou (by omega) (by omega) (by omega) h3,YD,if_neg (nd q o (KL _) (by omega) hql hoq)]
    refine ih _ _ _ ψ' (JR hle e1) ⟨by simp[i1],closed',by rw[qfk];exact i3,by rw[put_defers];exact i4,p',S',h',a2,a3,fun r r1 r2=>?_,fun r r1 r2=>?_,fun hm r r1 rl=>?_,kg,e2,a5,fun r oj r1 r2 r3=>?_,fun t=>?_⟩ hcount
    ·rw[other r r2 (by omega)];exact p3 r (by omega) r2
    ·by_cases e:r=q
     ·rw[e,hqi];exact set_self hisz
     ·rw[other r (by omega) e]
      rcases KU r q with c|c
      ·exact p4 r c r2
      ·rw[a4 r (by omega) r1]at r2;cases r2
    ·have hmq:m<=q:=by
      refine Nat.le_of_not_lt fun hc=>?_;have hmp:m<π.length:=by omega
      have:=a4 m (by omega) hm;rw[F.tail m (KL _) hmp]at this;cases this
     by_cases e:r=q
     ·rw[e,hqi];exact set_self hisz
     ·rw[other r (by omega) e]
      rcases KU r q with c|c
      ·exact all_m hmq r c rl
      ·have:=a4 r (by omega) r1
       rw[F.tail r (by omega) (by omega)]at this;cases this
    ·by_cases e:r=q
     ·rw[e,hqi,set_self hisz]at r3;cases r3
     ·rw[other r (by omega) e]at r3
      rcases KU r q with c|c
      ·obtain⟨V,v1,v2,v3⟩:=p8 r oj c r2 r3
       have hsl:∀t∈Qy l oj,S'.get t=S.get t:=fun t ht=>keep r oj t c r2 r3 (.inr ht);refine⟨V,fun t ht=>(keep r oj t c r2 r3 (.inl ht)).trans (v1 t ht),?_,fun e=>(v3 e).slots hsl⟩;by_cases e2:fl.getD r 0=2
       ·exact((v3 e2).sub kg).slots hsl
       ·have hqm:q<m:=by
         refine J6 fun hm=>?_;rw[all_m hm r c e2]at r3;cases r3
        exact(v2.sub (k1 hqm)).slots hsl
      ·exact a6 r oj (by omega) r1 r2
    ·by_cases hod:o.dst=some t
     ·right
      rw[a7 t fun u ou h1 h2 h3 h4=>by
       have:=((XR hB hoq).2 _ ou t h3 h4).1 hod;have:=F.inj q u hql (by omega) this;omega,YD,if_pos hod,qaD a hod (by rw[i3];exact hdn t hod)]
      exact e3
     ·by_cases hw:∃r or,q+1<=r/\r<p'/\l[π.getD r 0]?=some or/\or.dst=some t
      ·obtain⟨r,or,w1,w2,w3,w4⟩:=hw
       exact .inl ⟨r,or,w2,w3,w4,by rw[other r (by omega) (by omega)];exact p3 r (by omega) (by omega)⟩
      ·have hS:S'.get t=S.get t:=by
        rw[a7 t fun u ou h1 h2 h3 h4=>hw ⟨u,ou,h1,h2,h3,h4⟩,YD,if_neg hod]
       rcases p9 t with⟨r,oj,c1,c2,c3,c4⟩|c
       ·exact .inl ⟨r,oj,by omega,c2,c3,by rw[other r (by omega) (by omega)];exact c4⟩
       ·right
        rw[hS,UM a hod];exact WG e1 _ _ c
  simp only[wpOp,ho];split
  ·rename_i hw
   rw[if_pos hw]at goal;exact .inl goal
  ·rename_i hw
   rw[if_neg hw]at goal;exact goal
theorem qeN{Q:Exit->Slots->AHeap->Prop}{s:Slots}{h:AHeap}{id:Nat}{l:List Oper}(π:List Nat)(fl:List Nat)(ws:List (Option Nat))(m:Nat)(g₀:AHeap)(hm:P.follows .mixedOrders=true)(hB:qoM P l π fl ws m=true)(hd:Qv n l=true)(hg₀:Sub g₀ h)
 (hc:qbr P wz l g₀ (YV l π) m fl s h fun s' h'=>Q .normal s' h'):Awp P wz n (.region id l.toArray true) Q s h:=by
 refine Awp.of0 ?_;intro fi a w hr hs;have F:=qrP hB;refine wp_region_any hm ?_;have hf:∀j,(Jw l.toArray.size false).getD j false=false:=fun j=>by simp[JE]
 obtain⟨p',S',a1,a2,a3,a4,a5,a6,a7⟩:=qsA hd F hg₀ π.length 0 s rfl (Js _) (by rw[Em,Vp];exact hc);refine any_okL (fi:=fi) hd F (K:=fun s' h'=>Q .normal s' h') (fun Ps S g a' w' hle h1 h2 h3=>⟨Ps,S,g,hle,h1,h2,h3⟩) _ _ _ _ fi fi.le_refl
  ⟨by simp,fun j oj _ hl=>(by rw[hf]at hl;cases hl),hs.size,hs.defers,p',S',h,a2,a3,fun r _ _=>hf _,fun r r1 r2=>?_,fun hm' r r1 _=>?_,hg₀,hr.drew,a5,fun r oj r1 r2 _=>a6 r oj (Js _) r1 r2,fun t=>?_⟩ ?_
 ·rw[a4 r (Js _) r1]at r2;cases r2
 ·have:=a4 m (Js _) hm'
  rw[F.tail m (KL _) (by omega)]at this;cases this
 ·by_cases hw:∃r or,r<p'/\l[π.getD r 0]?=some or/\or.dst=some t
  ·obtain⟨r,or,w2,w3,w4⟩:=hw
   exact .inl ⟨r,or,w2,w3,w4,hf _⟩
  ·right
   rw[a7 t fun u ou _ h2 h3 h4=>hw ⟨u,ou,h2,h3,h4⟩];exact hs.val t
 ·have:=List.length_filter_le (!·) (Jw l.toArray.size false).toList
  simpa using this
theorem qht{Q:Exit->Slots->AHeap->Prop}{s:Slots}{h:AHeap}{id:Nat}{l:List Oper}{y:Code}(π:List Nat)(fl:List Nat)(ws:List (Option Nat))(m:Nat)(g₀:AHeap)(L:List Nat)(hm:P.follows .mixedOrders=true)(hB:qoM P l π fl ws m=true)(hd:Qv n l=true)(hg₀:Sub g₀ h)
 (hc:∀K:Slots->AHeap->Prop,(∀s h,Awp P wz n y Q s h->K s h)->qbr P wz l g₀ (YV l π) m fl s h fun s' h'=>K (s'.keep L) h'):Awp P wz n (.seq (.region id l.toArray true) y) Q s h:=
 qo (qeN π fl ws m g₀ hm hB hd hg₀ (qbD (fun _ _ hk=>JU L hk) (hc (fun s h=>Awp P wz n y Q s h) (fun _ _ hk=>hk))))
end
end Go.AM
namespace Go.AM
theorem Sep.nest{ps qs:List AHeap}{H h:AHeap}(h1:Sep ps H)(h2:Sep (H::qs) h):Sep (ps++qs) h:=by
 obtain⟨d1,d2⟩:=List.pairwise_cons.1 h2.2;refine⟨fun p hp=>?_,List.pairwise_append.2 ⟨h1.2,d2,fun p hp q hq k=>?_⟩⟩
 ·rcases JX.1 hp with hp|hp
  ·exact(h1.1 p hp).trans (h2.1 _ Jg)
  ·exact h2.1 p (Jh _ hp)
 ·rcases d1 q hq k with z|z
  ·exact .inl ((h1.1 p hp).none z)
  ·exact .inr z
end Go.AM
namespace Go.Stm
open Go.Col (Str)
open Go.Tok
def spP(p:PhrC):List Str:=(60::(p.words++[62]))::p.toks.map qaU
def spB(m:Nat)(b:BodC):List Str:=(91::(b.1++[93]))::(b.2.1.map qaU++Zk m b.2.2)
def spS(m:Nat)(s:StC):List Str:=(123::s.verb)::((s.phrases.map spP).flatten++(s.bodies.map (spB m)).flatten)++[[125]]
end Go.Stm
namespace Go.Proofs.YtgiadjbiimkbiaaGreatDoor
open Go.AM
open Go.Proofs
open Go.Col (Str FaultC okF)
open Go.Tok (TokC)
open Go.Stm
open Go.RowKit (Below)
set_option maxRecDepth 100000
structure SpG where
 i:Nat
 A:List Str
 rv:AVal
 rp:AHeap
 H:AHeap
def TxS:Nat->List StC->Prop
 |0,_=>True
 |m+1,l=>∀s∈l,s.verb.length<=1000000/\(∀p∈s.phrases,p.words.length<=1000000/\Short p.toks)/\∀b∈s.bodies,b.1.length<=1000000/\Short b.2.1/\TxS m b.2.2
theorem qjs{α β γ:Type}{qs:List (α×β)}{f:α->List γ}{j:Nat}{d:α×β}(hj:j<qs.length):(((qs.drop j).map (·.1)).map f).flatten=f (qs.getD j d).1++(((qs.drop (j+1)).map (·.1)).map f).flatten:=by
 rw[Ve hj,Ke,Ke,VS];congr 2;simp[Ko,hj]
theorem qoE{R A B:List Str}(h:R=A++B)(hR:R.length<=1000000000000):A.length+B.length<=1000000000000:=by rw[h,Jd]at hR;exact hR
def qmA(wz:World)(m:Nat)(h:AHeap)(l:List StC):AVal->AHeap->Prop:=fun r h'=>∃p,GrowV 1 r p ((Zk m l).map strC)/\isG r=true/\Sep [h,p] h'
theorem c_spelled0(wz:World)(h:AHeap)(v:AVal)(hv:IsL wz h 5 v []):ACall Tryz.prog wz 20 [v] h (qmA wz 0 h []):=by
 have nL:∀H:AHeap,Ze Tryz.prog H 45 v=⟨True, .int .i64 0⟩:=fun H=>hv.len Tryz.underlying45 H;have hlv:=hv.live;refine qP (n:=109) (rs:=[.tmp 2]) Tryz.func20 rfl rfl rfl rfl (V7 rfl) ?_;simp only[qU];refine awp_rseq [0] (by rfl) fun K hK=>?_;simp+decide only[qJ,↓qa];apply hK;clear hK K;refine awp_rseq [0,3] (by rfl) fun K hK=>?_;simp+decide only[qJ,↓qa];apply hK;clear hK K;refine qo ?_;refine awp_rseq [0,3,4] (by rfl) fun K hK=>?_;simp+decide only[qJ,↓qa];apply hK;clear hK K;refine qK ?_;refine QD [0,3,4] (fun z:Unit=>[(0,v),(3, .nilSlice),(4, .int .i64 0)]) (fun z:Unit=>h) (fun z:Unit=>True) (fun z:Unit=>0) () (by rfl) (Vk _) trivial ?_;intro z _;refine qo ?_;refine awp_rseq [0,3,4,10] (by rfl) fun K hK=>?_;simp+decide only[QH,qF,Qm,Zz,↓qc,↓Qr,↓qf,nL];apply hK;clear hK K;refine qz (b:=_) rfl (fun hb1=>?_) (fun hb1=>?_)
 ·cases hb1
 ·try simp only[qG]at hb1
  refine QC ?_;change Awp _ _ _ _ _ _ _;refine awp_rseq [2] (by rfl) fun K hK=>?_;simp+decide only[Xh,↓qc,↓qa];apply hK;clear hK K;refine qV ?_;refine QL h zqC (qA (qC)) ?_;simp+decide only[Xn];exact⟨emp, .nil,rfl,Ej (ps:=[h]) ⟨fun p hp=>by rw[V9.1 hp];exact Vk _,by simp⟩⟩
set_option maxHeartbeats 16000000 in
theorem c_spelledS(wz:World)(d:Nat)(h:AHeap)(v:AVal)(l:List StC)(hs:StsV wz (d+1) h v l)(hsm:SmallS (d+1) l)(htx:TxS (d+1) l)(hT:(Zk (d+1) l).length<=1000000000000)
 (ih:∀(h':AHeap) (v:AVal) (l:List StC),StsV wz d h' v l->SmallS d l->TxS d l->(Zk d l).length<=1000000000000->ACall Tryz.prog wz 20 [v] h' (qmA wz d h' l)):
 ACall Tryz.prog wz 20 [v] h (qmA wz (d+1) h l):=by
 obtain⟨qs,hqe,hqL,hels⟩:=qhE hs hsm;rw[Ed]at hels;have nL:=qlk hqL;have hlv:=hqL.live;have hln:qs.length<=1000000:=by have:=hsm.len;rw[hqe,Jp]at this;exact this
 have hR:Zk (d+1) l=((qs.map (·.1)).map (spS d)).flatten:=by rw[<-hqe];rfl
 unfold qmA;obtain⟨R,hRR⟩:∃R,R=Zk (d+1) l:=⟨_,rfl⟩
 rw[<-hRR]at hR hT|-
 have hS0:Sep [h,emp] h:=Ej (ps:=[h]) ⟨fun p hp=>by rw[V9.1 hp];exact Vk _,by simp⟩;refine qP (n:=109) (rs:=[.tmp 2]) Tryz.func20 rfl rfl rfl rfl (V7 rfl) ?_;simp only[qU];refine awp_rseq [0] (by rfl) fun K hK=>?_;simp+decide only[qJ,↓qa];apply hK;clear hK K;refine awp_rseq [0,3] (by rfl) fun K hK=>?_;simp+decide only[qJ,↓qa];apply hK;clear hK K;refine qo ?_;refine awp_rseq [0,3,4] (by rfl) fun K hK=>?_;simp+decide only[qJ,↓qa];apply hK;clear hK K;refine qK ?_;refine QD [0,3,4] (fun g:SpG=>[(0,v),(3,g.rv),(4, .int .i64 g.i)]) (fun g:SpG=>g.H) (fun g:SpG=>g.i<=qs.length/\Sep [h,g.rp] g.H/\GrowV 1 g.rv g.rp (g.A.map strC)/\isG g.rv=true/\R=g.A++(((qs.drop g.i).map (·.1)).map (spS d)).flatten) (fun g:SpG=>qs.length-g.i) ⟨0,[], .nilSlice,emp,h⟩ (by rfl) (Vk _) ⟨Js _,hS0, .nil,rfl,hR⟩ ?_;rintro⟨i,A,rv,rp,H⟩ ⟨hi,hS,hrow,hG,hg⟩;simp only at hi hS hrow hG hg|-
 have hs_H:Sub h H:=hS.in_ (i:=0) rfl;have hrl:=hrow.live;refine qo ?_;refine awp_rseq [0,3,4,10] (by rfl) fun K hK=>?_;simp+decide only[QH,qF,Qm,Zz,↓qc,↓Qr,↓qf,nL];apply hK;clear hK K;refine qz (b:=_) rfl (fun hb1=>?_) (fun hb1=>?_)
 ·try simp only[qG]at hb1
  have hi':i<qs.length:=by omega
  obtain⟨q,hqj⟩:∃q,q=qs.getD i qgB:=⟨_,rfl⟩
  have hqm:q∈qs:=by rw[hqj,Ko,JD hi'];exact VY hi'
  obtain⟨lc,o,cc,hpe⟩:=qhH hqL (by omega);have hq2:=hqL.mono hs_H;rw[hpe]at hq2;obtain⟨e0,e1,e2,e3,e4⟩:=qgI hq2 hi';rw[<-hqj]at e0 e1 e2 e3 e4;obtain⟨hph,hbd,hbn,hpn,hpt,hbb⟩:=hels q hqm;obtain⟨hx1,hx2,hx3⟩:=htx q.1 (by rw[hqe];exact BL (f:=(·.1)) hqm);have hst:=qjs (f:=spS d) (d:=qgB) hi';rw[<-hqj]at hst;rw[hst]at hg;have hpl:=hph.live;have hbl:=hbd.live;obtain⟨pl,hplq,hpq,hpt2⟩:=id hph;obtain⟨ql,hql,hqb,hqq⟩:=id hbd;have np:=qlA hpq;have nb:=qfH hqb;have hbn2:ql.length<=1000000:=by rw[hql,Jp]at hbn;exact hbn
  have hpn2:pl.length<=1000000:=by rw[hplq,Jp]at hpn;exact hpn
  obtain⟨qs1,qp,qb⟩:=q;obtain⟨vb,sln,scl,sph,sbd⟩:=qs1;simp only[En,Eo,Ep]at e0 e1 e2 e3 e4 hpl hbl hg np nb hpq hqb hql hplq hbb hpt hpt2 hqq hx1 hx2 hx3;obtain⟨X,hX⟩:∃X,X=(((qs.drop (i+1)).map (·.1)).map (spS d)).flatten:=⟨_,rfl⟩
  rw[<-hX]at hg;have hg5:R=(A++[123::vb])++((sph.map spP).flatten++((sbd.map (spB d)).flatten++([125]::X))):=by rw[hg];simp[spS,Ep,En,Eo]
  have hA5:=qoE hg5 hT;rw[Jd,JH]at hA5;have hwi:IntKind.i64.wrap ((i:Int)+1)=((i+1:Nat):Int):=by rw[wrap_i64 (by omega) (by omega)];omega
  refine qE ?_;change Awp _ _ _ _ _ _ _;refine qo ?_;refine qK ?_;refine awp_rseq [0,3,4] (by rfl) fun K hK=>?_;simp+decide only[XI,XD,QN,qF,Zd,Kh,Qb,Jf,YL,↓qc,↓qI,qh Tryz.underlying45 UJ,↓qg,qcS,↓qj,qd ag9,↓qf,hpe,e0];repeat (with_reducible refine zqP ?_)
  refine Qd (cs:=[.str (List.cons 123 vb)]) (by kernel_rfl) fun k5q7 hk5q7=>?_;have hn_5q7:H k5q7=none:=by first|assumption|(simp only[Bi]at hk5q7;simp only[hk5q7])
  have hf_5q7:h k5q7=none:=Bj hs_H hn_5q7;refine Un (es:=1) (v:=rv) (p:=rp) (xs:=A.map strC) (ys:=[strC (123::vb)]) (i:=1) (by rfl) (by rfl) Tryz.underlying22 Tryz.underlying22 (fun k e=>by cases e) sz9 by9 ze9 (by rfl) (by decide) (by rfl) hrow hG rfl (hS.forget (Vl hk5q7)) (by rfl) (BA (Vj _ _ _) (fun x hx=>by rw[V9.1 hx];rfl) (by rfl) (by rfl) (.exact 1) (KL _)) (by rfl) (by simp only[Yb];omega) (by simp only[Yb];omega) fun rv5 rp5 h5 hrow5 hG5 hS5=>?_;have hrow5:GrowV 1 rv5 rp5 ((A++[123::vb]).map strC):=by rw[JK];exact hrow5
  simp+decide only[qJ,QN,Zd,Xv,↓qa];apply hK;clear hK K;refine qo ?_;refine awp_rseq [0,3,4,5] (by rfl) fun K hK=>?_;simp+decide only[qJ,↓qa];apply hK;clear hK K;refine qK ?_;refine QD [0,3,4,5] (fun g:SpG=>[(0,v),(3,g.rv),(4, .int .i64 i),(5, .int .i64 g.i)]) (fun g:SpG=>g.H) (fun g:SpG=>g.i<=pl.length/\Sep [h,g.rp] g.H/\GrowV 1 g.rv g.rp (g.A.map strC)/\isG g.rv=true/\R=g.A++((((pl.drop g.i).map (·.1)).map spP).flatten++((sbd.map (spB d)).flatten++([125]::X)))) (fun g:SpG=>pl.length-g.i) ⟨0,A++[123::vb],rv5,rp5,h5⟩ (by first|rfl|(rw[hpe];rfl)) (Vk _) ⟨Js _,hS5,hrow5,hG5,by rw[hg5,hplq];rfl⟩ ?_;rintro⟨a,A2,rv,rp,H⟩ ⟨ha,hS,hrow,hG,hg⟩;simp only at ha hS hrow hG hg|-
  have hs_H:Sub h H:=hS.in_ (i:=0) rfl;have hrl:=hrow.live;have hq2:=hqL.mono hs_H;rw[hpe]at hq2;obtain⟨e0,e1,e2,e3,e4⟩:=qgI hq2 hi';rw[<-hqj]at e0 e1 e2 e3 e4;simp only[Ep]at e0 e1 e2 e3 e4;refine qo ?_;refine awp_rseq [0,3,4,5,29] (by rfl) fun K hK=>?_;simp+decide only[Yz,QN,qF,Qm,Zz,↓qc,↓qI,qh Tryz.underlying45 UJ,↓qg,YR,↓qj,qd qec,↓Qr,↓qf,hpe,e3,np,hpl];repeat (with_reducible refine zqP ?_)
  apply hK;clear hK K;refine qz (b:=_) rfl (fun hb2=>?_) (fun hb2=>?_)
  ·try simp only[qG]at hb2
   have ha':a<pl.length:=by omega
   obtain⟨p,hpj⟩:∃p,p=pl.getD a qfp:=⟨_,rfl⟩
   have hpm:p∈pl:=by rw[hpj,Ko,JD ha'];exact VY ha'
   obtain⟨lb,ob,cb,hpb⟩:=qdg hpq (by omega);have hp2:=hpq.mono hs_H;rw[hpb]at hp2;obtain⟨f0,f1⟩:=qfl hp2 ha';rw[<-hpj]at f0 f1;have htk:=hpt2 p hpm;have htl:=htk.live;obtain⟨hy1,hy2⟩:=hx2 p.1 (by rw[hplq];exact BL (f:=(·.1)) hpm);have htn:p.1.toks.length<=1000000:=hpt _ (by rw[hplq];exact BL (f:=(·.1)) hpm);have hst2:=qjs (f:=spP) (d:=qfp) ha';rw[<-hpj]at hst2;rw[hst2]at hg;obtain⟨⟨pw,pt⟩,pv⟩:=p;simp only[spP]at f0 f1 htk htl htn hg hy1 hy2;have hg9:R=(A2++[60::(pw++[62])])++(pt.map qaU++((((pl.drop (a+1)).map (·.1)).map spP).flatten++((sbd.map (spB d)).flatten++([125]::X)))):=by rw[hg];simp
   have hA9:=qoE hg9 hT;rw[Jd,JH,Jd,Jp]at hA9;have hwa:IntKind.i64.wrap ((a:Int)+1)=((a+1:Nat):Int):=by rw[wrap_i64 (by omega) (by omega)];omega
   refine qE ?_;change Awp _ _ _ _ _ _ _;refine qo ?_;refine qK ?_;refine awp_rseq [0,3,4,5] (by rfl) fun K hK=>?_;simp+decide only[XI,XD,QN,qF,Zd,Kh,Qb,Jf,XM,YL,↓qc,↓qI,qh Tryz.underlying45 UJ,↓qg,YR,↓qj,qd qec,qh Tryz.underlying79 qcH,qoS,qd ag9,↓qf,e3,hpb,f0];repeat (with_reducible refine zqP ?_)
   refine Qd (cs:=[.str (List.cons 60 (pw++[62]))]) (by kernel_rfl) fun k9q12 hk9q12=>?_;have hn_9q12:H k9q12=none:=by first|assumption|(simp only[Bi]at hk9q12;simp only[hk9q12])
   have hf_9q12:h k9q12=none:=Bj hs_H hn_9q12;refine Un (es:=1) (v:=rv) (p:=rp) (xs:=A2.map strC) (ys:=[strC (60::(pw++[62]))]) (i:=1) (by rfl) (by rfl) Tryz.underlying22 Tryz.underlying22 (fun k e=>by cases e) sz9 by9 ze9 (by rfl) (by decide) (by rfl) hrow hG rfl (hS.forget (Vl hk9q12)) (by rfl) (BA (Vj _ _ _) (fun x hx=>by rw[V9.1 hx];rfl) (by rfl) (by rfl) (.exact 1) (KL _)) (by rfl) (by simp only[Yb];omega) (by simp only[Yb];omega) fun rv9 rp9 h9 hrow9 hG9 hS9=>?_;have hrow9:GrowV 1 rv9 rp9 ((A2++[60::(pw++[62])]).map strC):=by rw[JK];exact hrow9
   simp+decide only[qJ,QN,Zd,Xv,↓qa];apply hK;clear hK K;have hrl9:=hrow9.live;have hs_h9:Sub h h9:=hS9.in_ (i:=0) rfl;have hq9:=hqL.mono hs_h9;rw[hpe]at hq9;have e3':=(qgI hq9 hi').2.2.2.1;rw[<-hqj]at e3';have hp9:=hpq.mono hs_h9;rw[hpb]at hp9;have f1':=(qfl hp9 ha').2;rw[<-hpj]at f1';simp only at e3' f1';refine QK [0,3,4,5] (by rfl) ?_;simp+decide only[ZU,QN,↓qc,↓qI,qh Tryz.underlying45 UJ,↓qg,YR,↓qj,qd qec,qh Tryz.underlying79 qcH,qcj,qd qcn,hpe,e3',hpb,f1',htl];repeat (with_reducible refine zqP ?_)
   refine qM (by rfl) (by rfl) (c_texts wz _ pv pt (htk.mono hs_h9) htn hy2) fun x10q10 h10q10 hx10q10=>?_;obtain⟨pp,hrowP,hGP,hSP⟩:=hx10q10;have hSA:=Sep.nest hS9 hSP;try simp only[XE,Xv]at hSA
   refine Un (es:=1) (v:=rv9) (p:=rp9) (xs:=(A2++[60::(pw++[62])]).map strC) (ys:=(pt.map qaU).map strC) (i:=1) (by rfl) (by rfl) Tryz.underlying22 Tryz.underlying22 (fun k e=>by cases e) sz9 by9 ze9 (by rfl) (by decide) (by rfl) hrow9 hG9 rfl hSA (by rfl) (hrowP.isL (hSA.in_ (i:=2) rfl)) (qiU _) (by simp only[Jp,ZT];omega) (by simp only[Jp,ZT];omega) fun rv10 rp10 h10 hrow10 hG10 hS10=>?_;rw[<-JK]at hrow10;simp+decide only[qJ,QN,↓qa];change Awp _ _ _ _ _ _ _;refine QK [0,3,4,5] (by rfl) ?_;simp+decide only[YH,↓qc,↓qf,↓qa,hwa];try simp only[QT]
   exact⟨⟨a+1,A2++[60::(pw++[62])]++pt.map qaU,rv10,rp10,h10⟩,by first|rfl|(rw[hpe];rfl),Vk _,⟨ha',hS10.sub (by simp),hrow10,hG10,by simp only;rw[hg9,Jb,Jb];simp⟩,by simp only;omega⟩
  ·try simp only[qG]at hb2
   have haq:a=pl.length:=by omega
   rw[haq,Vd]at hg;have hg11:R=A2++((((ql.drop 0).map (·.1)).map (spB d)).flatten++([125]::X)):=by rw[hg,hql];rfl
   refine QC ?_;change Awp _ _ _ _ _ _ _;refine qo ?_;refine awp_rseq [0,3,4,6] (by rfl) fun K hK=>?_;simp+decide only[qJ,↓qa];apply hK;clear hK K;refine qK ?_;refine QD [0,3,4,6] (fun g:SpG=>[(0,v),(3,g.rv),(4, .int .i64 i),(6, .int .i64 g.i)]) (fun g:SpG=>g.H) (fun g:SpG=>g.i<=ql.length/\Sep [h,g.rp] g.H/\GrowV 1 g.rv g.rp (g.A.map strC)/\isG g.rv=true/\R=g.A++((((ql.drop g.i).map (·.1)).map (spB d)).flatten++([125]::X))) (fun g:SpG=>ql.length-g.i) ⟨0,A2,rv,rp,H⟩ (by first|rfl|(rw[hpe];rfl)) (Vk _) ⟨Js _,hS,hrow,hG,hg11⟩ ?_;rintro⟨a,A3,rv,rp,H⟩ ⟨ha,hS,hrow,hG,hg⟩;simp only at ha hS hrow hG hg|-
   have hs_H:Sub h H:=hS.in_ (i:=0) rfl;have hrl:=hrow.live;have hq2:=hqL.mono hs_H;rw[hpe]at hq2;obtain⟨e0,e1,e2,e3,e4⟩:=qgI hq2 hi';rw[<-hqj]at e0 e1 e2 e3 e4;simp only[Ep]at e0 e1 e2 e3 e4;refine qo ?_;refine awp_rseq [0,3,4,6,65] (by rfl) fun K hK=>?_;simp+decide only[Yz,QN,qF,Qm,Zz,↓qc,↓qI,qh Tryz.underlying45 UJ,↓qg,Wh,↓qj,qd qeb,↓Qr,↓qf,hpe,e4,nb,hbl];repeat (with_reducible refine zqP ?_)
   apply hK;clear hK K;refine qz (b:=_) rfl (fun hb3=>?_) (fun hb3=>?_)
   ·try simp only[qG]at hb3
    have ha':a<ql.length:=by omega
    obtain⟨b,hbj⟩:∃b,b=ql.getD a qff:=⟨_,rfl⟩
    have hbm:b∈ql:=by rw[hbj,Ko,JD ha'];exact VY ha'
    obtain⟨lb,ob,cb,hpb⟩:=qds hqb (by omega);have hb2:=hqb.mono hs_H;rw[hpb]at hb2;obtain⟨f0,f1,f2⟩:=qgR hb2 ha';rw[<-hbj]at f0 f1 f2;obtain⟨hbt,hbs⟩:=hqq b hbm;obtain⟨hbtn,hsb⟩:=hbb b.1 (by rw[hql];exact BL (f:=(·.1)) hbm);obtain⟨hy1,hy2,hy3⟩:=hx3 b.1 (by rw[hql];exact BL (f:=(·.1)) hbm);have htl:=hbt.live;obtain⟨hll,hls,hlc⟩:=hbs.shape;have hst2:=qjs (f:=spB d) (d:=qff) ha';rw[<-hbj]at hst2;rw[hst2]at hg;obtain⟨⟨bw,bt,bL⟩,btv,blv⟩:=b;simp only[spB]at f0 f1 f2 hbt hbs hsb hbtn htl hll hg hy1 hy2 hy3;obtain⟨Y,hY⟩:∃Y,Y=(((ql.drop (a+1)).map (·.1)).map (spB d)).flatten:=⟨_,rfl⟩
    rw[<-hY]at hg;have hg14:R=(A3++[91::(bw++[93])])++(bt.map qaU++(Zk d bL++(Y++([125]::X)))):=by rw[hg];simp
    have hA14:=qoE hg14 hT;rw[Jd,JH,Jd,Jp,Jd]at hA14;have hwa:IntKind.i64.wrap ((a:Int)+1)=((a+1:Nat):Int):=by rw[wrap_i64 (by omega) (by omega)];omega
    refine qE ?_;change Awp _ _ _ _ _ _ _;refine qo ?_;refine qK ?_;refine awp_rseq [0,3,4,6] (by rfl) fun K hK=>?_;simp+decide only[XI,XD,QN,qF,Zd,Kh,Qb,Jf,XM,YL,↓qc,↓qI,qh Tryz.underlying45 UJ,↓qg,Wh,↓qj,qd qeb,qh Tryz.underlying80 qbU,qlZ,qd ag9,↓qf,e4,hpb,f0];repeat (with_reducible refine zqP ?_)
    refine Qd (cs:=[.str (List.cons 91 (bw++[93]))]) (by kernel_rfl) fun k14q12 hk14q12=>?_;have hn_14q12:H k14q12=none:=by first|assumption|(simp only[Bi]at hk14q12;simp only[hk14q12])
    have hf_14q12:h k14q12=none:=Bj hs_H hn_14q12;refine Un (es:=1) (v:=rv) (p:=rp) (xs:=A3.map strC) (ys:=[strC (91::(bw++[93]))]) (i:=1) (by rfl) (by rfl) Tryz.underlying22 Tryz.underlying22 (fun k e=>by cases e) sz9 by9 ze9 (by rfl) (by decide) (by rfl) hrow hG rfl (hS.forget (Vl hk14q12)) (by rfl) (BA (Vj _ _ _) (fun x hx=>by rw[V9.1 hx];rfl) (by rfl) (by rfl) (.exact 1) (KL _)) (by rfl) (by simp only[Yb];omega) (by simp only[Yb];omega) fun rv9 rp9 h9 hrow9 hG9 hS9=>?_;have hrow9:GrowV 1 rv9 rp9 ((A3++[91::(bw++[93])]).map strC):=by rw[JK];exact hrow9
    simp+decide only[qJ,QN,Zd,Xv,↓qa];apply hK;clear hK K;have hrl9:=hrow9.live;have hs_h9:Sub h h9:=hS9.in_ (i:=0) rfl;have hq9:=hqL.mono hs_h9;have hq0:=hqL;rw[hpe]at hq9 hq0;have e4':=(qgI hq9 hi').2.2.2.2;have e40:=(qgI hq0 hi').2.2.2.2;rw[<-hqj]at e4' e40;have hb9:=hqb.mono hs_h9;have hb0:=hqb;rw[hpb]at hb9 hb0;have f1':=(qgR hb9 ha').2.1;have f20:=(qgR hb0 ha').2.2;rw[<-hbj]at f1' f20;simp only at e4' f1' e40 f20;refine qeN [0,1,2,3,4,5,6,7,8,9,12,13,14,15,16,17,18,19,20,10,11,21,22,23] [0,0,0,0,0,0,0,0,0,0,2,2,2,2,2,2,2,2,2,0,0,0,0,0] [none,none,none,none,none,none,none,none,none,none,none,none,none,none,none,none,none,none,none,none,some 19,some 20,some 21,some 22] 20 (h) mixed (by kernel_rfl) (by rfl) (hs_h9) ?_;simp only[List.getElem?_cons_zero,List.getElem?_cons_succ,List.filterMap_cons,List.filterMap_nil,YV];simp+decide only[ZU,QN,qcB,qcA,qbC,qca,Uu,↓qc,↓qI,qh Tryz.underlying45 UJ,↓qg,Wh,↓qj,qd qeb,qh Tryz.underlying80 qbU,qfB,qd qcn,qfA,qd qjH,hpe,e4',e40,hpb,f1',f20,htl,hll];repeat (with_reducible refine zqP ?_)
    refine qM (by rfl) (by rfl) (c_texts wz _ btv bt (hbt.mono hs_h9) hbtn hy2) fun x15q10 h15q10 hx15q10=>?_;obtain⟨pp,hrowP,hGP,hSP⟩:=hx15q10;have hsA:Sub h9 h15q10:=hSP.in_ (i:=0) rfl;have hSA:=Sep.nest hS9 hSP;try simp only[XE,Xv]at hSA
    rw[Qt];refine And.intro (by first|exact Vk _|assumption|exact Vl (by assumption)) ?_;simp+decide only[qR,QN];refine Un (es:=1) (v:=rv9) (p:=rp9) (xs:=(A3++[91::(bw++[93])]).map strC) (ys:=(bt.map qaU).map strC) (i:=1) (by rfl) (by rfl) Tryz.underlying22 Tryz.underlying22 (fun k e=>by cases e) sz9 by9 ze9 (by rfl) (by decide) (by rfl) hrow9 hG9 rfl hSA (by rfl) (hrowP.isL (hSA.in_ (i:=2) rfl)) (qiU _) (by simp only[Jp,ZT];omega) (by simp only[Jp,ZT];omega) fun rv10 rp10 h10 hrow10 hG10 hS10=>?_;rw[<-JK]at hrow10;have hrl10:=hrow10.live;have hs_h10:Sub h h10:=hS10.in_ (i:=0) rfl;rw[Qt];refine And.intro (by first|exact Vk _|assumption|exact Vl (by assumption)) ?_;simp+decide only[qR,QN];refine qM (by rfl) (by rfl) (ih _ blv bL (hbs.mono hs_h10) hsb hy3 (by omega)) fun x15q21 h15q21 hx15q21=>?_;obtain⟨pq,hrowQ,hGQ,hSQ⟩:=hx15q21;have hSB:=Sep.nest hS10 hSQ;try simp only[XE,Xv]at hSB
    have hs_hB:Sub h h15q21:=hSB.in_ (i:=0) rfl;rw[Qt];refine And.intro (by first|exact Vk _|assumption|exact Vl (by assumption)) ?_;simp+decide only[qR,QN];refine Un (es:=1) (v:=rv10) (p:=rp10) (xs:=(A3++[91::(bw++[93])]++bt.map qaU).map strC) (ys:=(Zk d bL).map strC) (i:=1) (by rfl) (by rfl) Tryz.underlying22 Tryz.underlying22 (fun k e=>by cases e) sz9 by9 ze9 (by rfl) (by decide) (by rfl) hrow10 hG10 rfl hSB (by rfl) (hrowQ.isL (hSB.in_ (i:=3) rfl)) (qiU _) (by simp only[Jp,ZT];omega) (by simp only[Jp,ZT];omega) fun rv11 rp11 h11 hrow11 hG11 hS11=>?_;rw[<-JK]at hrow11;have hs_h11:Sub h h11:=hS11.in_ (i:=0) rfl;rw[Qt];refine And.intro (by first|exact Vk _|assumption|exact Vl (by assumption)) ?_;simp+decide only[qJ,QN,↓qa];repeat (with_reducible refine zqP ?_)
    change Awp _ _ _ _ _ _ _;refine QK [0,3,4,6] (by rfl) ?_;simp+decide only[YH,↓qc,↓qf,↓qa,hwa];try simp only[QT]
    exact⟨⟨a+1,A3++[91::(bw++[93])]++bt.map qaU++Zk d bL,rv11,rp11,h11⟩,by first|rfl|(rw[hpe];rfl),Vk _,⟨ha',hS11.sub (by simp),hrow11,hG11,by simp only;rw[hg14,hY];simp⟩,by simp only;omega⟩
   ·try simp only[qG]at hb3
    have haq:a=ql.length:=by omega
    rw[haq,Vd]at hg;have hg16:R=(A3++[[125]])++X:=by rw[hg];simp
    have hA16:=qoE hg16 hT;rw[Jd,JH]at hA16;refine QC ?_;change Awp _ _ _ _ _ _ _;refine QK [0,3,4] (by rfl) ?_;simp+decide only[Qw,↓qc];refine Qd (cs:=[.str [125]]) (by kernel_rfl) fun k16q1 hk16q1=>?_;have hn_16q1:H k16q1=none:=by first|assumption|(simp only[Bi]at hk16q1;simp only[hk16q1])
    have hf_16q1:h k16q1=none:=Bj hs_H hn_16q1;refine Un (es:=1) (v:=rv) (p:=rp) (xs:=A3.map strC) (ys:=[strC [125]]) (i:=1) (by rfl) (by rfl) Tryz.underlying22 Tryz.underlying22 (fun k e=>by cases e) sz9 by9 ze9 (by rfl) (by decide) (by rfl) hrow hG rfl (hS.forget (Vl hk16q1)) (by rfl) (BA (Vj _ _ _) (fun x hx=>by rw[V9.1 hx];rfl) (by rfl) (by rfl) (.exact 1) (KL _)) (by rfl) (by simp only[Yb];omega) (by simp only[Yb];omega) fun rv16 rp16 h16 hrow16 hG16 hS16=>?_;have hrow16:GrowV 1 rv16 rp16 ((A3++[[125]]).map strC):=by rw[JK];exact hrow16
    simp+decide only[qJ,↓qa];change Awp _ _ _ _ _ _ _;refine QK [0,3,4] (by rfl) ?_;simp+decide only[YH,↓qc,↓qf,↓qa,hwi];try simp only[QT]
    exact⟨⟨i+1,A3++[[125]],rv16,rp16,h16⟩,by first|rfl|(rw[hpe];rfl),Vk _,⟨hi',hS16,hrow16,hG16,by simp only;rw[hg16,hX]⟩,by simp only;omega⟩
 ·try simp only[qG]at hb1
  have hin:i=qs.length:=by omega
  rw[hin,Vd]at hg;have hgR:R=A:=by rw[hg];simp
  refine QC ?_;change Awp _ _ _ _ _ _ _;refine awp_rseq [2] (by rfl) fun K hK=>?_;simp+decide only[Xh,↓qc,↓qa];apply hK;clear hK K;refine qV ?_;refine Qk (qA (qC)) ?_;simp+decide only[Xn];exact⟨H,Vk _,rp,by rw[hgR];exact hrow,hG,hS⟩
theorem qnT(wz:World):∀(d:Nat) (h:AHeap) (v:AVal) (l:List StC),StsV wz d h v l->SmallS d l->TxS d l->(Zk d l).length<=1000000000000->ACall Tryz.prog wz 20 [v] h (qmA wz d h l)
 |0,h,v,l,hs,hsm,htx,hT=>by
  obtain⟨rfl,hv⟩:=sts0 hs;exact c_spelled0 wz h v hv
 |d+1,h,v,l,hs,hsm,htx,hT=>c_spelledS wz d h v l hs hsm htx hT fun h' v l hs hsm htx hT=>qnT wz d h' v l hs hsm htx hT
end Go.Proofs.YtgiadjbiimkbiaaGreatDoor
namespace Go.Stm
open Go.Col (Str)
open Go.Tok
end Go.Stm
namespace Go.AM
end Go.AM
namespace Go.Proofs.YtgiadjbiimkbiaaGreatDoor
open Go.AM
open Go.Proofs
open Go.Col (Str FaultC okF)
open Go.Tok (TokC)
open Go.Stm
open Go.RowKit (Below)
set_option maxRecDepth 100000
end Go.Proofs.YtgiadjbiimkbiaaGreatDoor
namespace Go.Stm
open Go.Col (Str FaultC okF)
open Go.Tok
set_option maxRecDepth 100000
theorem qdW(l:List TokC)(i j:Nat):(l.drop i).getD j noT=l.getD (i+j) noT:=by
 rw[Ko,Ko,Kq]
theorem qgm(l:List TokC)(i j:Nat):j<(l.drop i).length↔i+j<l.length:=by rw[K7];omega
theorem isAt_drop(l:List TokC)(i j:Nat)(w:Str):qgD (l.drop i) j w=qgD l (i+j) w:=by
 unfold qgD;rw[qdW];by_cases h:i+j<l.length
 ·rw[if_pos ((qgm l i j).2 h),if_pos h]
 ·rw[if_neg (fun q=>h ((qgm l i j).1 q)),if_neg h]
theorem qfy(l:List TokC)(i:Nat):∀(ws:List Str) (j:Nat),Ww l ws (i+j)=(Ww (l.drop i) ws j).map (i+ ·)
 |[],j=>rfl
 |w::ws,j=>by
  rw[Ww,Ww,isAt_drop];split
  ·rw[Kw,qfy l i ws (j+1)]
  ·split
   ·rfl
   ·exact qfy l i ws j
theorem fitsE_drop(l:List TokC)(i:Nat)(f:Str):UE l i f=UE (l.drop i) 0 f:=by
 unfold UE;have:=qfy l i (Lib.fields f) 0;rw[K8]at this;rw[this];cases Ww (l.drop i) (Lib.fields f) 0 with
 |none=>rfl
 |some j=>simp
theorem qhG(l:List TokC)(i:Nat)(F:Str):Qs l i F=Qs (l.drop i) 0 F:=by
 unfold Qs;simp only[fitsE_drop l i]
theorem qrK(l:List TokC)(i:Nat):isE l i=isE (l.drop i) 0:=by
 unfold isE;rw[qdW,K8];by_cases h:i<l.length
 ·rw[if_pos h,if_pos ((qgm l i 0).2 (by omega))]
 ·rw[if_neg h,if_neg (fun q=>h (by have:=(qgm l i 0).1 q;omega))]
theorem qrJ(l:List TokC)(i:Nat):isV l i=isV (l.drop i) 0:=by
 unfold isV;rw[qdW,K8];by_cases h:i<l.length
 ·rw[if_pos h,if_pos ((qgm l i 0).2 (by omega))]
 ·rw[if_neg h,if_neg (fun q=>h (by have:=(qgm l i 0).1 q;omega))]
theorem qnO(l:List TokC)(i:Nat):qav l i=qav (l.drop i) 0:=by
 unfold qav;rw[qdW,K8]
theorem drop_next{l:List TokC}{i:Nat}{t:TokC}{R:List TokC}(h:l.drop i=t::R):l.drop (i+1)=R:=by
 have:=congrArg (List.drop 1) h;rw[El]at this;exact this
theorem drop_head{l:List TokC}{i:Nat}{t:TokC}{R:List TokC}(h:l.drop i=t::R):l.getD i noT=t:=by
 have:=qdW l i 0;rw[h,K8]at this;exact this.symm
def TEf:Str:=[84,72,69,78,59,69,76,83,69]
def EVf:Str:=[87,72,69,78,32,79,84,72,69,82,59,87,72,69,78]
def UNTILw:Str:=[85,78,84,73,76]
def Aw:Str:=[65]
def Bw:Str:=[66]
def nestF:List Str:=[[],TEf,EVf]
structure WordAt(l:List TokC)(i:Nat):Prop where
 e:isE l i=false
 n:qav l i=[]
 v:isV l i=false
 f:∀F∈nestF,(Qs l i F).2=0
theorem nestF_all{p:Str->Prop}(h0:p [])(h1:p TEf)(h2:p EVf):∀F∈nestF,p F:=fun F hF=>by
 simp only[nestF,KY,List.not_mem_nil,or_false]at hF;rcases hF with rfl|rfl|rfl<;>assumption
theorem word_at{l:List TokC}{i:Nat}{w:Str}{a b:Int}{c:Bool}{R:List TokC}(h:l.drop i=⟨1,w,a,b,c⟩::R)(hw:w=Aw\/w=UNTILw\/w=Bw):WordAt l i:=by
 rcases hw with rfl|rfl|rfl;all_goals refine⟨by rw[qrK,h];kernel_rfl,by rw[qnO,h];kernel_rfl,by rw[qrJ,h];kernel_rfl,nestF_all ?_ ?_ ?_⟩
 all_goals (rw[qhG,h];kernel_rfl)
theorem Uw(O:List Str)(F:Str):(O++[F]).getLastD []=F:=by simp
theorem tok_plain{l:List TokC}{c:Cur}{i:Nat}{ph:Str}(hb:c.bodies=[])(h:(Qs l i ph).2=0):WS l c ph i= .ok {c with phrases:=qhu c.phrases (l.getD i noT)} (i+1):=by
 unfold WS;rw[if_neg (by rw[hb];simp),if_pos h]
section
variable {l:List TokC} {d i:Nat} {O:List Str}
theorem one_at{u:TokC}{R:List TokC}{a b:Int}{c:Bool}(hu:u=⟨2,[49],a,b,c⟩)(h:l.drop i=u::R):isE l i=false/\isV l i=false/\qav l i=[]/\(Qs l i EVf).2=0:=by
 subst hu;refine⟨by rw[qrK,h];kernel_rfl,by rw[qrJ,h];kernel_rfl,by rw[qnO,h];kernel_rfl,by rw[qhG,h];kernel_rfl⟩
end
section
variable {l:List TokC} {d i:Nat} {O:List Str}
end
def kt(t:TokC):UInt8×Str:=(t.kind,t.text)
section
variable {ta:List TokC} {x y z u:UInt8×Str}
end
end Go.Stm
namespace Go.Stm
open Go.Col (Str)
open Go.Tok
theorem qiZ{α β γ:Type}{f:α->α->Bool}{qs:List (α×β)}{ts:List (α×γ)}{j:Nat}{d:α×β}{e:α×γ}(hq:j<qs.length)(ht:j<ts.length):
 rowE f ((qs.drop j).map (·.1)) ((ts.drop j).map (·.1))=(f (qs.getD j d).1 (ts.getD j e).1 && rowE f ((qs.drop (j+1)).map (·.1)) ((ts.drop (j+1)).map (·.1))):=by
 rw[Ve hq,Ve ht,Ke,Ke,rowE];simp[Ko,hq,ht]
theorem qol{α:Type}{f:α->α->Bool}{a b:List α}(h:a.length≠b.length):rowE f a b=false:=by
 cases e:rowE f a b with
 |false=>rfl
 |true=>exact absurd (qls e) h
def qhK(m:Nat)(x y:BodC):Bool:=decide (x.1=y.1) && (Wo x.2.1 y.2.1 && qal m x.2.2 y.2.2)
def qnn(m:Nat)(s t:StC):Bool:=decide (s.verb=t.verb) && (rowE qbA s.phrases t.phrases && rowE (qhK m) s.bodies t.bodies)
theorem sameE_eq(m:Nat)(a b:List StC):qal (m+1) a b=rowE (qnn m) a b:=rfl
end Go.Stm
namespace Go.Proofs.YtgiadjbiimkbiaaGreatDoor
open Go.AM
open Go.Proofs
open Go.Col (Str FaultC okF)
open Go.Tok (TokC)
open Go.Stm
open Go.RowKit (Below)
set_option maxRecDepth 100000
structure SaG where
 j:Nat
 H:AHeap
theorem c_same0(wz:World)(d:Nat)(h:AHeap)(v w:AVal)(b:List StC)(hv:IsL wz h 5 v [])(hw:StsV wz d h w b):ACall Tryz.prog wz 39 [v,w] h (fun r h'=>r= .bool (qal 0 [] b)/\Sub h h'):=by
 have nL:∀H:AHeap,Ze Tryz.prog H 45 v=⟨True, .int .i64 0⟩:=fun H=>hv.len Tryz.underlying45 H;have nW:=qdc hw;have hlv:=hv.live;have hlw:=hw.shape.1;have hR:qal 0 [] b=decide ([].length=b.length):=rfl;rw[hR];refine qP (n:=118) (rs:=[.tmp 4]) Tryz.func39 rfl rfl rfl rfl (V7 rfl) ?_;simp only[qU];refine awp_rseq [0,1] (by rfl) fun K hK=>?_;simp+decide only[qJ,↓qa];apply hK;clear hK K;refine qo ?_;refine awp_rseq [0,1,17] (by rfl) fun K hK=>?_;simp+decide only[QH,qF,Qm,UR,↓qc,↓Qr,↓qf,nL,nW];apply hK;clear hK K;refine qz (b:=_) rfl (fun hb1=>?_) (fun hb1=>?_)
 ·try simp only[qG]at hb1
  refine awp_rseq [4] (by rfl) fun K hK=>?_;simp+decide only[qJ,↓qa];apply hK;clear hK K;refine qV ?_;try simp only[Xz]
  refine QL h zqC (qA (qC)) ?_;simp+decide only[Xn];refine⟨?_,Vk _⟩
  (rw[decide_eq_false (by simp only[JF];omega)];done)
 ·try simp only[qG]at hb1
  have hb0:b.length=0:=by omega
  refine qE ?_;change Awp _ _ _ _ _ _ _;refine qo ?_;refine awp_rseq [1,18,19,20] (by rfl) fun K hK=>?_;simp+decide only[Qw,Qm,↓qc,↓Qr,nL];apply hK;clear hK K;refine qK ?_;refine QD [1,18,19,20] (fun z:Unit=>[(1,w),(18,v),(19, .int .i64 0),(20, .int .i64 0)]) (fun z:Unit=>h) (fun z:Unit=>True) (fun z:Unit=>0) () (by rfl) (Vk _) trivial ?_;intro z _;refine awp_rseq [1,18,19,20,21] (by rfl) fun K hK=>?_;simp+decide only[Zp,YT,↓qf];apply hK;clear hK K;refine qo (qz (b:=_) rfl (fun hb2=>?_) (fun hb2=>?_))
  ·cases hb2
  ·try simp only[qG]at hb2
   refine QC ?_;change Awp _ _ _ _ _ _ _;refine awp_rseq [4] (by rfl) fun K hK=>?_;simp+decide only[qJ,↓qa];apply hK;clear hK K;refine qV ?_;refine QL h zqC (qA (qC)) ?_;simp+decide only[Xn];refine⟨?_,Vk _⟩
   (rw[hb0];rfl)
set_option maxHeartbeats 16000000 in
theorem c_sameS(wz:World)(m d:Nat)(h:AHeap)(v w:AVal)(a b:List StC)(hs:StsV wz (m+1) h v a)(hw:StsV wz d h w b)(hsm:SmallS (m+1) a)(hsw:SmallS d b)
 (ih:∀(h':AHeap) (v w:AVal) (a b:List StC),StsV wz m h' v a->StsV wz (d-1) h' w b->SmallS m a->SmallS (d-1) b->ACall Tryz.prog wz 39 [v,w] h' (fun r h''=>r= .bool (qal m a b)/\Sub h' h'')):
 ACall Tryz.prog wz 39 [v,w] h (fun r h'=>r= .bool (qal (m+1) a b)/\Sub h h'):=by
 obtain⟨qs,hqe,hqL,hels⟩:=qhE hs hsm;obtain⟨ts,hte,htL,htls⟩:=qhE hw hsw;rw[Ed]at hels;have nL:=qlk hqL;have nW:=qlk htL;have hlv:=hqL.live;have hlw:=htL.live;have hln:qs.length<=1000000:=by have:=hsm.len;rw[hqe,Jp]at this;exact this
 have hR:qal (m+1) a b=rowE (qnn m) ((qs.drop 0).map (·.1)) ((ts.drop 0).map (·.1)):=by rw[sameE_eq,hqe,hte];rfl
 obtain⟨R,hRR⟩:∃R,R=qal (m+1) a b:=⟨_,rfl⟩
 rw[<-hRR]at hR|-
 refine qP (n:=118) (rs:=[.tmp 4]) Tryz.func39 rfl rfl rfl rfl (V7 rfl) ?_;simp only[qU];refine awp_rseq [0,1] (by rfl) fun K hK=>?_;simp+decide only[qJ,↓qa];apply hK;clear hK K;refine qo ?_;refine awp_rseq [0,1,17] (by rfl) fun K hK=>?_;simp+decide only[QH,qF,Qm,UR,↓qc,↓Qr,↓qf,nL,nW];apply hK;clear hK K;refine qz (b:=_) rfl (fun hb1=>?_) (fun hb1=>?_)
 ·try simp only[qG]at hb1
  refine awp_rseq [4] (by rfl) fun K hK=>?_;simp+decide only[qJ,↓qa];apply hK;clear hK K;refine qV ?_;try simp only[Xz]
  refine QL h zqC (qA (qC)) ?_;simp+decide only[Xn];refine⟨?_,Vk _⟩;rw[hR,qol (by simp only[Jp,Vp];omega)]
 ·try simp only[qG]at hb1
  have heq:ts.length=qs.length:=by omega
  refine qE ?_;change Awp _ _ _ _ _ _ _;refine qo ?_;refine awp_rseq [1,18,19,20] (by rfl) fun K hK=>?_;simp+decide only[Qw,Qm,↓qc,↓Qr,nL];apply hK;clear hK K;refine qK ?_;refine QD [1,18,19,20] (fun g:SaG=>[(1,w),(18,v),(19, .int .i64 qs.length),(20, .int .i64 g.j)]) (fun g:SaG=>g.H) (fun g:SaG=>Sub h g.H/\g.j<=qs.length/\R=rowE (qnn m) ((qs.drop g.j).map (·.1)) ((ts.drop g.j).map (·.1))) (fun g:SaG=>qs.length-g.j) ⟨0,h⟩ (by rfl) (Vk _) ⟨Vk _,Js _,hR⟩ ?_;rintro⟨j,H⟩ ⟨hs_H,hj,hg⟩;simp only at hs_H hj hg|-
  refine awp_rseq [1,18,19,20,21] (by rfl) fun K hK=>?_;simp+decide only[Zp,YT,↓qf];apply hK;clear hK K;refine qo (qz (b:=_) rfl (fun hb2=>?_) (fun hb2=>?_))
  ·try simp only[qG]at hb2
   have hj1:j<qs.length:=by omega
   have hj2:j<ts.length:=by omega
   obtain⟨q,hqj⟩:∃q,q=qs.getD j qgB:=⟨_,rfl⟩
   obtain⟨t,htj⟩:∃t,t=ts.getD j qgB:=⟨_,rfl⟩
   have hqm:q∈qs:=by rw[hqj,Ko,JD hj1];exact VY hj1
   have htm:t∈ts:=by rw[htj,Ko,JD hj2];exact VY hj2
   obtain⟨lc,o,cc,hpe⟩:=qhH hqL (by omega);obtain⟨lw,ow,cw,hwe⟩:=qhH htL (by omega);have hq2:=hqL.mono hs_H;rw[hpe]at hq2;obtain⟨e0,e1,e2,e3,e4⟩:=qgI hq2 hj1;rw[<-hqj]at e0 e1 e2 e3 e4;have gq:∀(k:Nat) (X:Blk),H k=none->rd wz (H.set k X) lw (ow+j*5)= .str t.1.verb/\rd wz (H.set k X) lw (ow+j*5+1)= .int .i64 t.1.line/\rd wz (H.set k X) lw (ow+j*5+2)= .int .i64 t.1.col/\rd wz (H.set k X) lw (ow+j*5+3)=t.2.1/\rd wz (H.set k X) lw (ow+j*5+4)=t.2.2:=fun k X hk=>by
    have ht2:=htL.mono (hs_H.trans (Vl (b:=X) hk));rw[hwe]at ht2;rw[htj];exact qgI ht2 hj2
   obtain⟨hph,hbd,hbn,hpn,hpt,hbb⟩:=hels q hqm;obtain⟨hphT,hbdT,hbnT,hpnT,hptT,hbbT⟩:=htls t htm;have hst:=qiZ (f:=qnn m) (d:=qgB) (e:=qgB) hj1 hj2;rw[<-hqj,<-htj]at hst;rw[hst]at hg;have hl1:=hph.live;have hs1:=hph.scal;have hl2:=hbd.live;have hs2:=hbd.scal;have hl3:=hphT.live;have hs5:=hs1;have hs6:=hs1;have hs7:=hs1;have hs8:=hs1;have hs3:=hphT.scal;have hl4:=hbdT.live;have hs4:=hbdT.scal;obtain⟨pl,hpl,hpq,hpr⟩:=id hph;obtain⟨ul,hul,huq,hur⟩:=id hphT;obtain⟨ql,hql,hqb,hqq⟩:=id hbd;obtain⟨tl,htl,htb,htq⟩:=id hbdT;have np:=qlA hpq;have nu:=qlA huq;have nb:=qfH hqb;have nt:=qfH htb;have hbn2:ql.length<=1000000:=by rw[hql,Jp]at hbn;exact hbn
   have hpn2:pl.length<=1000000:=by rw[hpl,Jp]at hpn;exact hpn
   obtain⟨⟨qv,qln,qcl,qps,qbs⟩,qp,qb⟩:=q;obtain⟨⟨tv,tln,tcl,tps,tbs⟩,tp,tb⟩:=t;simp only[Ep,StC.line,StC.col,En,Eo]at e0 e1 e2 e3 e4 gq hl1 hs1 hl2 hs2 hl3 hs3 hl4 hs4 hs5 hs6 hs7 hs8 np nu nb nt hpq huq hqb htb hpl hul hql htl hbb hbbT hpt hptT hpr hur hqq htq hg;obtain⟨X,hX⟩:∃X,X=rowE (qnn m) ((qs.drop (j+1)).map (·.1)) ((ts.drop (j+1)).map (·.1)):=⟨_,rfl⟩
   rw[<-hX]at hg;have hwj:IntKind.i64.wrap ((j:Int)+1)=((j+1:Nat):Int):=by rw[wrap_i64 (by omega) (by omega)];omega
   have hgS:R=((decide (qv=tv) && (rowE qbA ((pl.drop 0).map (·.1)) ((ul.drop 0).map (·.1)) && rowE (qhK m) ((ql.drop 0).map (·.1)) ((tl.drop 0).map (·.1)))) && X):=by rw[hg,qnn];simp only[Ep,En,Eo];rw[hpl,hul,hql,htl];rfl
   refine qE ?_;change Awp _ _ _ _ _ _ _;refine qo ?_;refine qK ?_;refine awp_rseq [1,5,6,18,19,20] (by rfl) fun K hK=>?_;simp+decide only[Qw,Vz,Xa,QN,↓qc,↓qI,qh Tryz.underlying45 UJ,↓qj,Qa qiH UJ,hpe,e0,e1,e2,e3,e4,hl1,hl2];repeat (with_reducible refine zqP ?_)
   refine Qz qoc (cs:=[.str [], .int .i64 0, .int .i64 0, .nilSlice, .nilSlice]) (by rfl) fun k5q3 hk5q3=>?_;have hn_5q3:H k5q3=none:=by first|assumption|(simp only[Bi]at hk5q3;simp only[hk5q3])
   have hf_5q3:h k5q3=none:=Bj hs_H hn_5q3;simp+decide only[qJ,Vz,QN,↓qa];refine qN (by rfl) (by rfl) zqA UJ (by rfl) (by rfl) zqD (Js _) (by first|rfl|(simp+decide only[ZJ,Qu,hs1,hs2,WU,ZM])) ?_;simp only[QZ,Bn];simp+decide only[Zg,QN,Nat.reduceAdd];apply hK;clear hK K;refine awp_rseq [1,6,7,18,19,20] (by rfl) fun K hK=>?_;simp+decide only[Qw,Vz,Xa,QN,↓qc,↓qI,qh Tryz.underlying45 UJ,↓qj,Qa qiH UJ,hwe,(gq k5q3 _ hk5q3).1,(gq k5q3 _ hk5q3).2.1,(gq k5q3 _ hk5q3).2.2.1,(gq k5q3 _ hk5q3).2.2.2.1,(gq k5q3 _ hk5q3).2.2.2.2,hl3,hl4];repeat (with_reducible refine zqP ?_)
   refine Qz qoc (cs:=[.str [], .int .i64 0, .int .i64 0, .nilSlice, .nilSlice]) (by rfl) fun k6q4 hk6q4=>?_;have ne_6q4_5q3:k6q4≠k5q3:=by simp only[Bi]at hk6q4;simp only[Ua,hk6q4]
   have hn_6q4:H k6q4=none:=by first|assumption|(simp only[Bi]at hk6q4;simp only[hk6q4])
   have hf_6q4:h k6q4=none:=Bj hs_H hn_6q4;refine qN (by rfl) (by rfl) zqA UJ (by rfl) (by rfl) zqD (Js _) (by first|rfl|(simp+decide only[ZJ,Qu,hs3,hs4,WU,ZM])) ?_;simp only[QZ,Bn];simp+decide only[Zg,QN,Nat.reduceAdd];apply hK;clear hK K;refine qo ?_;refine awp_rseq [1,6,7,18,19,20,51] (by rfl) fun K hK=>?_;simp+decide only[QH,Zn,Qe,qF,Yh,YS,Qb,Wi,Xk,Yw,UR,qan,↓qg,qcS,↓qj,qd ag9,↓qf,↓qc,↓QR,YR,qY,qZ,qW,↓XP,qd qec,↓qcW,qho,qhp,↓QI,↓QE,Wh,qd qeb,ne_6q4_5q3.symm,np,nu,nb,nt,hl1,hl2,hl3,hl4];apply hK;clear hK K;refine qz (b:=_) rfl (fun hb3=>?_) (fun hb3=>?_)
   ·try simp only[qG]at hb3
    refine awp_rseq [4] (by rfl) fun K hK=>?_;simp+decide only[qJ,↓qa];apply hK;clear hK K;refine qV ?_;try simp only[Xz]
    refine Qk (qA (qC)) ?_;simp+decide only[Xn];refine⟨h,zqB,?_,Vk _⟩;rw[hgS];by_cases z1:qv=tv
    ·by_cases z2:pl.length=ul.length
     ·have z3:ql.length≠tl.length:=fun z3=>by simp[z1,z2,z3]at hb3
      rw[qol (f:=qhK m) (by simpa using z3),VM,VM,VI]
     ·rw[qol (f:=qbA) (by simpa using z2),VI,VM,VI]
    ·rw[decide_eq_false z1,VI,VI]
   ·try simp only[qG]at hb3
    obtain⟨⟨z1,z2⟩,z3⟩:=hb3;have z2:pl.length=ul.length:=by omega
    have z3:ql.length=tl.length:=by omega
    rw[decide_eq_true z1,Vz]at hgS;refine qE ?_;change Awp _ _ _ _ _ _ _;refine qo ?_;refine awp_rseq [1,6,7,18,19,20,53,54,55] (by rfl) fun K hK=>?_;simp+decide only[ZU,Qm,↓qg,YR,↓qj,qd qec,↓Qr,↓qc,ne_6q4_5q3.symm,np,hl1];apply hK;clear hK K;refine qK ?_;refine QD [1,6,7,18,19,20,53,54,55] (fun g:SaG=>[(1,w),(6, .ptr (.own k5q3) 0),(7, .ptr (.own k6q4) 0),(18,v),(19, .int .i64 qs.length),(20, .int .i64 j),(53,qp),(54, .int .i64 pl.length),(55, .int .i64 g.j)]) (fun g:SaG=>g.H) (fun g:SaG=>Sub h g.H/\g.H k5q3=some ⟨[.str qv, .int .i64 qln, .int .i64 qcl,qp,qb],0⟩/\g.H k6q4=some ⟨[.str tv, .int .i64 tln, .int .i64 tcl,tp,tb],0⟩/\g.j<=pl.length/\R=((rowE qbA ((pl.drop g.j).map (·.1)) ((ul.drop g.j).map (·.1)) && rowE (qhK m) ((ql.drop 0).map (·.1)) ((tl.drop 0).map (·.1))) && X)) (fun g:SaG=>pl.length-g.j) ⟨0,_⟩ (by first|rfl|(rw[hpe,hwe];rfl)) (Vk _) ⟨zqB,zqA,zqA,Js _,hgS⟩ ?_;rintro⟨a,H2⟩ ⟨hs_H2,eb_5q3,eb_6q4,ha,hga⟩;simp only at hs_H2 eb_5q3 eb_6q4 ha hga|-
    refine awp_rseq [1,6,7,18,19,20,53,54,55,56] (by rfl) fun K hK=>?_;simp+decide only[Zp,YT,↓qf];apply hK;clear hK K;refine qo (qz (b:=_) rfl (fun hb4=>?_) (fun hb4=>?_))
    ·try simp only[qG]at hb4
     have ha1:a<pl.length:=by omega
     have ha2:a<ul.length:=by omega
     obtain⟨p,hpj⟩:∃p,p=pl.getD a qfp:=⟨_,rfl⟩
     obtain⟨u,huj⟩:∃u,u=ul.getD a qfp:=⟨_,rfl⟩
     have hpm:p∈pl:=by rw[hpj,Ko,JD ha1];exact VY ha1
     have hum:u∈ul:=by rw[huj,Ko,JD ha2];exact VY ha2
     obtain⟨lp,op,cp,hpp⟩:=qdg hpq (by omega);obtain⟨lu,ou,cu,hup⟩:=qdg huq (by omega);have hp2:=hpq.mono hs_H2;rw[hpp]at hp2;obtain⟨f0,f1⟩:=qfl hp2 ha1;rw[<-hpj]at f0 f1;have gu:∀(k:Nat) (X:Blk),H2 k=none->rd wz (H2.set k X) lu (ou+a*2)= .str u.1.words/\rd wz (H2.set k X) lu (ou+a*2+1)=u.2:=fun k X hk=>by
      have ht2:=huq.mono (hs_H2.trans (Vl (b:=X) hk));rw[hup]at ht2;rw[huj];exact qfl ht2 ha2
     have hpk:=hpr p hpm;have huk:=hur u hum;have hpkl:p.1.toks.length<=1000000:=hpt _ (by rw[hpl];exact BL (f:=(·.1)) hpm);have hst2:=qiZ (f:=qbA) (d:=qfp) (e:=qfp) ha1 ha2;rw[<-hpj,<-huj]at hst2;rw[hst2]at hga;have hl5:=hpk.live;have hs5:=hpk.scal;have hl6:=huk.live;obtain⟨⟨pw,pt⟩,pv⟩:=p;obtain⟨⟨uw,ut⟩,uv⟩:=u;simp only[qbA]at f0 f1 gu hpk huk hpkl hl5 hs5 hl6 hga;have hwa:IntKind.i64.wrap ((a:Int)+1)=((a+1:Nat):Int):=by rw[wrap_i64 (by omega) (by omega)];omega
     refine qE ?_;change Awp _ _ _ _ _ _ _;refine qo ?_;refine qK ?_;refine awp_rseq [1,6,7,8,9,18,19,20,53,54,55] (by rfl) fun K hK=>?_;simp+decide only[Qw,Vz,Xa,QN,↓qc,↓qI,qh Tryz.underlying79 qcH,↓qj,Qa ag84 qcH,hpp,f0,f1,hl5];repeat (with_reducible refine zqP ?_)
     refine Qz ze84 (cs:=[.str [], .nilSlice]) (by rfl) fun k11q3 hk11q3=>?_;have hn_11q3:H2 k11q3=none:=by first|assumption|(simp only[Bi]at hk11q3;simp only[hk11q3])
     have hf_11q3:h k11q3=none:=Bj hs_H2 hn_11q3;have ne_11q3_5q3:k11q3≠k5q3:=Bl hn_11q3 eb_5q3;have ne_11q3_6q4:k11q3≠k6q4:=Bl hn_11q3 eb_6q4;simp+decide only[qJ,Vz,QN,↓qa];refine qN (by rfl) (by rfl) zqA qcH (by rfl) (by rfl) zqD (Js _) (by first|rfl|(simp+decide only[ZJ,Qu,hs5,ZM])) ?_;simp only[QZ,Bn];simp+decide only[Zg,QN];apply hK;clear hK K;refine qiE [1,6,7,18,19,20,53,54,55,80] mixed (by kernel_rfl) (by rfl) fun K hK=>?_;simp+decide only[XI,Vz,Xm,QN,Qe,qF,XF,qcm,Qb,qdA,qdz,qdy,qdw,qdv,qdu,qdp,qdo,qah,qag,ZN,qan,Zj,↓Yk,qoS,↓qek,qd ag9,YR,qd qec,↓qof,↓qhz,qh Tryz.underlying79 qcH,↓qpI,↓qhB,vgP,qkU,qcj,qY,qZ,qW,↓vg_load,qd qcn,↓vg_move,↓qhA,cv_iaddrl,cv_iaddrr,cp_iaddrl,cp_iaddrr,ne_11q3_6q4.symm,Ql eb_6q4,hup,(gu k11q3 _ hk11q3).1,(gu k11q3 _ hk11q3).2,hl5,hl6];repeat (with_reducible refine zqP ?_)
     refine qgW (V:= .bool (Wo pt ut)) (f:=_) (cap:=_) (xs:=_) (by first|rfl|(simp+decide only[ZZ,XT,XK,XJ])) (fun hg=>⟨rfl,?_⟩) (fun hg=>qsl wz _ pv uv pt ut (hpk.mono zqB) (huk.mono zqB) hpkl) ?_
     ·try simp+decide only[ZZ,Slots.put,putD,XT,qaH]at hg
      simp+decide only[Zo,absS,absV,Qe,XN,evs,JG,hg]
     simp+decide only[Zg,QN,Qe,XF,YS,qad,UB,Yc,qkk,qkj,↓vg_unOp,vgP,qkU,qY,qZ,qW,↓vp_pick];apply hK;clear hK K;refine qz (b:=_) rfl (fun hb5=>?_) (fun hb5=>?_)
     ·try simp only[qG]at hb5
      refine awp_rseq [4] (by rfl) fun K hK=>?_;simp+decide only[qJ,↓qa];apply hK;clear hK K;refine qV ?_;try simp only[Xz]
      refine Qk (qA (qC)) ?_;simp+decide only[Xn];refine⟨h,zqB,?_,Vk _⟩;rw[hga];by_cases y1:pw=uw
      ·have y2:Wo pt ut=false:=by simpa[y1]using hb5
       rw[y2,VM,VI,VI,VI]
      ·rw[decide_eq_false y1,VI,VI,VI,VI]
     ·try simp only[qG]at hb5
      obtain⟨y1,y2⟩:pw=uw/\Wo pt ut=true:=by
       refine⟨Classical.byContradiction fun z=>by simp[z]at hb5,?_⟩;cases z:Wo pt ut with
       |true=>rfl
       |false=>simp[z]at hb5
      rw[decide_eq_true y1,y2,Vz,Vz]at hga;refine qE ?_;change Awp _ _ _ _ _ _ _;refine QK [1,6,7,18,19,20,53,54,55] (by rfl) ?_;simp+decide only[QH,ZE,↓qf,↓qc,hwa];try simp only[QT]
      exact⟨⟨a+1,_⟩,by first|rfl|(rw[hpe,hwe,hpp];rfl),Vk _,⟨zqB,zqA,zqA,ha1,hga⟩,by simp only;omega⟩
    ·try simp only[qG]at hb4
     have haq:a=pl.length:=by omega
     rw[haq,Vd,Bq (by omega)]at hga;have hgB:R=(rowE (qhK m) ((ql.drop 0).map (·.1)) ((tl.drop 0).map (·.1)) && X):=hga;refine QC ?_;change Awp _ _ _ _ _ _ _;refine awp_rseq [1,7,18,19,20,83,84,85] (by rfl) fun K hK=>?_;simp+decide only[ZU,Qm,↓qg,Wh,↓qj,qd qeb,↓Qr,↓qc,Ql eb_5q3,nb,hl2];apply hK;clear hK K;refine qK ?_;refine QD [1,7,18,19,20,83,84,85] (fun g:SaG=>[(1,w),(7, .ptr (.own k6q4) 0),(18,v),(19, .int .i64 qs.length),(20, .int .i64 j),(83,qb),(84, .int .i64 ql.length),(85, .int .i64 g.j)]) (fun g:SaG=>g.H) (fun g:SaG=>Sub h g.H/\g.H k6q4=some ⟨[.str tv, .int .i64 tln, .int .i64 tcl,tp,tb],0⟩/\g.j<=ql.length/\R=(rowE (qhK m) ((ql.drop g.j).map (·.1)) ((tl.drop g.j).map (·.1)) && X)) (fun g:SaG=>ql.length-g.j) ⟨0,_⟩ (by first|rfl|(rw[hpe,hwe];rfl)) (Vk _) ⟨zqB,zqA,Js _,hgB⟩ ?_;rintro⟨a,H3⟩ ⟨hs_H3,eb_6q4,ha,hga⟩;simp only at hs_H3 eb_6q4 ha hga|-
     refine awp_rseq [1,7,18,19,20,83,84,85,86] (by rfl) fun K hK=>?_;simp+decide only[Zp,YT,↓qf];apply hK;clear hK K;refine qo (qz (b:=_) rfl (fun hb6=>?_) (fun hb6=>?_))
     ·try simp only[qG]at hb6
      have ha1:a<ql.length:=by omega
      have ha2:a<tl.length:=by omega
      obtain⟨p,hpj⟩:∃p,p=ql.getD a qff:=⟨_,rfl⟩
      obtain⟨u,huj⟩:∃u,u=tl.getD a qff:=⟨_,rfl⟩
      have hpm:p∈ql:=by rw[hpj,Ko,JD ha1];exact VY ha1
      have hum:u∈tl:=by rw[huj,Ko,JD ha2];exact VY ha2
      obtain⟨lp,op,cp,hpp⟩:=qds hqb (by omega);obtain⟨lu,ou,cu,hup⟩:=qds htb (by omega);have hp2:=hqb.mono hs_H3;rw[hpp]at hp2;obtain⟨f0,f1,f2⟩:=qgR hp2 ha1;rw[<-hpj]at f0 f1 f2;have gu:∀(k:Nat) (X:Blk),H3 k=none->rd wz (H3.set k X) lu (ou+a*3)= .str u.1.1/\rd wz (H3.set k X) lu (ou+a*3+1)=u.2.1/\rd wz (H3.set k X) lu (ou+a*3+2)=u.2.2:=fun k X hk=>by
       have ht2:=htb.mono (hs_H3.trans (Vl (b:=X) hk));rw[hup]at ht2;rw[huj];exact qgR ht2 ha2
      obtain⟨hpk,hps⟩:=hqq p hpm;obtain⟨huk,hus⟩:=htq u hum;obtain⟨hpkl,hpsm⟩:=hbb p.1 (by rw[hql];exact BL (f:=(·.1)) hpm);obtain⟨hukl,husm⟩:=hbbT u.1 (by rw[htl];exact BL (f:=(·.1)) hum);have hst2:=qiZ (f:=qhK m) (d:=qff) (e:=qff) ha1 ha2;rw[<-hpj,<-huj]at hst2;rw[hst2]at hga;have hl5:=hpk.live;have hs5:=hpk.scal;have hl6:=huk.live;have hs6:=huk.scal;obtain⟨hl7,hs7,-⟩:=hps.shape;obtain⟨hl8,hs8,-⟩:=hus.shape;obtain⟨⟨pw,pt,pL⟩,pv,pLv⟩:=p;obtain⟨⟨uw,ut,uL⟩,uv,uLv⟩:=u;simp only[qhK]at f0 f1 f2 gu hpk huk hps hus hpkl hpsm husm hl5 hs5 hl6 hs6 hl7 hs7 hl8 hs8 hga;have hwa:IntKind.i64.wrap ((a:Int)+1)=((a+1:Nat):Int):=by rw[wrap_i64 (by omega) (by omega)];omega
      refine qE ?_;change Awp _ _ _ _ _ _ _;refine qo ?_;refine qK ?_;refine awp_rseq [1,7,10,11,18,19,20,83,84,85] (by rfl) fun K hK=>?_;simp+decide only[Qw,Vz,Xa,QN,↓qc,↓qI,qh Tryz.underlying80 qbU,↓qj,Qa ag86 qbU,hpp,f0,f1,f2,hl5,hl7];repeat (with_reducible refine zqP ?_)
      refine Qz qob (cs:=[.str [], .nilSlice, .nilSlice]) (by rfl) fun k17q3 hk17q3=>?_;have hn_17q3:H3 k17q3=none:=by first|assumption|(simp only[Bi]at hk17q3;simp only[hk17q3])
      have hf_17q3:h k17q3=none:=Bj hs_H3 hn_17q3;have ne_17q3_6q4:k17q3≠k6q4:=Bl hn_17q3 eb_6q4;simp+decide only[qJ,Vz,QN,↓qa];refine qN (by rfl) (by rfl) zqA qbU (by rfl) (by rfl) zqD (Js _) (by first|rfl|(simp+decide only[ZJ,Qu,hs5,hs7,ZM])) ?_;simp only[QZ,Bn];simp+decide only[Zg,QN,Nat.reduceAdd];apply hK;clear hK K;refine awp_rseq [1,7,11,12,18,19,20,83,84,85] (by rfl) fun K hK=>?_;simp+decide only[Qw,Zn,QN,↓qg,Wh,↓qj,qd qeb,↓qc,↓qI,qh Tryz.underlying80 qbU,Qa ag86 qbU,ne_17q3_6q4.symm,Ql eb_6q4,hup,(gu k17q3 _ hk17q3).1,(gu k17q3 _ hk17q3).2.1,(gu k17q3 _ hk17q3).2.2,hl6,hl8];repeat (with_reducible refine zqP ?_)
      refine Qz qob (cs:=[.str [], .nilSlice, .nilSlice]) (by rfl) fun k18q5 hk18q5=>?_;have ne_18q5_17q3:k18q5≠k17q3:=by simp only[Bi]at hk18q5;simp only[Ua,hk18q5]
      have hn_18q5:H3 k18q5=none:=by first|assumption|(simp only[Bi]at hk18q5;simp only[hk18q5])
      have hf_18q5:h k18q5=none:=Bj hs_H3 hn_18q5;have ne_18q5_6q4:k18q5≠k6q4:=Bl hn_18q5 eb_6q4;refine qN (by rfl) (by rfl) zqA qbU (by rfl) (by rfl) zqD (Js _) (by first|rfl|(simp+decide only[ZJ,Qu,hs6,hs8,ZM])) ?_;simp only[QZ,Bn];simp+decide only[Zg,QN,Nat.reduceAdd];apply hK;clear hK K;have hss:=fun X Y=>ih ((H3.set k17q3 X).set k18q5 Y) pLv uLv pL uL (hps.mono zqB) (hus.mono zqB) hpsm husm;have y0:(pw=uw/\Wo pt ut=true)\/(pw=uw/\Wo pt ut=false)\/((¬pw=uw)/\∀z:Bool,(z && true)=z):=by
       by_cases y1:pw=uw
       ·cases y2:Wo pt ut with
        |true=>exact .inl ⟨y1,rfl⟩
        |false=>exact .inr (.inl ⟨y1,rfl⟩)
       ·exact .inr (.inr ⟨y1,J8⟩)
      rcases y0 with⟨y1,y2⟩|⟨y1,y2⟩|⟨y1,y2⟩
      all_goals
       refine awp_rseq [1,7,18,19,20,83,84,85,115] (by rfl) fun K hK=>?_;simp+decide only[XI,Zn,Qe,qF,XF,qcm,Qb,agP,Us,Yw,qan,↓qg,qlZ,↓qj,qd ag9,↓qf,↓qc,↓QR,qfB,qY,qZ,qW,↓XP,qd qcn,ne_18q5_17q3.symm,y1,hl5,hl6];first
       |(refine Ub (by rfl) ?_;refine QM (V:= .bool (Wo pt ut)) (by rfl) (by rfl) (qsl wz _ pv uv pt ut (hpk.mono zqB) (huk.mono zqB) hpkl) ?_)
       |(refine qgu (by rfl) (by rfl) ?_)
       simp+decide only[Qw,Zn,Qe,XF,Zf,Yw,UB,Yc,↓qbl,qY,qZ,qW,↓QE,↓qc,↓QR,qfA,↓XP,qd qjH,ne_18q5_17q3.symm,y2,hl7,hl8];first
       |(refine qgu (by rfl) (by rfl) ?_)
       |(refine Ub (by rfl) ?_
         refine qM (by rfl) (by rfl) (hss _ _) fun x19q18 h19q18 hx19q18=>?_;obtain⟨rfl,hs19⟩:=hx19q18;have hs19':Sub h h19q18:=Bt zqB hs19;have eb19:h19q18 k6q4=some ⟨[.str tv, .int .i64 tln, .int .i64 tcl,tp,tb],0⟩:=hs19 _ _ zqA)
       simp+decide only[qR,XU,XF,Zf,UB,Yc,↓qbl,qY,qZ,qW,↓QE];apply hK;clear hK K;refine qz (b:=_) rfl (fun hb7=>?_) (fun hb7=>?_)
       ·try simp only[qG]at hb7
        refine awp_rseq [4] (by rfl) fun K hK=>?_;simp+decide only[qJ,↓qa];apply hK;clear hK K;refine qV ?_;try simp only[Xz]
        refine Qk (qA (qC)) ?_;simp+decide only[Xn];refine⟨h,by first|exact hs19'|exact zqB,?_,Vk _⟩;congr 1;first
        |(have z:qal m pL uL=false:=by simpa using hb7
          rw[hga,y2,z];simp;done)
        |(rw[hga,y2];simp;done)
        |(rw[hga,decide_eq_false y1];simp;done)
       ·try (cases hb7;done)
        all_goals have z7:qal m pL uL=true:=by simpa using hb7
        all_goals have hgN:R=(rowE (qhK m) ((ql.drop (a+1)).map (·.1)) ((tl.drop (a+1)).map (·.1)) && X):=by rw[hga,decide_eq_true y1,y2,z7];rfl
        all_goals
         try simp only[qG]at hb7
         refine qE ?_;change Awp _ _ _ _ _ _ _;refine QK [1,7,18,19,20,83,84,85] (by rfl) ?_;simp+decide only[QH,ZE,↓qf,↓qc,hwa];try simp only[QT]
         exact⟨⟨a+1,h19q18⟩,by first|rfl|(rw[hpe,hwe,hpp];rfl),Vk _,⟨hs19',eb19,ha1,hgN⟩,by simp only;omega⟩
     ·try simp only[qG]at hb6
      have haq:a=ql.length:=by omega
      rw[haq,Vd,Bq (by omega)]at hga;have hgX:R=X:=hga;refine QC ?_;change Awp _ _ _ _ _ _ _;refine QK [1,18,19,20] (by rfl) ?_;simp+decide only[QH,ZE,↓qf,↓qc,hwj];try simp only[QT]
      exact⟨⟨j+1,H3⟩,by first|rfl|(rw[hpe,hwe];rfl),Vk _,⟨hs_H3,hj1,by rw[hgX,hX]⟩,by simp only;omega⟩
  ·try simp only[qG]at hb2
   have hjq:j=qs.length:=by omega
   rw[hjq,Vd,Bq (by omega)]at hg;refine QC ?_;change Awp _ _ _ _ _ _ _;refine awp_rseq [4] (by rfl) fun K hK=>?_;simp+decide only[qJ,↓qa];apply hK;clear hK K;refine qV ?_;refine Qk (qA (qC)) ?_;simp+decide only[Xn];refine⟨h,hs_H,?_,Vk _⟩;rw[hg];rfl
theorem c_same(wz:World):∀(m d:Nat) (h:AHeap) (v w:AVal) (a b:List StC),StsV wz m h v a->StsV wz d h w b->SmallS m a->SmallS d b->ACall Tryz.prog wz 39 [v,w] h (fun r h'=>r= .bool (qal m a b)/\Sub h h')
 |0,d,h,v,w,a,b,hs,hw,_,_=>by
  obtain⟨rfl,hv⟩:=sts0 hs;exact c_same0 wz d h v w b hv hw
 |m+1,d,h,v,w,a,b,hs,hw,hsm,hsw=>c_sameS wz m d h v w a b hs hw hsm hsw fun h' v w a b hs hw hsm hsw=>c_same wz m (d-1) h' v w a b hs hw hsm hsw
theorem c_Same(wz:World)(m d:Nat)(h:AHeap)(v w:AVal)(a b:List StC)(hs:StsV wz m h v a)(hw:StsV wz d h w b)(hsm:SmallS m a)(hsw:SmallS d b):ACall Tryz.prog wz 18 [v,w] h (fun r h'=>r= .bool (qnZ m a b)/\Sub h h'):=by
 have hlv:=hs.shape.1;have hlw:=hw.shape.1;have hR:qnZ m a b=(!WZ 32 a && (!WZ 32 b && qal m a b)):=rfl;rw[hR];refine qP (n:=18) (rs:=[.tmp 4]) Tryz.func18 rfl rfl rfl rfl (V7 rfl) ?_;simp only[qU];refine awp_rseq [0,1] (by rfl) fun K hK=>?_;simp+decide only[qJ,↓qa];apply hK;clear hK K;cases z1:WZ 32 a<;>cases z2:WZ 32 b;all_goals
  refine awp_rseq [4] (by rfl) fun K hK=>?_;simp+decide only[Qw,↓qc];refine qM (by rfl) (by rfl) (qpj wz 32 m _ v a (by decide) hs hsm) fun x1q1 h1q1 hx1q1=>?_;obtain⟨rfl,hs1⟩:=hx1q1;have hs_h1q1:Sub h h1q1:=Bt zqC hs1;have hr_h1q1:=hs_h1q1;simp+decide only[Qw,XU,XF,qcm,agP,Us,UB,Yc,↓qiG,↓qc,↓Xc,qY,qZ,qW,z1];first
  |(refine qgu (by rfl) (by rfl) ?_)
  |(refine Ub (by rfl) ?_
    refine qM (by rfl) (by rfl) (qpj wz 32 d _ w b (by decide) (hw.mono hs_h1q1) hsw) fun x1q5 h1q5 hx1q5=>?_;obtain⟨rfl,hs5⟩:=hx1q5;have hs5':Sub h h1q5:=hs_h1q1.trans hs5)
  simp+decide only[Qw,XU,XF,Zf,UB,Yc,↓qbl,qY,qZ,qW,↓QE,↓qc,↓Xc,z2];first
  |(refine qgu (by rfl) (by rfl) ?_)
  |(refine Ub (by rfl) ?_
    refine qM (by rfl) (by rfl) (c_same wz m d _ v w a b (hs.mono hs5') (hw.mono hs5') hsm hsw) fun x1q11 h1q11 hx1q11=>?_;obtain⟨rfl,hs11⟩:=hx1q11;have hs11':Sub h h1q11:=hs5'.trans hs11)
  simp+decide only[qJ,XT,qab,qar,qad,↓QE,↓qa];apply hK;clear hK K;refine qV ?_;refine Qk (qA (qC)) ?_;simp+decide only[Xn];refine⟨h,by assumption,?_,Vk _⟩;first|rfl|(simp[z1,z2];done)
end Go.Proofs.YtgiadjbiimkbiaaGreatDoor
namespace Go.Stm
open Go.Col (Str FaultC)
open Go.Tok
end Go.Stm
namespace Go.Proofs.YtgiadjbiimkbiaaGreatDoor
open Go.AM
open Go.Proofs
open Go.Col (Str FaultC okF)
open Go.Tok (TokC)
open Go.Stm
open Go.RowKit (Below)
set_option maxRecDepth 100000
end Go.Proofs.YtgiadjbiimkbiaaGreatDoor
namespace Go.Stm
open Go.Col (Str FaultC okF)
open Go.Tok
end Go.Stm
namespace Go.Stm
open Go.Col (Str FaultC okF)
open Go.Tok
set_option maxRecDepth 100000
theorem lawT_text(i j:Nat)(w:Str):qaU (qao i w)=qaU (qao j w):=by
 rw[qao,qao];by_cases a:w.getD 0 0=34
 ·rw[if_pos a,if_pos a];rfl
 ·rw[if_neg a,if_neg a]
  by_cases b:48<=w.getD 0 0/\w.getD 0 0<=57
  ·rw[if_pos b,if_pos b];rfl
  ·rw[if_neg b,if_neg b]
   by_cases c:w=[46]
   ·rw[if_pos c,if_pos c];rfl
   ·rw[if_neg c,if_neg c]
    split<;>rfl
theorem qju(a b:Str):Lib.fields (a++32::b)=Lib.fields a++Lib.fields b:=by
 have go:∀(a cur:Str),Lib.fieldsGo cur (a++32::b)=Lib.fieldsGo cur a++Lib.fieldsGo [] b:=by
  intro a;induction a with
  |nil=>
   intro cur;have h32:Lib.isSp 32=true:=by decide
   simp only[if_true,Jf,Lib.fieldsGo,h32];split<;>simp
  |cons c a ih=>
   intro cur;simp only[Kh,Lib.fieldsGo];split
   ·split
    ·exact ih []
    ·rw[ih []];simp
   ·exact ih _
 exact go a []
end Go.Stm
namespace Go.Stm
open Go.Col (Str FaultC okF)
open Go.Tok
open Go.Proofs.YtgiadjbiimkbiaaGreatDoor (asciiB TxS Short)
set_option maxRecDepth 100000
end Go.Stm
namespace Go.Stm
open Go.Col (Str FaultC okF)
open Go.Tok
open Go.Proofs.YtgiadjbiimkbiaaGreatDoor (asciiB)
set_option maxRecDepth 100000
theorem qir(a:Str){b:Str}(hb:b=[]\/∃Y,b=32::Y):Lib.fields (a++b)=Lib.fields a++Lib.fields b:=by
 rcases hb with rfl|⟨Y,rfl⟩
 ·rw[JG,show Lib.fields []=[]from rfl,JG]
 ·rw[qju]
  have:Lib.fields (32::Y)=Lib.fields Y:=by have:=qju [] Y;rw[Jf]at this;rw[this];rfl
  rw[this]
theorem flat_sp{l:List Str}(h:∀x∈l,∃Y,x=32::Y):l.flatten=[]\/∃Y,l.flatten=32::Y:=by
 cases l with
 |nil=>exact .inl rfl
 |cons x l=>
  obtain⟨Y,e⟩:=h x Jg;exact .inr ⟨Y++l.flatten,by rw[VS,e];rfl⟩
theorem qkg:∀{l:List Str},(∀x∈l,∃Y,x=32::Y)->Lib.fields l.flatten=(l.map Lib.fields).flatten
 |[],_=>rfl
 |x::l,h=>by
  have hl:∀y∈l,∃Y,y=32::Y:=fun y hy=>h y (Jh _ hy);rw[VS,qir x (flat_sp hl),qkg hl,Ke,VS]
def ktW(w:Str):UInt8×Str:=kt (qao 0 w)
theorem u8_cancel{a b c:UInt8}(h:a+b=a+c):b=c:=by
 have:=congrArg (fun x=>x-a) h;simpa using this
theorem lawT_kt(i:Nat)(w:Str):kt (qao i w)=ktW w:=by
 have:=lawT_text i 0 w;unfold ktW;simp only[List.cons.injEq,qaU]at this;simp only[kt,Prod.mk.injEq];exact⟨u8_cancel this.1,this.2⟩
theorem qrG:∀(ws:List Str) (p:Nat),(qbe p ws).map kt=ws.map ktW
 |[],_=>rfl
 |w::ws,p=>by rw[qbe,Ke,Ke,lawT_kt,qrG ws]
end Go.Stm
namespace Go.Stm
open Go.Col (Str FaultC okF)
open Go.Tok
set_option maxRecDepth 100000
def rowsT:List Str:=[[65,67,67,69,80,84,58,70,82,79,77,58],
 [65,68,68,58,84,79,59,71,73,86,73,78,71,58,40,79,78,41,32,83,73,90,69,32,69,82,82,79,82,59,78,79,84,32,40,79,78,41,32,83,73,90,69,32,69,82,82,79,82],
 [65,76,84,69,82,58,84,79,32,80,82,79,67,69,69,68,32,84,79,59,84,79,58],
 [67,65,76,76,58,85,83,73,78,71,58,40,79,78,41,32,69,88,67,69,80,84,73,79,78,59,78,79,84,32,40,79,78,41,32,69,88,67,69,80,84,73,79,78],
 [67,65,78,67,69,76,58,58],
 [67,76,79,83,69,58,58],
 [67,79,77,80,85,84,69,58,61,58,40,79,78,41,32,83,73,90,69,32,69,82,82,79,82,59,78,79,84,32,40,79,78,41,32,83,73,90,69,32,69,82,82,79,82],
 [67,79,78,84,73,78,85,69,58,58],
 [68,69,76,69,84,69,58,82,69,67,79,82,68,58,73,78,86,65,76,73,68,32,40,75,69,89,41,59,78,79,84,32,73,78,86,65,76,73,68,32,40,75,69,89,41],
 [68,73,83,80,76,65,89,58,85,80,79,78,59,91,87,73,84,72,93,32,78,79,32,65,68,86,65,78,67,73,78,71,58],
 [68,73,86,73,68,69,58,73,78,84,79,59,66,89,59,71,73,86,73,78,71,59,82,69,77,65,73,78,68,69,82,58,40,79,78,41,32,83,73,90,69,32,69,82,82,79,82,59,78,79,84,32,40,79,78,41,32,83,73,90,69,32,69,82,82,79,82],
 [69,86,65,76,85,65,84,69,58,58,87,72,69,78,59,87,72,69,78,32,79,84,72,69,82],
 [69,88,73,84,58,80,82,79,71,82,65,77,58],
 [71,69,78,69,82,65,84,69,58,58],
 [71,79,58,84,79,59,68,69,80,69,78,68,73,78,71,32,40,79,78,41,58],
 [71,79,66,65,67,75,58,58],
 [73,70,58,58,84,72,69,78,59,69,76,83,69],
 [73,78,73,84,73,65,76,73,90,69,58,58],
 [73,78,73,84,73,65,84,69,58,58],
 [73,78,83,80,69,67,84,58,58],
 [77,69,82,71,69,58,40,79,78,41,32,65,83,67,69,78,68,73,78,71,32,40,75,69,89,41,59,40,79,78,41,32,68,69,83,67,69,78,68,73,78,71,32,40,75,69,89,41,59,85,83,73,78,71,59,71,73,86,73,78,71,59,79,85,84,80,85,84,32,80,82,79,67,69,68,85,82,69,32,91,73,83,93,58],
 [77,79,86,69,58,84,79,58],
 [77,85,76,84,73,80,76,89,58,66,89,59,71,73,86,73,78,71,58,40,79,78,41,32,83,73,90,69,32,69,82,82,79,82,59,78,79,84,32,40,79,78,41,32,83,73,90,69,32,69,82,82,79,82],
 [79,80,69,78,58,73,78,80,85,84,59,79,85,84,80,85,84,59,73,45,79,59,69,88,84,69,78,68,58],
 [80,69,82,70,79,82,77,58,84,72,82,85,59,84,72,82,79,85,71,72,59,84,73,77,69,83,59,91,87,73,84,72,93,32,84,69,83,84,32,66,69,70,79,82,69,59,91,87,73,84,72,93,32,84,69,83,84,32,65,70,84,69,82,59,85,78,84,73,76,59,86,65,82,89,73,78,71,59,65,70,84,69,82,58],
 [82,69,65,68,58,78,69,88,84,32,91,82,69,67,79,82,68,93,59,82,69,67,79,82,68,59,73,78,84,79,59,75,69,89,32,91,73,83,93,58,40,65,84,41,32,69,78,68,59,78,79,84,32,40,65,84,41,32,69,78,68,59,73,78,86,65,76,73,68,32,40,75,69,89,41,59,78,79,84,32,73,78,86,65,76,73,68,32,40,75,69,89,41],
 [82,69,76,69,65,83,69,58,70,82,79,77,58],
 [82,69,84,85,82,78,58,82,69,67,79,82,68,59,73,78,84,79,58,40,65,84,41,32,69,78,68,59,78,79,84,32,40,65,84,41,32,69,78,68],
 [82,69,87,82,73,84,69,58,70,82,79,77,58,73,78,86,65,76,73,68,32,40,75,69,89,41,59,78,79,84,32,73,78,86,65,76,73,68,32,40,75,69,89,41],
 [83,69,65,82,67,72,58,86,65,82,89,73,78,71,58,40,65,84,41,32,69,78,68,59,78,79,84,32,40,65,84,41,32,69,78,68,59,87,72,69,78],
 [83,69,84,58,84,79,58],
 [83,79,82,84,58,40,79,78,41,32,65,83,67,69,78,68,73,78,71,32,40,75,69,89,41,59,40,79,78,41,32,68,69,83,67,69,78,68,73,78,71,32,40,75,69,89,41,59,85,83,73,78,71,59,71,73,86,73,78,71,59,79,85,84,80,85,84,32,80,82,79,67,69,68,85,82,69,32,91,73,83,93,59,73,78,80,85,84,32,80,82,79,67,69,68,85,82,69,32,91,73,83,93,58],
 [83,84,65,82,84,58,75,69,89,32,91,73,83,93,58,73,78,86,65,76,73,68,32,40,75,69,89,41,59,78,79,84,32,73,78,86,65,76,73,68,32,40,75,69,89,41],
 [83,84,79,80,58,82,85,78,58],
 [83,84,82,73,78,71,58,58,40,79,78,41,32,79,86,69,82,70,76,79,87,59,78,79,84,32,40,79,78,41,32,79,86,69,82,70,76,79,87],
 [83,85,66,84,82,65,67,84,58,70,82,79,77,59,71,73,86,73,78,71,58,40,79,78,41,32,83,73,90,69,32,69,82,82,79,82,59,78,79,84,32,40,79,78,41,32,83,73,90,69,32,69,82,82,79,82],
 [84,69,82,77,73,78,65,84,69,58,58],
 [85,78,83,84,82,73,78,71,58,58,40,79,78,41,32,79,86,69,82,70,76,79,87,59,78,79,84,32,40,79,78,41,32,79,86,69,82,70,76,79,87],
 [87,82,73,84,69,58,70,82,79,77,59,65,70,84,69,82,32,40,65,68,86,65,78,67,73,78,71,41,59,66,69,70,79,82,69,32,40,65,68,86,65,78,67,73,78,71,41,58,73,78,86,65,76,73,68,32,40,75,69,89,41,59,78,79,84,32,73,78,86,65,76,73,68,32,40,75,69,89,41]]
theorem rowsT_len:rowsT.length=39:=by decide
def opsT:List Str:=[[65],[66],[67,45,49],[49],[34,81,34]]
def QY(ops:List UInt8):Str:=((ops.take 4).map fun o=>32::opsT.getD (o.toNat%5) []).flatten
def qjN(w:Str)(bits:UInt8)(all:Bool)(i:Nat):Bool:=(decide (w.getD 0 0=91) && !all)||((decide (w.getD 0 0=91)||decide (w.getD 0 0=40)) && (all && decide (bits.toNat / 2^(i%8)%2=1)))
def Ui(bits:UInt8)(all:Bool):Nat->List Str->Str->Str
 |_,[],out=>out
 |i,w::ws,out=>Ui bits all (i+1) ws (if qjN w bits all i=true then out else out++[32]++Lib.trimS w qct)
def Zl(form:Str)(bits:UInt8)(all:Bool):Str:=Lib.trimSpace (Ui bits all 0 (Lib.fields form) [])
def Xj(form:Str):Str:=if form=qsE then qaP else if form=TOPTOw then TOw else if form=RECORDw then[]else Zl form 0 false
def Qc(s:Str):List Str:=if s=[]then[]else Xd 59 [] s
structure YC where
 form:UInt8
 ops:List UInt8
 short:UInt8
inductive XC where
 |mk (verb:UInt8) (p:List YC) (b:List (UInt8×List UInt8×List XC×UInt8)) (cut:Bool)
abbrev ZC:=UInt8×List UInt8×List XC×UInt8
def XC.verb:XC->UInt8| .mk v _ _ _=>v
def XC.p:XC->List YC| .mk _ p _ _=>p
def XC.b:XC->List ZC| .mk _ _ b _=>b
def XC.cut:XC->Bool| .mk _ _ _ c=>c
def noY:YC:=⟨0,[],0⟩
def noZ:ZC:=(0,[],[],0)
structure BuC where
 text:Str
 cur:Cur
def YB(b:BuC)(w:Str):BuC:={b with text:=b.text++[32]++w}
def qaj(ps:List PhrC)(ts:List TokC):List PhrC:=ps.dropLast++[⟨(ps.getLastD ⟨[],[]⟩).words,(ps.getLastD ⟨[],[]⟩).toks++ts⟩]
def QJ(forms:List Str)(b:BuC)(y:YC):BuC:=
 let form:=forms.getD (y.form.toNat%forms.length) []
 let b':=YB b (Zl form y.short true++QY y.ops)
 if Xj form=[]then{b' with cur:={b'.cur with phrases:=qaj b'.cur.phrases (Qh (QY y.ops))}}
 else{b' with cur:={b'.cur with phrases:=b'.cur.phrases++[⟨Xj form,Qh (QY y.ops)⟩]}}
def QV(x:XC)(verb:Str):Str:=
 let first:=if x.p=[]then[]else QY (x.p.getD 0 noY).ops
 if verb=IFv/\first=[]then[32,65]else first
def Xb(x:XC)(b:BuC)(forms:List Str):BuC:=
 let b1:=YB b (QV x b.cur.verb)
 let b2:={b1 with cur:={b1.cur with phrases:=[⟨[],Qh (QV x b.cur.verb)⟩]}}
 if forms=[]then b2 else((x.p.take 5).drop 1).foldl (QJ forms) b2
def qbt(b:BuC)(w:Str):Bool:=b.cur.phrases.any fun p=>decide (p.words=w)
def Ue(verb:Str):Bool:=decide (verb=IFv)||(decide (verb=qjK)||decide (verb=qpz))
def qeY(n:Str):Str:=59::(n++[59])
def XB(verb:Str)(forms:List Str)(z:ZC)(i:Nat):Str:=
 if Ue verb=true/\i=0 then(if verb=IFv then Wm else XW)
 else if forms=[]then[]else forms.getD (z.1.toNat%forms.length) []
def UL(seen form name:Str):Bool:=decide (form=[])||((!decide (name=XW) && Lib.contains seen (qeY name))||Lib.contains seen (qeY qfK))
def qbp(name:Str)(z:ZC):Str:=if name=XW then(if QY z.2.1=[]then[32,49]else QY z.2.1)else[]
def qak(form name:Str)(z:ZC):Str:=if name=Wm/\z.2.2.2.toNat%2=1 then[]else Zl form z.2.2.2 true
section
variable (B:List XC->Nat->Bool->Str×List StC)
def WP(b:BuC)(name ops:Str)(l:List XC)(depth:Nat)(last:Bool):BuC:=
 {text:=b.text++ops++(B l (depth+1) last).1,cur:={b.cur with bodies:=b.cur.bodies++[(name,Qh ops,(B l (depth+1) last).2)]}}
def Qn(x:XC)(forms:List Str)(depth:Nat)(last:Bool)(s:BuC×Str)(i:Nat):BuC×Str:=
 let z:=x.b.getD i noZ
 let form:=XB s.1.cur.verb forms z i
 let name:=Xj form
 if UL s.2 form name=true then s
 else(WP B (YB s.1 (qak form name z)) name (qbp name z) z.2.2.1 depth (last && (decide (i=3)||decide (x.b.length<=i+1))),s.2++[59]++name++[59])
def XH(x:XC)(b:BuC)(forms:List Str)(depth:Nat)(last:Bool):BuC:=
 let first:=(firstT b.cur.phrases).length
 if b.cur.verb=XY then
  if first=0\/(first=1/\qbt b qas=true/\qbt b qaP=false)then WP B b [] [] (x.b.getD 0 noZ).2.2.1 depth false else b
 else((KP (min 4 (max x.b.length (if Ue b.cur.verb=true then 1 else 0)))).foldl (Qn B x forms depth last) (b,[])).1
def rowOf(x:XC)(depth:Nat):List Str:=Xd 58 [] (rowsT.getD (if 4<depth then 21 else x.verb.toNat%39) [])
def QO(b:BuC)(verb:Str)(cut end_ last:Bool):Bool:=
 Lib.contains qgO ([32]++verb++[32]) && ((!decide (b.cur.bodies=[]) && (!last||(!cut||decide (verb=XY))))||(decide (b.cur.bodies=[]) && ((!last && end_)||cut)))
def QU(x:XC)(depth:Nat)(end_ last:Bool):BuC:=
 let row:=rowOf x depth
 let verb:=row.getD 0 []
 let b0:BuC:=⟨32::verb,⟨verb,0,0,[],[]⟩⟩
 let b2:=XH B x (Xb x b0 (Qc (row.getD 1 []))) (Qc (row.getD 2 [])) depth last
 if QO b2 verb x.cut end_ last=true then YB b2 (ENDw++verb)else b2
def Xw(l:List XC)(depth:Nat)(last:Bool):Nat->Str×List StC->Str×List StC
 |0,r=>r
 |n+1,r=>
  let i:=r.2.length
  if i<l.length/\i<4 then
   let e:=decide (i+1=l.length)||decide (i=3)
   let b:=QU B (l.getD i (.mk 0 [] [] false)) depth e (last && e)
   Xw l depth last n (r.1++b.text,r.2++[b.cur.done])
  else r
end
def contC:StC:= .mk [67,79,78,84,73,78,85,69] 0 0 [⟨[],[]⟩] []
def Qi:Nat->List XC->Nat->Bool->Str×List StC
 |0,_,_,_=>([],[])
 |f+1,l,depth,last=>
  let r:=Xw (Qi f) l depth last 4 ([],[])
  if r.2=[]then([32,67,79,78,84,73,78,85,69],[contC])else r
abbrev KT:=UInt8×Str
def At(l:List TokC):Nat->List KT->Prop
 |_,[]=>True
 |i,k::ks=>(i<l.length/\kt (l.getD i noT)=k)/\At l (i+1) ks
theorem At.app{l:List TokC}:∀{a b:List KT} {i:Nat},At l i (a++b)↔At l i a/\At l (i+a.length) b
 |[],b,i=>by simp[At]
 |k::a,b,i=>by
  rw[Kh,At,At,At.app,KZ,Kw,JI 1,and_assoc,and_assoc,and_assoc]
theorem At.one{l:List TokC}{i:Nat}{k:KT}:At l i [k]↔i<l.length/\kt (l.getD i noT)=k:=by simp[At]
theorem At.of_kt{l:List TokC}{a:List KT}(h:l.map kt=a):At l 0 a:=by
 have go:∀(a:List KT) (i:Nat),(l.drop i).map kt=a->At l i a:=by
  intro a;induction a with
  |nil=>intro i _;trivial
  |cons k a ih=>
   intro i h;cases hd:l.drop i with
   |nil=>rw[hd]at h;cases h
   |cons t r=>
    rw[hd]at h;simp only[Ke,List.cons.injEq]at h;have hlt:i<l.length:=by
     have:=congrArg Ee hd;rw[K7,KZ]at this;omega
    exact⟨⟨hlt,by rw[drop_head hd];exact h.1⟩,ih (i+1) (by rw[drop_next hd];exact h.2)⟩
 exact go a 0 h
def qoC(k:KT)(w:Str):Bool:=decide (k.2=w) && (decide (k.1=1)||(decide (w=[61]) && decide (k.1=5)))
theorem qoH{l:List TokC}{i:Nat}{k:KT}(h:i<l.length/\kt (l.getD i noT)=k)(w:Str):qgD l i w=qoC k w:=by
 unfold qgD qoC;rw[if_pos h.1,<-h.2];rfl
def Des(V:List Str)(l:List TokC):Nat->List (Option KT)->Prop
 |_,[]=>True
 |i,some k::ts=>(i<l.length/\kt (l.getD i noT)=k)/\Des V l (i+1) ts
 |i,none::ts=>(∀w∈V,qgD l i (Lib.trimS w qct)=false)/\Des V l (i+1) ts
def tokM(t:Option KT)(w:Str):Bool:=match t with
 |some k=>qoC k w
 |none=>false
def qin:List (Option KT)->List Str->Option (Option Nat)
 |_,[]=>some (some 0)
 |[],_::_=>none
 |t::ts,w::ws=>
  if tokM t (Lib.trimS w qct)=true then(qin ts ws).map (Option.map (· +1))
  else if Lib.trimS w qct=w then some none else qin (t::ts) ws
theorem qlT{V:List Str}{l:List TokC}:∀{ws:List Str} {ts:List (Option KT)} {i:Nat} {r:Option Nat},(∀w∈ws,w∈V)->Des V l i ts->qin ts ws=some r->Ww l ws i=r.map (i+ ·)
 |[],ts,i,r,_,_,h=>by
  rw[qin]at h;cases h;rfl
 |w::ws,[],i,r,_,_,h=>by rw[qin]at h;cases h
 |w::ws,t::ts,i,r,hV,hd,h=>by
  have hm:qgD l i (Lib.trimS w qct)=tokM t (Lib.trimS w qct):=by
   cases t with
   |none=>exact hd.1 w (hV w Jg)
   |some k=>exact qoH hd.1 _
  have hd':Des V l (i+1) ts:=by cases t with
   |none=>exact hd.2
   |some k=>exact hd.2
  rw[qin]at h;rw[Ww,hm];split at h
  ·rename_i h1
   rw[if_pos h1];cases hf:qin ts ws with
   |none=>rw[hf]at h;cases h
   |some r'=>
    rw[hf]at h;simp only[KI,Option.some.injEq]at h;rw[qlT (fun w hw=>hV w (Jh _ hw)) hd' hf,<-h];cases r' with
    |none=>rfl
    |some n=>simp only[KI,Option.some.injEq];omega
  ·rename_i h1
   rw[if_neg h1];split at h
   ·rename_i h2
    rw[if_pos h2];cases h;rfl
   ·rename_i h2
    rw[if_neg h2];exact qlT (fun w hw=>hV w (Jh _ hw)) hd h
def qnK(ts:List (Option KT)):List Str->Option (Str×Nat)
 |[]=>some ([],0)
 |f::fs=>match qin ts (Lib.fields f)with
  |none=>none
  |some none=>qnK ts fs
  |some (some n)=>if n=0 then qnK ts fs else some (qbj f,n)
def qfO(F:Str):List Str:=((qaW F).map Lib.fields).flatten
def qer(ts:List (Option KT))(F:Str):Option (Str×Nat):=qnK ts (qaW F)
theorem qbz{l:List TokC}{i:Nat}{ts:List (Option KT)}{F:Str}{r:Str×Nat}(hd:Des (qfO F) l i ts)(h:qer ts F=some r):Qs l i F=r:=by
 unfold Qs;have go:∀(fs:List Str),(∀f∈fs,f∈qaW F)->qnK ts fs=some r->(match fs.find? fun f=>decide (0<UE l i f)with
  |some f=>(qbj f,UE l i f)
  |none=>([],0))=r:=by
  intro fs;induction fs with
  |nil=>intro _ h;rw[qnK]at h;cases h;rfl
  |cons f fs ih=>
   intro hf h;have hfs:=ih fun g hg=>hf g (Jh _ hg);have hw:∀w∈Lib.fields f,w∈qfO F:=fun w hw=>Er.2 ⟨_,JM.2 ⟨f,hf f Jg,rfl⟩,hw⟩;rw[qnK]at h;rw[Br];cases hx:qin ts (Lib.fields f)with
   |none=>rw[hx]at h;cases h
   |some x=>
    have hg:=qlT hw hd hx;rw[hx]at h;cases x with
    |none=>
     have e:UE l i f=0:=by unfold UE;rw[hg];rfl
     rw[e];exact hfs h
    |some n=>
     have e:UE l i f=n:=by unfold UE;rw[hg];simp
     rw[e];simp only at h;by_cases hn:n=0
     ·rw[if_pos hn]at h
      rw[hn];exact hfs h
     ·rw[if_neg hn]at h
      cases h;rw[decide_eq_true (by omega)];simp only[e]
 exact go (qaW F) (fun f hf=>hf) h
def qik(k:KT)(F:Str):Bool:=(qfO F).all fun w=> !qoC k (Lib.trimS w qct)
def qdC(l:List TokC)(i:Nat)(F:Str):Prop:=∀w∈qfO F,qgD l i (Lib.trimS w qct)=false
theorem qhg{l:List TokC}{i:Nat}{k:KT}{F:Str}(h:i<l.length/\kt (l.getD i noT)=k)(hf:qik k F=true):qdC l i F:=fun w hw=>by
 rw[qoH h];have:=JB.1 hf w hw;simpa using this
theorem qrO{l:List TokC}{i:Nat}{F:Str}(h:isE l i=true):qdC l i F:=fun w hw=>by
 unfold isE at h;unfold qgD;by_cases hi:i<l.length
 ·rw[if_pos hi]at h|-
  have h6:=of_decide_eq_true h;rw[h6];simp
 ·rw[if_neg hi]
theorem Des.of_at{V:List Str}{l:List TokC}:∀{ks:List KT} {ts:List (Option KT)} {i:Nat},At l i ks->Des V l (i+ks.length) ts->Des V l i (ks.map some++ts)
 |[],ts,i,_,h=>by simpa using h
 |k::ks,ts,i,ha,h=>⟨ha.1,Des.of_at ha.2 (by rw[KZ]at h;rw[show i+1+ks.length=i+(ks.length+1) by omega];exact h)⟩
theorem Des.all{V:List Str}{l:List TokC}{ks:List KT}{i:Nat}(h:At l i ks):Des V l i (ks.map some):=by
 have:=Des.of_at (V:=V) (ts:=[]) h trivial
 rwa [JG]at this
theorem qlK{l:List TokC}{i:Nat}{k:KT}(h:i<l.length/\kt (l.getD i noT)=k):isE l i=decide (k.1=6):=by
 unfold isE;rw[if_pos h.1,<-h.2];rfl
def ktT(k:KT):TokC:=⟨k.1,k.2,0,0,false⟩
theorem qoG{l:List TokC}{i:Nat}{k:KT}(h:i<l.length/\kt (l.getD i noT)=k):isV l i=YN (ktT k):=by
 unfold isV;rw[if_pos h.1,<-h.2];rfl
theorem qpa{l:List TokC}{i:Nat}{k:KT}(h:i<l.length/\kt (l.getD i noT)=k):qav l i=qbE (ktT k):=by
 unfold qav;rw[<-h.2];rfl
structure Fm where
 form:Str
 canon:Str
 vars:List (List Str)
def qej:Str:=[65,68,86,65,78,67,73,78,71]
def qkT:Str:=[65,70,84,69,82]
def UH:Str:=[65,83,67,69,78,68,73,78,71]
def wAT:Str:=[65,84]
def qkB:Str:=[66,69,70,79,82,69]
def wBY:Str:=[66,89]
def qgV:Str:=[68,69,80,69,78,68,73,78,71]
def Ud:Str:=[68,69,83,67,69,78,68,73,78,71]
def wELSE:Str:=[69,76,83,69]
def qks:Str:=[69,78,68]
def qoe:Str:=[69,82,82,79,82]
def qei:Str:=[69,88,67,69,80,84,73,79,78]
def wEXTEND:Str:=[69,88,84,69,78,68]
def wEq:Str:=[61]
def wFROM:Str:=[70,82,79,77]
def qfS:Str:=[71,73,86,73,78,71]
def qsS:Str:=[73,78,80,85,84]
def wINTO:Str:=[73,78,84,79]
def qbT:Str:=[73,78,86,65,76,73,68]
def wIS:Str:=[73,83]
def wI_O:Str:=[73,45,79]
def qgA:Str:=[75,69,89]
def wNEXT:Str:=[78,69,88,84]
def wNO:Str:=[78,79]
def qgz:Str:=[78,79,84]
def wON:Str:=[79,78]
def wOTHER:Str:=[79,84,72,69,82]
def qhy:Str:=[79,85,84,80,85,84]
def qfR:Str:=[79,86,69,82,70,76,79,87]
def qby:Str:=[80,82,79,67,69,68,85,82,69]
def wPROCEED:Str:=[80,82,79,67,69,69,68]
def wPROGRAM:Str:=[80,82,79,71,82,65,77]
def Yj:Str:=[82,69,67,79,82,68]
def qsR:Str:=[82,69,77,65,73,78,68,69,82]
def wRUN:Str:=[82,85,78]
def wSIZE:Str:=[83,73,90,69]
def wTEST:Str:=[84,69,83,84]
def wTHEN:Str:=[84,72,69,78]
def wTHROUGH:Str:=[84,72,82,79,85,71,72]
def wTHRU:Str:=[84,72,82,85]
def wTIMES:Str:=[84,73,77,69,83]
def wTO:Str:=[84,79]
def wUNTIL:Str:=[85,78,84,73,76]
def wUPON:Str:=[85,80,79,78]
def qsP:Str:=[85,83,73,78,71]
def qpG:Str:=[86,65,82,89,73,78,71]
def wWHEN:Str:=[87,72,69,78]
def wWITH:Str:=[87,73,84,72]
def PT:List (Str×List Fm):=[([70,82,79,77],[⟨[70,82,79,77],[70,82,79,77],[[wFROM]]⟩]),
 ([84,79,59,71,73,86,73,78,71],[⟨[84,79],[84,79],[[wTO]]⟩,
   ⟨[71,73,86,73,78,71],[71,73,86,73,78,71],[[qfS]]⟩]),
 ([84,79,32,80,82,79,67,69,69,68,32,84,79,59,84,79],[⟨[84,79,32,80,82,79,67,69,69,68,32,84,79],[84,79],[[wTO,wPROCEED,wTO]]⟩,
   ⟨[84,79],[84,79],[[wTO]]⟩]),
 ([85,83,73,78,71],[⟨[85,83,73,78,71],[85,83,73,78,71],[[qsP]]⟩]),
 ([],[]),
 ([61],[⟨[61],[61],[[wEq]]⟩]),
 ([82,69,67,79,82,68],[⟨[82,69,67,79,82,68],[],[[Yj]]⟩]),
 ([85,80,79,78,59,91,87,73,84,72,93,32,78,79,32,65,68,86,65,78,67,73,78,71],[⟨[85,80,79,78],[85,80,79,78],[[wUPON]]⟩,
   ⟨[91,87,73,84,72,93,32,78,79,32,65,68,86,65,78,67,73,78,71],[78,79,32,65,68,86,65,78,67,73,78,71],[[wWITH,wNO,qej],[wNO,qej]]⟩]),
 ([73,78,84,79,59,66,89,59,71,73,86,73,78,71,59,82,69,77,65,73,78,68,69,82],[⟨[73,78,84,79],[73,78,84,79],[[wINTO]]⟩,
   ⟨[66,89],[66,89],[[wBY]]⟩,
   ⟨[71,73,86,73,78,71],[71,73,86,73,78,71],[[qfS]]⟩,
   ⟨[82,69,77,65,73,78,68,69,82],[82,69,77,65,73,78,68,69,82],[[qsR]]⟩]),
 ([80,82,79,71,82,65,77],[⟨[80,82,79,71,82,65,77],[80,82,79,71,82,65,77],[[wPROGRAM]]⟩]),
 ([84,79,59,68,69,80,69,78,68,73,78,71,32,40,79,78,41],[⟨[84,79],[84,79],[[wTO]]⟩,
   ⟨[68,69,80,69,78,68,73,78,71,32,40,79,78,41],[68,69,80,69,78,68,73,78,71,32,79,78],[[qgV,wON],[qgV]]⟩]),
 ([40,79,78,41,32,65,83,67,69,78,68,73,78,71,32,40,75,69,89,41,59,40,79,78,41,32,68,69,83,67,69,78,68,73,78,71,32,40,75,69,89,41,59,85,83,73,78,71,59,71,73,86,73,78,71,59,79,85,84,80,85,84,32,80,82,79,67,69,68,85,82,69,32,91,73,83,93],[⟨[40,79,78,41,32,65,83,67,69,78,68,73,78,71,32,40,75,69,89,41],[79,78,32,65,83,67,69,78,68,73,78,71,32,75,69,89],[[wON,UH,qgA],[wON,UH],[UH,qgA],[UH]]⟩,
   ⟨[40,79,78,41,32,68,69,83,67,69,78,68,73,78,71,32,40,75,69,89,41],[79,78,32,68,69,83,67,69,78,68,73,78,71,32,75,69,89],[[wON,Ud,qgA],[wON,Ud],[Ud,qgA],[Ud]]⟩,
   ⟨[85,83,73,78,71],[85,83,73,78,71],[[qsP]]⟩,
   ⟨[71,73,86,73,78,71],[71,73,86,73,78,71],[[qfS]]⟩,
   ⟨[79,85,84,80,85,84,32,80,82,79,67,69,68,85,82,69,32,91,73,83,93],[79,85,84,80,85,84,32,80,82,79,67,69,68,85,82,69],[[qhy,qby,wIS],[qhy,qby]]⟩]),
 ([84,79],[⟨[84,79],[84,79],[[wTO]]⟩]),
 ([66,89,59,71,73,86,73,78,71],[⟨[66,89],[66,89],[[wBY]]⟩,
   ⟨[71,73,86,73,78,71],[71,73,86,73,78,71],[[qfS]]⟩]),
 ([73,78,80,85,84,59,79,85,84,80,85,84,59,73,45,79,59,69,88,84,69,78,68],[⟨[73,78,80,85,84],[73,78,80,85,84],[[qsS]]⟩,
   ⟨[79,85,84,80,85,84],[79,85,84,80,85,84],[[qhy]]⟩,
   ⟨[73,45,79],[73,45,79],[[wI_O]]⟩,
   ⟨[69,88,84,69,78,68],[69,88,84,69,78,68],[[wEXTEND]]⟩]),
 ([84,72,82,85,59,84,72,82,79,85,71,72,59,84,73,77,69,83,59,91,87,73,84,72,93,32,84,69,83,84,32,66,69,70,79,82,69,59,91,87,73,84,72,93,32,84,69,83,84,32,65,70,84,69,82,59,85,78,84,73,76,59,86,65,82,89,73,78,71,59,65,70,84,69,82],[⟨[84,72,82,85],[84,72,82,85],[[wTHRU]]⟩,
   ⟨[84,72,82,79,85,71,72],[84,72,82,85],[[wTHROUGH]]⟩,
   ⟨[84,73,77,69,83],[84,73,77,69,83],[[wTIMES]]⟩,
   ⟨[91,87,73,84,72,93,32,84,69,83,84,32,66,69,70,79,82,69],[84,69,83,84,32,66,69,70,79,82,69],[[wWITH,wTEST,qkB],[wTEST,qkB]]⟩,
   ⟨[91,87,73,84,72,93,32,84,69,83,84,32,65,70,84,69,82],[84,69,83,84,32,65,70,84,69,82],[[wWITH,wTEST,qkT],[wTEST,qkT]]⟩,
   ⟨[85,78,84,73,76],[85,78,84,73,76],[[wUNTIL]]⟩,
   ⟨[86,65,82,89,73,78,71],[86,65,82,89,73,78,71],[[qpG]]⟩,
   ⟨[65,70,84,69,82],[65,70,84,69,82],[[qkT]]⟩]),
 ([78,69,88,84,32,91,82,69,67,79,82,68,93,59,82,69,67,79,82,68,59,73,78,84,79,59,75,69,89,32,91,73,83,93],[⟨[78,69,88,84,32,91,82,69,67,79,82,68,93],[78,69,88,84],[[wNEXT,Yj],[wNEXT]]⟩,
   ⟨[82,69,67,79,82,68],[],[[Yj]]⟩,
   ⟨[73,78,84,79],[73,78,84,79],[[wINTO]]⟩,
   ⟨[75,69,89,32,91,73,83,93],[75,69,89],[[qgA,wIS],[qgA]]⟩]),
 ([82,69,67,79,82,68,59,73,78,84,79],[⟨[82,69,67,79,82,68],[],[[Yj]]⟩,
   ⟨[73,78,84,79],[73,78,84,79],[[wINTO]]⟩]),
 ([86,65,82,89,73,78,71],[⟨[86,65,82,89,73,78,71],[86,65,82,89,73,78,71],[[qpG]]⟩]),
 ([40,79,78,41,32,65,83,67,69,78,68,73,78,71,32,40,75,69,89,41,59,40,79,78,41,32,68,69,83,67,69,78,68,73,78,71,32,40,75,69,89,41,59,85,83,73,78,71,59,71,73,86,73,78,71,59,79,85,84,80,85,84,32,80,82,79,67,69,68,85,82,69,32,91,73,83,93,59,73,78,80,85,84,32,80,82,79,67,69,68,85,82,69,32,91,73,83,93],[⟨[40,79,78,41,32,65,83,67,69,78,68,73,78,71,32,40,75,69,89,41],[79,78,32,65,83,67,69,78,68,73,78,71,32,75,69,89],[[wON,UH,qgA],[wON,UH],[UH,qgA],[UH]]⟩,
   ⟨[40,79,78,41,32,68,69,83,67,69,78,68,73,78,71,32,40,75,69,89,41],[79,78,32,68,69,83,67,69,78,68,73,78,71,32,75,69,89],[[wON,Ud,qgA],[wON,Ud],[Ud,qgA],[Ud]]⟩,
   ⟨[85,83,73,78,71],[85,83,73,78,71],[[qsP]]⟩,
   ⟨[71,73,86,73,78,71],[71,73,86,73,78,71],[[qfS]]⟩,
   ⟨[79,85,84,80,85,84,32,80,82,79,67,69,68,85,82,69,32,91,73,83,93],[79,85,84,80,85,84,32,80,82,79,67,69,68,85,82,69],[[qhy,qby,wIS],[qhy,qby]]⟩,
   ⟨[73,78,80,85,84,32,80,82,79,67,69,68,85,82,69,32,91,73,83,93],[73,78,80,85,84,32,80,82,79,67,69,68,85,82,69],[[qsS,qby,wIS],[qsS,qby]]⟩]),
 ([75,69,89,32,91,73,83,93],[⟨[75,69,89,32,91,73,83,93],[75,69,89],[[qgA,wIS],[qgA]]⟩]),
 ([82,85,78],[⟨[82,85,78],[82,85,78],[[wRUN]]⟩]),
 ([70,82,79,77,59,71,73,86,73,78,71],[⟨[70,82,79,77],[70,82,79,77],[[wFROM]]⟩,
   ⟨[71,73,86,73,78,71],[71,73,86,73,78,71],[[qfS]]⟩]),
 ([70,82,79,77,59,65,70,84,69,82,32,40,65,68,86,65,78,67,73,78,71,41,59,66,69,70,79,82,69,32,40,65,68,86,65,78,67,73,78,71,41],[⟨[70,82,79,77],[70,82,79,77],[[wFROM]]⟩,
   ⟨[65,70,84,69,82,32,40,65,68,86,65,78,67,73,78,71,41],[65,70,84,69,82,32,65,68,86,65,78,67,73,78,71],[[qkT,qej],[qkT]]⟩,
   ⟨[66,69,70,79,82,69,32,40,65,68,86,65,78,67,73,78,71,41],[66,69,70,79,82,69,32,65,68,86,65,78,67,73,78,71],[[qkB,qej],[qkB]]⟩])]
def BT:List (Str×Str×List Fm):=[([],[],[]),
 ([40,79,78,41,32,83,73,90,69,32,69,82,82,79,82,59,78,79,84,32,40,79,78,41,32,83,73,90,69,32,69,82,82,79,82],[40,79,78,41,32,83,73,90,69,32,69,82,82,79,82,59,78,79,84,32,40,79,78,41,32,83,73,90,69,32,69,82,82,79,82],[⟨[40,79,78,41,32,83,73,90,69,32,69,82,82,79,82],[79,78,32,83,73,90,69,32,69,82,82,79,82],[[wON,wSIZE,qoe],[wSIZE,qoe]]⟩,
   ⟨[78,79,84,32,40,79,78,41,32,83,73,90,69,32,69,82,82,79,82],[78,79,84,32,79,78,32,83,73,90,69,32,69,82,82,79,82],[[qgz,wON,wSIZE,qoe],[qgz,wSIZE,qoe]]⟩]),
 ([40,79,78,41,32,69,88,67,69,80,84,73,79,78,59,78,79,84,32,40,79,78,41,32,69,88,67,69,80,84,73,79,78],[40,79,78,41,32,69,88,67,69,80,84,73,79,78,59,78,79,84,32,40,79,78,41,32,69,88,67,69,80,84,73,79,78],[⟨[40,79,78,41,32,69,88,67,69,80,84,73,79,78],[79,78,32,69,88,67,69,80,84,73,79,78],[[wON,qei],[qei]]⟩,
   ⟨[78,79,84,32,40,79,78,41,32,69,88,67,69,80,84,73,79,78],[78,79,84,32,79,78,32,69,88,67,69,80,84,73,79,78],[[qgz,wON,qei],[qgz,qei]]⟩]),
 ([73,78,86,65,76,73,68,32,40,75,69,89,41,59,78,79,84,32,73,78,86,65,76,73,68,32,40,75,69,89,41],[73,78,86,65,76,73,68,32,40,75,69,89,41,59,78,79,84,32,73,78,86,65,76,73,68,32,40,75,69,89,41],[⟨[73,78,86,65,76,73,68,32,40,75,69,89,41],[73,78,86,65,76,73,68,32,75,69,89],[[qbT,qgA],[qbT]]⟩,
   ⟨[78,79,84,32,73,78,86,65,76,73,68,32,40,75,69,89,41],[78,79,84,32,73,78,86,65,76,73,68,32,75,69,89],[[qgz,qbT,qgA],[qgz,qbT]]⟩]),
 ([87,72,69,78,59,87,72,69,78,32,79,84,72,69,82],[87,72,69,78,32,79,84,72,69,82,59,87,72,69,78],[⟨[87,72,69,78],[87,72,69,78],[[wWHEN]]⟩,
   ⟨[87,72,69,78,32,79,84,72,69,82],[87,72,69,78,32,79,84,72,69,82],[[wWHEN,wOTHER]]⟩]),
 ([84,72,69,78,59,69,76,83,69],[84,72,69,78,59,69,76,83,69],[⟨[84,72,69,78],[84,72,69,78],[[wTHEN]]⟩,
   ⟨[69,76,83,69],[69,76,83,69],[[wELSE]]⟩]),
 ([40,65,84,41,32,69,78,68,59,78,79,84,32,40,65,84,41,32,69,78,68,59,73,78,86,65,76,73,68,32,40,75,69,89,41,59,78,79,84,32,73,78,86,65,76,73,68,32,40,75,69,89,41],[40,65,84,41,32,69,78,68,59,78,79,84,32,40,65,84,41,32,69,78,68,59,73,78,86,65,76,73,68,32,40,75,69,89,41,59,78,79,84,32,73,78,86,65,76,73,68,32,40,75,69,89,41],[⟨[40,65,84,41,32,69,78,68],[65,84,32,69,78,68],[[wAT,qks],[qks]]⟩,
   ⟨[78,79,84,32,40,65,84,41,32,69,78,68],[78,79,84,32,65,84,32,69,78,68],[[qgz,wAT,qks],[qgz,qks]]⟩,
   ⟨[73,78,86,65,76,73,68,32,40,75,69,89,41],[73,78,86,65,76,73,68,32,75,69,89],[[qbT,qgA],[qbT]]⟩,
   ⟨[78,79,84,32,73,78,86,65,76,73,68,32,40,75,69,89,41],[78,79,84,32,73,78,86,65,76,73,68,32,75,69,89],[[qgz,qbT,qgA],[qgz,qbT]]⟩]),
 ([40,65,84,41,32,69,78,68,59,78,79,84,32,40,65,84,41,32,69,78,68],[40,65,84,41,32,69,78,68,59,78,79,84,32,40,65,84,41,32,69,78,68],[⟨[40,65,84,41,32,69,78,68],[65,84,32,69,78,68],[[wAT,qks],[qks]]⟩,
   ⟨[78,79,84,32,40,65,84,41,32,69,78,68],[78,79,84,32,65,84,32,69,78,68],[[qgz,wAT,qks],[qgz,qks]]⟩]),
 ([40,65,84,41,32,69,78,68,59,78,79,84,32,40,65,84,41,32,69,78,68,59,87,72,69,78],[40,65,84,41,32,69,78,68,59,78,79,84,32,40,65,84,41,32,69,78,68,59,87,72,69,78],[⟨[40,65,84,41,32,69,78,68],[65,84,32,69,78,68],[[wAT,qks],[qks]]⟩,
   ⟨[78,79,84,32,40,65,84,41,32,69,78,68],[78,79,84,32,65,84,32,69,78,68],[[qgz,wAT,qks],[qgz,qks]]⟩,
   ⟨[87,72,69,78],[87,72,69,78],[[wWHEN]]⟩]),
 ([40,79,78,41,32,79,86,69,82,70,76,79,87,59,78,79,84,32,40,79,78,41,32,79,86,69,82,70,76,79,87],[40,79,78,41,32,79,86,69,82,70,76,79,87,59,78,79,84,32,40,79,78,41,32,79,86,69,82,70,76,79,87],[⟨[40,79,78,41,32,79,86,69,82,70,76,79,87],[79,78,32,79,86,69,82,70,76,79,87],[[wON,qfR],[qfR]]⟩,
   ⟨[78,79,84,32,40,79,78,41,32,79,86,69,82,70,76,79,87],[78,79,84,32,79,78,32,79,86,69,82,70,76,79,87],[[qgz,wON,qfR],[qgz,qfR]]⟩])]
def endedV:List Str:=[[65,68,68],[67,65,76,76],[67,79,77,80,85,84,69],[68,69,76,69,84,69],[68,73,86,73,68,69],[69,86,65,76,85,65,84,69],[73,70],[77,85,76,84,73,80,76,89],[80,69,82,70,79,82,77],[82,69,65,68],[82,69,84,85,82,78],[82,69,87,82,73,84,69],[83,69,65,82,67,72],[83,84,65,82,84],[83,84,82,73,78,71],[83,85,66,84,82,65,67,84],[85,78,83,84,82,73,78,71],[87,82,73,84,69]]
def kw(w:Str):KT:=(if w=[61]then 5 else 1,w)
def kws(W:List Str):List KT:=W.map kw
def opK:List KT:=opsT.map ktW
def qi(k:Nat):Str:=(Xd 58 [] (rowsT.getD k [])).getD 0 []
def QF(k:Nat):Str:=(Xd 58 [] (rowsT.getD k [])).getD 1 []
def QB(k:Nat):Str:=(Xd 58 [] (rowsT.getD k [])).getD 2 []
def qda(v:Str):KT:=(1,ENDw++v)
def goF:Str:=[84,79,59,68,69,80,69,78,68,73,78,71,32,40,79,78,41]
def qns:Str:=[78,69,88,84,32,91,82,69,67,79,82,68,93,59,82,69,67,79,82,68,59,73,78,84,79,59,75,69,89,32,91,73,83,93]
def qjc(k:KT):Bool:= !decide (k.1=6) && (decide (qbE (ktT k)=[]) && !YN (ktT k))
def farB(k:KT):Bool:=PT.all (fun p=>qik k p.1) && BT.all fun b=>qik k b.2.1
theorem T_row:((KP 39).all fun k=>PT.any (fun p=>decide (p.1=QF k)) && BT.any fun b=>decide (b.1=QB k) && decide (Qo (qi k)=(QF k,b.2.1)))=true:=by decide+kernel
theorem T_end:((KP 39).all fun k=>decide (Lib.contains qgO ([32]++qi k++[32])=endedV.contains (qi k)) && (endedV.contains (qi k)||decide (QB k=[])))=true:=by decide+kernel
def fmB(fm:Fm):Bool:=decide (Xj fm.form=fm.canon) && (decide (qbj fm.form=fm.canon) && (decide ((Lib.fields fm.form).length<=5) && ((KP 32).all (fun b=>fm.vars.contains (Lib.fields (Zl fm.form (KD b) true))) && fm.vars.all fun W=> !decide (W=[]) && W.all fun w=>decide (ktW w=kw w))))
theorem T_formP:(PT.all fun p=>decide (Qc p.1=p.2.map (·.form)) && p.2.all fmB)=true:=by decide+kernel
theorem T_formB:(BT.all fun b=>decide (Qc b.1=b.2.2.map (·.form)) && b.2.2.all fun fm=>fmB fm && !decide (fm.canon=[]))=true:=by decide+kernel
theorem T_phr:(PT.all fun p=>p.2.all fun fm=>fm.vars.all fun W=>qjc (kw (W.headD [])) && BT.all fun b=>decide (qer ((kws W).map some) b.2.1=some ([],0)))=true:=by decide+kernel
def qpn(F:Str)(W:List Str)(nx:Option KT):Bool:=(decide (F=goF) && (decide (W=[qgV]) && decide (nx=some (1,wON))))||(decide (F=qns) && (decide (W=[wNEXT]) && decide (nx=some (1,Yj))))
def qio(fs:List Fm):List KT:=(fs.map fun fm=>fm.vars.map fun W=>kw (W.headD [])).flatten
theorem T_own:(PT.all fun p=>p.2.all fun fm=>fm.vars.all fun W=>(none::some (1,wON)::(qio p.2).map some).all fun nx=>decide (qer ((kws W).map some++[nx]) p.1=some (fm.canon,W.length+if qpn p.1 W nx=true then 1 else 0)))=true:=by decide+kernel
theorem T_bod:(BT.all fun b=>b.2.2.all fun fm=>fm.vars.all fun W=>qjc (kw (W.headD [])) && (decide (qer ((kws W).map some++[none]) b.2.1=some (fm.canon,W.length)) &&
 (if W.headD []=wON then !decide (W.tail=[]) && (qjc (kw (W.tail.headD [])) && decide (qer ((kws W.tail).map some++[none]) b.2.1=some (fm.canon,W.length-1)))else PT.all fun p=>qik (kw (W.headD [])) p.1)))=true:=by decide+kernel
theorem T_op:(opK.all fun k=>qjc k && farB k)=true:=by decide+kernel
theorem T_none:(PT.all fun p=>decide (qer [none] p.1=some ([],0))) && (BT.all fun b=>decide (qer [none] b.2.1=some ([],0)))=true:=by decide+kernel
theorem T_verb:((KP 39).all fun k=>YN (ktT (1,qi k)) && (decide (qbE (ktT (1,qi k))=[]) && farB (1,qi k)))=true:=by decide+kernel
theorem T_fin:(endedV.all fun v=>decide (qbE (ktT (qda v))=v) && (!YN (ktT (qda v)) && farB (qda v)))=true:=by decide+kernel
def KW(s:Str):List KT:=(Lib.fields s).map ktW
theorem UV(s:Str):(Qh s).map kt=KW s:=qrG _ _
theorem qfM(a:Str){b:Str}(hb:b=[]\/∃Y,b=32::Y):KW (a++b)=KW a++KW b:=by
 unfold KW;rw[qir a hb,JK]
theorem qkr(a b:Str):KW (a++[32]++b)=KW a++KW b:=by
 unfold KW;rw[Jb,List.singleton_append,qju,JK]
theorem KW_cons(b:Str):KW (32::b)=KW b:=by
 have:=qkr [] b;simpa[KW,show Lib.fields []=[]from rfl]using this
theorem qmS(ops:List UInt8):QY ops=[]\/∃Y,QY ops=32::Y:=by
 unfold QY;cases ops.take 4 with
 |nil=>exact .inl rfl
 |cons o l=>exact .inr ⟨_,rfl⟩
theorem qiM(ops:List UInt8):KW (QY ops)=(ops.take 4).map fun o=>opK.getD (o.toNat%5) (0,[]):=by
 unfold QY;generalize ops.take 4=l;induction l with
 |nil=>rfl
 |cons o l ih=>
  have hsp:((l.map fun o=>32::opsT.getD (o.toNat%5) []).flatten)=[]\/∃Y,((l.map fun o=>32::opsT.getD (o.toNat%5) []).flatten)=32::Y:=by
   cases l with
   |nil=>exact .inl rfl
   |cons o l=>exact .inr ⟨_,rfl⟩
  rw[Ke,VS,qfM _ hsp,ih,Ke,KW_cons];have h5:o.toNat%5<5:=Km _ (by decide);have:∀q<5,KW (opsT.getD q [])=[opK.getD q (0,[])]:=by decide+kernel
  rw[this _ h5];rfl
theorem opK_mem{q:Nat}(h:q<5):opK.getD q (0,[])∈opK:=by
 have:q<opK.length:=h;rw[Ko,JD this];exact VY this
theorem qdB(ops:List UInt8):∀k∈KW (QY ops),k∈opK:=fun k hk=>by
 rw[qiM]at hk;obtain⟨o,_,rfl⟩:=JM.1 hk;exact opK_mem (Km _ (by decide))
theorem bit_low{b b':UInt8}(h:b'.toNat=b.toNat%32){i:Nat}(hi:i<5):b.toNat / 2^(i%8)%2=b'.toNat / 2^(i%8)%2:=by
 rw[h];have:i=0\/i=1\/i=2\/i=3\/i=4:=by omega
 rcases this with rfl|rfl|rfl|rfl|rfl<;>simp only[Nat.reduceMod,Nat.reducePow]<;>omega
theorem qhJ{b b':UInt8}(h:b'.toNat=b.toNat%32):∀(ws:List Str) (i:Nat) (out:Str),i+ws.length<=5->Ui b true i ws out=Ui b' true i ws out
 |[],_,_,_=>rfl
 |w::ws,i,out,hi=>by
  rw[KZ]at hi;have e:qjN w b true i=qjN w b' true i:=by
   unfold qjN;rw[bit_low h (by omega)]
  rw[Ui,Ui,e];exact qhJ h ws _ _ (by omega)
theorem qnk{form:Str}(hf:(Lib.fields form).length<=5)(b:UInt8):Zl form b true=Zl form (KD (b.toNat%32)) true:=by
 unfold Zl;rw[qhJ (b':=KD (b.toNat%32)) ?_ _ _ _ (by omega)];have:b.toNat%32<32:=Km _ (by decide);rw[UInt8.toNat_ofNat',Nat.mod_eq_of_lt (by omega)]
structure FmOk(fm:Fm):Prop where
 law:Xj fm.form=fm.canon
 prog:qbj fm.form=fm.canon
 text:∀b,∃W∈fm.vars,KW (Zl fm.form b true)=kws W
 ne:∀W∈fm.vars,W≠[]
theorem fm_ok{fm:Fm}(h:fmB fm=true):FmOk fm:=by
 simp only[Ky,decide_eq_true_eq,Jj,decide_eq_false_iff_not,JB,fmB,JC,Va]at h;obtain⟨h1,h2,h3,h4,h5⟩:=h;refine⟨h1,h2,fun b=>?_,fun W hW=>(h5 W hW).1⟩;have hm:=h4 (b.toNat%32) (Km _ (by decide));rw[<-qnk h3 b]at hm;refine⟨_,hm,?_⟩;unfold KW kws;exact List.map_congr_left fun w hw=>(h5 _ hm).2 w hw
theorem qeT{p:Str×List Fm}(hp:p∈PT):Qc p.1=p.2.map (·.form)/\∀fm∈p.2,FmOk fm:=by
 have h:=JB.1 T_formP p hp;simp only[Wy,JB]at h;exact⟨h.1,fun fm hf=>fm_ok (h.2 fm hf)⟩
theorem qkP{p:Str×Str×List Fm}(hp:p∈BT):Qc p.1=p.2.2.map (·.form)/\∀fm∈p.2.2,FmOk fm/\fm.canon≠[]:=by
 have h:=JB.1 T_formB p hp;simp only[Ky,decide_eq_true_eq,Jj,decide_eq_false_iff_not,JB]at h;exact⟨h.1,fun fm hf=>⟨fm_ok (h.2 fm hf).1,(h.2 fm hf).2⟩⟩
def bq(k:Nat):Str:=(Qo (qi k)).2
def BFS:List Str:=BT.map (·.2.1)
def PFS:List Str:=PT.map (·.1)
theorem qet{k:Nat}(hk:k<39):∃fs gs,(QF k,fs)∈PT/\(QB k,bq k,gs)∈BT/\Qo (qi k)=(QF k,bq k):=by
 have h:=JB.1 T_row k (JC.2 hk);simp only[Wy,Vb]at h;obtain⟨⟨p,hp,e1⟩,⟨b,hb,e2,e3⟩⟩:=h;have hq:bq k=b.2.1:=by unfold bq;rw[e3]
 exact⟨p.2,b.2.2,by rw[<-e1];exact hp,by rw[<-e2,hq];exact hb,by rw[hq];exact e3⟩
theorem qot{k:Nat}(hk:k<39):QF k∈PFS:=by
 obtain⟨fs,gs,h,_⟩:=qet hk;exact JM.2 ⟨_,h,rfl⟩
theorem qeL{k:Nat}(hk:k<39):bq k∈BFS:=by
 obtain⟨fs,gs,_,h,_⟩:=qet hk;exact JM.2 ⟨_,h,rfl⟩
def Quiet(l:List TokC)(i:Nat):Prop:=isE l i=false/\qav l i=[]/\isV l i=false
theorem qhO{l:List TokC}{i:Nat}{k:KT}(h:i<l.length/\kt (l.getD i noT)=k)(hq:qjc k=true):Quiet l i:=by
 simp only[Ky,decide_eq_true_eq,Jj,decide_eq_false_iff_not,qjc]at hq;exact⟨by rw[qlK h,decide_eq_false hq.1],by rw[qpa h];exact hq.2.1,by rw[qoG h];exact hq.2.2⟩
def Far(l:List TokC)(i:Nat):Prop:=∀F,F∈PFS\/F∈BFS->qdC l i F
theorem far_kt{l:List TokC}{i:Nat}{k:KT}(h:i<l.length/\kt (l.getD i noT)=k)(hf:farB k=true):Far l i:=fun F hF=>by
 simp only[Ky,JB,farB]at hf;rcases hF with hF|hF
 ·obtain⟨p,hp,rfl⟩:=JM.1 hF
  exact qhg h (hf.1 p hp)
 ·obtain⟨p,hp,rfl⟩:=JM.1 hF
  exact qhg h (hf.2 p hp)
theorem qaF{l:List TokC}{i:Nat}(h:Far l i){F:Str}(hF:F∈PFS\/F∈BFS):Qs l i F=([],0):=by
 have hn:=T_none;simp only[Wy,JB]at hn;refine qbz (ts:=[none]) ⟨h F hF,trivial⟩ ?_;rcases hF with hF|hF
 ·obtain⟨p,hp,rfl⟩:=JM.1 hF
  exact hn.1 p hp
 ·obtain⟨p,hp,rfl⟩:=JM.1 hF
  exact hn.2 p hp
theorem op_at{l:List TokC}{i:Nat}{k:KT}(h:i<l.length/\kt (l.getD i noT)=k)(hk:k∈opK):Quiet l i/\Far l i:=by
 have:=JB.1 T_op k hk;rw[Ky]at this;exact⟨qhO h this.1,far_kt h this.2⟩
structure VerbA(l:List TokC)(i:Nat):Prop where
 e:isE l i=false
 n:qav l i=[]
 v:isV l i=true
 f:Far l i
theorem qpK{l:List TokC}{i k:Nat}(hk:k<39)(h:At l i [(1,qi k)]):VerbA l i:=by
 have h1:=At.one.1 h;have:=JB.1 T_verb k (JC.2 hk);simp only[Wy]at this;exact⟨by rw[qlK h1];rfl,by rw[qpa h1];exact this.2.1,by rw[qoG h1];exact this.1,far_kt h1 this.2.2⟩
structure EndA(l:List TokC)(i:Nat)(v:Str):Prop where
 e:isE l i=false
 n:qav l i=v
 v:isV l i=false
 f:Far l i
theorem endA{l:List TokC}{i:Nat}{v:Str}(hv:v∈endedV)(h:At l i [qda v]):EndA l i v:=by
 have h1:=At.one.1 h;have:=JB.1 T_fin v hv;simp only[Ky,decide_eq_true_eq,Jj]at this;exact⟨by rw[qlK h1];rfl,by rw[qpa h1];exact this.1,by rw[qoG h1];exact this.2.1,far_kt h1 this.2.2⟩
def ph2(p:PhrC):Str×List KT:=(p.words,p.toks.map kt)
def phm(l:List PhrC):List (Str×List KT):=l.map ph2
def qfg(l:List (Str×List KT))(ks:List KT):List (Str×List KT):=l.dropLast++[((l.getLastD ([],[])).1,(l.getLastD ([],[])).2++ks)]
theorem qbH(l:List (Str×List KT))(w:Str)(a ks:List KT):qfg (l++[(w,a)]) ks=l++[(w,a++ks)]:=by simp[qfg]
theorem qkE{α:Type}{l:List α}(h:l≠[]):∃a x,l=a++[x]:=⟨l.dropLast,l.getLast h,(List.dropLast_concat_getLast h).symm⟩
theorem phm_addT{ps:List PhrC}(h:ps≠[])(t:TokC):phm (qhu ps t)=qfg (phm ps) [kt t]/\qhu ps t≠[]:=by
 obtain⟨qs,q,rfl⟩:=qkE h;refine⟨?_,by simp[qhu]⟩;unfold phm qhu;rw[JK,JK,Es,Et];show _=qfg (Eu ph2 qs++[(q.words,q.toks.map kt)]) _
 rw[qbH];simp[ph2]
theorem qrj{ps:List PhrC}(h:ps≠[])(ts:List TokC):phm (qaj ps ts)=qfg (phm ps) (ts.map kt):=by
 obtain⟨qs,q,rfl⟩:=qkE h;unfold phm qaj;rw[JK,JK,Es,Et];show _=qfg (Eu ph2 qs++[(q.words,q.toks.map kt)]) _
 rw[qbH];simp[ph2]
theorem addK_add{l:List (Str×List KT)}(a b:List KT):qfg (qfg l a) b=qfg l (a++b):=by
 show qfg (l.dropLast++[((l.getLastD ([],[])).1,(l.getLastD ([],[])).2++a)]) b=l.dropLast++[((l.getLastD ([],[])).1,(l.getLastD ([],[])).2++(a++b))]
 rw[qbH,Jb]
theorem qsB{l:List (Str×List KT)}(h:l≠[]):qfg l []=l:=by
 obtain⟨qs,⟨w,a⟩,rfl⟩:=qkE h;rw[qbH,JG]
structure CurK(c:Cur)(verb:Str)(ps:List (Str×List KT)):Prop where
 verb:c.verb=verb
 ph:phm c.phrases=ps
 ne:c.phrases≠[]
section
variable {l:List TokC} {d:Nat} {O:List Str} {k:Nat}
theorem qny(hO:∀f∈O,f∈BFS){i:Nat}(h:∀f∈BFS,(Qs l i f).2=0)(F:Str):qci l (O++[F]) i=false:=by
 unfold qci;rw[Et,List.any_eq_false];intro f hf;rw[h f (hO f hf)];decide
theorem loop_op(hk:k<39)(hO:∀f∈O,f∈BFS){c:Cur}{p:Nat}{κ:KT}(hb:c.bodies=[])(ha:At l p [κ])(hκ:κ∈opK){r:Rs (Cur×Bool)}
 (hr:LoopR wordsO l Qo d (O++[bq k]) (QF k) {c with phrases:=qhu c.phrases (l.getD p noT)} (p+1) r):LoopR wordsO l Qo d (O++[bq k]) (QF k) c p r:=by
 obtain⟨⟨q1,q2,q3⟩,hf⟩:=op_at (At.one.1 ha) hκ;exact LoopR.tok q1 q2 (by rw[Uw,qaF hf (.inr (qeL hk))]) q3 (qny hO (fun f hm=>by rw[qaF hf (.inr hm)]) _) (tok_plain hb (by rw[qaF hf (.inl (qot hk))])) hr
theorem qie(hk:k<39)(hO:∀f∈O,f∈BFS):∀(ks:List KT) (c:Cur) (p:Nat) {verb:Str} {ps:List (Str×List KT)},(∀κ∈ks,κ∈opK)->c.bodies=[]->CurK c verb ps->At l p ks->
 ∃c',CurK c' verb (qfg ps ks)/\c'.bodies=[]/\∀r,LoopR wordsO l Qo d (O++[bq k]) (QF k) c' (p+ks.length) r->LoopR wordsO l Qo d (O++[bq k]) (QF k) c p r
 |[],c,p,verb,ps,_,hb,hc,_=>⟨c,⟨hc.verb,by rw[hc.ph,qsB];rw[<-hc.ph];unfold phm;simpa using hc.ne,hc.ne⟩,hb,fun r hr=>hr⟩
 |κ::ks,c,p,verb,ps,hks,hb,hc,ha=>by
  obtain⟨e1,e2⟩:=phm_addT hc.ne (l.getD p noT);obtain⟨c',h1,h2,h3⟩:=qie hk hO ks {c with phrases:=qhu c.phrases (l.getD p noT)} (p+1) (verb:=verb) (ps:=qfg ps [κ]) (fun κ hκ=>hks κ (Jh _ hκ)) hb
   ⟨hc.verb,by show phm (qhu c.phrases (l.getD p noT))=_;rw[e1,hc.ph,ha.1.2],e2⟩ ha.2
  refine⟨c',by rw[addK_add]at h1;exact h1,h2,fun r hr=>?_⟩;rw[KZ,show p+(ks.length+1)=p+1+ks.length by omega]at hr;exact loop_op hk hO hb (At.one.2 ha.1) (hks κ Jg) (h3 r hr)
theorem qrE(hk:k<39)(hO:∀f∈O,f∈BFS){fs:List Fm}(hfs:(QF k,fs)∈PT){fm:Fm}(hfm:fm∈fs){W:List Str}(hW:W∈fm.vars){c:Cur}{p:Nat}(hb:c.bodies=[])(ha:At l p (kws W)){nx:Option KT}
 (hnx:nx∈none::some (1,wON)::(qio fs).map some) (hd:Des (qfO (QF k)) l (p+W.length) [nx]) {r:Rs (Cur×Bool)}
 (hr:LoopR wordsO l Qo d (O++[bq k]) (QF k) (if fm.canon=[]then c else{c with phrases:=c.phrases++[⟨fm.canon,[]⟩]}) (p+(W.length+if qpn (QF k) W nx=true then 1 else 0)) r):
 LoopR wordsO l Qo d (O++[bq k]) (QF k) c p r:=by
 have hown:=JB.1 (JB.1 (JB.1 (JB.1 T_own _ hfs) fm hfm) W hW) nx hnx;have hphr:=JB.1 (JB.1 (JB.1 T_phr _ hfs) fm hfm) W hW;simp only[Wy,JB]at hown hphr;have hne:=((qeT hfs).2 fm hfm).ne W hW;obtain⟨w,W',rfl⟩:=Ev hne;obtain⟨q1,q2,q3⟩:=qhO ha.1 hphr.1;have hlen:(kws (w::W')).length=(w::W').length:=Jp _;have hst:Qs l p (QF k)=(fm.canon,(w::W').length+if qpn (QF k) (w::W') nx=true then 1 else 0):=qbz (Des.of_at ha (by rw[hlen];exact hd)) hown;have hB:∀f∈BFS,(Qs l p f).2=0:=fun f hf=>by
  obtain⟨b,hb,rfl⟩:=JM.1 hf;rw[qbz (Des.all ha) (hphr.2 b hb)]
 have htk:WS l c (QF k) p= .ok (if fm.canon=[]then c else{c with phrases:=c.phrases++[⟨fm.canon,[]⟩]}) (p+((w::W').length+if qpn (QF k) (w::W') nx=true then 1 else 0)):=by
  unfold WS;rw[if_neg (by rw[hb];simp),hst,if_neg (by simp only[KZ];omega)];by_cases hcn:fm.canon=[]
  ·rw[if_neg (by simpa using hcn),if_pos hcn]
  ·rw[if_pos (by simpa using hcn),if_neg hcn]
 exact LoopR.tok q1 q2 (by rw[Uw];exact hB _ (qeL hk)) q3 (qny hO hB _) htk hr
end
theorem T_ate:(PT.all fun p=>(!decide (p.1=goF)|| !(qio p.2).contains (1,wON)) && (!decide (p.1=qns)||p.2.all fun fm=>fm.vars.all fun W=> !decide (kw (W.headD [])=(1,Yj))||(decide (W=[Yj]) && decide (fm.canon=[]))))=true:=by decide+kernel
theorem ate_go{fs:List Fm}(h:(goF,fs)∈PT):(1,wON)∉qio fs:=by
 have:=JB.1 T_ate _ h;simp only[Ky,Jj,JJ,decide_eq_false_iff_not]at this;rcases this.1 with h1|h1
 ·exact absurd trivial h1
 ·intro hm
  rw[Va.2 hm]at h1;cases h1
theorem ate_read{fs:List Fm}(h:(qns,fs)∈PT){fm:Fm}(hfm:fm∈fs){W:List Str}(hW:W∈fm.vars)(hh:kw (W.headD [])=(1,Yj)):W=[Yj]/\fm.canon=[]:=by
 have:=JB.1 T_ate _ h;simp only[Ky,Jj,JJ,decide_eq_false_iff_not,JB]at this;rcases this.2 with h1|h1
 ·exact absurd trivial h1
 ·rcases h1 fm hfm W hW with h2|h2
  ·exact absurd hh h2
  ·exact⟨of_decide_eq_true h2.1,of_decide_eq_true h2.2⟩
def Nxt(l:List TokC)(F:Str)(fs:List Fm)(e:Nat):Prop:=∃nx∈none::some (1,wON)::(qio fs).map some,Des (qfO F) l e [nx]
theorem qid{l:List TokC}{F:Str}{fs:List Fm}{e:Nat}(h:qdC l e F):Nxt l F fs e:=⟨none,Jg,h,trivial⟩
theorem nxt_on{l:List TokC}{F:Str}{fs:List Fm}{e:Nat}(h:At l e [(1,wON)]):Nxt l F fs e:=⟨some (1,wON),by simp,At.one.1 h,trivial⟩
def PosP(l:List TokC)(F:Str)(e p:Nat):Prop:=p=e\/(p=e+1/\((F=goF/\At l e [(1,wON)])\/(F=qns/\At l e [(1,Yj)])))
def qbv(forms:List Str)(y:YC):Str:=forms.getD (y.form.toNat%forms.length) []
def UG(forms:List Str)(y:YC):List KT:=KW (Zl (qbv forms y) y.short true)++KW (QY y.ops)
theorem qjJ(forms:List Str)(b:BuC)(y:YC):KW (QJ forms b y).text=KW b.text++UG forms y:=by
 have e:(QJ forms b y).text=b.text++[32]++(Zl (qbv forms y) y.short true++QY y.ops):=by
  unfold QJ qbv;simp only;split<;>rfl
 rw[e,qkr,qfM _ (qmS _)];rfl
theorem qlz(forms:List Str)(b:BuC)(y:YC)(h:b.cur.phrases≠[]):phm (QJ forms b y).cur.phrases=(if Xj (qbv forms y)=[]then qfg (phm b.cur.phrases) (KW (QY y.ops))else phm b.cur.phrases++[(Xj (qbv forms y),KW (QY y.ops))])/\(QJ forms b y).cur.phrases≠[]:=by
 unfold QJ qbv;simp only;split
 ·refine⟨?_,by simp[qaj]⟩
  rw[<-UV];exact qrj h _
 ·refine⟨?_,by simp⟩
  rw[<-UV];show Eu ph2 (b.cur.phrases++[_])=_
  rw[JK];rfl
theorem qnY{F:Str}{W:List Str}{nx:Option KT}(h:qpn F W nx=true):(F=goF/\nx=some (1,wON))\/(F=qns/\nx=some (1,Yj)):=by
 simp only[Wy,JJ,qpn]at h;rcases h with h|h
 ·exact .inl ⟨h.1,h.2.2⟩
 ·exact .inr ⟨h.1,h.2.2⟩
section
variable {l:List TokC} {d:Nat} {O:List Str} {k:Nat}
theorem qpW(hk:k<39)(hO:∀f∈O,f∈BFS){fs:List Fm}(hfs:(QF k,fs)∈PT){y:YC}{forms:List Str}(hforms:forms=fs.map (·.form))(hne:forms≠[]){c:Cur}{e p:Nat}{verb:Str}{ps:List (Str×List KT)}(hb:c.bodies=[])(hc:CurK c verb ps)
 (hp:PosP l (QF k) e p) (ha:At l e (UG forms y)) (hnx:Nxt l (QF k) fs (e+(UG forms y).length)):
 ∃c' p',CurK c' verb (if Xj (qbv forms y)=[]then qfg ps (KW (QY y.ops))else ps++[(Xj (qbv forms y),KW (QY y.ops))])/\c'.bodies=[]/\PosP l (QF k) (e+(UG forms y).length) p'/\
  ∀r,LoopR wordsO l Qo d (O++[bq k]) (QF k) c' p' r->LoopR wordsO l Qo d (O++[bq k]) (QF k) c p r:=by
 obtain⟨fm,hfm,hff⟩:∃fm∈fs,fm.form=qbv forms y:=by
  have hm:y.form.toNat%forms.length<forms.length:=Km _ (Bv.2 hne);have:qbv forms y∈forms:=by unfold qbv;rw[Ko,JD hm];exact VY hm
  rw[hforms]at this|-
  obtain⟨fm,h1,h2⟩:=JM.1 this;exact⟨fm,h1,h2⟩
 have hok:=(qeT hfs).2 fm hfm;rw[<-hff];obtain⟨W,hW,hKW⟩:=hok.text y.short;have hwy:UG forms y=kws W++KW (QY y.ops):=by unfold UG;rw[<-hff,hKW]
 rw[hwy]at ha hnx|-
 obtain⟨ha1,ha2⟩:=At.app.1 ha;have hWl:(kws W).length=W.length:=Jp _;rw[hWl]at ha2;rw[Jd,hWl]at hnx|-
 rw[hok.law];obtain⟨ks,hks⟩:∃ks,ks=KW (QY y.ops):=⟨_,rfl⟩
 have hkop:∀κ∈ks,κ∈opK:=by rw[hks];exact qdB _
 rw[<-hks]at ha2 hnx|-
 have hWne:=hok.ne W hW;rcases hp with rfl|⟨rfl,hp⟩
 ·
  obtain⟨nx,hnx1,hnx2⟩:Nxt l (QF k) fs (p+W.length):=by
   cases ks with
   |nil=>exact hnx
   |cons κ ks=>exact qid ((op_at ha2.1 (hkop κ Jg)).2 _ (.inl (qot hk)))
  have hc1:CurK (if fm.canon=[]then c else{c with phrases:=c.phrases++[⟨fm.canon,[]⟩]}) verb (if fm.canon=[]then ps else ps++[(fm.canon,[])]):=by
   split
   ·exact hc
   ·refine⟨hc.verb,?_,by simp⟩
    show Eu ph2 (c.phrases++[_])=_
    rw[JK,<-hc.ph];rfl
  have hb1:(if fm.canon=[]then c else{c with phrases:=c.phrases++[⟨fm.canon,[]⟩]}).bodies=[]:=by split<;>exact hb
  have hadd:∀ks,qfg (if fm.canon=[]then ps else ps++[(fm.canon,[])]) ks=if fm.canon=[]then qfg ps ks else ps++[(fm.canon,ks)]:=fun ks=>by
   split
   ·rfl
   ·rw[qbH];rfl
  cases hat:qpn (QF k) W nx with
  |false=>
   obtain⟨c',g1,g2,g3⟩:=qie (d:=d) hk hO ks _ (p+W.length) hkop hb1 hc1 ha2;rw[hadd]at g1;refine⟨c',_,g1,g2, .inl rfl,fun r hr=>?_⟩;refine qrE hk hO hfs hfm hW hb ha1 hnx1 hnx2 ?_;rw[show(if qpn (QF k) W nx=true then 1 else 0)=0 by rw[hat];rfl,K8];exact g3 r (by rw[Kw];exact hr)
  |true=>
   have hks0:ks=[]:=by
    cases ks with
    |nil=>rfl
    |cons κ ks=>
     exfalso;have hκ:=hkop κ Jg;have hop:∀κ∈opK,κ≠(1,wON)/\κ≠(1,Yj):=by decide+kernel
     rcases qnY hat with⟨_,rfl⟩|⟨_,rfl⟩
     ·exact(hop κ hκ).1 (ha2.1.2.symm.trans hnx2.1.2)
     ·exact(hop κ hκ).2 (ha2.1.2.symm.trans hnx2.1.2)
   subst hks0;refine⟨_,p+(W.length+1),?_,hb1, .inr ⟨by simp only[JF];omega,?_⟩,fun r hr=>?_⟩
   ·rw[<-hadd]
    refine⟨hc1.verb,?_,hc1.ne⟩;rw[qsB,hc1.ph];rw[<-hc1.ph];unfold phm;simpa using hc1.ne
   ·rw[JF,K8]
    rcases qnY hat with⟨h1,rfl⟩|⟨h1,rfl⟩
    ·exact .inl ⟨h1,At.one.2 hnx2.1⟩
    ·exact .inr ⟨h1,At.one.2 hnx2.1⟩
   ·refine qrE hk hO hfs hfm hW hb ha1 hnx1 hnx2 ?_
    rw[show(if qpn (QF k) W nx=true then 1 else 0)=1 by rw[hat];rfl];exact hr
 ·
  obtain⟨w,W',rfl⟩:=Ev hWne;rcases hp with⟨hg,hp⟩|⟨hg,hp⟩
  ·exfalso
   rw[hg]at hfs;refine ate_go hfs ?_;have h1:kw w=(1,wON):=ha1.1.2.symm.trans hp.1.2;rw[<-h1];exact Er.2 ⟨_,JM.2 ⟨fm,hfm,rfl⟩,JM.2 ⟨_,hW,rfl⟩⟩
  ·have hfs':=hfs
   rw[hg]at hfs';obtain⟨h1,h2⟩:=ate_read hfs' hfm hW (ha1.1.2.symm.trans hp.1.2);rw[h1]at ha2|-
   obtain⟨c',g1,g2,g3⟩:=qie (d:=d) hk hO ks c (e+1) hkop hb hc ha2;rw[if_pos h2];exact⟨c',_,g1,g2, .inl rfl,fun r hr=>g3 r (by rw[Kw];exact hr)⟩
theorem qhN(hk:k<39)(hO:∀f∈O,f∈BFS){fs:List Fm}(hfs:(QF k,fs)∈PT){forms:List Str}(hforms:forms=fs.map (·.form))(hne:forms≠[]):∀(ys:List YC) (b:BuC) (c:Cur) (e p:Nat) {verb:Str},c.bodies=[]->CurK c verb (phm b.cur.phrases)->b.cur.phrases≠[]->
 PosP l (QF k) e p->At l e ((ys.map (UG forms)).flatten)->Nxt l (QF k) fs (e+((ys.map (UG forms)).flatten).length)->
 ∃c' p',CurK c' verb (phm (ys.foldl (QJ forms) b).cur.phrases)/\c'.bodies=[]/\PosP l (QF k) (e+((ys.map (UG forms)).flatten).length) p'/\
  KW (ys.foldl (QJ forms) b).text=KW b.text++(ys.map (UG forms)).flatten/\
  ∀r,LoopR wordsO l Qo d (O++[bq k]) (QF k) c' p' r->LoopR wordsO l Qo d (O++[bq k]) (QF k) c p r
 |[],b,c,e,p,verb,hb,hc,hn,hp,_,_=>⟨c,p,hc,hb,hp,by simp,fun r hr=>hr⟩
 |y::ys,b,c,e,p,verb,hb,hc,hn,hp,ha,hx=>by
  rw[Ke,VS]at ha hx|-
  obtain⟨ha1,ha2⟩:=At.app.1 ha;rw[Jd,<-Kw]at hx|-
  have hx1:Nxt l (QF k) fs (e+(UG forms y).length):=by
   cases ys with
   |nil=>exact hx
   |cons y2 ys=>
    rw[Ke,VS]at ha2;have h2:=(At.app.1 ha2).1;obtain⟨fm,hfm,hff⟩:∃fm∈fs,fm.form=qbv forms y2:=by
     have hm:y2.form.toNat%forms.length<forms.length:=Km _ (Bv.2 hne);have:qbv forms y2∈forms:=by unfold qbv;rw[Ko,JD hm];exact VY hm
     rw[hforms]at this|-
     obtain⟨fm,h1,h2⟩:=JM.1 this;exact⟨fm,h1,h2⟩
    obtain⟨W,hW,hKW⟩:=((qeT hfs).2 fm hfm).text y2.short;obtain⟨w,W',rfl⟩:=Ev (((qeT hfs).2 fm hfm).ne W hW);unfold UG at h2;rw[<-hff,hKW]at h2;refine⟨some (kw w),Jh _ (Jh _ (JM.2 ⟨kw w,?_,rfl⟩)),(At.app.1 h2).1.1,trivial⟩;exact Er.2 ⟨_,JM.2 ⟨fm,hfm,rfl⟩,JM.2 ⟨_,hW,rfl⟩⟩
  obtain⟨c1,p1,g1,g2,g3,g4⟩:=qpW (d:=d) hk hO hfs hforms hne hb hc hp ha1 hx1;obtain⟨m1,m2⟩:=qlz forms b y hn;rw[<-m1]at g1;obtain⟨c2,p2,q1,q2,q3,q4,q5⟩:=qhN hk hO hfs hforms hne ys (QJ forms b y) c1 _ p1 g2 g1 m2 g3 ha2 hx;refine⟨c2,p2,q1,q2,q3,?_,fun r hr=>g4 r (q5 r hr)⟩;rw[List.foldl_cons,q4,qjJ,Jb]
end
theorem occ_split{s y:Str}{i:Nat}(h:Lib.occAt s y i=true):∃b,s=s.take i++(y++b):=by
 unfold Lib.occAt at h;obtain⟨b,hb⟩:=Ew.1 h;exact⟨b,by rw[hb,List.take_append_drop]⟩
theorem qiy(a y b:Str):Lib.contains (a++(y++b)) y=true:=by
 unfold Lib.contains;rcases Lib.index_spec (a++(y++b)) y with⟨_,h2⟩|⟨i,h1,_⟩
 ·have:=h2 a.length (by simp)
  unfold Lib.occAt at this;rw[List.drop_left,Ew.2 (List.prefix_append _ _)]at this;cases this
 ·rw[h1];exact decide_eq_true (VX _)
theorem qiz{s y:Str}(h:Lib.contains s y=true)(t:Str):Lib.contains (s++t) y=true:=by
 unfold Lib.contains at h;rcases Lib.index_spec s y with⟨h1,_⟩|⟨i,h1,h2,h3,_⟩
 ·rw[h1]at h;cases h
 ·obtain⟨b,hb⟩:=occ_split h3
  rw[hb,Jb,Jb];exact qiy _ _ _
theorem qgP(s n:Str):Lib.contains (s++[59]++n++[59]) (qeY n)=true:=by
 have:s++[59]++n++[59]=s++(qeY n++[]):=by simp[qeY]
 rw[this];exact qiy _ _ _
def FolE(l:List TokC)(vs:List Str)(e:Nat):Prop:=At l e (vs.map qda)/\(∀v∈vs,v∈endedV)/\isE l (e+vs.length)=true
def FolN(l:List TokC)(O:List Str)(e:Nat):Prop:=isE l e=true\/(∃v∈endedV,At l e [qda v])\/
 (Quiet l e/\(∃F∈O,0<(Qs l e F).2)/\(At l e [(1,wON)]\/∀F∈PFS,qdC l e F)/\(At l e [(1,wON)]->Quiet l (e+1)/\∃F∈O,0<(Qs l (e+1) F).2))
def Fol(l:List TokC)(O:List Str)(last:Bool)(vs:List Str)(e:Nat):Prop:=if last=true then FolE l vs e else FolN l O e
def Fin(l:List TokC)(last:Bool)(vs:List Str)(e p:Nat):Prop:=if last=true then ∃t,t<=vs.length/\p=e+t else p=e\/(p=e+1/\At l e [(1,wON)])
theorem at_one{l:List TokC}{e:Nat}{a b:KT}(h1:At l e [a])(h2:At l e [b]):a=b:=(At.one.1 h1).2.symm.trans (At.one.1 h2).2
theorem FolE.cases{l:List TokC}{vs:List Str}{e:Nat}(h:FolE l vs e):(vs=[]/\isE l e=true)\/∃v ws,vs=v::ws/\v∈endedV/\At l e [qda v]/\FolE l ws (e+1):=by
 obtain⟨h1,h2,h3⟩:=h;cases vs with
 |nil=>exact .inl ⟨rfl,h3⟩
 |cons v ws=>exact .inr ⟨v,ws,rfl,h2 v Jg,At.one.2 h1.1,h1.2,fun w hw=>h2 w (Jh _ hw),by rw[KZ]at h3;rw[show e+1+ws.length=e+(ws.length+1) by omega];exact h3⟩
theorem FolE.toN{l:List TokC}{vs O:List Str}{e:Nat}(h:FolE l vs e):FolN l O e:=by
 rcases h.cases with⟨_,h⟩|⟨v,ws,_,h1,h2,_⟩
 ·exact .inl h
 ·exact .inr (.inl ⟨v,h1,h2⟩)
theorem FolE.skip{l:List TokC}:∀{t:Nat} {vs:List Str} {e:Nat},FolE l vs e->t<=vs.length->FolE l (vs.drop t) (e+t)
 |0,_,_,h,_=>h
 |t+1,vs,e,h,ht=>by
  rcases h.cases with⟨rfl,_⟩|⟨v,ws,rfl,_,_,h⟩
  ·cases ht
  ·rw[VU,show e+(t+1)=e+1+t by omega]
   exact FolE.skip h (Nat.le_of_succ_le_succ ht)
theorem qhF{l:List TokC}{e:Nat}{k:KT}(h:isE l e=true)(ha:At l e [k]):k.1=6:=by
 rw[qlK (At.one.1 ha)]at h;exact of_decide_eq_true h
theorem FolE.notON{l:List TokC}{vs:List Str}{e:Nat}(h:FolE l vs e){w:Str}(hw:w=wON\/w=Yj):¬At l e [(1,w)]:=fun ha=>by
 rcases h.cases with⟨_,h⟩|⟨v,ws,_,h1,h2,_⟩
 ·exact absurd (qhF h ha) (show ¬(1:UInt8)=6 by decide)
 ·have h3:=at_one ha h2
  have:∀v∈endedV,qda v≠(1,wON)/\qda v≠(1,Yj):=by decide+kernel
  rcases hw with rfl|rfl
  ·exact(this v h1).1 h3.symm
  ·exact(this v h1).2 h3.symm
theorem qcD{l:List TokC}{v:Str}{e:Nat}(h1:v∈endedV)(h2:At l e [qda v]){w:Str}(hw:w=wON\/w=Yj):¬At l e [(1,w)]:=fun ha=>by
 have h3:=at_one ha h2;have:∀v∈endedV,qda v≠(1,wON)/\qda v≠(1,Yj):=by decide+kernel
 rcases hw with rfl|rfl
 ·exact(this v h1).1 h3.symm
 ·exact(this v h1).2 h3.symm
theorem VerbA.notON{l:List TokC}{e:Nat}(h:VerbA l e){w:Str}(hw:w=wON\/w=Yj):¬At l e [(1,w)]:=fun ha=>by
 have hv:=h.v;rw[qoG (At.one.1 ha)]at hv;have:YN (ktT (1,wON))=false/\YN (ktT (1,Yj))=false:=by decide+kernel
 rcases hw with rfl|rfl
 ·rw[this.1]at hv;cases hv
 ·rw[this.2]at hv;cases hv
theorem FolN.notRec{l:List TokC}{O:List Str}{e:Nat}(h:FolN l O e):¬At l e [(1,Yj)]:=fun ha=>by
 rcases h with h|⟨v,h1,h2⟩|⟨_,_,h,_⟩
 ·exact absurd (qhF h ha) (by decide)
 ·exact qcD h1 h2 (.inr rfl) ha
 ·rcases h with h|h
  ·exact absurd (at_one ha h) (by decide)
  ·have:=h qns (by decide+kernel) Yj (by decide+kernel)
   rw[qoH (At.one.1 ha)]at this;revert this;decide+kernel
theorem FolN.nxt{l:List TokC}{O:List Str}{e:Nat}(h:FolN l O e){F:Str}(hF:F∈PFS)(fs:List Fm):Nxt l F fs e:=by
 rcases h with h|⟨v,h1,h2⟩|⟨_,_,h,_⟩
 ·exact qid (qrO h)
 ·exact qid ((endA h1 h2).f F (.inl hF))
 ·rcases h with h|h
  ·exact nxt_on h
  ·exact qid (h F hF)
section
variable {l:List TokC} {d:Nat} {O:List Str} {k:Nat}
theorem qrT(hk:k<39){vs:List Str}{e:Nat}(hf:FolE l vs e)(c:Cur)(hc:c.verb=qi k):∃cl t,t<=vs.length/\LoopR wordsO l Qo d (O++[bq k]) (QF k) c e (.ok (c,cl) (e+t))/\((∃ws,vs=qi k::ws)->cl=true/\t=1):=by
 rcases hf.cases with⟨rfl,h⟩|⟨v,ws,rfl,h1,h2,_⟩
 ·exact⟨false,0,KL _,Ex h,fun⟨ws,h⟩=>by cases h⟩
 ·have hA:=endA h1 h2
  by_cases hvv:v=qi k
  ·refine⟨true,1,by rw[KZ];omega,Ey hA.e (by rw[hA.n,hc,hvv]) ?_,fun _=>⟨rfl,rfl⟩⟩
   rw[hA.n];intro e0;rw[e0]at h1;exact absurd h1 (by decide+kernel)
  ·refine⟨false,0,Js _,Ez hA.e (by rw[hA.n,hc];exact hvv) ?_,fun⟨ws',h⟩=>by
    simp only[List.cons.injEq]at h;exact absurd h.1 hvv⟩
   rw[hA.n];intro e0;rw[e0]at h1;exact absurd h1 (by decide+kernel)
theorem qoO{v:Str}{e:Nat}(hv:v∈endedV)(ha:At l e [qda v])(F ph:Str)(c:Cur)(hc:c.verb=v):LoopR wordsO l Qo d (O++[F]) ph c e (.ok (c,true) (e+1)):=by
 have hA:=endA hv ha;refine Ey hA.e (by rw[hA.n,hc]) ?_;rw[hA.n];intro e0;rw[e0]at hv;exact absurd hv (by decide+kernel)
theorem fin_verb(hk:k<39){e:Nat}(hv:VerbA l e)(c:Cur)(hi:Zi wordsO c=none)(ph:Str):LoopR wordsO l Qo d (O++[bq k]) ph c e (.ok (c,false) e):=
 EA hv.e hv.n (by rw[Uw,qaF hv.f (.inr (qeL hk))]) (fun _=>hi) (.inl hv.v)
theorem fin_none{e p:Nat}(hf:FolN l O e)(hp:p=e\/(p=e+1/\At l e [(1,wON)]))(ph:Str)(c:Cur)(hc:c.verb∉endedV):LoopR wordsO l Qo d (O++[[]]) ph c p (.ok (c,false) p):=by
 have hs:∀i,(Qs l i []).2=0:=fun i=>by
  have:Qs l i []=([],0):=qbz (ts:=[]) trivial (by decide+kernel);rw[this]
 have out:∀i,(∃F∈O,0<(Qs l i F).2)->qci l (O++[[]]) i=true:=fun i ⟨F,hF,h⟩=>by
  unfold qci;rw[Et,Vb];exact⟨F,hF,decide_eq_true h⟩
 rcases hf with h|⟨v,h1,h2⟩|⟨⟨q1,q2,q3⟩,ho,_,hon⟩
 ·rcases hp with rfl|⟨_,hp⟩
  ·exact Ex h
  ·exact absurd (qhF h hp) (by decide)
 ·rcases hp with rfl|⟨_,hp⟩
  ·have hA:=endA h1 h2
   refine Ez hA.e (by rw[hA.n];intro e0;rw[<-e0]at hc;exact hc h1) ?_;rw[hA.n];intro e0;rw[e0]at h1;exact absurd h1 (by decide+kernel)
  ·exact absurd hp (qcD h1 h2 (.inl rfl))
 ·rcases hp with rfl|⟨rfl,hp⟩
  ·exact EA q1 q2 (by rw[Uw];exact hs _) (fun h=>by rw[q3]at h;cases h) (.inr (out _ ho))
  ·obtain⟨⟨r1,r2,r3⟩,ro⟩:=hon hp
   exact EA r1 r2 (by rw[Uw];exact hs _) (fun h=>by rw[r3]at h;cases h) (.inr (out _ ro))
theorem when_go(F:Str)(hF:F∈BFS):∀(ks:List KT) (f i:Nat) (acc:List TokC),(∀κ∈ks,κ∈opK)->At l i ks->VerbA l (i+ks.length)->ks.length<f->∃ts,Uz l F f i acc=(acc++ts,i+ks.length)/\ts.map kt=ks
 |[],f+1,i,acc,_,_,hv,_=>⟨[],by
   rw[JF,K8]at hv;rw[Uz,if_pos (.inr (.inl hv.v))];simp,rfl⟩
 |κ::ks,f+1,i,acc,hk,ha,hv,hf=>by
  obtain⟨⟨q1,q2,q3⟩,hfar⟩:=op_at ha.1 (hk κ Jg);rw[KZ,show i+(ks.length+1)=i+1+ks.length by omega]at hv;obtain⟨ts,e1,e2⟩:=when_go F hF ks f (i+1) (acc++[l.getD i noT]) (fun κ h=>hk κ (Jh _ h)) ha.2 hv (by rw[KZ]at hf;omega);refine⟨l.getD i noT::ts,?_,by rw[Ke,e2,ha.1.2]⟩;rw[Uz,if_neg (by rw[q1,q2,q3,qaF hfar (.inr hF)];simp),e1,KZ];simp only[Prod.mk.injEq];exact⟨by simp,by omega⟩
 |_,0,_,_,_,_,_,h=>absurd h (Nat.not_lt_zero _)
theorem verb_in{i:Nat}(h:VerbA l i):i<l.length:=by
 have:=h.v;unfold isV at this;by_cases hi:i<l.length
 ·exact hi
 ·rw[if_neg hi]at this;cases this
theorem head_when(hk:k<39){ks:List KT}{p n:Nat}(hks:∀κ∈ks,κ∈opK)(ha:At l (p+n) ks)(hv:VerbA l (p+n+ks.length)):∃ts,headW l (O++[bq k]) XW n p=(ts,p+n+ks.length)/\ts.map kt=ks:=by
 have hlt:=verb_in hv;obtain⟨ts,e1,e2⟩:=when_go (bq k) (qeL hk) ks (l.length-(p+n)) (p+n) [] hks ha hv (by omega);refine⟨ts,?_,e2⟩;unfold headW whenE;rw[if_pos rfl,Uw,e1,Jf]
end
theorem isNm_kt{W:Words}{ts:List TokC}{i:Nat}{κ:KT}(h:(ts.map kt)[i]?=some κ):qgC W ts i=(decide (κ.1=1) && W.name κ.2):=by
 rw[List.getElem?_map,Option.map_eq_some_iff]at h;obtain⟨t,ht,rfl⟩:=h;obtain⟨hi,rfl⟩:=Jz.1 ht;unfold qgC;rw[if_pos hi,Ko,JD hi];rfl
theorem isK_kt{ts:List TokC}{i:Nat}(hts:∀t∈ts,kt t∈opK)(k:UInt8)(ws:List Str)(hw:(opK.all fun κ=> !(decide (κ.1=k) && ws.contains κ.2))=true):isK ts i k ws=false:=by
 unfold isK;split
 ·rename_i hi
  rw[Ko,JD hi];have h1:=JB.1 hw _ (hts _ (VY hi));rw[Jj]at h1;exact h1
 ·rfl
theorem qrw{ts:List TokC}(hts:∀t∈ts,kt t∈opK)(hne:ts≠[]):qbW wordsO ts=some 1:=by
 obtain⟨t,ts,rfl⟩:=Ev hne;have hq:WI wordsO (t::ts) (t::ts).length 1=1:=by
  rw[KZ,WI,isK_kt hts 1 _ (by decide+kernel),if_neg (by simp)]
 have hg:∀i,Wu (t::ts) i=(0,false):=fun i=>by
  unfold Wu;rw[isK_kt hts 5 _ (by decide+kernel),if_neg (by simp)]
 have hall:(opK.all fun κ=>(decide (κ.1=1) && wordsO.name κ.2)||(decide (κ.1=2)||decide (κ.1=3)))=true:=by decide+kernel
 have h0:=JB.1 hall _ (hts t Jg);unfold qbW;by_cases hn:qgC wordsO (t::ts) 0=true
 ·rw[if_pos hn]
  simp only[hq,hg];rfl
 ·rw[if_neg hn,if_neg (by simp)]
  rw[isNm_kt (κ:=kt t) rfl]at hn;rw[Bool.not_eq_true]at hn;rw[hn,VJ,JJ,decide_eq_true_eq,decide_eq_true_eq]at h0;refine if_pos ?_;rcases h0 with h|h
  ·exact .inl h
  ·exact .inr (.inl h)
theorem qlV(ps:List PhrC)(w:Str):(qgM ps w).isSome=(phm ps).any fun p=>decide (p.1=w):=by
 unfold qgM phm;rw[Option.isSome_map,List.any_map];induction ps with
 |nil=>rfl
 |cons p ps ih=>
  rw[Br,Bp];by_cases h:p.words=w
  ·simp[h,ph2]
  ·simp only[VJ,decide_false,h,Function.comp,ph2]
   exact ih
theorem inline_kt{ps:List PhrC}{q:List (Str×List KT)}(h:phm ps=q)(hop:∀κ∈(q.getD 0 ([],[])).2,κ∈opK):YO wordsO ps=(decide ((q.getD 0 ([],[])).2=[])||((q.any fun p=>decide (p.1=qas)) && (!(q.any fun p=>decide (p.1=qaP)) && decide ((q.getD 0 ([],[])).2.length=1)))):=by
 subst h;have hf:((phm ps).getD 0 ([],[])).2=(firstT ps).map kt:=by
  unfold phm firstT;cases ps with
  |nil=>rfl
  |cons p ps=>rfl
 rw[hf]at hop|-
 unfold YO;by_cases hn:firstT ps=[]
 ·rw[if_pos hn,hn];rfl
 ·rw[if_neg hn,qlV,qlV,qrw (fun t ht=>hop _ (BL ht)) hn,Jp]
  have:decide ((firstT ps).map kt=[])=false:=by rw[decide_eq_false_iff_not,V5];exact hn
  rw[this,VJ];congr 2;rw[decide_eq_decide,Option.some.injEq];exact eq_comm
def spoilT:List Str:=[[73,70,32,65,32,61,32,66,32,65,68,68,32,49,32,84,79,32,65],
 [56],
 [65,32,77,79,86,69,32,49,32,84,79,32,66,32,46],
 [49],
 [77,79,86,69,32,65,32,84,79,32,66,32,69,78,68,45,73,70,32,46],
 [53],
 [73,70,32,65,32,61,32,66,32,46],
 [49],
 [73,70,32,65,68,68,32,49,32,84,79,32,65,32,46],
 [49],
 [73,70,32,65,32,69,76,83,69,32,65,68,68,32,49,32,84,79,32,65,32,46],
 [49],
 [73,70,32,65,32,84,72,69,78,32,69,76,83,69,32,65,68,68,32,49,32,84,79,32,65,32,46],
 [51],
 [73,70,32,65,32,65,68,68,32,49,32,84,79,32,66,32,69,76,83,69,32,65,68,68,32,50,32,84,79,32,66,32,69,76,83,69,32,65,68,68,32,51,32,84,79,32,66,32,46],
 [49,50],
 [73,70,32,65,32,65,68,68,32,49,32,84,79,32,66,32,69,78,68,45,73,70,32,69,76,83,69,32,65,68,68,32,49,32,84,79,32,66,32,46],
 [56],
 [80,69,82,70,79,82,77,32,65,68,68,32,49,32,84,79,32,65,32,46],
 [49],
 [80,69,82,70,79,82,77,32,46],
 [49],
 [80,69,82,70,79,82,77,32,53,32,84,73,77,69,83,32,46],
 [49],
 [80,69,82,70,79,82,77,32,65,32,84,73,77,69,83,32,65,68,68,32,49,32,84,79,32,66,32,46],
 [49],
 [80,69,82,70,79,82,77,32,80,32,53,32,84,73,77,69,83,32,65,68,68,32,49,32,84,79,32,66,32,69,78,68,45,80,69,82,70,79,82,77,32,46],
 [57],
 [69,86,65,76,85,65,84,69,32,65,32,46],
 [49],
 [69,86,65,76,85,65,84,69,32,65,32,87,72,69,78,32,79,84,72,69,82,32,65,68,68,32,49,32,84,79,32,66,32,46],
 [49],
 [69,86,65,76,85,65,84,69,32,65,32,87,72,69,78,32,49,32,46],
 [51],
 [69,86,65,76,85,65,84,69,32,65,32,87,72,69,78,32,65,68,68,32,49,32,84,79,32,66,32,46],
 [51],
 [69,86,65,76,85,65,84,69,32,65,32,87,72,69,78,32,79,84,72,69,82,32,65,68,68,32,49,32,84,79,32,65,32,87,72,69,78,32,49,32,65,68,68,32,49,32,84,79,32,65,32,46],
 [57],
 [69,86,65,76,85,65,84,69,32,65,32,87,72,69,78,32,49,32,87,72,69,78,32,79,84,72,69,82,32,46],
 [53],
 [82,69,65,68,32,70,32,65,84,32,69,78,68,32,46],
 [51],
 [82,69,65,68,32,70,32,65,84,32,69,78,68,32,77,79,86,69,32,65,32,84,79,32,66,32,65,84,32,69,78,68,32,77,79,86,69,32,65,32,84,79,32,66,32,46],
 [57],
 [73,70,32,65,32,65,68,68,32,49,32,84,79,32,66,32,69,78,68,45,65,68,68,32,67,32,46],
 [56],
 [65,68,68,32,49,32,84,79,32,65,32,79,78,32,83,73,90,69,32,69,82,82,79,82,32,67,79,78,84,73,78,85,69,32,78,79,84,32,83,73,90,69,32,69,82,82,79,82,32,46],
 [57],
 [83,69,65,82,67,72,32,84,32,65,84,32,69,78,68,32,67,79,78,84,73,78,85,69,32,46],
 [49],
 [69,78,68,45,73,70,32,46],
 [49],
 [77,79,86,69,32,65,32,84,79,32,66,32,46,32,69,76,83,69,32,46],
 [54],
 [67,65,76,76,32,65,32,69,88,67,69,80,84,73,79,78,32,69,88,67,69,80,84,73,79,78,32,46],
 [51],
 [73,70,32,65,32,84,72,69,78,32,67,79,78,84,73,78,85,69,32,84,72,69,78,32,67,79,78,84,73,78,85,69,32,46],
 [53]]
def goodT:Str:=[65,68,68,32,65,32,84,79,32,66,32,46,32]
def goods:Nat->Str
 |0=>[]
 |n+1=>goods n++goodT
def numE(s:Str):Int:=s.foldl (fun n c=>10*n+(c.toNat:Int)-48) 0
def badAt(s:Str)(ln:Int):Bool:=match qbB wordsO (Qh s) Qo 300 with
 |some (.bad f)=>decide (f=⟨4,ln,8⟩)
 |_=>false
def spoiled(k n:Nat):Bool:=badAt (goods n++spoilT.getD (2*k) []) (5*n+numE (spoilT.getD (2*k+1) []))
end Go.Stm
namespace Go.Stm
open Go.Col (Str FaultC okF)
open Go.Tok
def qoi:Nat->List StC->Bool
 |0,l=>decide (l.length<=1000000)
 |m+1,l=>decide (l.length<=1000000) && l.all fun s=>decide (s.verb.length<=1000000) && (decide (s.bodies.length<=1000000) && (decide (s.phrases.length<=1000000) && ((s.phrases.all fun p=>decide (p.words.length<=1000000) && (decide (p.toks.length<=1000000) && p.toks.all fun t=>decide (t.text.length<=1000000))) &&
  s.bodies.all fun b=>decide (b.1.length<=1000000) && (decide (b.2.1.length<=1000000) && ((b.2.1.all fun t=>decide (t.text.length<=1000000)) && qoi m b.2.2)))))
def qlN(s:Str)(n:Nat)(want:Str):Bool:=match qbB wordsO (Qh s) Qo 300 with
 |some (.ok L _)=>decide (L.length=n) && (decide (Lib.join (Zk 32 L) [32]=want) && (qoi 32 L && (decide ((Zk 32 L).length<=1000000) && decide (QW 32 L<=1000000))))
 |_=>false
def lvSa:Str:=[65,68,68,32,65,32,66,32,84,79,32,67,32,83,73,90,69,32,69,82,82,79,82,32,77,79,86,69,32,49,32,84,79,32,68,32,69,78,68,45,65,68,68,32,77,79,86,69,32,50,32,84,79,32,69,32,46]
def lvWa:Str:=[123,65,68,68,32,60,62,32,49,65,32,49,66,32,60,84,79,62,32,49,67,32,91,79,78,32,83,73,90,69,32,69,82,82,79,82,93,32,123,77,79,86,69,32,60,62,32,50,49,32,60,84,79,62,32,49,68,32,125,32,125,32,123,77,79,86,69,32,60,62,32,50,50,32,60,84,79,62,32,49,69,32,125]
theorem lv_a:qlN lvSa 2 lvWa=true:=by decide+kernel
def lvSb:Str:=[73,70,32,65,32,62,32,49,32,73,70,32,66,32,61,32,50,32,65,68,68,32,49,32,84,79,32,65,32,69,76,83,69,32,65,68,68,32,50,32,84,79,32,65,32,46,32,77,79,86,69,32,65,32,84,79,32,66,32,46]
def lvWb:Str:=[123,73,70,32,60,62,32,49,65,32,53,62,32,50,49,32,91,84,72,69,78,93,32,123,73,70,32,60,62,32,49,66,32,53,61,32,50,50,32,91,84,72,69,78,93,32,123,65,68,68,32,60,62,32,50,49,32,60,84,79,62,32,49,65,32,125,32,91,69,76,83,69,93,32,123,65,68,68,32,60,62,32,50,50,32,60,84,79,62,32,49,65,32,125,32,125,32,125,32,123,77,79,86,69,32,60,62,32,49,65,32,60,84,79,62,32,49,66,32,125]
theorem lv_b:qlN lvSb 2 lvWb=true:=by decide+kernel
def lvSc:Str:=[80,69,82,70,79,82,77,32,78,32,84,73,77,69,83,32,65,68,68,32,49,32,84,79,32,65,32,69,78,68,45,80,69,82,70,79,82,77,32,46,32,80,69,82,70,79,82,77,32,80,32,78,32,84,73,77,69,83,32,46]
def lvWc:Str:=[123,80,69,82,70,79,82,77,32,60,62,32,49,78,32,60,84,73,77,69,83,62,32,91,93,32,123,65,68,68,32,60,62,32,50,49,32,60,84,79,62,32,49,65,32,125,32,125,32,123,80,69,82,70,79,82,77,32,60,62,32,49,80,32,49,78,32,60,84,73,77,69,83,62,32,125]
theorem lv_c:qlN lvSc 2 lvWc=true:=by decide+kernel
def lvSd:Str:=[69,86,65,76,85,65,84,69,32,65,32,87,72,69,78,32,49,32,87,72,69,78,32,50,32,67,79,78,84,73,78,85,69,32,87,72,69,78,32,79,84,72,69,82,32,83,84,79,80,32,82,85,78,32,69,78,68,45,69,86,65,76,85,65,84,69,32,46]
def lvWd:Str:=[123,69,86,65,76,85,65,84,69,32,60,62,32,49,65,32,91,87,72,69,78,93,32,50,49,32,91,87,72,69,78,93,32,50,50,32,123,67,79,78,84,73,78,85,69,32,60,62,32,125,32,91,87,72,69,78,32,79,84,72,69,82,93,32,123,83,84,79,80,32,60,62,32,60,82,85,78,62,32,125,32,125]
theorem lv_d:qlN lvSd 1 lvWd=true:=by decide+kernel
def lvSr:Str:=[82,69,65,68,32,70,32,78,69,88,84,32,82,69,67,79,82,68,32,73,78,84,79,32,88,32,65,84,32,69,78,68,32,67,79,78,84,73,78,85,69,32,46]
def lvWr:Str:=[123,82,69,65,68,32,60,62,32,49,70,32,60,78,69,88,84,62,32,60,73,78,84,79,62,32,49,88,32,91,65,84,32,69,78,68,93,32,123,67,79,78,84,73,78,85,69,32,60,62,32,125,32,125]
theorem lv_r:qlN lvSr 1 lvWr=true:=by decide+kernel
def fiveB(s:Str):Bool:=match qbB wordsO (Qh s) Qo 300 with
 |some (.ok L _)=>decide ((if WZ 32 L=true then 0 else QW 32 L)=5)
 |_=>false
theorem lv_five:fiveB lvSb=true:=by decide+kernel
def lvT:List Str:=[[65,68,68,32,49,32,84,79,32,65,32,69,78,68,45,73,70,32,46],
 [73,70,32,65,32,61,32,66,32,46],
 [80,69,82,70,79,82,77,32,65,68,68,32,49,32,84,79,32,65,32,46],
 [53,32,84,79,32,65,32,46]]
def lvL:List Int:=[5,1,1,1]
theorem lv_bad:((KP 4).all fun n=>badAt (lvT.getD n []) (lvL.getD n 0) && (decide ((lvT.getD n []).length<=100) && Go.Proofs.YtgiadjbiimkbiaaGreatDoor.asciiB (lvT.getD n [])))=true:=by decide+kernel
end Go.Stm
namespace Go.Proofs.YtgiadjbiimkbiaaGreatDoor
open Go.AM
open Go.Proofs
open Go.Col (Str FaultC okF)
open Go.Tok (TokC)
open Go.Stm
open Go.RowKit (Below)
set_option maxRecDepth 100000
theorem qdd:∀{m:Nat} {l:List StC},qoi m l=true->SmallS m l/\TxS m l
 |0,l,h=>⟨of_decide_eq_true (p:=l.length<=1000000) h,trivial⟩
 |m+1,l,h=>by
  simp only[Wy,JB,qoi]at h;obtain⟨h0,h1⟩:=h;exact⟨⟨h0,fun s hs=>⟨(h1 s hs).2.1,(h1 s hs).2.2.1,fun p hp=>((h1 s hs).2.2.2.1 p hp).2.1,fun b hb=>⟨((h1 s hs).2.2.2.2 b hb).2.1,(qdd ((h1 s hs).2.2.2.2 b hb).2.2.2).1⟩⟩⟩,
   fun s hs=>⟨(h1 s hs).1,fun p hp=>⟨((h1 s hs).2.2.2.1 p hp).1,((h1 s hs).2.2.2.1 p hp).2.2⟩,fun b hb=>⟨((h1 s hs).2.2.2.2 b hb).1,((h1 s hs).2.2.2.2 b hb).2.2.1,(qdd ((h1 s hs).2.2.2.2 b hb).2.2.2).2⟩⟩⟩
theorem qhY{l:List TokC}{r r':Rs (List StC)}{f:Nat}(h:qbB wordsO l Qo f=some r)(h':ParseR wordsO l Qo r'):r'=r:=ParseR.one h' ⟨f,h⟩
theorem qcM{wz:World}{s want:Str}{n:Nat}{h h':AHeap}{r:AVal}(hb:qlN s n want=true)(ho:qmC wz (Qh s) h r h'):
 Sub h h'/\∃L rv,r= .tuple [rv,faultV okF]/\StsV wz 32 h' rv L/\L.length=n/\Lib.join (Zk 32 L) [32]=want/\SmallS 32 L/\TxS 32 L/\(Zk 32 L).length<=1000000/\QW 32 L<=1000000/\∃j,qbB wordsO (Qh s) Qo 300=some (.ok L j):=by
 obtain⟨hs,ho⟩:=ho;unfold qlN at hb;cases hp:qbB wordsO (Qh s) Qo 300 with
 |none=>rw[hp]at hb;cases hb
 |some x=>
  rw[hp]at hb;cases x with
  |bad f=>cases hb
  |ok L j=>
   simp only[Wy]at hb;obtain⟨b1,b2,b3,b4,b5⟩:=hb;rcases ho with⟨f,q,-⟩|⟨L',j',rv,q,e,hv⟩
   ·cases qhY hp q
   ·cases qhY hp q
    exact⟨hs,L,rv,e,hv,b1,b2,(qdd b3).1,(qdd b3).2,b4,b5,j,rfl⟩
theorem parse_bad{wz:World}{s:Str}{ln:Int}{h h':AHeap}{r:AVal}(hb:badAt s ln=true)(ho:qmC wz (Qh s) h r h'):Sub h h'/\r= .tuple [.nilSlice,faultV ⟨4,ln,8⟩]:=by
 obtain⟨hs,ho⟩:=ho;unfold badAt at hb;cases hp:qbB wordsO (Qh s) Qo 300 with
 |none=>rw[hp]at hb;cases hb
 |some x=>
  rw[hp]at hb;cases x with
  |ok L j=>cases hb
  |bad f=>
   have hb:=of_decide_eq_true hb;subst hb;rcases ho with⟨f,q,e⟩|⟨L',j',rv,q,-⟩
   ·cases qhY hp q
    exact⟨hs,e⟩
   ·cases qhY hp q
theorem lv_count{L:List StC}{j:Nat}(h:qbB wordsO (Qh lvSb) Qo 300=some (.ok L j)):qpA 32 L=5:=by
 have:=lv_five;unfold fiveB at this;rw[h]at this;exact of_decide_eq_true this
theorem qcF(wz:World)(hm:MaxL wz)(ha:Asp wz)(h:AHeap)(s:Str)(hl:s.length<=999999)(has:asciiB s=true):
 ACall Tryz.prog wz 16 [.str s] h (fun r h'=>IsL wz h' 5 r ((Qh s).map Zb)/\Sub h h'):=
 (qdY wz hm ha h s hl has).mono fun r h' ⟨p,a,_,b⟩=>⟨a.isL (b.in_ (i:=1) rfl),b.in_ (i:=0) rfl⟩
theorem qcU(wz:World)(h:AHeap)(v:AVal)(l:List StC)(hs:StsV wz 32 h v l)(hsm:SmallS 32 l)(htx:TxS 32 l)(hT:(Zk 32 l).length<=1000000):
 ACall Tryz.prog wz 20 [v] h (fun r h'=>IsStrs wz h' r (Zk 32 l)/\Sub h h'):=
 (qnT wz 32 h v l hs hsm htx (by omega)).mono fun r h' ⟨p,a,_,b⟩=>⟨a.isL (b.in_ (i:=1) rfl),b.in_ (i:=0) rfl⟩
set_option maxHeartbeats 32000000 in
theorem qgo(wz:World)(hm:MaxL wz)(ha:Asp wz)(h:AHeap):ACall Tryz.prog wz 13 [] h (fun r h'=>r= .bool true/\Sub h h'):=by
 refine qP (n:=141) (rs:=[.tmp 0]) Tryz.func13 rfl rfl rfl rfl (V7 rfl) ?_;simp only[qU];refine awp_rseq [] (by rfl) fun K hK=>?_;simp+decide only[qJ,cond_false,XU,Yy,↓qa];apply hK;clear hK K;refine awp_rseq [1,2] (by rfl) fun K hK=>?_;refine qM (by rfl) (by rfl) (qcF wz hm ha _ lvSa (by decide) (by decide)) fun x1q0 h1q0 hx1q0=>?_;obtain⟨ht1,hsT1⟩:=hx1q0;have hs_h1q0:Sub h h1q0:=Bt zqC hsT1;have hr_h1q0:=hs_h1q0;refine qM (by rfl) (by rfl) (qgp wz hm ha (Qh lvSa) (qaL (by decide)) (YW (by decide)) _ x1q0 ht1) fun x1q1 h1q1 hx1q1=>?_;obtain⟨hsP1,La,rva,e1,hva,hna,hja,hsma,htxa,hsla,hcta,jja,hppa⟩:=qcM lv_a hx1q1;subst e1;have hvla:=hva.shape.1;have hvna:=qdc hva;rw[hna]at hvna;have hs_h1q1:Sub h h1q1:=Bt zqC hsP1;have hr_h1q1:Sub h1q0 h1q1:=Bt zqC hsP1;simp+decide only[Qw,cond_false,XU,Xo,Yy,Xi,Xy,↓qc,↓Xr,Nat.reduceAdd,faultV];refine Qz qhv (cs:=[.int .i64 0, .int .i64 0, .int .i64 0]) (by rfl) fun k1q5 hk1q5=>?_;have hn_1q5:h1q1 k1q5=none:=by first|assumption|(simp only[Bi]at hk1q5;simp only[hk1q5])
 have hf_1q5:h k1q5=none:=Bj hs_h1q1 hn_1q5;simp+decide only[qJ,cond_false,XU,Yy,↓qa];refine qN (by rfl) (by rfl) zqA UF (by rfl) (by rfl) zqD (Js _) (by rfl) ?_;simp only[QZ,Bn];simp+decide only[qR,cond_false,XU,Yy,Nat.reduceAdd];apply hK;clear hK K;refine awp_rseq [1,2,3,4] (by rfl) fun K hK=>?_;refine qM (by rfl) (by rfl) (qcF wz hm ha _ lvSb (by decide) (by decide)) fun x2q0 h2q0 hx2q0=>?_;obtain⟨ht2,hsT2⟩:=hx2q0;have hs_h2q0:Sub h h2q0:=Bt zqC hsT2;have hr_h2q0:Sub h1q1 h2q0:=Bt zqC hsT2;have eb_1q5:=hsT2 k1q5 _ zqA;refine qM (by rfl) (by rfl) (qgp wz hm ha (Qh lvSb) (qaL (by decide)) (YW (by decide)) _ x2q0 ht2) fun x2q1 h2q1 hx2q1=>?_;obtain⟨hsP2,Lb,rvb,e2,hvb,hnb,hjb,hsmb,htxb,hslb,hctb,jjb,hppb⟩:=qcM lv_b hx2q1;subst e2;have hvlb:=hvb.shape.1;have hvnb:=qdc hvb;rw[hnb]at hvnb;have hs_h2q1:Sub h h2q1:=Bt zqC hsP2;have hr_h2q1:Sub h2q0 h2q1:=Bt zqC hsP2;have eb_1q5:=hsP2 k1q5 _ zqA;simp+decide only[Qw,cond_false,XU,Xo,Yy,Xi,Xy,↓qc,↓Xr,Nat.reduceAdd,faultV];refine Qz qhv (cs:=[.int .i64 0, .int .i64 0, .int .i64 0]) (by rfl) fun k2q5 hk2q5=>?_;have hn_2q5:h2q1 k2q5=none:=by first|assumption|(simp only[Bi]at hk2q5;simp only[hk2q5])
 have hf_2q5:h k2q5=none:=Bj hs_h2q1 hn_2q5;have ne_2q5_1q5:k2q5≠k1q5:=Bl hn_2q5 eb_1q5;simp+decide only[qJ,cond_false,XU,Yy,↓qa];refine qN (by rfl) (by rfl) zqA UF (by rfl) (by rfl) zqD (Js _) (by rfl) ?_;simp only[QZ,Bn];simp+decide only[qR,cond_false,XU,Yy,Nat.reduceAdd];apply hK;clear hK K;refine awp_rseq [1,2,3,4,5,6] (by rfl) fun K hK=>?_;refine qM (by rfl) (by rfl) (qcF wz hm ha _ lvSc (by decide) (by decide)) fun x3q0 h3q0 hx3q0=>?_;obtain⟨ht3,hsT3⟩:=hx3q0;have hs_h3q0:Sub h h3q0:=Bt zqC hsT3;have hr_h3q0:Sub h2q1 h3q0:=Bt zqC hsT3;have eb_2q5:=hsT3 k2q5 _ zqA;have eb_1q5:=hsT3 k1q5 _ zqA;refine qM (by rfl) (by rfl) (qgp wz hm ha (Qh lvSc) (qaL (by decide)) (YW (by decide)) _ x3q0 ht3) fun x3q1 h3q1 hx3q1=>?_;obtain⟨hsP3,Lc,rvc,e3,hvc,hnc,hjc,hsmc,htxc,hslc,hctc,jjc,hppc⟩:=qcM lv_c hx3q1;subst e3;have hvlc:=hvc.shape.1;have hvnc:=qdc hvc;rw[hnc]at hvnc;have hs_h3q1:Sub h h3q1:=Bt zqC hsP3;have hr_h3q1:Sub h3q0 h3q1:=Bt zqC hsP3;have eb_1q5:=hsP3 k1q5 _ zqA;have eb_2q5:=hsP3 k2q5 _ zqA;simp+decide only[Qw,cond_false,XU,Xo,Yy,Xi,Xy,↓qc,↓Xr,Nat.reduceAdd,faultV];refine Qz qhv (cs:=[.int .i64 0, .int .i64 0, .int .i64 0]) (by rfl) fun k3q5 hk3q5=>?_;have hn_3q5:h3q1 k3q5=none:=by first|assumption|(simp only[Bi]at hk3q5;simp only[hk3q5])
 have hf_3q5:h k3q5=none:=Bj hs_h3q1 hn_3q5;have ne_3q5_1q5:k3q5≠k1q5:=Bl hn_3q5 eb_1q5;have ne_3q5_2q5:k3q5≠k2q5:=Bl hn_3q5 eb_2q5;simp+decide only[qJ,cond_false,XU,Yy,↓qa];refine qN (by rfl) (by rfl) zqA UF (by rfl) (by rfl) zqD (Js _) (by rfl) ?_;simp only[QZ,Bn];simp+decide only[qR,cond_false,XU,Yy,Nat.reduceAdd];apply hK;clear hK K;refine awp_rseq [1,2,3,4,5,6,7,8] (by rfl) fun K hK=>?_;refine qM (by rfl) (by rfl) (qcF wz hm ha _ lvSd (by decide) (by decide)) fun x4q0 h4q0 hx4q0=>?_;obtain⟨ht4,hsT4⟩:=hx4q0;have hs_h4q0:Sub h h4q0:=Bt zqC hsT4;have hr_h4q0:Sub h3q1 h4q0:=Bt zqC hsT4;have eb_3q5:=hsT4 k3q5 _ zqA;have eb_1q5:=hsT4 k1q5 _ zqA;have eb_2q5:=hsT4 k2q5 _ zqA;refine qM (by rfl) (by rfl) (qgp wz hm ha (Qh lvSd) (qaL (by decide)) (YW (by decide)) _ x4q0 ht4) fun x4q1 h4q1 hx4q1=>?_;obtain⟨hsP4,Ld,rvd,e4,hvd,hnd,hjd,hsmd,htxd,hsld,hctd,jjd,hppd⟩:=qcM lv_d hx4q1;subst e4;have hvld:=hvd.shape.1;have hvnd:=qdc hvd;rw[hnd]at hvnd;have hs_h4q1:Sub h h4q1:=Bt zqC hsP4;have hr_h4q1:Sub h4q0 h4q1:=Bt zqC hsP4;have eb_1q5:=hsP4 k1q5 _ zqA;have eb_2q5:=hsP4 k2q5 _ zqA;have eb_3q5:=hsP4 k3q5 _ zqA;simp+decide only[Qw,cond_false,XU,Xo,Yy,Xi,Xy,↓qc,↓Xr,Nat.reduceAdd,faultV];refine Qz qhv (cs:=[.int .i64 0, .int .i64 0, .int .i64 0]) (by rfl) fun k4q5 hk4q5=>?_;have hn_4q5:h4q1 k4q5=none:=by first|assumption|(simp only[Bi]at hk4q5;simp only[hk4q5])
 have hf_4q5:h k4q5=none:=Bj hs_h4q1 hn_4q5;have ne_4q5_1q5:k4q5≠k1q5:=Bl hn_4q5 eb_1q5;have ne_4q5_2q5:k4q5≠k2q5:=Bl hn_4q5 eb_2q5;have ne_4q5_3q5:k4q5≠k3q5:=Bl hn_4q5 eb_3q5;simp+decide only[qJ,cond_false,XU,Yy,↓qa];refine qN (by rfl) (by rfl) zqA UF (by rfl) (by rfl) zqD (Js _) (by rfl) ?_;simp only[QZ,Bn];simp+decide only[qR,cond_false,XU,Yy,Nat.reduceAdd];apply hK;clear hK K;refine awp_rseq [1,2,3,4,5,6,7,8,9,10] (by rfl) fun K hK=>?_;refine qM (by rfl) (by rfl) (qcF wz hm ha _ lvSr (by decide) (by decide)) fun x5q0 h5q0 hx5q0=>?_;obtain⟨ht5,hsT5⟩:=hx5q0;have hs_h5q0:Sub h h5q0:=Bt zqC hsT5;have hr_h5q0:Sub h4q1 h5q0:=Bt zqC hsT5;have eb_4q5:=hsT5 k4q5 _ zqA;have eb_1q5:=hsT5 k1q5 _ zqA;have eb_2q5:=hsT5 k2q5 _ zqA;have eb_3q5:=hsT5 k3q5 _ zqA;refine qM (by rfl) (by rfl) (qgp wz hm ha (Qh lvSr) (qaL (by decide)) (YW (by decide)) _ x5q0 ht5) fun x5q1 h5q1 hx5q1=>?_;obtain⟨hsP5,Lr,rvr,e5,hvr,hnr,hjr,hsmr,htxr,hslr,hctr,jjr,hppr⟩:=qcM lv_r hx5q1;subst e5;have hvlr:=hvr.shape.1;have hvnr:=qdc hvr;rw[hnr]at hvnr;have hs_h5q1:Sub h h5q1:=Bt zqC hsP5;have hr_h5q1:Sub h5q0 h5q1:=Bt zqC hsP5;have eb_1q5:=hsP5 k1q5 _ zqA;have eb_2q5:=hsP5 k2q5 _ zqA;have eb_3q5:=hsP5 k3q5 _ zqA;have eb_4q5:=hsP5 k4q5 _ zqA;simp+decide only[Qw,cond_false,XU,Xo,Yy,Xi,Xy,↓qc,↓Xr,Nat.reduceAdd,faultV];refine Qz qhv (cs:=[.int .i64 0, .int .i64 0, .int .i64 0]) (by rfl) fun k5q5 hk5q5=>?_;have hn_5q5:h5q1 k5q5=none:=by first|assumption|(simp only[Bi]at hk5q5;simp only[hk5q5])
 have hf_5q5:h k5q5=none:=Bj hs_h5q1 hn_5q5;have ne_5q5_1q5:k5q5≠k1q5:=Bl hn_5q5 eb_1q5;have ne_5q5_2q5:k5q5≠k2q5:=Bl hn_5q5 eb_2q5;have ne_5q5_3q5:k5q5≠k3q5:=Bl hn_5q5 eb_3q5;have ne_5q5_4q5:k5q5≠k4q5:=Bl hn_5q5 eb_4q5;simp+decide only[qJ,cond_false,XU,Yy,↓qa];refine qN (by rfl) (by rfl) zqA UF (by rfl) (by rfl) zqD (Js _) (by rfl) ?_;simp only[QZ,Bn];simp+decide only[qR,cond_false,XU,Yy,Nat.reduceAdd];apply hK;clear hK K;refine qo ?_;refine awp_rseq [1,3,5,7,9,87] (by kernel_rfl) fun K hK=>?_;simp+decide only[QH,Zn,Ya,Yh,Zf,Xk,cond_true,Ye,Yw,UR,↓qg,qoT,↓qj,qd ag46,↓qf,↓qc,↓QR,qY,qZ,qW,↓XP,↓QI,↓QE,↓Xc,↓qcW,ne_5q5_1q5.symm,ne_5q5_2q5.symm,ne_5q5_3q5.symm,ne_5q5_4q5.symm,Ql eb_1q5,Ql eb_2q5,Ql eb_3q5,Ql eb_4q5,hvna,hvnb,hvnc,hvnd,hvnr];apply hK;clear hK K;refine qz (b:=_) rfl (fun hb1=>?_) (fun hb1=>?_)
 ·cases hb1
 ·try simp only[qG]at hb1
  refine qE ?_;change Awp _ _ _ _ _ _ _;refine qo ?_;refine awp_rseq [5,7,9,102] (by rfl) fun K hK=>?_;simp+decide only[Qw,cond_false,XU,Yy,↓qc];refine qM (by rfl) (by rfl) (qcU wz _ rva La (hva.mono (by repeat (first|exact Vk _|assumption|refine Bt ?_ (Vl (by assumption))|refine Bt ?_ (by assumption)))) hsma htxa hsla) fun x8q1 h8q1 hx8q1=>?_;obtain⟨hsta,hsSa⟩:=hx8q1;have hs_h8q1:Sub h h8q1:=Bt zqC hsSa;have hr_h8q1:Sub h5q1 h8q1:=Bt zqC hsSa;have eb_5q5:=hsSa k5q5 _ zqA;have eb_1q5:=hsSa k1q5 _ zqA;have eb_2q5:=hsSa k2q5 _ zqA;have eb_3q5:=hsSa k3q5 _ zqA;have eb_4q5:=hsSa k4q5 _ zqA;refine QM (V:= .str lvWa) (by rfl) (by rfl) (by rw[<-hja];exact qjD wz _ _ (Zk 32 La) [32] hsta (by omega) (by rw[hja];decide)) ?_;simp+decide only[XI,XU,XF,qcm,Qb,agP,Us,XM,cond_true,Ye,qan,↓qf,↓qc,↓Xc,qY,qZ,qW];refine Ub (by rfl) ?_;refine qM (by rfl) (by rfl) (qcU wz _ rvb Lb (hvb.mono (by repeat (first|exact Vk _|assumption|refine Bt ?_ (Vl (by assumption))|refine Bt ?_ (by assumption)))) hsmb htxb hslb) fun x8q6 h8q6 hx8q6=>?_;obtain⟨hstb,hsSb⟩:=hx8q6;have hs_h8q6:Sub h h8q6:=Bt zqC hsSb;have hr_h8q6:Sub h8q1 h8q6:=Bt zqC hsSb;have eb_1q5:=hsSb k1q5 _ zqA;have eb_2q5:=hsSb k2q5 _ zqA;have eb_3q5:=hsSb k3q5 _ zqA;have eb_4q5:=hsSb k4q5 _ zqA;have eb_5q5:=hsSb k5q5 _ zqA;refine Ub (by rfl) ?_;refine QM (V:= .str lvWb) (by rfl) (by rfl) (by rw[<-hjb];exact qjD wz _ _ (Zk 32 Lb) [32] hstb (by omega) (by rw[hjb];decide)) ?_;simp+decide only[XI,XU,XF,YS,Qb,Wi,Xk,XM,cond_true,Ye,qan,↓QI,qY,qZ,qW,↓QE,↓qc,↓Xc];refine Ub (by rfl) ?_;refine qM (by rfl) (by rfl) (c_Count wz 32 _ rvb Lb (hvb.mono (by repeat (first|exact Vk _|assumption|refine Bt ?_ (Vl (by assumption))|refine Bt ?_ (by assumption)))) hsmb (by omega)) fun x8q12 h8q12 hx8q12=>?_;obtain⟨rfl,hsC⟩:=hx8q12;rw[lv_count hppb];have hs_h8q12:Sub h h8q12:=Bt zqC hsC;have hr_h8q12:Sub h8q6 h8q12:=Bt zqC hsC;have eb_1q5:=hsC k1q5 _ zqA;have eb_2q5:=hsC k2q5 _ zqA;have eb_3q5:=hsC k3q5 _ zqA;have eb_4q5:=hsC k4q5 _ zqA;have eb_5q5:=hsC k5q5 _ zqA;simp+decide only[Zp,Vz,Ya,XF,Zf,Xk,cond_true,Ye,UR,↓QI,qY,qZ,qW,↓QE];apply hK;clear hK K;refine qz (b:=_) rfl (fun hb2=>?_) (fun hb2=>?_)
  ·cases hb2
  ·try simp only[qG]at hb2
   refine qE ?_;change Awp _ _ _ _ _ _ _;refine qo ?_;refine awp_rseq [118] (by rfl) fun K hK=>?_;simp+decide only[Qw,cond_false,XU,Yy,↓qc];refine qM (by rfl) (by rfl) (qcU wz _ rvc Lc (hvc.mono (by repeat (first|exact Vk _|assumption|refine Bt ?_ (Vl (by assumption))|refine Bt ?_ (by assumption)))) hsmc htxc hslc) fun x10q1 h10q1 hx10q1=>?_;obtain⟨hstc,hsSc⟩:=hx10q1;have hs_h10q1:Sub h h10q1:=Bt zqC hsSc;have hr_h10q1:Sub h8q12 h10q1:=Bt zqC hsSc;have eb_1q5:=hsSc k1q5 _ zqA;have eb_2q5:=hsSc k2q5 _ zqA;have eb_3q5:=hsSc k3q5 _ zqA;have eb_4q5:=hsSc k4q5 _ zqA;have eb_5q5:=hsSc k5q5 _ zqA;refine QM (V:= .str lvWc) (by rfl) (by rfl) (by rw[<-hjc];exact qjD wz _ _ (Zk 32 Lc) [32] hstc (by omega) (by rw[hjc];decide)) ?_;simp+decide only[XI,XU,XF,qcm,Qb,agP,Us,XM,cond_true,Ye,qan,↓qf,↓qc,↓Xc,qY,qZ,qW];refine Ub (by rfl) ?_;refine qM (by rfl) (by rfl) (qcU wz _ rvd Ld (hvd.mono (by repeat (first|exact Vk _|assumption|refine Bt ?_ (Vl (by assumption))|refine Bt ?_ (by assumption)))) hsmd htxd hsld) fun x10q6 h10q6 hx10q6=>?_;obtain⟨hstd,hsSd⟩:=hx10q6;have hs_h10q6:Sub h h10q6:=Bt zqC hsSd;have hr_h10q6:Sub h10q1 h10q6:=Bt zqC hsSd;have eb_1q5:=hsSd k1q5 _ zqA;have eb_2q5:=hsSd k2q5 _ zqA;have eb_3q5:=hsSd k3q5 _ zqA;have eb_4q5:=hsSd k4q5 _ zqA;have eb_5q5:=hsSd k5q5 _ zqA;refine Ub (by rfl) ?_;refine QM (V:= .str lvWd) (by rfl) (by rfl) (by rw[<-hjd];exact qjD wz _ _ (Zk 32 Ld) [32] hstd (by omega) (by rw[hjd];decide)) ?_;simp+decide only[XI,XU,XF,YS,Qb,Wi,Xk,XM,cond_true,Ye,qan,↓QI,qY,qZ,qW,↓QE,↓qc,↓Xc];refine Ub (by rfl) ?_;refine qM (by rfl) (by rfl) (qcU wz _ rvr Lr (hvr.mono (by repeat (first|exact Vk _|assumption|refine Bt ?_ (Vl (by assumption))|refine Bt ?_ (by assumption)))) hsmr htxr hslr) fun x10q12 h10q12 hx10q12=>?_;obtain⟨hstr,hsSr⟩:=hx10q12;have hs_h10q12:Sub h h10q12:=Bt zqC hsSr;have hr_h10q12:Sub h10q6 h10q12:=Bt zqC hsSr;have eb_1q5:=hsSr k1q5 _ zqA;have eb_2q5:=hsSr k2q5 _ zqA;have eb_3q5:=hsSr k3q5 _ zqA;have eb_4q5:=hsSr k4q5 _ zqA;have eb_5q5:=hsSr k5q5 _ zqA;refine Ub (by rfl) ?_;refine QM (V:= .str lvWr) (by rfl) (by rfl) (by rw[<-hjr];exact qjD wz _ _ (Zk 32 Lr) [32] hstr (by omega) (by rw[hjr];decide)) ?_;simp+decide only[qR,Yv,XU,XF,YS,Qb,Wi,Xk,XM,cond_true,Ye,qan,↓QI,qY,qZ,qW,↓QE];apply hK;clear hK K;refine qz (b:=_) rfl (fun hb3=>?_) (fun hb3=>?_)
   ·cases hb3
   ·try simp only[qG]at hb3
    refine qE ?_;change Awp _ _ _ _ _ _ _;refine awp_rseq [11] (by rfl) fun K hK=>?_;refine Qd (cs:=lvT.map AVal.str) (by kernel_rfl) fun k12q0 hk12q0=>?_;have hn_12q0:h10q12 k12q0=none:=by first|assumption|(simp only[Bi]at hk12q0;simp only[hk12q0])
    have hf_12q0:h k12q0=none:=Bj hs_h10q12 hn_12q0;have ne_12q0_1q5:k12q0≠k1q5:=Bl hn_12q0 eb_1q5;have ne_12q0_2q5:k12q0≠k2q5:=Bl hn_12q0 eb_2q5;have ne_12q0_3q5:k12q0≠k3q5:=Bl hn_12q0 eb_3q5;have ne_12q0_4q5:k12q0≠k4q5:=Bl hn_12q0 eb_4q5;have ne_12q0_5q5:k12q0≠k5q5:=Bl hn_12q0 eb_5q5;simp+decide only[qJ,cond_false,XU,Yy,↓qa];apply hK;clear hK K;refine qo ?_;refine awp_rseq [11,12] (by rfl) fun K hK=>?_;simp+decide only[qJ,cond_false,XU,Yy,↓qa];apply hK;clear hK K;refine qK ?_;refine QD [11,12] (fun g:LtG=>[(11, .slice (.own k12q0) 0 4 (.exact 4)),(12, .int .i64 g.i)]) (fun g:LtG=>g.H) (fun g:LtG=>g.i<=4/\Sub h g.H/\g.H k12q0=some ⟨lvT.map AVal.str,0⟩) (fun g:LtG=>4-g.i) ⟨0, .nilSlice,emp,_⟩ (by rfl) (Vk _) ⟨Js _,zqB,zqA⟩ ?_;rintro⟨i,rv,rp,H⟩ ⟨hi,hs_H,eb_12q0⟩;simp only at hi hs_H eb_12q0|-
    refine qo ?_;refine awp_rseq [11,12,121] (by rfl) fun K hK=>?_;simp+decide only[QH,Vz,Ya,VI,VJ,ZH,decide_true,VK,decide_false,VL,VM,VN,VO,VP,false_implies,forall_const,YU,WJ,Zz,cond_true,Ye,↓qc,↓qf];apply hK;clear hK K;refine qz (b:=_) rfl (fun hb4=>?_) (fun hb4=>?_)
    ·try simp only[qG]at hb4
     have hi':i<4:=by omega
     obtain⟨s,hs⟩:∃s,s=lvT.getD i []:=⟨_,rfl⟩
     obtain⟨ln,hln⟩:∃ln,ln=lvL.getD i 0:=⟨_,rfl⟩
     have es:=qgZ (wz:=wz) eb_12q0 hi';rw[<-hs,YG wz eb_12q0]at es;have hbad:=JB.1 lv_bad i (JC.2 hi');rw[<-hs,<-hln,Ky,Ky,decide_eq_true_eq]at hbad;obtain⟨hbad,hsl,hsa⟩:=hbad;have hi4:((i:Int)<4)=True:=eq_true (by omega);have hwi:IntKind.i64.wrap ((i:Int)+1)=((i+1:Nat):Int):=by rw[wrap_i64 (by omega) (by omega)];omega
     have hcell:([AVal.int .i64 5, .int .i64 1, .int .i64 1, .int .i64 1]:List AVal).getD i .dead= .int .i64 ln:=by
      rw[hln];have q:i=0\/i=1\/i=2\/i=3:=by omega
      rcases q with rfl|rfl|rfl|rfl<;>rfl
     refine qE ?_;change Awp _ _ _ _ _ _ _;refine qo ?_;refine qK ?_;refine awp_rseq [11,12,14] (by rfl) fun K hK=>?_;simp+decide only[Qw,cond_false,Vz,Xa,Vw,Qe,Yy,Bo,↓qc,↓qI,qh Tryz.underlying22 sz9,↓qj,qd ag9,Ql eb_12q0,es,hi4];repeat (with_reducible refine zqP ?_)
     refine qM (by rfl) (by rfl) (qcF wz hm ha _ s (by omega) hsa) fun x16q4 h16q4 hx16q4=>?_;obtain⟨ht16,hsT16⟩:=hx16q4;have hs_h16q4:Sub h h16q4:=Bt zqC hsT16;have hr_h16q4:Sub H h16q4:=Bt zqC hsT16;have eb_12q0:=hsT16 k12q0 _ zqA;refine qM (by rfl) (by rfl) (qgp wz hm ha (Qh s) (qaL (by omega)) (YW (by omega)) _ x16q4 ht16) fun x16q5 h16q5 hx16q5=>?_;obtain⟨hsP16,e16⟩:=parse_bad hbad hx16q5;subst e16;have hs_h16q5:Sub h h16q5:=Bt zqC hsP16;have hr_h16q5:Sub h16q4 h16q5:=Bt zqC hsP16;have eb_12q0:=hsP16 k12q0 _ zqA;simp+decide only[Qw,cond_false,Vz,Vw,Qe,Xo,Yy,Xi,Xy,↓qc,↓Xr,Nat.reduceAdd,faultV];refine Qz qhv (cs:=[.int .i64 0, .int .i64 0, .int .i64 0]) (by rfl) fun k16q9 hk16q9=>?_;have hn_16q9:h16q5 k16q9=none:=by first|assumption|(simp only[Bi]at hk16q9;simp only[hk16q9])
     have hf_16q9:h k16q9=none:=Bj hs_h16q5 hn_16q9;have ne_16q9_12q0:k16q9≠k12q0:=Bl hn_16q9 eb_12q0;simp+decide only[qJ,cond_false,Vz,Vw,Qe,Yy,↓qa];refine qN (by rfl) (by rfl) zqA UF (by rfl) (by rfl) zqD (Js _) (by rfl) ?_;simp only[QZ,Bn];simp+decide only[qR,cond_false,Vz,Vw,Qe,Yy,Nat.reduceAdd];apply hK;clear hK K;refine qbF 8 [] [11,12,140] mixed (by kernel_rfl) (by rfl) fun K hK=>?_;simp only[Zu,VU,List.take_nil,List.drop_nil];simp+decide only[qR,cond_false,Vz,Vw,Qe,Yy,ZN,↓qbh,Qa qeR UF,Nat.reduceAdd];refine UY (by rfl) ?_;refine Qd (cs:=[.int .i64 5, .int .i64 1, .int .i64 1, .int .i64 1]) (by kernel_rfl) fun k17q1 hk17q1=>?_;have ne_17q1_16q9:k17q1≠k16q9:=by simp only[Bi]at hk17q1;simp only[Ua,hk17q1]
     have hn_17q1:h16q5 k17q1=none:=by first|assumption|(simp only[Bi]at hk17q1;simp only[hk17q1])
     have hf_17q1:h k17q1=none:=Bj hs_h16q5 hn_17q1;have ne_17q1_12q0:k17q1≠k12q0:=Bl hn_17q1 eb_12q0;rw[Qt];simp+decide only[XI,Vz,Vw,Qe,qF,VI,VJ,ZH,decide_true,VK,decide_false,VL,VM,VN,VO,VP,false_implies,forall_const,YU,WJ,XN,cond_true,Ye,Bo,Yo,XO,Za,XZ,Xt,WO,Zw,evP,ZN,Zj,↓qbg,↓Uj,qh Tryz.underlying100 sz3,↓qbh,qd ag3,↓qij,↓XL,qgr,bld48_0_1,↓qfw,qji,ne48,hcell];repeat (with_reducible refine zqP ?_)
     apply hK;clear hK K;refine qz (b:=_) rfl (fun hb5=>?_) (fun hb5=>?_)
     ·simp at hb5
     ·try simp only[qG]at hb5
      refine qE ?_;change Awp _ _ _ _ _ _ _;refine QK [11,12] (by rfl) ?_;simp+decide only[ZY,Vz,Ya,VI,VJ,ZH,decide_true,VK,decide_false,VL,VM,VN,VO,VP,false_implies,forall_const,YU,WJ,ZI,cond_true,Ye,↓qc,↓qf,↓qa,hwi];try simp only[QT]
      exact⟨⟨i+1, .nilSlice,emp,_⟩,rfl,Vk _,⟨hi',zqB,zqA⟩,by simp only;omega⟩
    ·try simp only[qG]at hb4
     refine QC ?_;change Awp _ _ _ _ _ _ _;refine awp_rseq [0] (by rfl) fun K hK=>?_;simp+decide only[qJ,cond_false,XU,Yy,↓qa];apply hK;clear hK K;refine qV ?_;refine QL h zqC (qA (qC)) ?_;simp+decide only[qR,cond_false,XU,VI,VJ,ZH,decide_true,VK,decide_false,VL,VM,VN,VO,VP,false_implies,forall_const,YU,WJ,Uv,cond_true,Ye];exact Vk _
end Go.Proofs.YtgiadjbiimkbiaaGreatDoor
namespace Go.Stm
open Go.Col (Str FaultC okF)
open Go.Tok
open Go.Proofs.YtgiadjbiimkbiaaGreatDoor (asciiB)
theorem qgs{a b:Str}(ha:asciiB a=true)(hb:asciiB b=true):asciiB (a++b)=true:=by
 unfold asciiB at*
 rw[EB,ha,hb];rfl
end Go.Stm
namespace Go.AM
theorem awp_build1{P:Program}{wz:World}{n:FrameK}{Q:Exit->Slots->AHeap->Prop}{s:Slots}{h:AHeap}{id:Nat}{d e:Tmp}{t:TypeId}{m:Nat}{ps:List (Nat×Operand)}{ty ty':TypeId}{pos pos':String}{af af':Array Edge}{cs:List AVal}
 (hd:Qv n [⟨some d, .buildSlice t m ps.toArray,ty,pos,af,none⟩,⟨some e, .assign (.tmp d),ty',pos',af',none⟩]=true) (hb:qcc P t m (evP s ps)=some cs)
 (hk:∀k,h k=none->Q .normal (putD (putD s (some d) (.slice (.own k) 0 m (.exact m))) (some e) (ev (putD s (some d) (.slice (.own k) 0 m (.exact m))) (.tmp d))) (h.set k ⟨cs,0⟩)):
 Awp P wz n (.region id [⟨some d, .buildSlice t m ps.toArray,ty,pos,af,none⟩,⟨some e, .assign (.tmp d),ty',pos',af',none⟩].toArray false) Q s h:=by
 refine qhs hd ?_;refine Qd hb fun k hk0=>?_;rw[qa];exact⟨trivial,hk k hk0⟩
end Go.AM
namespace Go.Proofs.YtgiadjbiimkbiaaGreatDoor
open Go.AM
open Go.Proofs
open Go.Col (Str FaultC okF)
open Go.Tok (TokC)
open Go.Stm
open Go.RowKit (Below)
set_option maxRecDepth 100000
end Go.Proofs.YtgiadjbiimkbiaaGreatDoor
namespace Go.Stm
open Go.Col (Str FaultC okF)
open Go.Tok
open Go.Proofs.YtgiadjbiimkbiaaGreatDoor (asciiB)
end Go.Stm
namespace Go.Proofs.YtgiadjbiimkbiaaGreatDoor
open Go.AM
open Go.Proofs
open Go.Col (Str FaultC okF)
open Go.Tok (TokC)
open Go.Stm
open Go.RowKit (Below)
set_option maxRecDepth 100000
def u8C(b:UInt8):List AVal:=[.int .u8 b.toNat]
theorem u8_get{wz:World}{h:AHeap}{lc:AM.Loc}{o n:Nat}{c:Cap}{l:List UInt8}(hv:IsL wz h 1 (.slice lc o n c) (l.map u8C)){i:Nat}(hi:i<l.length):rd wz h lc (o+i)= .int .u8 (l.getD i 0).toNat:=by
 have:=hv.at0 (i:=i) (by rw[Jp];exact hi) (by decide);rw[Bo]at this;rw[this,getD_map (0:UInt8) hi];rfl
end Go.Proofs.YtgiadjbiimkbiaaGreatDoor
namespace Go.Stm
open Go.Col (Str)
theorem qgJ{c:UInt8}:∀{a acc:Str},c∉a->Xd c acc a=[acc++a]
 |[],acc,_=>by rw[Xd,JG]
 |b::a,acc,h=>by
  have hb:b≠c:=fun e=>h (by rw[e];exact Jg);rw[Xd,if_neg hb,qgJ (fun q=>h (Jh _ q)),Jb];rfl
theorem qhI{c:UInt8}(b:Str):∀{a acc:Str},c∉a->Xd c acc (a++c::b)=(acc++a)::Xd c [] b
 |[],acc,_=>by rw[Jf,Xd,if_pos rfl,JG]
 |d::a,acc,h=>by
  have hd:d≠c:=fun e=>h (by rw[e];exact Jg);rw[Kh,Xd,if_neg hd,qhI b (fun q=>h (Jh _ q)),Jb];rfl
end Go.Stm
namespace Go.Proofs.YtgiadjbiimkbiaaGreatDoor
open Go.AM
open Go.Proofs
open Go.Col (Str FaultC okF)
open Go.Tok (TokC)
open Go.Stm
open Go.RowKit (Below)
set_option maxRecDepth 100000
theorem str_flat(l:List Str):l.map AVal.str=(l.map strC).flatten:=by
 induction l with
 |nil=>rfl
 |cons s l ih=>rw[Ke,Ke,VS,ih];rfl
theorem str_live(l:List Str):allLive (l.map strC).flatten=true:=by
 induction l with
 |nil=>rfl
 |cons s l ih=>rw[Ke,VS];exact ih
theorem split_c(c:UInt8):∀(n:Nat) (s:Str),s.length<=n->Lib.splitB ⟨⟨[c]⟩⟩ 0 (Lib.countB ⟨⟨s⟩⟩ ⟨⟨[c]⟩⟩) ⟨⟨s⟩⟩=(Xd c [] s).map fun l=>(⟨⟨l⟩⟩:ByteArray):=by
 intro n;induction n with
 |zero=>
  intro s hs;have:s=[]:=List.eq_nil_of_length_eq_zero (by omega);subst this;rcases index_one [] c with⟨h1,-⟩|⟨i,h1,h2,-⟩
  ·rw[Lib.splitB_miss _ _ _ _ h1]
   rfl
  ·cases h2
 |succ n ih=>
  intro s hs;rcases index_one s c with⟨h1,h2⟩|⟨i,h1,h2,h3,h4⟩
  ·rw[Lib.splitB_miss _ _ _ _ h1,qgJ h2]
   rfl
  ·have h1':Lib.indexB ⟨⟨s⟩⟩ ⟨⟨[c]⟩⟩=(i:Int):=h1
   have hsz:(⟨⟨s⟩⟩:ByteArray).size=s.length:=rfl;have h10:(⟨⟨[c]⟩⟩:ByteArray).size=1:=rfl;rw[Lib.countB_hit _ _ i (by rw[h10];decide) h1',JI 1,Lib.splitB_hit _ _ _ _ i h1',h10,hsz,extract_mk,extract_mk,Vp,Em,K8,J3 (l:=s.drop (i+1)) (by simp),ih _ (by simp;omega)];conv=>rhs;rw[h3,qhI _ h4]
   rfl
theorem qsk(wz:World)(hm:MaxL wz)(h:AHeap)(s:Str)(c:UInt8)(hl:s.length<4294967281):ACall Tryz.prog wz 52 [.str s, .str [c]] h (fun v h'=>∃k,h k=none/\v= .slice (.own k) 0 (Xd c [] s).length (.exact (Xd c [] s).length)/\h'=h.set k ⟨(Xd c [] s).map AVal.str,0⟩):=by
 obtain⟨m,hm⟩:=hm;refine qiI (vals:=[.string ⟨⟨s⟩⟩, .string ⟨⟨[c]⟩⟩]) (cs:=(Xd c [] s).map fun x=>Value.string ⟨⟨x⟩⟩) (e:=9) Tryz.func52 rfl rfl (fun fi vs hv=>qmw hv) (fun fi=>qld fi _) fun w hb=>?_;have hlt:2<wz.heap.size:=qgn hm;have hw:w.cell? ⟨2,0,none⟩=some (.int .i64 m):=(hb.cell (p:=⟨2,0,none⟩) hlt).trans hm;refine(Tryz.strings_Split ⟨⟨s⟩⟩ ⟨⟨[c]⟩⟩ m w hl hw (show 1<=(⟨⟨[c]⟩⟩:ByteArray).size from KL 1)).mono fun e w' ⟨e1,e2⟩=>?_;have hs:=split_c c s.length s (KL _);have hn:Lib.countB ⟨⟨s⟩⟩ ⟨⟨[c]⟩⟩+1=(Xd c [] s).length:=by
  rw[<-Jp (f:=fun l=>(⟨⟨l⟩⟩:ByteArray)),<-hs,Lib.splitB_all _ (show 1<=(⟨⟨[c]⟩⟩:ByteArray).size from KL 1) 0 _ _ rfl]
 rw[e1,e2,hn,hs,List.map_map];exact⟨rfl,rfl⟩
theorem qsj(wz:World)(ha:Asp wz)(h:AHeap)(s:Str)(hl:s.length<=1000000)(has:asciiB s=true):ACall Tryz.prog wz 103 [.str s] h (fun v h'=>v= .str (Lib.trimSpace s)/\h'=h):=by
 refine qfe (vals:=[.string ⟨⟨s⟩⟩]) (val:= .string ⟨⟨Lib.trimSpace s⟩⟩) Tryz.func103 rfl rfl (fun fi vs hv=>VRs_s hv) (fun fi=>rfl) fun w hb=>?_;refine(Tryz.strings_TrimSpace ⟨⟨s⟩⟩ w (Vg hl (by decide)) (qmn has) (ha.later hb)).mono fun e w' ⟨e1,e2⟩=>⟨e1,?_⟩
 subst e2;exact Lib.bytesWorld_below w _ _
theorem c_rows(wz:World)(h:AHeap):ACall Tryz.prog wz 7 [] h (fun r h'=>∃k,h k=none/\r= .slice (.own k) 0 39 (.exact 39)/\h'=h.set k ⟨rowsT.map AVal.str,0⟩):=by
 obtain⟨T,hT⟩:∃T,T=rowsT:=⟨_,rfl⟩
 rw[<-hT];refine qP (n:=2) (rs:=[.tmp 0]) Tryz.func7 rfl rfl rfl rfl (V7 rfl) ?_;simp only[qU];refine awp_rseq [] (by rfl) fun K hK=>?_;simp+decide only[qJ,↓qa];apply hK;clear hK K;refine qo ?_;refine awp_build1 (cs:=T.map AVal.str) (by kernel_rfl) (by rw[hT];kernel_rfl) fun k1q0 hk1q0=>?_;simp only[qem];refine JU [0] ?_;simp+decide only[Zo,Slots.keep,List.contains_cons,List.contains_nil];refine qV ?_;refine Qk (qA (qC)) ?_;simp+decide only[Xn];exact⟨_,Vk _,k1q0,hk1q0,rfl,rfl⟩
theorem c_listL(wz:World)(hm:MaxL wz)(h:AHeap)(s:Str)(hl:s.length<=1000000):ACall Tryz.prog wz 54 [.str s] h (fun r h'=>∃p,GrowV 1 r p ((Qc s).map strC)/\AM.Sep [h,p] h'):=by
 have hS0:AM.Sep [h,emp] h:=Ej (ps:=[h]) ⟨fun p hp=>by rw[V9.1 hp];exact Vk _,by simp⟩;refine qP (n:=7) (rs:=[.tmp 2]) Tryz.func54 rfl rfl rfl rfl (V7 rfl) ?_;simp only[qU];refine awp_rseq [0] (by rfl) fun K hK=>?_;simp+decide only[qJ,↓qa];apply hK;clear hK K;refine qo ?_;refine awp_rseq [0,4] (by rfl) fun K hK=>?_;simp+decide only[XI,Qb,ZF,↓qc,↓qf];apply hK;clear hK K;refine qz (b:=_) rfl (fun hb1=>?_) (fun hb1=>?_)
 ·try simp only[qG]at hb1
  have hL:Qc s=[]:=by unfold Qc;rw[if_pos hb1]
  refine awp_rseq [2] (by rfl) fun K hK=>?_;simp+decide only[qJ,↓qa];apply hK;clear hK K;refine qV ?_;try simp only[Xz]
  refine QL h zqC (qA (qC)) ?_;simp+decide only[Xn];rw[hL];exact⟨emp, .nil,hS0⟩
 ·try simp only[qG]at hb1
  have hL:Qc s=Xd 59 [] s:=by unfold Qc;rw[if_neg hb1]
  refine qE ?_;change Awp _ _ _ _ _ _ _;refine awp_rseq [2] (by rfl) fun K hK=>?_;simp+decide only[Qw,↓qc];refine qM (by rfl) (by rfl) (qsk wz hm _ s 59 (by omega)) fun x3q1 h3q1 hx3q1=>?_;obtain⟨k,hk,rfl,e3⟩:=hx3q1;have hS3:=Ec (ps:=[h]) ⟨fun p hp=>by rw[V9.1 hp];exact Vk _,by simp⟩ hk ⟨(Xd 59 [] s).map AVal.str,0⟩;rw[<-e3]at hS3;simp only[Xv]at hS3;simp+decide only[qJ,↓qa];apply hK;clear hK K;refine qV ?_;refine Qk (qA (qC)) ?_;simp+decide only[Xn];rw[hL];exact⟨_,Vk _,_,GrowV.new (by rw[Jp]) (.inl rfl) (fun x hx=>by obtain⟨y,_,rfl⟩:=JM.1 hx;rfl) (str_live _) (str_flat _),hS3⟩
end Go.Proofs.YtgiadjbiimkbiaaGreatDoor
namespace Go.Stm
open Go.Col (Str)
open Go.Proofs.YtgiadjbiimkbiaaGreatDoor (asciiB)
theorem qpE{ops:List UInt8}{i:Nat}(hi:i<ops.length)(h4:i<4):((ops.take (i+1)).map fun o=>32::opsT.getD (o.toNat%5) []).flatten=((ops.take i).map fun o=>32::opsT.getD (o.toNat%5) []).flatten++[32]++opsT.getD ((ops.getD i 0).toNat%5) []:=by
 rw[Vu,JD hi,JK,List.flatten_append,Jb];congr 1;simp[Ko,hi]
theorem opsT_ok(k:Nat):(opsT.getD k []).length<=3/\asciiB (opsT.getD k [])=true:=by
 by_cases h:k<5
 ·have:k=0\/k=1\/k=2\/k=3\/k=4:=by omega
  rcases this with rfl|rfl|rfl|rfl|rfl<;>decide
 ·rw[Ko,List.getElem?_eq_none (by show opsT.length<=k;simp[opsT];omega)]
  exact⟨by decide,rfl⟩
theorem qnz(l:List UInt8):((l.map fun o=>32::opsT.getD (o.toNat%5) []).flatten).length<=4*l.length/\asciiB ((l.map fun o=>32::opsT.getD (o.toNat%5) []).flatten)=true:=by
 induction l with
 |nil=>exact⟨KL _,rfl⟩
 |cons o l ih=>
  obtain⟨a,b⟩:=opsT_ok (o.toNat%5);rw[Ke,VS];refine⟨by rw[Jd,KZ,KZ];omega,?_⟩;unfold asciiB at*
  rw[EB,List.all_cons,b,ih.2];rfl
theorem wordsE_ok(ops:List UInt8):(QY ops).length<=16/\asciiB (QY ops)=true:=by
 obtain⟨a,b⟩:=qnz (ops.take 4);exact⟨Vg a (by rw[K6];omega),b⟩
end Go.Stm
namespace Go.Proofs.YtgiadjbiimkbiaaGreatDoor
open Go.AM
open Go.Proofs
open Go.Col (Str FaultC okF)
open Go.Tok (TokC)
open Go.Stm
open Go.RowKit (Below)
set_option maxRecDepth 100000
abbrev buB(text:Str)(c:Cur)(pv bv:AVal):Blk:=⟨[.str text, .str c.verb, .int .i64 c.line, .int .i64 c.col,pv,bv],0⟩
theorem qpi(wz:World)(B H:AHeap)(kb:Nat)(text w:Str)(c:Cur)(pv bv:AVal)(hS:AM.Sep [B,one kb (buB text c pv bv)] H)(hl:text.length<=1000000000)(hw:w.length<=1000000000):
 ACall Tryz.prog wz 56 [.ptr (.own kb) 0, .str w] H (fun _ h'=>AM.Sep [B,one kb (buB (text++[32]++w) c pv bv)] h'):=by
 have eb_b:H kb=some _:=hS.at_ (i:=1) rfl;refine qP (n:=14) (rs:=[]) Tryz.func56 rfl rfl rfl rfl (V7 rfl) ?_;simp only[qU];refine QK [] (by rfl) ?_;simp+decide only[XI,XD,qF,Zd,Qb,Xg,XM,YL,↓qc,↓Qg,↓qg,qoU,↓qj,qd ag9,↓qf,Ql eb_b];repeat (with_reducible refine zqP ?_)
 refine qN (by rfl) (by rfl) zqA sz9 (by rfl) (by rfl) zqD (Js _) (by rfl) ?_;simp only[QZ];simp+decide only[qR,Zd];refine qaK (qC) ?_;exact⟨_,Vk _,hS.put (i:=1) rfl _⟩
theorem c_has(wz:World)(B H:AHeap)(kb:Nat)(text w:Str)(c:Cur)(pv bv:AVal)(qs:List (PhrC×AVal))(hS:AM.Sep [B,one kb (buB text c pv bv)] H)(hv:∀h,AM.Sub B h->IsL wz h 2 pv (qs.map phC))(hl:qs.length<=1000000):
 ACall Tryz.prog wz 84 [.ptr (.own kb) 0, .str w] H (fun r h'=>r= .bool ((qs.map (·.1)).any fun p=>decide (p.words=w))/\h'=H):=by
 have eb_b:H kb=some _:=hS.at_ (i:=1) rfl;have hB:AM.Sub B H:=hS.in_ (i:=0) rfl;have hq:=hv H hB;have np:=qlA hq;have hpl:=hq.live;obtain⟨R,hR⟩:∃R,R=((qs.map (·.1)).any fun p=>decide (p.words=w)):=⟨_,rfl⟩
 rw[<-hR];refine qP (n:=27) (rs:=[.tmp 4]) Tryz.func84 rfl rfl rfl rfl (V7 rfl) ?_;simp only[qU];refine awp_rseq [0,1] (by rfl) fun K hK=>?_;simp+decide only[qJ,↓qa];apply hK;clear hK K;refine qo ?_;refine awp_rseq [0,1,5] (by rfl) fun K hK=>?_;simp+decide only[qJ,↓qa];apply hK;clear hK K;refine qK ?_;refine QD [0,1,5] (fun j:Nat=>[(0, .ptr (.own kb) 0),(1, .str w),(5, .int .i64 j)]) (fun j:Nat=>H) (fun j:Nat=>j<=qs.length/\R=(((qs.drop j).map (·.1)).any fun p=>decide (p.words=w))) (fun j:Nat=>qs.length-j) 0 (by rfl) (Vk _) ⟨Js _,hR⟩ ?_;rintro j ⟨hj,hg⟩;refine qo ?_;refine awp_rseq [0,1,5,13] (by rfl) fun K hK=>?_;simp+decide only[Yz,qF,Qm,Xg,Zz,↓qc,↓Qg,↓qg,WR,YR,↓qj,qd qec,↓Qr,↓qf,Ql eb_b,Nat.reduceAdd,np,hpl];apply hK;clear hK K;refine qz (b:=_) rfl (fun hb1=>?_) (fun hb1=>?_)
 ·try simp only[qG]at hb1
  have hj1:j<qs.length:=by omega
  obtain⟨lc,o,cc,hpe⟩:=qdg hq (by omega);have hq2:=hq;rw[hpe]at hq2;obtain⟨e0,e1⟩:=qfl hq2 hj1;have hst:=qmp (p:=fun p:PhrC=>decide (p.words=w)) (d:=qfp) hj1;rw[hst]at hg;obtain⟨q,hq3⟩:∃q,q=(qs.getD j qfp).1.words:=⟨_,rfl⟩
  rw[<-hq3]at e0 hg;have hwj:IntKind.i64.wrap ((j:Int)+1)=((j+1:Nat):Int):=by rw[wrap_i64 (by omega) (by omega)];omega
  have hpl2:(AVal.slice lc o qs.length cc).live=true:=rfl;refine qE ?_;change Awp _ _ _ _ _ _ _;refine qo ?_;refine qK ?_;refine awp_rseq [0,1,5,26] (by rfl) fun K hK=>?_;simp+decide only[XI,XD,QN,qF,Qb,Xg,qhd,↓qc,↓Qg,↓qg,WR,YR,↓qj,qd qec,↓qI,qh Tryz.underlying79 qcH,qoS,qd ag9,↓qf,Ql eb_b,Nat.reduceAdd,hpe,e0];repeat (with_reducible refine zqP ?_)
  apply hK;clear hK K;refine qz (b:=_) rfl (fun hb2=>?_) (fun hb2=>?_)
  ·try simp only[qG]at hb2
   refine awp_rseq [4] (by rfl) fun K hK=>?_;simp+decide only[qJ,↓qa];apply hK;clear hK K;refine qV ?_;try simp only[Xz]
   refine Qk (qA (qC)) ?_;simp+decide only[Xn];exact⟨H,Vk _,by rw[hg,decide_eq_true hb2];rfl,rfl⟩
  ·try simp only[qG]at hb2
   rw[decide_eq_false hb2,VJ]at hg;refine qE ?_;change Awp _ _ _ _ _ _ _;refine QK [0,1,5] (by rfl) ?_;simp+decide only[YH,↓qc,↓qf,↓qa,hwj];try simp only[QT]
   exact⟨j+1,by first|rfl|(rw[hpe];rfl),Vk _,⟨hj1,hg⟩,by omega⟩
 ·try simp only[qG]at hb1
  have hjq:j=qs.length:=by omega
  rw[hjq,Vd]at hg;refine QC ?_;change Awp _ _ _ _ _ _ _;refine awp_rseq [4] (by rfl) fun K hK=>?_;simp+decide only[qJ,↓qa];apply hK;clear hK K;refine qV ?_;refine Qk (qA (qC)) ?_;simp+decide only[Xn];exact⟨H,Vk _,by rw[hg];rfl,rfl⟩
theorem qmd(wz:World)(h:AHeap)(v:AVal)(l:List UInt8)(hv:IsL wz h 1 v (l.map u8C)):ACall Tryz.prog wz 81 [v] h (fun r h'=>r= .str (QY l)/\AM.Sub h h'):=by
 have hlv:=hv.live;have nv:∀H:AHeap,Ze Tryz.prog H 32 v=⟨True, .int .i64 l.length⟩:=fun H=>by have:=hv.len Tryz.underlying32 H;rwa [Jp]at this
 refine qP (n:=27) (rs:=[.tmp 2]) Tryz.func81 rfl rfl rfl rfl (V7 rfl) ?_;simp only[qU];refine awp_rseq [0] (by rfl) fun K hK=>?_;simp+decide only[qJ,↓qa];apply hK;clear hK K;refine awp_rseq [0,3] (by rfl) fun K hK=>?_;simp+decide only[qJ,↓qa];apply hK;clear hK K;refine qo ?_;refine awp_rseq [0,3,4] (by rfl) fun K hK=>?_;simp+decide only[qJ,↓qa];apply hK;clear hK K;refine qK ?_;refine QD [0,3,4] (fun g:SaG=>[(0,v),(3, .str (((l.take g.j).map fun o=>32::opsT.getD (o.toNat%5) []).flatten)),(4, .int .i64 g.j)]) (fun g:SaG=>g.H) (fun g:SaG=>AM.Sub h g.H/\g.j<=l.length/\g.j<=4) (fun g:SaG=>l.length-g.j) ⟨0,h⟩ (by rfl) (Vk _) ⟨Vk _,Js _,Js _⟩ ?_;rintro⟨j,H⟩ ⟨hs_H,hj,hj4⟩;simp only at hs_H hj hj4|-
 have hfl:=(qnz (l.take j)).1;rw[K6]at hfl;refine qo ?_;refine awp_rseq [0,3,4,12] (by rfl) fun K hK=>?_;simp+decide only[QH,Vz,Ya,qF,Yh,Zf,Zz,Xk,↓qc,↓Qr,↓qf,↓Xc,qY,qZ,qW,↓QI,↓QE,nv];apply hK;clear hK K;refine qz (b:=_) rfl (fun hb1=>?_) (fun hb1=>?_)
 ·try simp only[qG]at hb1
  obtain⟨hj1,hj5⟩:j<l.length/\j<4:=by omega
  obtain⟨lc,o,cc,hve⟩:=hv.open (fun e=>by rw[V5]at e;rw[e]at hj1;cases hj1);have hv2:=hv.mono hs_H;rw[hve]at hv2;have e0:∀(k:Nat) (X:Blk),H k=none->rd wz (H.set k X) lc (o+j)= .int .u8 (l.getD j 0).toNat:=fun k X hk=>by
   have q:=hv.mono (hs_H.trans (Vl (b:=X) hk));rw[hve]at q;exact u8_get q hj1
  have hst:=qpE hj1 hj5;obtain⟨b,hb⟩:∃b,b=l.getD j 0:=⟨_,rfl⟩
  rw[<-hb]at hst e0;have hb8:b.toNat<256:=b.toNat_lt;obtain⟨k,hk⟩:∃k,k=b.toNat%5:=⟨_,rfl⟩
  have hk5:k<5:=by omega
  have hrem:EC (b.toNat:Int) 5=(k:Int):=by rw[ED (by omega),hk];exact(EE b.toNat 5).symm
  have hwu:IntKind.u8.wrap (k:Int)=(k:Int):=wrap_u8 (by omega) (by omega);have q5:k=0\/k=1\/k=2\/k=3\/k=4:=by omega
  have hc5:(opsT.map AVal.str).getD k .dead= .str (opsT.getD k []):=by rcases q5 with e|e|e|e|e<;>rw[e]<;>rfl
  obtain⟨s,hs⟩:∃s,s=opsT.getD k []:=⟨_,rfl⟩
  have hsl:=(opsT_ok k).1;rw[<-hk,<-hs]at hst;rw[<-hs]at hc5 hsl;have hkb:(0<=(k:Int)/\(k:Int)<5)=True:=eq_true ⟨by omega,by omega⟩;have hjb:(0<=(j:Int)/\(j:Int)<(l.length:Int))=True:=eq_true ⟨by omega,by omega⟩;have hwj:IntKind.i64.wrap ((j:Int)+1)=((j+1:Nat):Int):=by rw[wrap_i64 (by omega) (by omega)];omega
  refine qE ?_;change Awp _ _ _ _ _ _ _;refine qo ?_;refine qK ?_;refine QK [0,3,4] (by rfl) ?_;simp+decide only[XI,Vw,Xo,Jp,Jd,Qb,XM,YL,↓qc,↓qf,hve];repeat (with_reducible refine zqP ?_)
  refine Qd (cs:=opsT.map AVal.str) (by kernel_rfl) fun k5q2 hk5q2=>?_;have hn_5q2:H k5q2=none:=by first|assumption|(simp only[Bi]at hk5q2;simp only[hk5q2])
  have hf_5q2:h k5q2=none:=Bj hs_H hn_5q2;simp+decide only[ZY,Xa,Vw,qO,qF,Xo,Jp,Jd,Qb,YL,Bo,qfn,↓qc,↓qI,qh Tryz.underlying32 sz5,↓qj,qd ag5,↓qf,qh Tryz.underlying22 sz9,qd ag9,↓qa,hjb,hrem,hc5,e0 _ _ hk5q2];repeat (with_reducible refine zqP ?_)
  change Awp _ _ _ _ _ _ _;refine QK [0,3,4] (by rfl) ?_;simp+decide only[YH,↓qc,↓qf,↓qa,hwj];try simp only[QT]
  exact⟨⟨j+1,_⟩,by rw[hst];first|rfl|(rw[hve];simp only[Jp];rfl),Vk _,⟨zqB,hj1,hj5⟩,by simp only;omega⟩
 ·try simp only[qG]at hb1
  have hR:((l.take j).map fun o=>32::opsT.getD (o.toNat%5) []).flatten=QY l:=by
   unfold QY;rcases hb1 with z|z
   ·rw[J3 (by omega),J3 (by omega)]
   ·rw[show j=4 by omega]
  refine QC ?_;change Awp _ _ _ _ _ _ _;refine awp_rseq [2] (by rfl) fun K hK=>?_;simp+decide only[Xh,↓qc,↓qa];apply hK;clear hK K;refine qV ?_;refine Qk (qA (qC)) ?_;simp+decide only[Xn];rw[hR];exact⟨_,Vk _,rfl,hs_H⟩
end Go.Proofs.YtgiadjbiimkbiaaGreatDoor
namespace Go.Stm
open Go.Col (Str)
open Go.Proofs.YtgiadjbiimkbiaaGreatDoor (asciiB)
theorem fields_mem{s:Str}:∀w∈Lib.fields s,∀b∈w,b∈s:=by
 have go:∀(s cur:Str),∀w∈Lib.fieldsGo cur s,∀b∈w,b∈cur\/b∈s:=by
  intro s;induction s with
  |nil=>
   intro cur w hw b hb;unfold Lib.fieldsGo at hw;split at hw
   ·cases hw
   ·rw[V9.1 hw]at hb;exact .inl hb
  |cons c s ih=>
   intro cur w hw b hb;unfold Lib.fieldsGo at hw;split at hw
   ·split at hw
    ·rcases ih [] w hw b hb with z|z
     ·cases z
     ·exact .inr (Jh _ z)
    ·rcases KY.1 hw with q|q
     ·rw[q]at hb;exact .inl hb
     ·rcases ih [] w q b hb with z|z
      ·cases z
      ·exact .inr (Jh _ z)
   ·rcases ih _ w hw b hb with z|z
    ·rcases JX.1 z with z|z
     ·exact .inl z
     ·rw[V9.1 z];exact .inr Jg
    ·exact .inr (Jh _ z)
 intro w hw b hb;rcases go s [] w hw b hb with z|z
 ·cases z
 ·exact z
theorem qjG{s t:Str}(h:asciiB s=true)(hm:∀b∈t,b∈s):asciiB t=true:=by
 unfold asciiB at*
 exact JB.2 fun b hb=>JB.1 h b (hm b hb)
theorem qjA{p:UInt8->Bool}:∀{s:Str},∀b∈s.dropWhile p,b∈s
 |[],b,h=>h
 |c::s,b,h=>by
  rw[Ef]at h;split at h
  ·exact Jh _ (qjA b h)
  ·exact h
theorem qnc{s cs:Str}:∀b∈Lib.trimS s cs,b∈s:=fun b hb=>by
 unfold Lib.trimS Lib.trimLeftS Lib.trimRightS at hb;have h1:=qjA b hb;have h2:=qjA b (EF.1 h1);exact EF.1 h2
theorem qjB{p:UInt8->Bool}:∀(s:Str),(s.dropWhile p).length<=s.length
 |[]=>KL _
 |c::s=>by
  rw[Ef];split
  ·exact Vg (qjB s) (by simp)
  ·exact KL _
theorem space_len(s:Str):(Lib.trimSpace s).length<=s.length:=by
 unfold Lib.trimSpace;have h1:=qjB (p:=Lib.isSp) s;have h2:=qjB (p:=Lib.isSp) (s.dropWhile Lib.isSp).reverse;rw[Eg]at h2|-
 omega
end Go.Stm
namespace Go.Proofs.YtgiadjbiimkbiaaGreatDoor
open Go.AM
open Go.Proofs
open Go.Col (Str FaultC okF)
open Go.Tok (TokC)
open Go.Stm
open Go.RowKit (Below)
set_option maxRecDepth 100000
set_option maxHeartbeats 4000000 in
theorem qph(wz:World)(ha:Asp wz)(h:AHeap)(form:Str)(bits:UInt8)(all:Bool)(hf:form.length<=500)(hfa:asciiB form=true):
 ACall Tryz.prog wz 82 [.str form, .int .u8 bits.toNat, .bool all] h (fun r h'=>r= .str (Zl form bits all)/\AM.Sub h h'):=by
 obtain⟨ws,hws⟩:∃ws,ws=Lib.fields form:=⟨_,rfl⟩
 have hwl:ws.length<=501:=by rw[hws];exact Vg (fields_few form) (by omega)
 have hwa:∀w∈ws,w.length<=500/\w≠[]/\asciiB w=true:=fun w hw=>by
  rw[hws]at hw;exact⟨Vg (fields_small w hw) hf,qhi w hw,qjG hfa (fields_mem w hw)⟩
 have hR:Zl form bits all=Lib.trimSpace (Ui bits all 0 ws []):=by rw[hws];rfl
 have hb8:bits.toNat<256:=bits.toNat_lt;refine qP (n:=58) (rs:=[.tmp 6]) Tryz.func82 rfl rfl rfl rfl (V7 rfl) ?_;simp only[qU];refine awp_rseq [0,1,2] (by rfl) fun K hK=>?_;simp+decide only[qJ,↓qa,Nat.reduceAdd];apply hK;clear hK K;refine awp_rseq [0,1,2,7] (by rfl) fun K hK=>?_;simp+decide only[qJ,↓qa];apply hK;clear hK K;refine awp_rseq [1,2,7,8] (by rfl) fun K hK=>?_;simp+decide only[Qw,↓qc];refine qM (by rfl) (by rfl) (qfD wz ha _ form (by omega) hfa) fun x2q1 h2q1 hx2q1=>?_;obtain⟨kw,hkw,rfl,rfl⟩:=hx2q1;rw[<-hws];have lw:=qbL (qeo (wz:=wz) (Vj h kw ⟨ws.map AVal.str,0⟩));simp+decide only[qJ,↓qa];apply hK;clear hK K;refine qo ?_;refine awp_rseq [1,2,7,8,9] (by rfl) fun K hK=>?_;simp+decide only[qJ,↓qa];apply hK;clear hK K;refine qK ?_;refine QD [1,2,7,8,9] (fun g:Nat×Str=>[(1, .int .u8 bits.toNat),(2, .bool all),(7, .str g.2),(8, .slice (.own kw) 0 ws.length (.exact ws.length)),(9, .int .i64 g.1)]) (fun g:Nat×Str=>h.set kw ⟨ws.map AVal.str,0⟩) (fun g:Nat×Str=>g.1<=ws.length/\g.2.length<=501*g.1/\asciiB g.2=true/\Ui bits all 0 ws []=Ui bits all g.1 (ws.drop g.1) g.2) (fun g:Nat×Str=>ws.length-g.1) (0,[]) (by rfl) (Vk _) ⟨Js _,Js _,rfl,rfl⟩ ?_;rintro⟨i,out⟩ ⟨hi,hol,hoa,hg⟩;simp only at hi hol hoa hg|-
 refine qo ?_;refine awp_rseq [1,2,7,8,9,16] (by rfl) fun K hK=>?_;simp+decide only[QH,qF,Qm,Zz,↓qc,↓Qr,Xp Tryz.underlying22,↓qf];apply hK;clear hK K;refine qz (b:=_) rfl (fun hb1=>?_) (fun hb1=>?_)
 ·try simp only[qG]at hb1
  have hi':i<ws.length:=by omega
  obtain⟨w,hw⟩:∃w,w=ws.getD i []:=⟨_,rfl⟩
  have ew:=qgZ (wz:=wz) (Vj h kw ⟨ws.map AVal.str,0⟩) hi';rw[<-hw]at ew;obtain⟨hwn,hwp,hwas⟩:=hwa w (by rw[hw,Ko,JD hi'];exact VY hi');have hst:Ui bits all 0 ws []=Ui bits all (i+1) (ws.drop (i+1)) (if qjN w bits all i=true then out else out++[32]++Lib.trimS w qct):=by
   rw[hg,Ve hi',Ui];have:ws[i]=w:=by rw[hw];simp[Ko,hi']
   rw[this]
  have hw0:((0:Int)<w.length)=True:=eq_true (by have:=Bv.2 hwp;omega);have hwb:(0<=(0:Int)/\(0:Int)<w.length)=True:=eq_true ⟨by omega,by have:=Bv.2 hwp;omega⟩;have h91:∀c:UInt8,decide ((c.toNat:Int)=91)=decide (c=91):=fun c=>Yu c 91;have h40:∀c:UInt8,decide ((c.toNat:Int)=40)=decide (c=40):=fun c=>Yu c 40;have h8:EC (i:Int) 8=((i%8:Nat):Int):=by rw[ED (by omega)];exact(EE i 8).symm
  have hw8:IntKind.i64.wrap ((i%8:Nat):Int)=((i%8:Nat):Int):=wrap_i64 (by omega) (by omega);obtain⟨bt,hbt⟩:∃bt,bt=bits.toNat / 2^(i%8)%2:=⟨_,rfl⟩
  have hbit:EC (Int.fdiv (bits.toNat:Int) (2^(min (i%8) IntKind.u8.bits))) 2=(bt:Int):=by
   have hm:min (i%8) IntKind.u8.bits=i%8:=by show min (i%8) 8=_;omega
   rw[hm,hbt];have h1:Int.fdiv (bits.toNat:Int) (2^(i%8))=((bits.toNat / 2^(i%8):Nat):Int):=by
    rw[Int.fdiv_eq_ediv_of_nonneg _ (Int.pow_nonneg (by decide)),Int.natCast_ediv];congr 1
   rw[h1,ED (VX _)];exact(EE _ 2).symm
  have hbu:IntKind.u8.wrap (bt:Int)=(bt:Int):=wrap_u8 (by omega) (by omega);have hb1':decide ((bt:Int)=1)=decide (bt=1):=by rw[decide_eq_decide];omega
  have hsk:qjN w bits all i=((decide (w.getD 0 0=91) && !all)||((decide (w.getD 0 0=91)||decide (w.getD 0 0=40)) && (all && decide (bt=1)))):=by rw[hbt];rfl
  have hwi:IntKind.i64.wrap ((i:Int)+1)=((i+1:Nat):Int):=by rw[wrap_i64 (by omega) (by omega)];omega
  have hi0:Int.toNat 0=0:=rfl;have htl:=trimS_le w qct;have hwp0:=Bv.2 hwp;refine qE ?_;change Awp _ _ _ _ _ _ _;refine qo ?_;refine qK ?_;refine awp_rseq [1,2,7,8,9,10] (by rfl) fun K hK=>?_;simp+decide only[Xh,Xa,Vw,Bo,↓qc,↓qI,qh Tryz.underlying22 sz9,↓qj,qd ag9,↓qa,ew];repeat (with_reducible refine zqP ?_)
  apply hK;clear hK K;refine qo ?_;refine awp_rseq [1,2,7,8,9,10,50] (by kernel_rfl) fun K hK=>?_;simp+decide only[QH,Vz,Vw,Ya,qF,XF,Zf,Xk,Zm,UB,Yc,qbS,qbR,qkk,qkj,qfn,↓qc,↓qmo,qjg,qhe Tryz.underlying9,↓qf,↓Xc,qY,qZ,qW,↓qbl,↓QE,↓ag_index,cv_indexl,cp_indexl,↓QI,↓qaA,pBinX_shr,h91,h40,h8,hbit,hb1',hi0];refine⟨by omega,fun _=>by omega,fun _=>by omega,fun _=>by omega,?_⟩;apply hK;clear hK K;refine qz (b:=_) rfl (fun hb2=>?_) (fun hb2=>?_)
  ·have hk:qjN w bits all i=true:=by rw[hsk,<-Vq];exact hb2
   rw[if_pos hk]at hst;all_goals
    try simp only[qG]at hb2
    refine QC ?_;change Awp _ _ _ _ _ _ _;refine QK [1,2,7,8,9] (by rfl) ?_;simp+decide only[YH,↓qc,↓qf,↓qa,hwi];try simp only[QT]
    first
    |exact⟨(i+1,out),rfl,Vk _,⟨hi',by simp only;omega,hoa,hst⟩,by simp only;omega⟩
    |exact⟨(i+1,out++[32]++Lib.trimS w qct),rfl,Vk _,⟨hi',by simp only[Zd];omega,qgs (qgs hoa (by decide)) (qjG hwas qnc),hst⟩,by simp only;omega⟩
  ·have hk:qjN w bits all i=false:=by rw[hsk,<-Vq];exact hb2
   rw[if_neg (by rw[hk];decide)]at hst;all_goals
    try simp only[qG]at hb2
    refine qE ?_;change Awp _ _ _ _ _ _ _;refine QK [1,2,7,8,9] (by rfl) ?_;simp+decide only[XI,Zd,Qb,XM,YL,↓qc,↓qf];repeat (with_reducible refine zqP ?_)
    refine QM (V:= .str (Lib.trimS w qct)) (by rfl) (by rfl) (c_trim wz _ w qct (by omega) (by decide) (by decide) (by decide)) ?_;simp+decide only[qJ,Yv,qF,Zd,Qb,YL,↓qf,↓qa];repeat (with_reducible refine zqP ?_)
    change Awp _ _ _ _ _ _ _;refine QK [1,2,7,8,9] (by rfl) ?_;simp+decide only[YH,↓qc,↓qf,↓qa,hwi];try simp only[QT]
    first
    |exact⟨(i+1,out),rfl,Vk _,⟨hi',by simp only;omega,hoa,hst⟩,by simp only;omega⟩
    |exact⟨(i+1,out++[32]++Lib.trimS w qct),rfl,Vk _,⟨hi',by simp only[Zd];omega,qgs (qgs hoa (by decide)) (qjG hwas qnc),hst⟩,by simp only;omega⟩
 ·try simp only[qG]at hb1
  have hin:i=ws.length:=by omega
  rw[hin,Vd]at hg;have hRo:Zl form bits all=Lib.trimSpace out:=by rw[hR,hg];rfl
  refine QC ?_;change Awp _ _ _ _ _ _ _;refine awp_rseq [6] (by rfl) fun K hK=>?_;simp+decide only[Qw,↓qc];refine QM (V:= .str (Lib.trimSpace out)) (by rfl) (by rfl) (qsj wz ha _ out (by omega) hoa) ?_;simp+decide only[qJ,↓qa];apply hK;clear hK K;refine qV ?_;refine Qk (qA (qC)) ?_;simp+decide only[Xn];rw[hRo];exact⟨_,Vk _,rfl,Vl hkw⟩
theorem qmf(wz:World)(ha:Asp wz)(h:AHeap)(form:Str)(hf:form.length<=500)(hfa:asciiB form=true):
 ACall Tryz.prog wz 83 [.str form] h (fun r h'=>r= .str (Xj form)/\AM.Sub h h'):=by
 have hR:Xj form=if form=[84,72,82,79,85,71,72]then qaP else if form=[84,79,32,80,82,79,67,69,69,68,32,84,79]then TOw else if form=[82,69,67,79,82,68]then[]else Zl form 0 false:=rfl
 refine qP (n:=11) (rs:=[.tmp 2]) Tryz.func83 rfl rfl rfl rfl (V7 rfl) ?_;simp only[qU];refine awp_rseq [0] (by rfl) fun K hK=>?_;simp+decide only[qJ,↓qa];apply hK;clear hK K;refine qo ?_;refine awp_rseq [0,4] (by rfl) fun K hK=>?_;simp+decide only[XI,Qb,ZF,↓qc,↓qf];apply hK;clear hK K;refine qz (b:=_) rfl (fun hb1=>?_) (fun hb1=>?_)
 ·try simp only[qG]at hb1
  refine awp_rseq [2] (by rfl) fun K hK=>?_;simp+decide only[qJ,↓qa];apply hK;clear hK K;refine qV ?_;try simp only[Xz]
  refine QL h zqC (qA (qC)) ?_;simp+decide only[Xn];rw[hR,if_pos hb1];exact⟨rfl,Vk _⟩
 ·try simp only[qG]at hb1
  rw[if_neg hb1]at hR;refine qE ?_;change Awp _ _ _ _ _ _ _;refine qo ?_;refine awp_rseq [0,6] (by rfl) fun K hK=>?_;simp+decide only[XI,Qb,ZF,↓qc,↓qf];apply hK;clear hK K;refine qz (b:=_) rfl (fun hb2=>?_) (fun hb2=>?_)
  ·try simp only[qG]at hb2
   refine awp_rseq [2] (by rfl) fun K hK=>?_;simp+decide only[qJ,↓qa];apply hK;clear hK K;refine qV ?_;try simp only[Xz]
   refine QL h zqC (qA (qC)) ?_;simp+decide only[Xn];rw[hR,if_pos hb2];exact⟨rfl,Vk _⟩
  ·try simp only[qG]at hb2
   rw[if_neg hb2]at hR;refine qE ?_;change Awp _ _ _ _ _ _ _;refine qo ?_;refine awp_rseq [0,8] (by rfl) fun K hK=>?_;simp+decide only[XI,Qb,ZF,↓qc,↓qf];apply hK;clear hK K;refine qz (b:=_) rfl (fun hb3=>?_) (fun hb3=>?_)
   ·try simp only[qG]at hb3
    refine awp_rseq [2] (by rfl) fun K hK=>?_;simp+decide only[qJ,↓qa];apply hK;clear hK K;refine qV ?_;try simp only[Xz]
    refine QL h zqC (qA (qC)) ?_;simp+decide only[Xn];rw[hR,if_pos hb3];exact⟨rfl,Vk _⟩
   ·try simp only[qG]at hb3
    rw[if_neg hb3]at hR;refine qE ?_;change Awp _ _ _ _ _ _ _;refine awp_rseq [2] (by rfl) fun K hK=>?_;simp+decide only[Qw,↓qc];refine qM (by rfl) (by rfl) (qph wz ha _ form 0 false hf hfa) fun x7q1 h7q1 hx7q1=>?_;obtain⟨rfl,hs7⟩:=hx7q1;have hs_h7q1:Sub h h7q1:=Bt zqC hs7;have hr_h7q1:=hs_h7q1;simp+decide only[qJ,↓qa];apply hK;clear hK K;refine qV ?_;refine Qk (qA (qC)) ?_;simp+decide only[Xn];rw[hR];exact⟨_,Vk _,rfl,hs7⟩
end Go.Proofs.YtgiadjbiimkbiaaGreatDoor
